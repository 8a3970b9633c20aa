/- Contracts and plain lemmas, part 4. Conditions: none beyond those of each. -/
import Derived.RangeFuncNested
import Derived.RangeFuncBound
import Derived.Shelf.RegionOpen
import Derived.LoopNIn
import Derived.Sort.CutIn
import Derived.Test.YtckjdhaflokcgaaGreatR3
import Derived.Maps.OwnIn
import Derived.Lib.BitFns
import Derived.Deep.OwnRows
import Derived.Lib.QuietBelowIn
set_option maxHeartbeats 2000000
set_option linter.unusedVariables false
set_option linter.unusedSimpArgs false
set_option linter.unnecessarySimpa false
set_option maxRecDepth 100000
namespace Go.Proofs.YtckjdhaflokcgaaGreat
open Go.RowKit Go.Shelf Go.Proofs.Tryz
attribute [local go_sem] Oper.semAt_some
theorem Q9O (s:Nat) (w:World) (hs:1<=s/\s<=512) :
   Calls prog 322 #[.int .i64 s] w λe w'=>e = .returned (.int .i64 (Yn s))/\w'=w:=by
 (have h1:max (s:Int) 1=s:=by omega);(have h2:min (s:Int) 512=s:=by omega);unfold Yn;refine Q8 λR hR=>?_;by_cases h16:s<16
 . rw [if_pos h16]at hR
   have h16b:decide ((s:Int)<16)=true:=decide_eq_true (by omega);(have h16I:(s:Int)<16:=by omega);go_enter func322,ntmps322;go_wp2_with fail;(try go_ret);exact hR _ _ ⟨rfl,rfl⟩
 rw [if_neg h16]at hR;(have h16I:¬(s:Int)<16:=by omega);go_enter func322,ntmps322;go_wp2_with fail;exact hR _ _ ⟨by congr 2,rfl⟩
theorem Q9P (s:Int) (w:World) :
   Calls prog 315 #[.int .i64 s] w λe w'=>e = .returned (.func (.func 321) #[] #[.pointer (some ⟨w.heap.size,0,none⟩)])/\w'=w.alloc (.cells #[.int .i64 s] 3):=by
 go_enter func315,ntmps315;go_wp2_with fail;(try go_ret);exact⟨rfl,rfl⟩
def Zp (s:Nat) (h:0<s):List { x:Nat // x<s }:=(List.range s).map λk=>⟨k*Yn s%s,Nat.mod_lt _ h⟩
@[simp] theorem Q4a (s:Nat) (h:0<s):(Zp s h).length=s:=by simp [Zp]
theorem Q8x (s:Nat) (h:0<s):(Zp s h).map Subtype.val=Y8 s:=by
 unfold Zp Y8;rw [List.map_map];rfl
theorem Q6B {s k:Nat} (h0:0<s) (h:k<s):(Zp s h0).take (k+1)=(Zp s h0).take k++[⟨k*Yn s%s,Nat.mod_lt _ h0⟩]:=by
 have e:(Zp s h0)[k]?=some ⟨k*Yn s%s,Nat.mod_lt _ h0⟩:=by
   unfold Zp;rw [List.getElem?_map,List.getElem?_range h];rfl
 rw [List.take_add_one,e];rfl
theorem Q9Q {s:Nat} (h:s<=512):Yn s<=512:=by unfold Yn;split<;>omega
def Ye (b:Nat) (W W':World):Prop:=∀v,W.cell? ⟨b,0,none⟩=some v->W'.cell? ⟨b,0,none⟩=some v
theorem Ye.trans {b:Nat} {A B C:World} (h:Ye b A B) (k:Ye b B C):Ye b A C:=λv hv=>k v (h v hv)
theorem Ye.upd {S:Nat->Prop} {b:Nat} {W W':World} (h:Upd S W W') (hb:¬S b):Ye b W W':=λv hv=>by
 have hl:=World.block_lt_of_cell? W _ hv
 rw [World.cell?_of_block (a:=⟨b,0,none⟩) (h.block b hl hb)];exact hv
theorem Ye.putObj {b l:Nat} (W:World) (o':Obj) (h:b≠l):Ye b W (W.putObj l o') :=
 Ye.upd (S:=λk=>k=l) ((Upd.refl _ W).grown (grownBy_putObj' W l o') (λk e _=>by injection e with e;exact e.symm)) h
theorem Q9R (F:Fence) (m l Bn s:Nat) (hfs:F.fn 322) (hft:F.fn 321) (hro:F.round=none) (hd:F.depth=none)
   (HST:Hid (∀W,CallsIn F (m-1) prog 322 #[.int .i64 (s:Nat)] W λe w'=>e = .returned (.int .i64 (Yn s:Nat))/\w'=W)) (hs:1<=s/\s<=512) (hs1:0<s) (J Jx:List { x:Nat // x<s }->World->Prop)
   (hY:∀pre x W,J pre W->pre.length<s->YieldAt F (m-1) prog l #[.int .i64 (x.1:Nat)] W λe W' =>
     (e = .returned (.bool true)/\J (pre++[x]) W'/\Ye Bn W W')\/(e = .returned (.bool false)/\Jx (pre++[x]) W'))
   (W:World) (hJ:∀pre W n,J pre W->J pre (W.drewN n)) (hBn:W.cell? ⟨Bn,0,none⟩=some (.int .i64 (s:Nat))) (h0:J [] W) :
   CallsIn F m prog 321 #[.func (.yield l) #[] #[],.pointer (some ⟨Bn,0,none⟩)] W λe W'=>(∃v,e = .returned v) /\
     ((∃ys,ys=Zp s hs1/\J ys W')\/(∃pre,pre <+: Zp s hs1/\Jx pre W')):=by
 have hst:=Q9Q hs.2;have HS:=hd_ hs;refine callsIn_of_wp func321 rfl hft ?_ hro;simp only [ntmps321,List.size_toArray,List.length_cons,List.length_nil,Nat.reduceAdd,Nat.reduceSub,Array.replicate_succ,Array.replicate_zero,List.push_toArray,List.append_toArray,List.nil_append,List.cons_append];gi_wp2;gi_loopg [5] s (λf i wr=>∃k:Nat,k+f=s/\i = .int .i64 k/\J ((Zp s hs1).take k) wr/\wr.cell? ⟨Bn,0,none⟩=some (.int .i64 (s:Nat)))
 case atStart=>exact⟨0,by omega,rfl,h0,hBn⟩
 case round =>
   obtain⟨k,hk,rfl,hJk,hc⟩:=hrel;by_cases hlt:k<s
   . have hkI:(k:Int)<s:=by omega
     have HTK:=hd_ (Q6B hs1 hlt);have HJK:=hd_ hJk;have HC:=hd_ hc;have HK:=hd_ hk;(have p1:(k:Int)*(Yn s:Nat)=((k*Yn s:Nat):Int):=by simp);have p2:k*Yn s<=512*512:=Nat.mul_le_mul (by omega) hst;have s1:IntKind.i64.wrap ((k:Int)*(Yn s:Nat))=k*(Yn s:Nat):=IntWalk.i64_in _ (by omega);have s2:IntKind.i64.wrap ((k:Int)+1)=k+1:=IntWalk.i64_in _ (by omega);(have hs0:¬(s:Int)=0:=by omega);(have p3:0<=(k:Int)*(Yn s:Nat):=by omega);clear hJk hk p1 p2;gi_upto_region 3 with fail;refine VP 7 hro (by kernel_rfl) (by kernel_rfl) ?_;simp only [List.take_succ_cons,List.take_zero,List.drop_succ_cons,List.drop_zero];(repeat(gi_big_quiet_step ((gi_at_call 322;refine CallsIn.quiet_of_same (HST _)))));refine wpQuietIn_nil ?_;rintro w5 ⟨nq,rfl⟩;(have hyv:((k*Yn s%s:Nat):Int)=(k:Int)*(Yn s:Nat)%s:=by simp);have hY':=hY _ ⟨k*Yn s%s,Nat.mod_lt _ hs1⟩ (wr.drewN nq) (hJ _ _ nq HJK.out) (by rw [List.length_take,Q4a];omega);rw [hyv]at hY';obtain⟨fn,tmps,assign,body,hy,hR⟩:=hY';clear hyv;gi_wp2;refine hR.mono ?_;rintro e W3 (⟨rfl,hJ3,hk3⟩|⟨rfl,hJx3⟩)
     . have hc3:W3.cell? ⟨Bn,0,none⟩=some (.int .i64 (s:Nat)):=hk3 _ hc
       have HJ3:=hd_ hJ3;clear hJ3 hR hy;gi_wp2;gi_roundg (gk-1)
       case measure=>have:=HK.out;omega
       case rel=>exact⟨k+1,by have:=HK.out;omega,by go_num,by rw [HTK.out];exact HJ3.out,hc3⟩
     gi_wp2;refine bodyPost_ret (results_none rfl _ _ _) rfl ?_;exact⟨⟨_,rfl⟩,.inr ⟨_,by rw [<-HTK.out];exact List.take_prefix _ _,hJx3⟩⟩
   (obtain rfl:k=s:=by omega);rw [List.take_of_length_le (by simp)]at hJk;gi_wp2;go_end0;exact⟨⟨_,rfl⟩,.inl ⟨_,rfl,hJk⟩⟩
theorem Q3c (w:World) (n:Nat):w.grownBy (w.drewN n) none:=⟨rfl,rfl,rfl,Nat.le_refl _,λ_ _ _=>rfl⟩
theorem Q6C (m Bn s:Nat) (hs:1<=s/\s<=512) (hs1:0<s) (w:World) (hBn:Bn<w.heap.size) (hc:w.cell? ⟨Bn,0,none⟩=some (.int .i64 (s:Nat))) :
   SeqStopsK Fence.wide m prog 321 #[.pointer (some ⟨Bn,0,none⟩)] (λx:{ x:Nat // x<s }=>#[Value.int .i64 (x.1:Nat)]) (Ye Bn) (λys=>ys=Zp s hs1) (λpre=>pre <+: Zp s hs1) s w :=
 λl J Jx W hW hJa _ hY h0=>Q9R Fence.wide m l Bn s trivial trivial rfl rfl (hd_ λW=>callsIn_wide.2 (Q9O s W hs)) hs hs1 J Jx hY W
   (λpre W n h=>hJa pre W _ none h (Q3c W n) (λr e=>by cases e)) ((hW.cell (p:=⟨Bn,0,none⟩) hBn).trans hc) h0
end Go.Proofs.YtckjdhaflokcgaaGreat
namespace Go.Proofs.YtckjdhaflokcgaaGreat
open Go.RowKit Go.Proofs.Tryz
def Yl (w:World) (P:Program) (k e:TypeId) (b n cnt:Nat) (f:Int->Option Int):Prop :=
  ∃D:DataW Unit,w.ownsMap P k (plainElem P e) b n D/\Maps.Tidy D/\Maps.size D=cnt /\
    ∀x:Int,(Lit.int .i64 x).wf=true->Maps.has D (.int .i64 x)=(f x).isSome/\D.atKey (.int .i64 x) (.lit (.int .i64 0)) = .lit (.int .i64 ((f x).getD 0))
def Xm (f:Int->Option Int) (k v:Int):Int->Option Int:=λx=>if x=k then some v else f x
def Q4b (f:Int->Option Int) (k:Int) (cnt:Nat):Nat:=if(f k).isSome then cnt else cnt+1
section
variable {w w':World} {P:Program} {k e:TypeId} {b n cnt:Nat} {f:Int->Option Int}
theorem Yl.new (w:World) (P:Program) (k e:TypeId):Yl (w.alloc (.map #[] 0)) P k e w.heap.size 0 0 (λ_=>none) :=
 ⟨.map [],World.ownsMap_made w P k _,Maps.tidy_empty,rfl,λx _=>⟨rfl,rfl⟩⟩
theorem Yl.lt (h:Yl w P k e b n cnt f):b<w.heap.size:=by
 obtain⟨D,⟨es,ck,h1,_⟩,_⟩:=h;exact(Array.getElem?_eq_some_iff.1 h1).1
theorem Yl.upd {S:Nat->Prop} (h:Yl w P k e b n cnt f) (hu:Upd S w w') (hs:¬S b):Yl w' P k e b n cnt f:=by
 have hb:=h.lt;obtain⟨D,⟨es,ck,h1,h5⟩,h2,h3,h4⟩:=h;exact⟨D,⟨es,ck,by rw [hu.block b hb hs];exact h1,h5⟩,h2,h3,h4⟩
theorem Yl.mono {m:Nat} (h:Yl w P k e b n cnt f) (hm:n<=m):Yl w P k e b m cnt f:=by
 obtain⟨D,⟨es,ck,h1,h5,h6,h7⟩,h2,h3,h4⟩:=h;exact⟨D,⟨es,ck,h1,h5,Nat.le_trans h6 hm,h7⟩,h2,h3,h4⟩
theorem Q2S (x:Int):WideAt.IsKeyLit (.int .i64 x):=by
 (first|trivial|(simp [WideAt.IsKeyLit]))
theorem Yl.put_ {D:DataW Unit} (h2:Maps.Tidy D) (h3:Maps.size D=cnt) (h4:∀x:Int,(Lit.int .i64 x).wf=true->Maps.has D (.int .i64 x)=(f x).isSome/\D.atKey (.int .i64 x) (.lit (.int .i64 0)) = .lit (.int .i64 ((f x).getD 0)))
   {key v:Int} (hkey:(Lit.int .i64 key).wf=true) :
   Maps.size (D.put (.int .i64 key) (.lit (.int .i64 v)))=Q4b f key cnt/\∀x:Int,(Lit.int .i64 x).wf=true->Maps.has (D.put (.int .i64 key) (.lit (.int .i64 v))) (.int .i64 x)=(Xm f key v x).isSome/\(D.put (.int .i64 key) (.lit (.int .i64 v))).atKey (.int .i64 x) (.lit (.int .i64 0)) = .lit (.int .i64 ((Xm f key v x).getD 0)):=by
 refine⟨?_,λx hx=>?_⟩
 . rw [Maps.size_put h2,(h4 key hkey).1,h3]
   rfl
 unfold Xm;by_cases hxk:x=key
 . subst hxk
   rw [if_pos rfl];exact⟨Maps.has_put_same h2.isMap (Q2S x) _,Maps.atKey_put_same h2.isMap (Q2S x) _ _⟩
 rw [if_neg hxk];have hne:(Lit.int .i64 x)≠.int .i64 key:=λq=>hxk (by injection q);rw [Maps.has_put_other hne,Maps.atKey_put_other hne];exact h4 x hx
end
section
variable {P:Program} (w:World) {ops:Array Oper} {rest:List Oper} {o:Oper} {a:Act} {Q:Exit->Act->World->Prop}
theorem Ky (hg:o.guard=none) (m x:Operand) (t:TypeId) (hop:o.op=Op.lookup t m x false) (k e:TypeId) (hk:P.underlying k=some (.int .i64)) (ht:P.underlying t=some (.map k e)) (he:P.underlying e=some (.int .i64))
   (hz:(zeroValue e).run P w = .ok (.int .i64 0) w) (b n cnt:Nat) (f:Int->Option Int) (hm:a.eval m = .map (some b)) (hown:Yl w P k e b n cnt f) (key:Int) (hx:a.eval x = .int .i64 key) (hw:(Lit.int .i64 key).wf=true)
   (hK:wpList P ops Q rest (a.put o.dst (.int .i64 ((f key).getD 0))) w):wpList P ops Q (o::rest) a w:=by
 obtain⟨D,h1,h2,h3,h4⟩:=hown;refine wpList_lookup_own_int w hg m x t hop k e .i64 (Maps.int_keyed hk) ht he hz b n D hm h1 _ _ hx (Maps.keyOf_int_mk hk hw) λc hat hwc=>?_;rw [(h4 key hw).2]at hat;(have hc:c=(f key).getD 0:=by injection hat with q;injection q with q1 q2;exact q2.symm);rw [hc];exact hK
theorem Q1G (hg:o.guard=none) (m x v:Operand) (t:TypeId) (hop:o.op=Op.mapUpdate t m x v) (k e:TypeId) (hk:P.underlying k=some (.int .i64)) (ht:P.underlying t=some (.map k e)) (he:P.underlying e=some (.int .i64))
   (b n cnt:Nat) (f:Int->Option Int) (hm:a.eval m = .map (some b)) (hown:Yl w P k e b n cnt f) (hn:n<maxLen) (key val:Int) (hx:a.eval x = .int .i64 key) (hv:a.eval v = .int .i64 val) (hw:(Lit.int .i64 key).wf=true) (hwv:(Lit.int .i64 val).wf=true)
   (hK:∀w',Yl w' P k e b (n+1) (Q4b f key cnt) (Xm f key val)->w.grownBy w' (some b)->wpList P ops Q rest (a.put o.dst undef) w'):wpList P ops Q (o::rest) a w:=by
 obtain⟨D,h1,h2,h3,h4⟩:=hown;refine wpList_mapUpdate_own w hg m x v t hop k e (Maps.int_keyed hk) ht _ b n D hm h1 hn _ _ _ hx hv (Maps.keyOf_int_mk hk hw) _ [] (plainElem_int he hwv) λw' h5 h6=>?_;exact hK w' ⟨_,h5,h5.tidy (Maps.int_keyed hk),(Yl.put_ h2 h3 h4 hw).1,(Yl.put_ h2 h3 h4 hw).2⟩ h6
theorem Q1H (hg:o.guard=none) (m:Operand) (t:TypeId) (hop:o.op=Op.call { callee:=Callee.builtin Builtin.len,args:=#[m],argTypes:=#[t] }) (k e:TypeId) (ht:P.underlying t=some (.map k e)) (b n cnt:Nat) (f:Int->Option Int) (hm:a.eval m = .map (some b))
   (hown:Yl w P k e b n cnt f) (hK:wpList P ops Q rest (a.put o.dst (.int .i64 cnt)) w):wpList P ops Q (o::rest) a w:=by
 obtain⟨D,h1,h2,h3,h4⟩:=hown;refine wpList_len_own w hg m t hop k e ht _ b n D hm h1 ?_;rw [h3];exact hK
variable {F:Fence} {nF:Nat}
theorem Zs (hg:o.guard=none) (m x:Operand) (t:TypeId) (hop:o.op=Op.lookup t m x true) (k e:TypeId) (hk:P.underlying k=some (.int .i64)) (ht:P.underlying t=some (.map k e)) (he:P.underlying e=some (.int .i64))
   (hz:(zeroValue e).run P w = .ok (.int .i64 0) w) (b n cnt:Nat) (f:Int->Option Int) (hm:a.eval m = .map (some b)) (hown:Yl w P k e b n cnt f) (key:Int) (hx:a.eval x = .int .i64 key) (hw:(Lit.int .i64 key).wf=true)
   (hK:wpListIn F nF P ops Q rest (a.put o.dst (.tuple #[.int .i64 ((f key).getD 0),.bool (f key).isSome])) w):wpListIn F nF P ops Q (o::rest) a w:=by
 obtain⟨D,h1,h2,h3,h4⟩:=hown;refine wpListIn_lookup_own_ok_int w hg m x t hop k e .i64 (Maps.int_keyed hk) ht he hz b n D hm h1 _ _ hx (Maps.keyOf_int_mk hk hw) λc hat hwc=>?_;rw [(h4 key hw).2]at hat;(have hc:c=(f key).getD 0:=by injection hat with q;injection q with q1 q2;exact q2.symm);rw [hc,(h4 key hw).1];exact hK
end
theorem Yl.run_put {w:World} {P:Program} {k e t:TypeId} {b n cnt:Nat} {f:Int->Option Int} (hown:Yl w P k e b n cnt f) (hk:P.underlying k=some (.int .i64)) (ht:P.underlying t=some (.map k e)) (he:P.underlying e=some (.int .i64))
   (hn:n<maxLen) {key val:Int} (hw:(Lit.int .i64 key).wf=true) (hwv:(Lit.int .i64 val).wf=true) :
   ∃w',(Instr.mapUpdate t (.map (some b)) (.int .i64 key) (.int .i64 val)).run P w = .ok () w'/\Yl w' P k e b (n+1) (Q4b f key cnt) (Xm f key val)/\w.grownBy w' (some b):=by
 obtain⟨D,h1,h2,h3,h4⟩:=hown;obtain⟨w',hrun,h5,h6⟩:=h1.update (Maps.int_keyed hk) ht hn (Maps.keyOf_int_mk hk hw) (plainElem_int he hwv);exact⟨w',hrun,⟨_,h5,h5.tidy (Maps.int_keyed hk),(Yl.put_ h2 h3 h4 hw).1,(Yl.put_ h2 h3 h4 hw).2⟩,h6⟩
def Jk (P:List Int) (i:Nat) (c:Int):Nat:=(P.take i).count c
def Zv (P:List Int) (i:Nat):Int:=(P[i]?).getD 0
def JM (N P:List Int) (i:Nat):Int:=max ((N[(Zv P i).toNat]?).getD 0) (-((N[(Zv P i).toNat]?).getD 0))+Jk P i (Zv P i)
def JN (lg:Nat) (N P:List Int) (i:Nat):Int:=(lg:Int)+1-(Lib.bitLen (JM N P i).toNat:Nat)
def Zn (lg:Nat) (N P:List Int) (i:Nat):Int:=JM N P i*2^(JN lg N P i).toNat-2^lg
def Jj (lg:Nat) (N P:List Int) (i:Nat):Int × Int × Int:=(Zv P i,JN lg N P i,Zn lg N P i)
def JY (lg:Nat) (N:List Int):List (Int × Int × Int):=(List.range (2^lg)).map (Jj lg N (Qi lg N))
@[simp] theorem XJ (lg:Nat) (N:List Int):(JY lg N).length=2^lg:=by simp [JY]
theorem Q04 {P:List Int} {i:Nat} (h:i<P.length) (c:Int):Jk P (i+1) c=Jk P i c+if P[i]=c then 1 else 0:=by
 unfold Jk;rw [List.take_succ_eq_append_getElem h,List.count_append,List.count_singleton];(by_cases hc:P[i]=c<;>simp [hc])
theorem XC {f:Int->Option Int} {y:Nat} {v c:Int} (hf:f y=none):∀(s:Nat),y<s ->
   (List.range s).countP (fun(x:Nat)=>decide ((if(x:Int)=(y:Int)then some v else f x)=some c))=(List.range s).countP (fun(x:Nat)=>decide (f x=some c))+if v=c then 1 else 0
 | 0,h=>by omega
 | s+1,h=>by
   rw [List.range_succ,List.countP_append,List.countP_append]
   by_cases hys:y=s
   . subst hys
     have e:(List.range y).countP (fun(x:Nat)=>decide ((if(x:Int)=(y:Int)then some v else f x)=some c))=(List.range y).countP (fun(x:Nat)=>decide (f x=some c)):=by
       apply List.countP_congr;intro x hx;have:=List.mem_range.1 hx;rw [if_neg (by omega)]
     rw [e];(by_cases hv:v=c<;>simp [hf,hv])
   have ih:=XC (v:=v) (c:=c) hf s (by omega);rw [ih];have e:(if(s:Int)=(y:Int)then some v else f s)=f s:=if_neg (by omega);simp only [List.countP_singleton,e];omega
theorem Q4R (s:Nat) (c:Nat):∀(rs:List Nat),rs.length<=s->(List.range s).countP (fun(x:Nat)=>decide (Ql s rs x=some (c:Int)))=rs.count c:=by
 intro rs
 induction hn:rs.length generalizing rs with
 | zero =>
   intro _;have:rs=[]:=List.eq_nil_of_length_eq_zero hn;subst this;simp [Ql]
 | succ n ih =>
   intro hl;obtain⟨q,y,rfl⟩:∃q y,rs=q++[y]:=⟨rs.dropLast,rs.getLast (by intro h;subst h;simp at hn),(List.dropLast_concat_getLast _).symm⟩;(have hq:q.length=n:=by simpa using hn);have h1:=ih q hq (by omega)
   have h2:(Ql s q ((s-1-q.length:Nat):Int))=none:=by
     unfold Ql;rw [if_pos (by omega),List.getElem?_eq_none (by omega)];rfl
   have h3:=XC (f:=Ql s q) (y:=s-1-q.length) (v:=(y:Int)) (c:=(c:Int)) h2 s (by omega);(have e:((s-1-q.length:Nat):Int)=(s:Int)-1-q.length:=by omega);rw [e]at h3;have h4:=VH (s:=s) (rs:=q) (i:=y)
   have h5:(List.range s).countP (fun(x:Nat)=>decide (Ql s (q++[y]) x=some (c:Int)))=(List.range s).countP (fun(x:Nat)=>decide ((if(x:Int)=(s:Int)-1-q.length then some (y:Int)else Ql s q x)=some (c:Int))):=by
     rw [<-h4]
   rw [h5,h3,h1,List.count_append,List.count_singleton]
   congr 1
   by_cases hyc:y=c
   . simp [hyc]
   rw [if_neg (by omega)];simp [hyc]
theorem Q3H {s:Nat} {rest rs:List Nat} (c:Nat) (hR:rs.length+rest.length=s):∀(pre:List Nat),pre.Nodup->(∀y∈pre,y<s) ->
   (List.range s).countP (fun(x:Nat)=>decide ((QC rest (Ql s rs) pre).1 x=some (c:Int)))=rs.count c+(rest.take (QC rest (Ql s rs) pre).2).count c:=by
 intro pre
 induction hn:pre.length generalizing pre with
 | zero =>
   intro _ _;have:pre=[]:=List.eq_nil_of_length_eq_zero hn;subst this;have:=Q4R s c rs (by omega);simp only [QC,List.foldl_nil,List.take_zero,List.count_nil,Nat.add_zero];exact this
 | succ n ih =>
   intro hd hlt;obtain⟨q,y,rfl⟩:∃q y,pre=q++[y]:=⟨pre.dropLast,pre.getLast (by intro h;subst h;simp at hn),(List.dropLast_concat_getLast _).symm⟩;(have hq:q.length=n:=by simpa using hn);have hy:=hlt y (by simp);have h1:=ih q hq (List.nodup_append.1 hd).1 λz hz=>hlt z (by simp [hz]);rw [Jg];unfold YZ;cases hs:((QC rest (Ql s rs) q).1 y).isSome
   . have hroom:=Q6A hd hlt hR hs
     (have hnone:(QC rest (Ql s rs) q).1 y=none:=by simpa using hs);simp only [Bool.false_eq_true,if_false];rw [XC hnone s hy,h1,List.take_add_one,List.getElem?_eq_getElem hroom];simp only [Option.getD_some,Option.toList,List.count_append,List.count_singleton];by_cases hc:rest[(QC rest (Ql s rs) q).2]=c
     . simp [hc];omega
     rw [if_neg (by omega)];simp [hc]
   simp only [if_true];exact h1
theorem Q02:∀(l:List Int) (i c:Nat),(QT i l).count c=if i<=c/\l[c-i]?=some (-1)then 1 else 0
 | [],i,c=>by simp [QT]
 | v::l,i,c=>by
   have ih:=Q02 l (i+1) c
   rw [QT]
   by_cases hic:i=c
   . subst hic
     have h0:(QT (i+1) l).count i=0:=by rw [ih,if_neg (by omega)]
     by_cases hv:v=-1
     . rw [if_pos hv,List.count_cons,h0];simp [hv]
     rw [if_neg hv,h0,if_neg (by rintro⟨_,h⟩;simp at h;exact hv h)]
   have e:(if v=-1 then i::QT (i+1) l else QT (i+1) l).count c=(QT (i+1) l).count c:=by
     split
     . rw [List.count_cons];simp [hic]
     rfl
   rw [e,ih];by_cases h:i<c
   . have:c-i=(c-(i+1))+1:=by omega
     rw [this,List.getElem?_cons_succ];by_cases hq:l[c-(i+1)]?=some (-1)
     . rw [if_pos ⟨by omega,hq⟩,if_pos ⟨by omega,hq⟩]
     rw [if_neg (λq=>hq q.2),if_neg (λq=>hq q.2)]
   rw [if_neg (by omega),if_neg (by omega)]
theorem Q03:∀(l:List Int) (i c:Nat),(Yp i l).count c=if i<=c then((l[c-i]?).getD 0).toNat else 0
 | [],i,c=>by simp [Yp]
 | v::l,i,c=>by
   have ih:=Q03 l (i+1) c
   rw [Yp,List.count_append,List.count_replicate,ih]
   by_cases hic:i=c
   . subst hic
     rw [if_neg (show ¬i+1<=i by omega)]
     simp
   have e:(i == c)=false:=by simpa using hic
   rw [e]
   simp only [Bool.false_eq_true,if_false,Nat.zero_add]
   by_cases h:i<c
   . have:c-i=(c-(i+1))+1:=by omega
     rw [this,List.getElem?_cons_succ,if_pos (by omega),if_pos (by omega)]
   rw [if_neg (by omega),if_neg (by omega)]
end Go.Proofs.YtckjdhaflokcgaaGreat
namespace Go.Proofs.YtckjdhaflokcgaaGreat
open Go.RowKit Go.Shelf Go.Proofs.Tryz
attribute [local go_sem] Oper.semAt_some
theorem VS {f:Int->Option Int} {y:Nat} {v:Int} (hf:f y=none):∀(s:Nat),y<s ->
   (List.range s).countP (fun(x:Nat)=>((if(x:Int)=(y:Int)then some v else f x):Option Int).isNone)+1=(List.range s).countP (fun(x:Nat)=>(f x).isNone)
 | 0,h=>by omega
 | s+1,h=>by
   rw [List.range_succ,List.countP_append,List.countP_append]
   by_cases hys:y=s
   . subst hys
     have e:(List.range y).countP (fun(x:Nat)=>((if(x:Int)=(y:Int)then some v else f x):Option Int).isNone)=(List.range y).countP (fun(x:Nat)=>(f x).isNone):=by
       apply List.countP_congr;intro x hx;have:=List.mem_range.1 hx;rw [if_neg (by omega)]
     rw [e];simp [hf]
   have ih:=VS (v:=v) hf s (by omega);have e:(if(s:Int)=(y:Int)then some v else f s)=f s:=if_neg (by omega);simp only [List.countP_singleton,e];omega
theorem Q4S (s R:Nat) (h:R<=s) (rs:List Nat) (hl:rs.length=R):(List.range s).countP (fun(x:Nat)=>(Ql s rs x).isNone)=s-R:=by
 induction R generalizing rs with
 | zero =>
   have:rs=[]:=List.eq_nil_of_length_eq_zero hl;subst this
   have e:(List.range s).countP (fun(x:Nat)=>(Ql s [] x).isNone)=(List.range s).length:=by
     rw [List.countP_eq_length];intro x _;simp [Ql]
   rw [e];simp
 | succ n ih =>
   obtain⟨q,y,rfl⟩:∃q y,rs=q++[y]:=⟨rs.dropLast,rs.getLast (by intro h;subst h;simp at hl),(List.dropLast_concat_getLast _).symm⟩;(have hq:q.length=n:=by simpa using hl);have h1:=ih (by omega) q hq
   have h2:(Ql s q ((s-1-q.length:Nat):Int))=none:=by
     unfold Ql;rw [if_pos (by omega),List.getElem?_eq_none (by omega)];rfl
   have h3:=VS (f:=Ql s q) (y:=s-1-q.length) (v:=(y:Int)) h2 s (by omega);(have e:((s-1-q.length:Nat):Int)=(s:Int)-1-q.length:=by omega);rw [e]at h3;have h4:=VH (s:=s) (rs:=q) (i:=y)
   have h5:(List.range s).countP (fun(x:Nat)=>(Ql s (q++[y]) x).isNone)=(List.range s).countP (fun(x:Nat)=>((if(x:Int)=(s:Int)-1-q.length then some (y:Int)else Ql s q x):Option Int).isNone):=by
     rw [<-h4]
   rw [h5];omega
theorem Q1D {s:Nat} {rest rs:List Nat} (hR:rs.length+rest.length=s):∀(pre:List Nat),(∀y∈pre,y<s) ->
   (List.range s).countP (fun(x:Nat)=>((QC rest (Ql s rs) pre).1 x).isNone)+(QC rest (Ql s rs) pre).2=rest.length:=by
 intro pre
 induction hn:pre.length generalizing pre with
 | zero =>
   intro _;have:pre=[]:=List.eq_nil_of_length_eq_zero hn;subst this;have:=Q4S s rs.length (by omega) rs rfl;simp only [QC,List.foldl_nil];omega
 | succ n ih =>
   intro hlt;obtain⟨q,y,rfl⟩:∃q y,pre=q++[y]:=⟨pre.dropLast,pre.getLast (by intro h;subst h;simp at hn),(List.dropLast_concat_getLast _).symm⟩;(have hq:q.length=n:=by simpa using hn);have hy:=hlt y (by simp);have h1:=ih q hq λz hz=>hlt z (by simp [hz]);rw [Jg];unfold YZ;cases hs:((QC rest (Ql s rs) q).1 y).isSome
   . have hnone:(QC rest (Ql s rs) q).1 y=none:=by simpa using hs
     have h2:=VS (v:=(((rest[(QC rest (Ql s rs) q).2]?).getD 0:Nat):Int)) hnone s hy;simp only [Bool.false_eq_true,if_false];omega
   simp only [if_true];exact h1
theorem Q0G {s:Nat} {rest rs:List Nat} {pre:List Nat} {x:Nat} (hlt:∀y∈pre,y<s) (hx:x<s) (hR:rs.length+rest.length=s)
   (hn:((QC rest (Ql s rs) pre).1 x).isSome=false):(QC rest (Ql s rs) pre).2<rest.length:=by
 have h1:=Q1D hR pre hlt
 have h2:0<(List.range s).countP (fun(x:Nat)=>((QC rest (Ql s rs) pre).1 x).isNone):=by
   rw [List.countP_pos_iff];exact⟨x,List.mem_range.2 hx,by simpa using hn⟩
 omega
def Yt (l:List Nat):List Value:=l.map fun(i:Nat)=>.int .i64 (i:Int)
@[simp] theorem Q4T (l:List Nat):(Yt l).length=l.length:=by simp [Yt]
theorem Q4U (l m:List Nat):Yt (l++m)=Yt l++Yt m:=by simp [Yt]
theorem Q06 (x:Nat) (h:x<=1024):wrap64 (x:Int)=x:=by unfold wrap64;omega
theorem Q07 {x:Int} (h:-9223372036854775808<=x/\x<=9223372036854775807):(Lit.int .i64 x).wf=true:=by
 (have h1:IntKind.i64.min<=x:=by(have:IntKind.i64.min=-9223372036854775808:=by decide);omega);(have h2:x<=IntKind.i64.max:=by(have:IntKind.i64.max=9223372036854775807:=by decide);omega);show(decide (IntKind.i64.min<=x)&&decide (x<=IntKind.i64.max))=true;rw [decide_eq_true h1,decide_eq_true h2];rfl
theorem Zf {N:List Int} {v:Int} (h:v∈N):QP v<=QR N:=by
 induction N with
 | nil=>cases h
 | cons x l ih =>
   rw [Jf];have h1:=Z2 l;have h2:=Kq x;rcases List.mem_cons.1 h with rfl|h
   . omega
   have:=ih h;omega
theorem Q2T:∀(l:List Int) (i:Nat),(QT i l).length<=l.length
 | [],i=>by simp [QT]
 | v::l,i=>by
   have:=Q2T l (i+1)
   rw [QT]
   split<;>simp<;>omega
theorem Q9S (N:List Int) (k:Nat):(Qw (N.take k)).length<=k:=by
 have h1:=Q2T (N.take k) 0;have h2:=List.length_take_le k N;unfold Qw;omega
theorem Q8y {N:List Int} (k:Nat):QR (N.take k)<=QR N:=by
 induction N generalizing k with
 | nil=>simp
 | cons x l ih =>
   cases k with
   | zero =>
     have h1:=Z2 (x::l);simp [QR]at h1|-;exact h1
   | succ k =>
     rw [List.take_succ_cons,Jf,Jf];have:=ih k;omega
theorem Q9T {N:List Int} (h:∀v∈N,-1<=v) (k:Nat):((Qo (N.take k)).length:Int)<=QR N:=by
 have h1:=Ze (N.take k) 0 λv hv=>h v (List.mem_of_mem_take hv);have h2:=Q8y (N:=N) k;unfold Qo;omega
theorem Q6D (s:Nat) (rs:List Nat) (i:Nat):Q4b (Ql s rs) ((s:Int)-1-rs.length) rs.length=(rs++[i]).length/\Xm (Ql s rs) ((s:Int)-1-rs.length) i=Ql s (rs++[i]):=by
 have h:Ql s rs ((s:Int)-1-rs.length)=none:=by
   unfold Ql;split
   . rw [List.getElem?_eq_none (by omega)];rfl
   rfl
 refine⟨?_,VH⟩;unfold Q4b;rw [h];simp
theorem Xn:1000000<maxLen:=by unfold maxLen;omega
theorem ZZ {F:Fence} {n:Nat} {P:Program} {α:Type} {g:Operand} {ps:Array Tmp} {assign body:Code} {Q:Exit->Act->World->Prop} {a:Act} {w:World}
   (hro:F.round=none) (h1:1<=n) {gf:Nat} {lb:Array Value} (hg:a.eval g = .func (.func gf) #[] lb) (hFg:F.fn gf) (eg:∀args w,(callFunc gf args).run P w = .ok (.enter gf args) w)
   {encs:α->Array Value} {Kp:World->World->Prop} {S Sp:List α->Prop} {N:Nat} {w0:World} (hseq:SeqStopsK F (n-1) P gf lb encs Kp S Sp N w0)
   (hKt:∀ {A B C:World},Kp A B->Kp B C->Kp A C) (hKb:∀(W:World) (l:Nat) (o o':Obj),w.heap.size<=l->W.heap[l]?=some o->o.isCells=false->o.isWalk=false->Kp W (W.putObj l o')) (hb0:Below w0.heap.size w0 w) (hps:∀x,(encs x).size=ps.size)
   (I:List α->World->Prop) (Ix:Code->List α->World->Prop) (hI:OwnFrom w.heap.size I) (hIx:∀c,OwnFrom w.heap.size (Ix c)) (h0:I [] w) (d:Nat) (dv:α->Value)
   (hassign:∀(l:Nat) (x:α) (W:World) (K:Act->World->Prop),K { tmps:=((ps.zip (encs x)).foldl (λt (p,v)=>t.setIfInBounds p v) a.tmps).setIfInBounds d (dv x),defers:=[] } W ->
     assign.wpIn (F.inRound l) (n-1-1) P (Exit.then K (λ_ _ _=>False)) { tmps:=(ps.zip (encs x)).foldl (λt (p,v)=>t.setIfInBounds p v) a.tmps,defers:=[] } W)
   (hbody:∀(l:Nat) (pre:List α) (x:α) (W:World),I pre W->pre.length<N->body.wpIn (F.inRound l) (n-1-1) P (ownPostG w.heap.size Kp I Ix (pre++[x]) W) { tmps:=((ps.zip (encs x)).foldl (λt (p,v)=>t.setIfInBounds p v) a.tmps).setIfInBounds d (dv x),defers:=[] } W)
   (hdone:∀(D:Nat) (xs:List α) (W:World),w.heap.size<=D->S xs->I xs W->W.heap[D]?=some (.deferred (some []))->Q .normal { a with defers:={ target:=.collected D,args:=#[] } :: a.defers } W)
   (hstop:∀(D:Nat) (c:Code) (pre:List α) (W:World),w.heap.size<=D->Sp pre->Ix c pre W->W.heap[D]?=some (.deferred (some []))->c.wpIn F n P Q { a with defers:={ target:=.collected D,args:=#[] } :: a.defers } W) :
   (Code.rangeFunc g ps assign body).wpIn F n P Q a w :=
 wpIn_rangeFunc_ownG hro h1 hg hFg eg hseq hKt hKb hb0 hps I Ix hI hIx h0 (λx=>{ tmps:=((ps.zip (encs x)).foldl (λt (p,v)=>t.setIfInBounds p v) a.tmps).setIfInBounds d (dv x),defers:=[] }) hassign hbody hdone hstop
def Zq (w1:World) (M T k s:Nat) (rest rs:List Nat) (pre:List { x:Nat // x<s }) (W:World):Prop :=
  ∃(cnt:Nat) (A:Option Addr) (n c:Nat),Yl W prog 3 3 M (k+pre.length) cnt (QC rest (Ql s rs) (pre.map Subtype.val)).1/\Blk W (M+1) 356 #[.map (some M)]/\Blk W (M+1+1) 33 #[.slice A n c] /\
    Rd W (λb=>M+3<=b/\b<T) A n (Yt (rest.drop (QC rest (Ql s rs) (pre.map Subtype.val)).2))/\n<=c/\Q0 w1 W
theorem Zq.own {w1:World} {M T k s:Nat} {rest rs:List Nat} (hM:M=w1.heap.size) (hT:M+3<=T):OwnFrom (T+1) (Zq w1 M T k s rest rs):=by
 intro pre W W' row h hg hr;obtain⟨cnt,A,n,c,h1,h2,h3,h4,h5,h6⟩:=h;have hu:Upd (λb=>T+1<=b) W W':=(Upd.refl _ W).grown hg (λj e _=>(hr j e).1);exact⟨cnt,A,n,c,h1.upd hu (by omega),h2.upd hu (by omega),h3.upd hu (by omega),h4.upd hu (λb _ hb h=>by omega),h5,h6.trans hu (λb hb h=>by omega)⟩
def ZU (lg:Int) (N:List Int) (w:World) (e:Ending) (w':World):Prop :=
  if Yc lg N 256 9 then ∃g,e = .returned (.tuple #[.slice (some ⟨g,0,none⟩) (2^lg.toNat) (2^lg.toNat),.int .i64 0])/\Rd w' (λb=>b=g) (some ⟨g,0,none⟩) (2^lg.toNat) (Q7 (Qi lg.toNat N))/\w.heap.size<=g/\Q0 w w'
  else e = .returned (.tuple #[.slice none 0 0,.int .i64 13])/\Q0 w w'
theorem Q8z (F:Nat->Prop) (A:Option Addr) (n c p:Nat) (N:List Int) (w:World) (hr:Rd w F A n (Q7 N)) (hfit:Fit N) (hn:(n:Int)<=1099511627776) (hv:Yc p N 256 9) :
   Calls prog 303 #[.agg #[.int .i64 p,.slice A n c]] w λe w'=>∃g,e = .returned (.tuple #[.slice (some ⟨g,0,none⟩) (2^p) (2^p),.int .i64 0])/\Rd w' (λb=>b=g) (some ⟨g,0,none⟩) (2^p) (Q7 (Qi p N))/\w.heap.size<=g/\Q0 w w':=by
 (have hN:N.length=n:=by have:=hr.1;simpa using this);have hmm:=@run_makeMap prog;obtain⟨w0,H,hw0,hH,f0,bt⟩:=al_ w 205 #[.int .i64 p,.slice A n c];have hck:=Q2R F A n c p 256 9 N w0 (hr.fresh f0) hfit hn;rw [if_pos hv]at hck;obtain⟨hv0,hv1,hv2,hv3,hv4,hv5,hv6,hv7⟩:=hv;(have hp9:p<=9:=by omega);have hpw:2^p<=512:=Nat.le_trans (Nat.pow_le_pow_right (by decide) hp9) (by decide);have hpp:=Nat.two_pow_pos p;obtain⟨s,hs⟩:=nm_ (2^p)
 have hsw:wrap64 ((2:Int)^p)=(s:Nat):=by
   (have e:((2:Int)^p)=(s:Nat):=by rw [hs];simp);rw [e];exact Q06 s (by omega)
 obtain⟨t0,t1⟩:=(bt).cells2;have HCK:=hd_ hck;have HR:=hd_ (λW (h:Q0 w W)=>hr.fresh h);have BT:=hd_ bt;have F0:=hd_ f0;have HW:=hd_ hw0;have HH:=hd_ hH;have HN:=hd_ hN;have HS:=hd_ hs;clear hr hw0 hH f0 bt hck hN hs;refine Q8 λR hR=>?_;refine(callsIn_wide (n:=3)).1 (callsIn_of_wp_marks func303 rfl trivial ?_ rfl);simp only [ntmps303,List.size_toArray,List.length_cons,List.length_nil,Nat.reduceAdd,Nat.reduceSub,Array.replicate_succ,Array.replicate_zero,List.push_toArray,List.append_toArray,List.nil_append,List.cons_append];refine wpIn_wide.2 ?_;go_upto_region 1 with fail;simp only [<-HH.out,<-HW.out];go_wp2_with fail;refine HCK.mono ?_;rintro e w1 ⟨rfl,f1⟩;have b1:=BT.fresh f1;obtain⟨t0,t1⟩:=(b1).cells2;have BT1:=hd_ b1;have F1:=hd_ (F0.trans' f1);clear b1 f1;go_upto_region 5 with fail;rw [hsw];clear hsw;go_upto_region 7 with fail;obtain⟨M,hM⟩:=nm_ (w1.heap.size);obtain⟨w2,hw2⟩:=nm_ (((w1.alloc (.map #[] 0)).alloc (.cells #[.map (some M)] 356)).alloc (.cells #[.slice none 0 0] 33));simp only [<-hM,<-hw2];(have f2:Q0 w1 w2:=by rw [hw2];exact(((Upd.refl _ _).alloc _).alloc _).alloc _);(have hz1:(w1.alloc (.map #[] 0)).heap.size=M+1:=by rw [hM];simp);(have hz2:w2.heap.size=M+3:=by rw [hw2,hM];simp)
 have im:Yl w2 prog 3 3 M 0 0 (Ql s []):=by
   have h0:=Yl.new w1 prog 3 3;(have e:Ql s []=λ_=>none:=by funext x;unfold Ql;simp);rw [e,hw2,hM];exact(h0.upd ((Upd.refl (λ_=>False) _).alloc _) (λh=>h)).upd ((Upd.refl (λ_=>False) _).alloc _) (λh=>h)
 (have bm:Blk w2 (M+1) 356 #[.map (some M)]:=by rw [hw2];exact(Qb hz1.symm _ _).alloc _);(have bo:Blk w2 (M+1+1) 33 #[.slice none 0 0]:=by rw [hw2];exact Qb (by rw [hM];simp) _ _);have b2:=BT1.fresh f2;obtain⟨t0,t1⟩:=(b2).cells2;have F2:=hd_ (F1.trans' f2);have BT2:=hd_ b2;have IM2:=hd_ im;have BM2:=hd_ bm;have BO2:=hd_ bo;have HZ2:=hd_ hz2;have HMM:=hd_ hM;have F02:=hd_ f2;clear hw2 f2 hz1 hz2 im bm bo b2 hM hmm;go_wp2_with fail;go_loopg [27] n (λf i wr=>∃(k:Nat) (v:Value),k+f=n/\i = .int .i64 k/\Yl wr prog 3 3 M k (Qw (N.take k)).length (Ql s (Qw (N.take k)))/\Blk wr (M+1) 356 #[.map (some M)]/\Blk wr (M+1+1) 33 #[v]/\Own wr 3 v (Yt (Qo (N.take k)))/\(∀b,v.ownBlock=some b->M+3<=b)/\Q0 w1 wr)
 case atStart=>exact⟨0,.slice none 0 0,by omega,rfl,IM2.out,BM2.out,BO2.out,Own.nil _ _,λb h=>by simp [Value.ownBlock]at h,F02.out⟩
 case round =>
   obtain⟨k,v,hk,rfl,im,bm,bo,ov,hvb,fw⟩:=hrel;have HK:=hd_ hk;have IM:=hd_ im;have BM:=hd_ bm;have BO:=hd_ bo;have OV:=hd_ ov;have HVB:=hd_ hvb;have FW:=hd_ fw;clear hk im bm bo ov hvb fw;by_cases hlt:k<n
   . have hkN:k<N.length:=by rw [HN.out];exact hlt
     have HRT:=hd_ (Q1E hkN);have HST:=hd_ (KX hkN);have hz:=hv6 _ (List.getElem_mem hkN)
     have hz2:N[k]<=512:=by
       have h1:=Zf (List.getElem_mem hkN);rw [hv7]at h1;(have h2:((2:Int)^(p:Int).toNat)=((2^p:Nat):Int):=by simp);unfold QP at h1;(split at h1<;>omega)
     have hzh:=hfit _ (List.getElem_mem hkN);obtain⟨b,o,_,rfl,_,hc⟩:=(HR _ (F1.trans' FW.out)).int (k:=k) hlt;generalize N[k]=z at *;(have hkI:(k:Int)<n:=by omega);have hw4:IntKind.i64.wrap ((k:Int)+1)=k+1:=IntWalk.i64_in _ (by omega);go_upto_if 33 with fail;have hrl:=Q9S N k;obtain⟨rs,hrs⟩:=nm_ (Qw (N.take k));rw [<-hrs]at IM HRT hrl;have cM:=BM.cell 0;simp at cM;have hml:=Xn;(have hk256:k<256:=by omega);clear hrs;go_cut [27]from 27 to 50 (λki wx=>ki = .int .i64 k/\Yl wx prog 3 3 M (k+1) (Qw (N.take (k+1))).length (Ql s (Qw (N.take (k+1))))/\Blk wx (M+1) 356 #[.map (some M)]/\Blk wx (M+1+1) 33 #[v]/\Own wx 3 v (Yt (Qo (N.take k)))/\Q0 w1 wx)
     case first =>
       by_cases hz1:z=-1
       . have hzb:(z == -1)=true:=by simpa using hz1
         rw [if_pos hz1]at HRT;have e1:IntKind.i64.wrap ((s:Int)-1)=s-1:=IntWalk.i64_in _ (by have:=HS.out;omega);have e2:IntKind.i64.wrap ((s:Int)-1-rs.length)=s-1-rs.length:=IntWalk.i64_in _ (by have:=HS.out;omega);have HSL:=hd_ (show s<=512 by rw [HS.out];exact hpw);clear hz1
         go_wp2_with (first
           | (at_len;refine Q1H _ rfl _ 356 rfl 3 3 underlying356 M k _ _ rfl IM.out ?_)
           | (at_mapUpdate;refine Q1G _ rfl _ _ _ 356 rfl 3 3 underlying3 underlying356 underlying3 M k _ _ rfl IM.out (by omega) ((s:Int)-1-rs.length) k rfl rfl (Q07 (by have:=HSL.out;omega)) (Q07 (by omega)) ?_;intro w5 im5 g5))
         go_meet;obtain⟨q1,q2⟩:=Q6D s rs k;rw [q1,q2,<-HRT.out]at im5;have u5:Upd (λb=>b=M) wr w5:=(Upd.refl _ _).grown g5 (λj e _=>by injection e with e;exact e.symm);refine⟨rfl,im5,BM.upd u5 (by omega),BO.upd u5 (by omega),OV.upd u5 (λb hb h=>by have:=HVB b hb;omega),FW.trans u5 (λb hb h=>by have:=HMM.out;omega)⟩
       (have hzb:(z == -1)=false:=by simpa using hz1);rw [if_neg hz1,List.append_nil]at HRT;go_wp2_with fail;go_meet;rw [HRT.out];exact⟨rfl,IM.mono (by omega),BM.out,BO.out,OV.out,FW.out⟩
     case rest =>
       obtain⟨rfl,im,bm,bo,ov,fw⟩:=hcut;have IM3:=hd_ im;have BM3:=hd_ bm;have BO3:=hd_ bo;have OV3:=hd_ ov;have FW3:=hd_ fw;clear im bm bo ov fw IM BM BO OV FW cM;obtain⟨zn,hzn⟩:=nm_ (z.toNat);rw [<-hzn]at HST;(have hzn2:zn<=512:=by omega);go_upto_region 12 with fail;go_cut [27,42,43]from 27 to 50 (λki q i wx=>ki = .int .i64 k/\q = .int .i64 (zn:Nat)/\i = .int .i64 0/\wx=wc)
       case first =>
         by_cases hz0:0<=z
         . have hmx:max z 0=(zn:Nat):=by omega
           (have hzz:z=(zn:Nat):=by omega);clear hzn;subst hzz;go_wp2_with fail;(all_goals go_meet);(all_goals exact⟨rfl,by first|rfl|(congr 1;omega),rfl,rfl⟩)
         (have hzz:z=-1:=by omega);(have hzn0:zn=0:=by omega);clear hzn;subst hzz hzn0;go_wp2_with fail;(all_goals go_meet);(all_goals exact⟨rfl,by first|rfl|(congr 1;omega),rfl,rfl⟩)
       clear hzn
       case rest =>
       obtain⟨rfl,rfl,rfl,hwc⟩:=hcut;subst hwc;go_wp2_with fail;obtain⟨ko,hko⟩:=nm_ (gk);have HKO:=hd_ hko;clear hko;go_loopg [43] zn (λf i wy=>∃(j:Nat) (v2:Value),j+f=zn/\i = .int .i64 j/\Yl wy prog 3 3 M (k+1) (Qw (N.take (k+1))).length (Ql s (Qw (N.take (k+1))))/\Blk wy (M+1) 356 #[.map (some M)]/\Blk wy (M+1+1) 33 #[v2]/\Own wy 3 v2 (Yt (Qo (N.take k)++List.replicate j k))/\(∀b,v2.ownBlock=some b->M+3<=b)/\Q0 w1 wy)
       case atStart=>exact⟨0,v,by omega,rfl,IM3.out,BM3.out,BO3.out,by simpa using OV3.out,HVB.out,FW3.out⟩
       case round =>
         obtain⟨j,v2,hj,rfl,im,bm,bo,ov,hvb,fw⟩:=hrel;have HJ:=hd_ hj;have IM4:=hd_ im;have BM4:=hd_ bm;have BO4:=hd_ bo;have OV4:=hd_ ov;have HVB4:=hd_ hvb;have FW4:=hd_ fw;clear hj im bm bo ov hvb fw;by_cases hjz:j<zn
         . have hjI:(j:Int)<zn:=by omega
           have hw5:IntKind.i64.wrap ((j:Int)+1)=j+1:=IntWalk.i64_in _ (by omega);have cO:=BO4.cell 0;have zO:=BO4.frozen 0;simp at cO
           have HAP:=hd_ (show(Yt (Qo (N.take k)++List.replicate j k)).length+1<=2^40 by
             have h1:=Ze (N.take k) 0 (λv hv=>hv6 v (List.mem_of_mem_take hv));have h2:=Q9T hv6 k;rw [hv7]at h2;(have h3:((2:Int)^(p:Int).toNat)=((2^p:Nat):Int):=by simp);simp only [Q4T,List.length_append,List.length_replicate]
             omega)
           go_upto_region 14 with fail;go_wp2_with (at_builtin;go_must (refine Qm _ rfl (.tmp 45) (.tmp 47) _ rfl 3 _ 8 underlying33 QV rfl v2 _ rfl (OV4.alloc _) _ _ _ _ rfl (Rd.one wr 3 (.int .i64 k)) (by simp [Value.oneCell']) (by omega) HAP.out ?_);intro v5 w5 o5 g5 a5;obtain⟨A5,n5,c5,rfl,hn5⟩:=o5.form';have u5:Upd (λb=>v2.ownBlock=some b) wr w5:=((Upd.refl _ wr).alloc _).grown g5 (λk hk _=>hk);have b5:=BO4.upd u5 (λh=>by have:=HVB4 _ h;omega);have c5x:=b5.cell 0;have z5x:=b5.frozen 0;simp at c5x);have us:Upd (λb=>b=M+1+1) w5 (w5.setCell ⟨M+1+1,0,none⟩ (.slice A5 n5 c5)):=(Upd.refl (λb=>b=M+1+1) w5).setCell (p:=⟨M+1+1,0,none⟩) (λ_=>rfl) _
           have hob:∀b,(Value.slice A5 n5 c5).ownBlock=some b->M+3<=b:=by
             intro b hb;rcases a5 with e|e
             . exact HVB4 b (by rw [<-e];exact hb)
             rw [e]at hb;injection hb with hb;have:=BO4.lt;simp at hb;omega
           have bs:=b5.set_ 0 (.slice A5 n5 c5);simp at bs;have os:=o5.far (p:=⟨M+1+1,0,none⟩) (λh=>by have:M+3<=M+1+1:=hob _ h;omega) (.slice A5 n5 c5)
           have en:Yt (Qo (N.take k)++List.replicate j k)++[Value.int .i64 k]=Yt (Qo (N.take k)++List.replicate (j+1) k):=by
             rw [List.replicate_succ',<-List.append_assoc,Q4U _ [k]];rfl
           rw [en]at os;have OS:=hd_ os;have BS:=hd_ bs;have HOB:=hd_ hob;have U5:=hd_ u5;have US:=hd_ us;clear os bs hob en u5 us b5;go_roundg (gk-1)
           case measure=>have:=HJ.out;omega
           case rel=>exact⟨j+1,.slice A5 n5 c5,by have:=HJ.out;omega,by go_num,(IM4.upd U5.out (λh=>by have:=HVB4 _ h;omega)).upd US.out (by omega),(BM4.upd U5.out (λh=>by have:=HVB4 _ h;omega)).upd US.out (by omega),BS.out,OS.out,HOB.out,(FW4.trans U5.out (λb hb h=>by have:=HVB4 _ h;have:=HMM.out;omega)).trans US.out (λb hb h=>by have:=HMM.out;omega)⟩
         (obtain rfl:j=zn:=by have:=HJ.out;omega);rw [<-HST.out]at OV4;go_wp2_with fail;go_roundg (ko-1)
         case measure=>have:=HK.out;have:=HKO.out;omega
         case rel=>exact⟨k+1,v2,by have:=HK.out;have:=HKO.out;omega,by go_num,IM4.out,BM4.out,BO4.out,OV4.out,HVB4.out,FW4.out⟩
   (obtain rfl:k=n:=by have:=HK.out;omega);have htk:N.take k=N:=List.take_of_length_le (by have:=HN.out;omega);rw [htk]at IM OV;clear htk HK;go_wp2_with fail;refine(Q9P _ _).mono ?_;rintro e w3 ⟨rfl,rfl⟩;go_wp2_with fail;obtain⟨T,hT⟩:=nm_ (wr.heap.size);obtain⟨w4,hw4⟩:=nm_ (wr.alloc (.cells #[.int .i64 s] 3));simp only [<-hT,<-hw4];(have f4:Q0 wr w4:=by rw [hw4];exact(Upd.refl _ _).alloc _);(have bT:Blk w4 T 3 #[.int .i64 s]:=by rw [hw4];exact Qb hT _ _);(have hz4:w4.heap.size=T+1:=by rw [hw4,hT];simp);(have hMT:M+3<=T:=by have:=BO.lt;have:=FW.size;have:=HZ2.out;have:=HMM.out;rw [hT];omega);obtain⟨A5,n5,c5,rfl,hn5⟩:=OV.form';have hrd:=OV.rd rfl
   have hI0:Zq w1 M T k s (Qo N) (Qw N) [] w4:=by
     refine⟨(Qw N).length,A5,n5,c5,?_,BM.fresh f4,BO.fresh f4,?_,?_,FW.trans' f4⟩
     . exact IM.upd f4 (λh=>h)
     . have h1:=hrd.2.2.both
       rw [<-hn5.out]at h1;exact(h1.mono (λb hb=>⟨HVB b hb.1,by rw [hT];exact hb.2⟩)).fresh f4
     have:=hrd.2.1;have:=hn5.out;omega
   (have hs12:1<=s/\s<=512:=by have:=HS.out;omega);(have hs1:0<s:=by omega);(have hcT:w4.cell? ⟨T,0,none⟩=some (.int .i64 s):=by simpa using bT.cell 0);(have hOwn:OwnFrom w4.heap.size (Zq w1 M T k s (Qo N) (Qw N)):=by rw [hz4];exact Zq.own HMM.out hMT)
   have hRR:(Qw N).length+(Qo N).length=s:=by
     have h1:=Ze N 0 hv6;rw [hv7]at h1;(have h3:((2:Int)^(p:Int).toNat)=((2^p:Nat):Int):=by simp);have:=HS.out;unfold Qw Qo;omega
   have HTT:=hd_ hT;have HZ4:=hd_ hz4;have HI0:=hd_ hI0;have HOWN:=hd_ hOwn;have HRR:=hd_ hRR;have HF4:=hd_ (FW.trans' f4);clear hT hw4 f4 hz4 hI0 hOwn hRR hrd IM BM BO OV HVB hn5;refine(wpIn_wide (n:=3)).1 ?_
   refine ZZ (F:=Fence.wide) (n:=3) rfl (by omega) (gf:=321) (lb:=#[.pointer (some ⟨T,0,none⟩)]) rfl trivial (enters_of func321 (by kernel_rfl) rfl)
     (Q6C (3-1) T s hs12 hs1 w4 (by have:=HZ4.out;omega) hcT) Ye.trans (λW l o o' hl _ _ _=>Ye.putObj W o' (by have:=HZ4.out;omega)) (Below.refl _ _) (λ_=>rfl)
     (Zq w1 M T k s (Qo N) (Qw N)) (λ_ _ _=>False) HOWN.out (λ_ _ _ _ _ hs _ _=>hs) HI0.out 10 (λx=>.int .i64 (x.1:Nat)) ?assign ?body ?done ?stop
   case assign =>
     intro l x W K hK;simp at hK|-;gi_wp2;exact hK
   case body =>
     rintro l pre x W hI hlt;simp;obtain⟨cnt,A6,n6,c6,im,bm,bo,rd,hcap,fw⟩:=hI;obtain⟨x,hxs⟩:=x
     have hpl:∀y∈pre.map Subtype.val,y<s:=by
       intro y hy;obtain⟨z,hz,rfl⟩:=List.mem_map.1 hy;exact z.2
     have hroom:=λhn=>Q0G (x:=x) hpl hxs HRR.out hn;have hstep:=Jg (Qo N) (Ql s (Qw N)) (pre.map Subtype.val) x;(have hmapv:(pre++[(⟨x,hxs⟩:{ x:Nat // x<s })]).map Subtype.val=pre.map Subtype.val++[x]:=by simp);(have hlenv:(pre++[(⟨x,hxs⟩:{ x:Nat // x<s })]).length=pre.length+1:=by simp);obtain⟨f,q,hvis⟩:∃f q,QC (Qo N) (Ql s (Qw N)) (pre.map Subtype.val)=(f,q):=⟨_,_,rfl⟩;rw [hvis]at im rd hroom hstep;dsimp only at im rd hroom hstep
     have HI2:=hd_ (show ∀W',(∃(cnt:Nat) (A:Option Addr) (n c:Nat),Yl W' prog 3 3 M (k+(pre.length+1)) cnt (YZ (Qo N) (f,q) x).1/\Blk W' (M+1) 356 #[.map (some M)]/\Blk W' (M+1+1) 33 #[.slice A n c] /\
       Rd W' (λb=>M+3<=b/\b<T) A n (Yt ((Qo N).drop (YZ (Qo N) (f,q) x).2))/\n<=c/\Q0 w1 W')->Zq w1 M T k s (Qo N) (Qw N) (pre++[(⟨x,hxs⟩:{ x:Nat // x<s })]) W' from λW' h=>by
         unfold Zq;rw [hmapv,hlenv,hstep]
         exact h)
     have cM:=bm.cell 0;simp at cM;have hkey:(Lit.int .i64 (x:Int)).wf=true:=Q07 (by omega);clear hmapv hlenv hstep hvis hpl
     cases hfx:(f x).isSome with
     | true =>
       (have hvs:YZ (Qo N) (f,q) x=(f,q):=by unfold YZ;rw [if_pos hfx]);rw [hvs]at HI2;have HF:=hd_ hfx;gi_wp2_with (gi_at_lookup;refine Zs _ rfl _ _ 356 rfl 3 3 underlying3 underlying356 underlying3 (zeroValue3 _) M _ cnt f rfl im (x:Nat) rfl hkey ?_);exact⟨KeepsFrom.refl _ _,λv h=>h,HI2 W ⟨cnt,A6,n6,c6,im.mono (by omega),bm,bo,rd,hcap,fw⟩⟩
     | false =>
       have hq:=hroom hfx
       have hvs:YZ (Qo N) (f,q) x=(Xm f x (((Qo N)[q]:Nat):Int),q+1):=by
         unfold YZ;rw [hfx,List.getElem?_eq_getElem hq];rfl
       rw [hvs]at HI2;have HF:=hd_ hfx;(have hn6:n6=(Qo N).length-q:=by have:=rd.1;simp at this;exact this.symm);obtain⟨b6,o6,rfl,hb6,_,hc6⟩:=rd.at_ (k:=0) (by omega)
       have hd0:(Yt ((Qo N).drop q))[0]?=some (.int .i64 (((Qo N)[q]:Nat):Int)):=by
         simp [Yt,List.getElem?_eq_getElem hq]
       rw [hd0]at hc6;have hc7:W.cell? ⟨b6,o6,none⟩=some (.int .i64 (((Qo N)[q]:Nat):Int)):=hc6;have hyn:=(Xj N 0 _ (List.getElem_mem hq)).2;have hRD:=rd.cut (k:=1) (cap:=c6) (by omega) hcap;have hyw:(Lit.int .i64 (((Qo N)[q]:Nat):Int)).wf=true:=Q07 (by have h1:(Qo N)[q]<0+N.length:=hyn;omega);generalize (Qo N)[q]=y at *;have cO:=bo.cell 0;have zO:=bo.frozen 0;simp at cO;(have hn60:(0:Int)<n6:=by omega);(have hn6c:(n6:Int)<=c6:=by omega);(have hn61:(1:Int)<=n6:=by omega);clear hd0 hc6 hq hroom hyn;have imd:Yl W.drew prog 3 3 M (k+pre.length) cnt f:=im.upd (Upd.refl (λ_=>False) W).drew (λh=>h);(have hmo:prog.follows .mixedOrders=true:=by kernel_rfl);have hml:=Xn;(have hbd:k+pre.length<maxLen:=by have:=HN.out;omega);obtain⟨w5,hrun,im5,g5⟩:=imd.run_put (t:=356) underlying3 underlying356 underlying3 hbd (key:=(x:Nat)) (val:=(y:Nat)) hkey hyw;have u5:Upd (λb=>b=M) W w5:=((Upd.refl _ W).drew).grown g5 (λj e _=>by injection e with e;exact e.symm);have bo5:=bo.upd u5 (by omega);have bm5:=bm.upd u5 (by omega);have rd5:=hRD.upd u5 (λb _ hb h=>by omega);have hfw5:=fw.trans u5 (λb hb h=>by have:=HMM.out;omega);have cO5:=bo5.cell 0;have zO5:=bo5.frozen 0;simp at cO5;have kf5:KeepsFrom w4.heap.size W w5:=⟨g5.size,λk o hB hk ho=>(KeepsFrom.of_grownBy g5 (λj e=>by injection e with e;have:=HZ4.out;omega)).same k o hB hk ho⟩;have kc5:Ye T W w5:=Ye.upd u5 (by omega);(have edr:(Yt ((Qo N).drop q)).drop 1=Yt ((Qo N).drop (q+1)):=by simp [Yt,List.map_drop]);rw [edr]at rd5
       have FIN:=hd_ (show ∀(a':Act) (A':Option Addr) (n' c':Nat),Rd w5 (λb=>M+3<=b/\b<T) A' n' (Yt ((Qo N).drop (q+1)))->n'<=c' ->
           ownPostG w4.heap.size (Ye T) (Zq w1 M T k s (Qo N) (Qw N)) (λ_ _ _=>False) (pre++[(⟨x,hxs⟩:{ x:Nat // x<s })]) W .normal a' (w5.setCell ⟨M+1+1,0,none⟩ (.slice A' n' c'))from λa' A' n' c' hrd hnc=>by
         have us:Upd (λb=>b=M+1+1) w5 (w5.setCell ⟨M+1+1,0,none⟩ (.slice A' n' c')):=(Upd.refl (λb=>b=M+1+1) w5).setCell (p:=⟨M+1+1,0,none⟩) (λ_=>rfl) _;have bs:=bo5.set_ 0 (.slice A' n' c');simp at bs
         exact⟨kf5.trans ((KeepsOthers.setCell _ _ _).from _),kc5.trans (Ye.upd us (by omega)),HI2 _ ⟨_,A',n',c',im5.upd us (by omega),bm5.upd us (by omega),bs,hrd.upd us (λb _ hb h=>by omega),hnc,hfw5.trans us (λb hb h=>by have:=HMM.out;omega)⟩⟩)
       have HN6:=hd_ hn6;have HIM:=hd_ im5;clear hn6 kf5 kc5 edr hfw5 bo5 bm5 g5 u5 imd bo bm HI2;gi_wp2_with (gi_at_lookup;refine Zs _ rfl _ _ 356 rfl 3 3 underlying3 underlying356 underlying3 (zeroValue3 _) M _ cnt f rfl im (x:Nat) rfl hkey ?_);by_cases hc1:c6=1
       . subst hc1
         rw [if_pos rfl,show n6-1=0 by omega]at rd5;have RD5:=hd_ rd5;clear rd5;gi_region_with_o fail;(all_goals gi_wp2);(all_goals exact FIN _ _ _ _ RD5.out (by omega))
       rw [if_neg hc1]at rd5;have RD5:=hd_ rd5;(have hc1I:¬(c6:Int)=1:=by omega);clear rd5;gi_region_with_o fail;(all_goals gi_wp2);(all_goals exact FIN _ _ _ _ RD5.out (by omega))
   case done =>
     rintro D ys W hD rfl hI hK;obtain⟨cnt,A6,n6,c6,im,bm,bo,rd,hcap,fw⟩:=hI;rw [Q8x]at im;obtain⟨Z,hZ⟩:=nm_ (Qi p N);(have hZs:Z.length=s:=by rw [hZ,HS.out];simp)
     have hZg:∀(j:Nat) (h:j<Z.length),Z[j]=((QC (Qo N) (Ql s (Qw N)) (Y8 s)).1 (j:Int)).getD 0:=by
       intro j h;subst hZ;simp only [Qi,List.getElem_map,List.getElem_range,HS.out]
     generalize (QC (Qo N) (Ql s (Qw N)) (Y8 s)).1=f at *
     have hmk:∀W,(Instr.makeSlice 33 (.int .i64 (s:Int)) (.int .i64 (s:Int))).run prog W = .ok (.slice (some ⟨W.heap.size,0,none⟩) s s) (W.alloc (.cells (madeCells #[.int .i64 0] s) 3)):=λW=>by
       have:=run_make_row' (P:=prog) 33 3 (.int .i64 0) 8 underlying33 QV rfl .i64 .i64 s (by omega) (by omega) W;simpa using this
     obtain⟨cs,hcs⟩:=nm_ (madeCells #[Value.int .i64 0] s);simp only [<-hcs]at hmk;obtain⟨G,hG⟩:=nm_ (W.heap.size);obtain⟨w6,hw6⟩:=nm_ (W.alloc (.cells cs 3));(have f6:Q0 W w6:=by rw [hw6];exact(Upd.refl _ _).alloc _);(have bg0:Blk w6 G 3 cs:=by rw [hw6];exact Qb hG _ _)
     have bg:Blk w6 G 3 (Q7 (VR Z 0)).toArray:=by
       have e:(Q7 (VR Z 0)).toArray=cs:=by
         rw [hcs,Q8w,hZs];exact Array.toList_inj.1 (by rw [toList_madeCells_one];simp [Q7])
       rw [e];exact bg0
     (have hGD:D<G:=by rw [hG];exact(Array.getElem?_eq_some_iff.1 hK).1);(have hK6:w6.heap[D]?=some (.deferred (some [])):=by rw [f6.block D (by omega) (λh=>h)];exact hK);(have hGM:M+3<=G:=by have:=HZ4.out;omega);have HBG:=hd_ bg;have HIM:=hd_ (im.upd f6 (λh=>h));have HBM:=hd_ (bm.fresh f6);have HFW:=hd_ (fw.trans' f6);have HK6:=hd_ hK6;have HZG:=hd_ hZg;have HZS:=hd_ hZs;have HZ:=hd_ hZ;(have hD2:M+3<=D:=by have:=HZ4.out;omega);clear im bm bo rd fw bg bg0 hK hK6 hZg hZs hZ hcs f6 hcap;go_upto_region 24 with fail;rw [<-hw6,<-hG];clear hw6 hG hmk;go_wp2_with fail;go_loopg [73] s (λg i wy=>∃j:Nat,j+g=s/\i = .int .i64 j/\Blk wy G 3 (Q7 (VR Z j)).toArray/\Upd (λb=>b=G) w6 wy)
     case atStart=>exact⟨0,by omega,rfl,HBG.out,Upd.refl _ _⟩
     case round =>
       obtain⟨j,hj,rfl,bg,uy⟩:=hrel;have HJ:=hd_ hj;have BGJ:=hd_ bg;have UY:=hd_ uy;have imy:=HIM.upd uy (by omega);have cM:=(HBM.upd uy (by omega)).cell 0;simp at cM;clear hj bg uy;by_cases hjs:j<s
       . have hjI:(j:Int)<s:=by omega
         (have hjZ:j<Z.length:=by rw [HZS.out];exact hjs);have hzv:=HZG j hjZ;have HLS:=hd_ (Q9N hjZ);have hg0:=Q9M hjZ;(have c0:wr.cell? ⟨G,j,none⟩=some (.int .i64 0):=by rw [BGJ.cell];simp [Q7,hg0]);have z0:=BGJ.frozen j;have bs:=BGJ.set_ j (.int .i64 ((f j).getD 0));rw [Xy,<-hzv,HLS.out]at bs;have hw5:IntKind.i64.wrap ((j:Int)+1)=j+1:=IntWalk.i64_in _ (by omega);(have hj0:(0:Int)<=j:=by omega);have hkey:(Lit.int .i64 (j:Int)).wf=true:=Q07 (by omega);rw [hzv]at bs;have BS:=hd_ bs;clear bs hzv;go_wp2_with (at_lookup;refine Ky _ rfl _ _ 356 rfl 3 3 underlying3 underlying356 underlying3 (zeroValue3 _) M _ cnt f rfl imy (j:Nat) rfl hkey ?_);go_roundg (gk-1)
         case measure=>have:=HJ.out;omega
         case rel=>exact⟨j+1,by have:=HJ.out;omega,by go_num,BS.out,UY.setCell (p:=⟨G,j,none⟩) (λ_=>rfl) _⟩
       (obtain rfl:j=s:=by have:=HJ.out;omega);(have hly:VR Z j=Z:=by have:=Q9L Z;rw [HZS.out]at this;exact this);rw [hly]at BGJ;go_wp2_with fail;(have hKy:wr.heap[D]?=some (.deferred (some [])):=by rw [UY.block D (by have:=(Array.getElem?_eq_some_iff.1 HK6.out).1;exact this) (by omega)];exact HK6.out);refine⟨by simp,.inl ⟨_,_,rfl,run_takeDeferred hKy,?_⟩⟩;refine⟨_,results_tmp2 rfl _ _ _,?_⟩;have u7:Upd (λb=>b=D) wr (wr.putObj D (.deferred none)):=(Upd.refl (λb=>b=D) wr).grown (grownBy_putObj' wr D _) (λk e _=>by injection e with e;exact e.symm);have r7:=Blk.rdg (BGJ.upd u7 (by omega)) rfl;refine hR.out _ _ ⟨G,by rw [<-HS.out];rfl,?_,by have:=HH.out;have:=HMM.out;have h1:=F1.size;omega,?_⟩
       . have e7:Z.length=2^p:=by rw [HZS.out,HS.out]
         rw [e7,HZ.out]at r7;exact r7
       exact((F1.trans' HFW.out).trans UY.out (λb hb h=>by have:=F1.size;have:=HMM.out;omega)).trans u7 (λb hb h=>by have:=F1.size;have:=HMM.out;omega)
   case stop =>
     rintro D c pre W _ _ h _;exact h.elim
theorem Q8A (F:Nat->Prop) (A:Option Addr) (n c:Nat) (lg:Int) (N:List Int) (w:World) (hr:Rd w F A n (Q7 N)) (hfit:Fit N) (hn:(n:Int)<=1099511627776) (hv:¬Yc lg N 256 9) :
   Calls prog 303 #[.agg #[.int .i64 lg,.slice A n c]] w λe w'=>e = .returned (.tuple #[.slice none 0 0,.int .i64 13])/\Q0 w w':=by
 obtain⟨w0,H,hw0,hH,f0,bt⟩:=al_ w 205 #[.int .i64 lg,.slice A n c];have hck:=Q2R F A n c lg 256 9 N w0 (hr.fresh f0) hfit hn;rw [if_neg hv]at hck;obtain⟨t0,t1⟩:=(bt).cells2;have HCK:=hd_ hck;have F0:=hd_ f0;have HW:=hd_ hw0;have HH:=hd_ hH;clear hr hw0 hH f0 bt hck hv;refine Q8 λR hR=>?_;refine(callsIn_wide (n:=3)).1 (callsIn_of_wp_marks func303 rfl trivial ?_ rfl);simp only [ntmps303,List.size_toArray,List.length_cons,List.length_nil,Nat.reduceAdd,Nat.reduceSub,Array.replicate_succ,Array.replicate_zero,List.push_toArray,List.append_toArray,List.nil_append,List.cons_append];refine wpIn_wide.2 ?_;go_upto_region 1 with fail;simp only [<-HH.out,<-HW.out];go_wp2_with fail;refine HCK.mono ?_;rintro e w1 ⟨rfl,f1⟩;have F1:=hd_ (F0.trans' f1);clear f1;go_wp2_with fail;exact⟨_,results_tmp2 rfl _ _ _,hR _ _ ⟨rfl,F1.out⟩⟩
theorem Q1s (F:Nat->Prop) (A:Option Addr) (n c:Nat) (lg:Int) (N:List Int) (w:World) (hr:Rd w F A n (Q7 N)) (hfit:Fit N) (hn:(n:Int)<=1099511627776) :
   Calls prog 303 #[.agg #[.int .i64 lg,.slice A n c]] w (ZU lg N w):=by
 by_cases hv:Yc lg N 256 9
 . obtain⟨p,rfl⟩:∃p:Nat,lg=p:=⟨lg.toNat,by have:=hv.1;omega⟩
   refine(Q8z F A n c p N w hr hfit hn hv).mono λe w' h=>?_;unfold ZU;rw [if_pos hv];exact h
 refine(Q8A F A n c lg N w hr hfit hn hv).mono λe w' h=>?_;unfold ZU;rw [if_neg hv];exact h
end Go.Proofs.YtckjdhaflokcgaaGreat
namespace Go.Proofs.YtckjdhaflokcgaaGreat
open Go.RowKit Go.Sort Go.Proofs.Tryz
def Q1a (l:List Oper):Bool:=l.all λo=>match o.op with | .defer _=>false|_=>true
theorem Q4c {l:List Oper} (h:Q1a l=true) {o:Oper} (ho:o∈l):∀c,o.op≠.defer c:=by
 intro c hc;have:=List.all_eq_true.1 h o ho;rw [hc]at this;simp at this
section
variable {F:Fence} {n:Nat} {P:Program} {ops:Array Oper} {md:Region.Mode}
theorem Q4d (hro:F.round=none) {o:Oper} (hnd:∀c,o.op≠.defer c) (ll:Nat) {a:Act} {w:World} {K:Act->World->Prop} {Q:Exit->Act->World->Prop} (h:o.wpIn F n P a w K Q):o.wpIn (F.inRound ll) n P a w K Q:=by
 obtain⟨h1,h2⟩:=h;refine⟨h1,?_⟩;rw [Oper.semAt_eq _ _ _ hnd];rw [hro,Oper.semAt_none]at h2;exact h2
theorem XM (hro:F.round=none) (hnd:Q1a ops.toList=true) (ll:Nat) {Q:Exit->Act->World->Prop}:∀(fuel:Nat) (listed:Array Bool) (a:Act) (w:World),wpAnyIn F n P md ops Q fuel listed a w->wpAnyIn (F.inRound ll) n P md ops Q fuel listed a w
 | 0,_,_,_,h=>h
 | fuel+1,listed,a,w,h=>by
   refine⟨h.1,λi hi=>?_⟩
   have h2:=wpOpIn_mono (λa' w' h'=>XM hro hnd ll fuel (listed.setIfInBounds i true) a' w' h') (h.2 i hi)
   unfold wpOpIn at h2|-
   cases ho:ops[i]? with
   | none=>rw [ho]at h2;exact h2
   | some o =>
     rw [ho]at h2
     simp only at h2|-
     split
     . next hw=>rw [if_pos hw]at h2;exact Q4d hro (Q4c hnd (by simpa using Array.mem_of_getElem? ho)) ll h2
     next hw=>rw [if_neg hw]at h2;exact h2
theorem Q1i {C:World->Prop} {id:Nat} {Q:Exit->Act->World->Prop} {a:Act} {w:World} {l:List Oper} (m:Nat) (hro:F.round=none) (ll:Nat) (hm:P.follows .mixedOrders=true) (hB:Region.lexTailB .any l.toArray m=true) (hnd:Q1a l=true) (hC:C { w with drawn:=w.drawn+1 })
   (h:wpQuietIn F n P l.toArray C (λa'=>∀w',C w'->wpListIn F n P l.toArray Q (l.drop m) a' w') (l.take m) a):(Code.region id l.toArray true).wpIn (F.inRound ll) n P Q a w:=by
 simp only [Region.lexTailB,Bool.and_eq_true,decide_eq_true_eq]at hB;obtain⟨⟨⟨⟨hsel,hn⟩,hs⟩,hc⟩,hlex⟩:=hB;(have hn':m<l.length:=by simpa using hn);(have htl:(l.take m).length=m:=by rw [List.length_take];omega);(have hdl:(l.drop m).length=l.toArray.size-m:=by simp)
 have inv0:HeadInv .any l.toArray m (Array.replicate l.toArray.size false) :=
   ⟨by simp,λj oj _ hl=>(by rw [getD_replicate_false]at hl;cases hl),λt _ ht=>getD_in (by simpa using ht) (getD_replicate_false _ _)⟩
 have H:=Q0I (md:=.any) (g:=l.toArray.size-m) hsel hs hc hn (l.take m) 0 _ a (λj hj=>by
   (have:j<m:=by omega)
   simp [this]) (by omega) inv0 (by rw [htl];exact hlex) h
 refine wpIn_region_any hm (XM hro (by simpa using hnd) ll _ _ _ _ ?_)
 have hq:=X3 (Q:=Q) (g:=l.toArray.size-m) hro (λl' a' w' hw hL=>by
   have:=Kj (F:=F) (n:=n) (md:=.any) (Q':=Q) (l.drop m) m l' a' w' (λj=>by simp [List.getElem?_drop]) (by rw [hdl];exact hL.1) (hL.2 w' hw)
   rwa [hdl]at this) _ _ _ { w with drawn:=w.drawn+1 } hC H
 rw [htl,show m+(l.toArray.size-m)=l.toArray.size by omega]at hq;exact hq
end
end Go.Proofs.YtckjdhaflokcgaaGreat
namespace Go.Proofs.YtckjdhaflokcgaaGreat
open Go.RowKit Go.Proofs.Tryz
theorem Q5B {F:Fence} {n:Nat} {P:Program} {Q:Exit->Act->World->Prop} {a:Act} {w:World} {c:Code} (h:c.wpIn F n P (Exit.noGoto Q) a w):(Code.scope c).wpIn F n P Q a w:=by
 intro b k cs hro hb hr;have h0:(lone (b.atR a (.code (.scope c)::k)) cs w).fenced P F:=fenced_calm hb hr rfl;have s0:step P (lone (b.atR a (.code (.scope c)::k)) cs w) = .next (lone (b.atR a (.code c :: .inScope c::k)) cs w):=step_lone_go (by simp [stepG,stepG.exec,Frame.atR]);obtain⟨e,a₁,w₁,hq,harr⟩:=h b (.inScope c::k) cs hro hb hr
 cases e with
 | normal =>
   have s1:step P (lone (b.atR a₁ (.inScope c::k)) cs w₁) = .next (lone (b.atR a₁ k) cs w₁):=step_lone_go (by simp [stepG,stepG.exec,Frame.atR]);exact⟨.normal,a₁,w₁,hq,.head h0 s0 (StepsIn.trans harr (.one (fenced_calm hb hr rfl) s1))⟩
 | exit id=>exact⟨.exit id,a₁,w₁,hq,λk' hk=>.head h0 s0 (harr.1 k' (by simp [exitTo,hk])),λhr2 hk=>let ⟨k₁,h1,h2⟩:=harr.2 hr2 (by simp [exitTo,hk]);⟨k₁,h1,.head h0 s0 h2⟩⟩
 | goto l=>exact hq.elim
 | ret=>exact⟨_,a₁,w₁,hq,.of_steps (.one h0 s0) harr⟩
 | panic ch=>exact⟨_,a₁,w₁,hq,.of_steps (.one h0 s0) harr⟩
 | outgrown=>exact⟨_,a₁,w₁,hq,.of_steps (.one h0 s0) harr⟩
end Go.Proofs.YtckjdhaflokcgaaGreat
