/-
  Joined texts, part 4: contracts and plain lemmas.
  Conditions: none beyond those of each theorem.
-/
import Derived.Test.YtakjpcnhhkgfoaaGreatRows
import Derived.Test.YtakjpcnhhkgfoaaGreatM3
import Derived.Test.YtakjpcnhhkgfoaaGreatM1
set_option maxHeartbeats 4000000
set_option linter.unusedVariables false
set_option linter.unusedSimpArgs false
set_option maxRecDepth 100000
universe u
namespace Go.Proofs.YtakjpcnhhkgfoaaGreat
open Go.RowKit
theorem QK:(Tryz.prog.info? 5).map (fun i=>(i.zero,i.size,i.bytes))=some (some (.int .u8 0),1,1):=by kernel_rfl
theorem Yj {k:IntKind} {a b:Int} (h:a=b):Ending.returned (.int k a) = .returned (.int k b):=by rw [h]
def Jt (w:World) (S:Nat->Prop) (g:Nat) (l:List Bool):Prop :=
  ∃(v n:Nat) (sv:Value) (bs:List Nat),Blk w g 332 #[.int .u64 v,.int .i64 n,sv]/\Own w 5 sv (bs.map fun b=>.int .u8 (b:Nat))/\n<8/\v<2^n /\
    (∀b∈bs,b<256)/\l=Qs bs++Q9 n v/\S g/\∀k,sv.ownBlock=some k->S k
def JC (w:World) (S:Nat->Prop) (g:Nat) (l:List Bool) (n:Nat):Prop :=
  ∃(v:Nat) (sv:Value) (bs:List Nat),Blk w g 332 #[.int .u64 v,.int .i64 n,sv]/\Own w 5 sv (bs.map fun b=>.int .u8 (b:Nat))/\v<2^n /\
    (∀b∈bs,b<256)/\l=Qs bs++Q9 n v/\S g/\∀k,sv.ownBlock=some k->S k
theorem Qp {F:Nat->Prop} (A:Option Addr) (n c:Nat) (xs:List Value) (w:World) (hr:Rd w F A n xs) (h1:∀u∈xs,u.oneCell'=true) (hn:n<=2^40) :
   Calls Tryz.prog 34 #[.slice A n c] w fun e w'=>∃v,e = .returned v/\Own w' 5 v xs/\Q0 w w'/\∀k,v.ownBlock=some k->w.heap.size<=k:=by
 have q:∀(w:World) (a:Option Addr) (n c n' c':Nat),(binOp .eql 22 (.slice a n c) (.slice none n' c')).run Tryz.prog w = .ok (.bool a.isNone) w :=
   fun w a n c n' c'=>Lib.run_eql_slice_nil w _ _ a n c n' c' Tryz.underlying22
 rcases A with _|ad
 . have hx:n=0:=by
     rcases Nat.eq_zero_or_pos n with h|h
     . exact h
     obtain⟨_,_,h,_⟩:=hr.2 h;cases h
   subst hx;have hxs:xs=[]:=List.eq_nil_of_length_eq_zero hr.1;subst hxs;go_enter Tryz.func34,Tryz.ntmps34;go_wp2;go_ret;exact⟨_,rfl,Own.nil _ _,Upd.refl _ _,by simp [Value.ownBlock]⟩
 have o0:Own (w.alloc (.cells #[] 5)) 5 (.slice (some ⟨w.heap.size,0,none⟩) 0 0) []:=World.ownsRow_made w #[] 0 (Nat.zero_le _) (by simp [maxLen]) (by simp);have hlen:n<=1099511627776:=hn;clear hn;go_enter Tryz.func34,Tryz.ntmps34;go_wp2_with (at_builtin;go_must (refine QL _ rfl (.tmp 5) (.tmp 6) _ rfl 5 _ 1 Tryz.underlying22 QK rfl _ [] rfl o0 _ n _ _ rfl (hr.alloc _) h1 (by omega) (by simpa using hlen) ?_));intro v' w1 o1 g1 a1;go_wp2;go_ret;exact⟨v',rfl,by simpa using o1,((Upd.refl _ _).alloc _).grown g1 (fun k hk hlt=>by simp [Value.ownBlock]at hk;omega),Yr (S:=fun k=>w.heap.size<=k) a1 (fun k hk=>by simp [Value.ownBlock]at hk;omega) (by simp)⟩
def Ju (n:Int):Int:=if n<0 then -n else n
def Jv (l:List Int):Int:=l.foldr (fun n s=>Ju n+s) 0
def J9 (lg:Int) (N:List Int) (sy lb:Int):Prop :=
  0<=lg/\lg<=lb/\lg<=9/\0<N.length/\(N.length:Int)<=sy/\N[N.length-1]?≠some 0/\(∀n∈N,-1<=n)/\Jv N=2^lg.toNat
instance (lg:Int) (N:List Int) (sy lb:Int):Decidable (J9 lg N sy lb):=by unfold J9;infer_instance
def QV (N:List Int):List Value:=N.map (Value.int .i64)
@[simp] theorem Jo (N:List Int):(QV N).length=N.length:=by simp [QV]
def Fit (N:List Int):Prop:=∀n∈N,-9223372036854775808<=n/\n<=9223372036854775807
def Jp (w:World) (F:Nat->Prop) (g:Nat) (bs:List Nat) (fr:Nat):Prop :=
  ∃(A:Option Addr) (c:Nat),Blk w g 318 #[.slice A bs.length c,.int .i64 fr,.int .i64 (8*bs.length:Nat)]/\Rd w F A bs.length (bs.map fun b=>.int .u8 (b:Nat)) /\
    (∀b∈bs,b<256)/\fr<=8*bs.length/\bs.length<=2^32
def JM (fr:Nat):Nat:=(8-fr%8)%8
def Q3 (w:World) (F:Nat->Prop) (g:Nat) (bs:List Nat) (at_:Nat):Prop :=
  ∃(A:Option Addr) (c:Nat),Blk w g 77 #[.slice A bs.length c,.int .i64 at_]/\Rd w F A bs.length (bs.map fun b=>.int .u8 (b:Nat)) /\
    (∀b∈bs,b<256)/\at_<=bs.length/\bs.length<=2^32/\bs.length<=c
theorem Q3.upd {w w':World} {F S:Nat->Prop} {g:Nat} {bs:List Nat} {at_:Nat} (h:Q3 w F g bs at_) (hu:Upd S w w') (hg:¬S g) (hF:∀b,b<w.heap.size->F b->¬S b):Q3 w' F g bs at_:=by
 obtain⟨A,c,hb,hr,r⟩:=h;exact⟨A,c,hb.upd hu hg,hr.upd hu hF,r⟩
theorem Q3.fresh {w w':World} {F:Nat->Prop} {g:Nat} {bs:List Nat} {at_:Nat} (h:Q3 w F g bs at_) (hu:Q0 w w'):Q3 w' F g bs at_:=h.upd hu (fun h=>h) (fun _ _ _ h=>h)
theorem Q3.both {w:World} {F:Nat->Prop} {g:Nat} {bs:List Nat} {at_:Nat} (h:Q3 w F g bs at_):Q3 w (fun b=>F b/\b<w.heap.size) g bs at_:=by
 obtain⟨A,c,hb,hr,r⟩:=h;exact⟨A,c,hb,hr.both,r⟩
theorem Q3.mono {w:World} {F G:Nat->Prop} {g:Nat} {bs:List Nat} {at_:Nat} (h:Q3 w F g bs at_) (hG:∀b,F b->G b):Q3 w G g bs at_:=by
 obtain⟨A,c,hb,hr,r⟩:=h;exact⟨A,c,hb,hr.mono hG,r⟩
theorem Q3.lt {w:World} {F:Nat->Prop} {g:Nat} {bs:List Nat} {at_:Nat} (h:Q3 w F g bs at_):g<w.heap.size:=by
 obtain⟨A,c,hb,_⟩:=h;exact hb.lt
theorem Yh (F:Nat->Prop) (A:Option Addr) (n c:Nat) (bs:List Nat) (w:World) (hr:Rd w F A n (bs.map fun b=>.int .u8 (b:Nat))) (hlt:∀b∈bs,b<256) (hlen:bs.length<=2^32) :
   Calls Tryz.prog 13 #[.slice A n c] w fun e w'=>∃g,e = .returned (.pointer (some ⟨g,0,none⟩))/\w.heap.size<=g/\Q0 w w' /\
     Q3 w' (fun k=>w.heap.size<=k/\k≠g) g bs 0:=by
 (have hn:n=bs.length:=by have:=hr.1;simpa using this.symm);subst hn;have hk:=Qp A bs.length c _ w hr (by simp [Value.oneCell']) (by omega);have HK:=hd_ hk;clear hk hr;refine Q6 fun R hR=>?_;go_enter Tryz.func13,Tryz.ntmps13;go_wp2_with fail;refine HK.out.mono ?_;rintro e w1 ⟨v,rfl,o1,f1,k1⟩;obtain⟨A',n',c',rfl,hn'⟩:=o1.form';have hrd:=(o1.rd rfl).2.2;have hcap:=(o1.rd rfl).2.1;have HC:=hd_ hcap;(have hn2:n'=bs.length:=by simpa using hn'.out);have HN:=hd_ hn2;clear hn2 hn' hcap;go_wp2;(try go_ret);have:=HN.out;subst this;refine hR.out _ _ ⟨w1.heap.size,rfl,f1.size,f1.alloc _,A',c',?_,?_,hlt,by omega,hlen,by simpa using HC.out⟩
 . have:=Blk.new w1 77 #[.slice A' bs.length c',.int .i64 0]
   simpa using this
 have h2:=hrd.alloc (.cells #[.slice A' bs.length c',.int .i64 0] 77);refine⟨by simp,fun h=>?_⟩;obtain⟨b,o,hA,hb,hbs,hc⟩:=h2.2 (by simpa using h);exact⟨b,o,hA,⟨k1 b hb,by have:=o1.lt hb;omega⟩,hbs,fun j hj=>hc j (by simpa using hj)⟩
theorem Qt (F:Nat->Prop) (g:Nat) (bs:List Nat) (at_:Nat) (w:World) (hc:Q3 w F g bs at_) :
   Calls Tryz.prog 36 #[.pointer (some ⟨g,0,none⟩)] w fun e w'=>e = .returned (.int .i64 (bs.length-at_:Nat))/\∃k,w'=w.drewN k:=by
 obtain⟨A,c,hb,hr,hlt,hat,hlen,hcap⟩:=hc;obtain⟨hc0,hc1⟩:=(hb).cells2;(have i1:(bs.length:Int)<=4294967296:=by omega);(have e1:((bs.length-at_:Nat):Int)=bs.length-at_:=by omega);have E1:=hd_ e1;clear e1 hb hr;refine Q6 fun R hR=>?_;go_enter Tryz.func36,Tryz.ntmps36;go_wp2;go_quiet (fail);go_wp2;(try go_ret);exact hR.out _ _ ⟨Yj (by rw [E1.out]),_,rfl⟩
theorem Y6 (F:Nat->Prop) (g:Nat) (bs:List Nat) (at_ n:Nat) (w:World) (hc:Q3 w F g bs at_) (hn:n<=2^32) :
   Calls Tryz.prog 23 #[.pointer (some ⟨g,0,none⟩),.int .i64 n] w fun e w'=>∃v,e = .returned v/\Own w' 5 v (((bs.drop at_).take n).map fun b=>.int .u8 (b:Nat))/\Q0 w w' /\
     ∀k,v.ownBlock=some k->w.heap.size<=k:=by
 have hl:=Qt F g bs at_ w hc;obtain⟨A,c,hb,hr,hlt,hat,hlen,hcap⟩:=hc;obtain⟨hc0,hc1⟩:=(hb).cells2;obtain⟨k,hk⟩:=nm_ (min n (bs.length-at_));(have hcase:((n:Int)=k/\(k:Int)<=((bs.length-at_:Nat):Int))\/(((bs.length-at_:Nat):Int)=k/\(k:Int)<n):=by omega);have hcut:=(hr.take (k:=at_+k) (by omega)).cut (k:=at_) (cap:=c) (by omega) (by omega)
 have hdt:((bs.map fun b=>Value.int .u8 (b:Nat)).take (at_+k)).drop at_=((bs.drop at_).take n).map fun b=>Value.int .u8 (b:Nat):=by
   rw [List.drop_take,<-List.map_drop,<-List.map_take,show at_+k-at_=k by omega,hk]
   congr 1
   by_cases h:n<=bs.length-at_
   . rw [Nat.min_eq_left h]
   rw [Nat.min_eq_right (by omega),List.take_of_length_le (by simp),List.take_of_length_le (by simp;omega)]
 rw [hdt,show at_+k-at_=k by omega]at hcut;(have i1:(bs.length:Int)<=4294967296:=by omega);(have i2:(at_:Int)+k<=bs.length:=by omega);(have i3:(bs.length:Int)<=c:=by omega);have HL:=hd_ hl;have HC:=hd_ hcut
 have hxs1:∀u∈((bs.drop at_).take n).map (fun b=>Value.int .u8 (b:Nat)),u.oneCell'=true:=by
   intro u hu;obtain⟨_,_,rfl⟩:=List.mem_map.1 hu;rfl
 generalize ((bs.drop at_).take n).map (fun b=>Value.int .u8 (b:Nat))=XS at *;have HB:=hd_ hb;clear hl hcut hdt hk hb hr;generalize bs.length-at_=D at *;have hw1:IntKind.i64.wrap ((at_:Int)+k)=at_+k:=IntWalk.i64_in _ (by omega);refine Q6 fun R hR=>?_;(have hkk:((n=k/\k<=D)\/(D=k/\k<n)):=by omega);clear hcase;rcases hkk with ⟨hq,hkd⟩|⟨hq,hkd⟩;(all_goals have hq:=hq.symm);(all_goals subst hq)
 all_goals
   go_enter Tryz.func23,Tryz.ntmps23;go_wp2_with fail;refine HL.out.mono ?_;rintro e W ⟨rfl,kk,hW⟩;(have hb1:Blk W g 77 #[.slice A bs.length c,.int .i64 at_]:=by rw [hW];exact HB.out.drewN kk);have hc0':=hb1.cell 0;have hc1':=hb1.cell 1;simp only [List.getElem?_toArray,List.getElem?_cons_succ,List.getElem?_cons_zero]at hc0' hc1';(have f1:Q0 w W:=by rw [hW];exact(Upd.refl _ _).drewN kk);clear hW hb1;go_wp2_with fail;(have s1:(0:Int)<=at_:=by omega);(have s2:(at_:Int)<=at_+k:=by omega);(have s3:(at_:Int)+k<=c:=by omega);(have s4:((at_:Int)+k).toNat=at_+k:=by omega);go_still_tail 15,(by kernel_rfl);change wpList _ _ _ _ _ W.drew;go_wp2_with fail
   all_goals
     have hrd:=HC.out
     first
       | rw [if_neg (by omega)]at hrd
       | rw [if_pos (by omega)]at hrd
     refine(Qp _ _ _ _ W.drew (hrd.fresh f1).drew hxs1 (by omega)).mono ?_;rintro e w2 ⟨v,rfl,o2,f2,k2⟩;go_wp2;(try go_ret);exact hR.out _ _ ⟨v,rfl,o2,f1.drew.trans' f2,fun b hb=>Nat.le_trans f1.size (k2 b hb)⟩
theorem YG {w:World} {F:Nat->Prop} {A:Option Addr} {bs:List Nat} {c at_ k:Nat} (hr:Rd w F A bs.length (bs.map fun b=>.int .u8 (b:Nat))) (hk:at_+k<=bs.length) (hc:bs.length<=c) :
   Rd w F (if c=at_ then A else A.map (·.add at_)) k (((bs.drop at_).take k).map fun b=>.int .u8 (b:Nat)):=by
 have hcut:=(hr.take (k:=at_+k) hk).cut (k:=at_) (cap:=c) (by omega) (by omega)
 rwa [List.drop_take,<-List.map_drop,<-List.map_take,show at_+k-at_=k by omega]at hcut
theorem Ys (l:List Nat):∀u∈l.map (fun b=>Value.int .u8 (b:Nat)),u.oneCell'=true:=by
 intro u hu;obtain⟨_,_,rfl⟩:=List.mem_map.1 hu;rfl
theorem YH (F:Nat->Prop) (g pn pc:Nat) (bs:List Nat) (at_ k:Nat) (w:World) (hcu:Q3 w F g bs at_) (hk:at_+k<=bs.length)
   (bn:Blk w pn 3 #[.int .i64 k]) (bc:Blk w pc 43 #[.pointer (some ⟨g,0,none⟩)]) (hF:∀b,F b->b≠g) :
   Calls Tryz.prog 40 #[.pointer (some ⟨pn,0,none⟩),.pointer (some ⟨pc,0,none⟩)] w fun e w'=>∃v,e = .returned (.tuple #[v,.int .i64 0]) /\
     Own w' 5 v (((bs.drop at_).take k).map fun b=>.int .u8 (b:Nat))/\Upd (fun b=>b=g) w w'/\Q3 w' F g bs (at_+k)/\∀b,v.ownBlock=some b->w.heap.size<=b:=by
 have hl:=fun j=>Qt F g bs at_ (w.drewN j) hcu;obtain⟨A,c,hb,hr,hlt,hat,hlen,hcap⟩:=hcu;have hn:=bn.cell0;have hc:=bc.cell0;(have i1:(k:Int)<=((bs.length-at_:Nat):Int):=by omega);(have i2:(bs.length:Int)<=4294967296:=by omega);(have i3:(at_:Int)+k<=bs.length:=by omega);have hx1:=Ys ((bs.drop at_).take k);have HL:=hd_ hl;have HB:=hd_ hb;have HR:=hd_ hr;have HBN:=hd_ bn;have HBC:=hd_ bc;clear hl hb hr bn bc;generalize bs.length-at_=D at *;refine Q6 fun R hR=>?_;go_enter Tryz.func40,Tryz.ntmps40;go_wp2_with fail;go_quiet ((go_at_call 36;exact Calls.quiet_of (HL.out _)));have f1:Q0 w (w.drewN nq):=(Upd.refl _ _).drewN nq;generalize w.drewN nq=W at *;have b1:=HB.out.fresh f1;have bn1:=HBN.out.fresh f1;have bc1:=HBC.out.fresh f1;have hn1:=bn1.cell0;have hcc1:=bc1.cell0;have hc1':=b1.cell 1;have hf1':=b1.frozen 1;simp only [List.getElem?_toArray,List.getElem?_cons_succ,List.getElem?_cons_zero]at hc1';have B1:=hd_ b1;have BN1:=hd_ bn1;have BC1:=hd_ bc1;clear b1 bn1 bc1;have s0:IntKind.i64.wrap ((at_:Int)+k)=at_+k:=IntWalk.i64_in _ (by omega);go_wp2_with fail;go_still_tail 8,(by kernel_rfl);change wpList _ _ _ _ _ W.drew;go_wp2_with fail;have b2:=(B1.out.set_ 1 (.int .i64 ((at_:Int)+k))).drew;have u2:Upd (fun b=>b=g) w (W.setCell ⟨g,1,none⟩ (.int .i64 ((at_:Int)+k))).drew:=((f1.mono (T:=fun b=>b=g) (fun _ _ h=>h.elim)).setCell (p:=⟨g,1,none⟩) (fun _=>rfl) _).drew;have bn2:=(BN1.out.far (p:=⟨g,1,none⟩) (BN1.out.ne_ B1.out (by decide)) (.int .i64 ((at_:Int)+k))).drew;have bc2:=(BC1.out.far (p:=⟨g,1,none⟩) (BC1.out.ne_ B1.out (by decide)) (.int .i64 ((at_:Int)+k))).drew;generalize (W.setCell ⟨g,1,none⟩ (.int .i64 ((at_:Int)+k))).drew=W2 at *;have hn2:=bn2.cell0;have hcc2:=bc2.cell0;have hc2:=b2.cell 1;have hc20:=b2.cell 0;simp at hc2 hc20;have B2:=hd_ b2;clear b2 bn2 bc2 hn1 hcc1 hc1' hf1';(have s5:(at_:Int)+k-k=at_:=by omega);have s6:IntKind.i64.wrap (at_:Int)=at_:=IntWalk.i64_in _ (by omega);(have s1:(0:Int)<=at_:=by omega);(have s2:(at_:Int)<=at_+k:=by omega);(have s3:(at_:Int)+k<=c:=by omega);(have s4:((at_:Int)+k).toNat=at_+k:=by omega);go_still_tail 15,(by kernel_rfl);change wpList _ _ _ _ _ W2.drew;go_wp2_with fail
 all_goals
   have hrd:=YG (c:=c) (HR.out.upd u2 (fun b _ hb e=>hF b hb e)).drew hk hcap
   first
     | rw [if_neg (by omega)]at hrd
     | rw [if_pos (by omega)]at hrd
   refine(Qp _ _ _ _ W2.drew hrd hx1 (by omega)).mono ?_;rintro e w3 ⟨v,rfl,o3,f3,k3⟩;go_wp2;(try go_ret2);refine hR.out _ _ ⟨v,rfl,o3,u2.drew.trans f3 (fun _ _ h=>h.elim),⟨A,c,?_,?_,hlt,hk,hlen,hcap⟩,fun b hb=>Nat.le_trans u2.drew.size (k3 b hb)⟩
   . have:=B2.out.drew.fresh f3
     simpa using this
   exact(HR.out.upd u2 (fun b _ hb e=>hF b hb e)).drew.fresh f3
theorem Yt (pe pf px pc:Addr) (u:FrameMode) (w:World) (he:w.cell? pe=some (.int .i64 0)) :
   CallsD Tryz.prog 49 #[.pointer (some pe),.pointer (some pf),.pointer (some px),.pointer (some pc)] u w fun e u' w'=>u'=u/\(e = .returned (.tuple #[])/\w'=w):=by
 go_enter_d Tryz.func49,Tryz.ntmps49;go_wp2;go_end0;exact⟨rfl,rfl⟩
theorem Jg (F:Nat->Prop) (g pn pc:Nat) (bs:List Nat) (at_ k:Nat) (w:World) (hcu:Q3 w F g bs at_) (hk:at_+k<=bs.length)
   (bn:Blk w pn 3 #[.int .i64 k]) (bc:Blk w pc 43 #[.pointer (some ⟨g,0,none⟩)]) (hF:∀b,F b->b≠g) :
   Calls Tryz.prog 39 #[.pointer (some ⟨g,0,none⟩),.func (.func 40) #[] #[.pointer (some ⟨pn,0,none⟩),.pointer (some ⟨pc,0,none⟩)]] w fun e w' =>
     ∃v,e = .returned (.tuple #[v,.int .i64 0]) /\
     Own w' 5 v (((bs.drop at_).take k).map fun b=>.int .u8 (b:Nat))/\Upd (fun b=>b=g) w w'/\Q3 w' F g bs (at_+k)/\∀b,v.ownBlock=some b->w.heap.size<=b:=by
 have hmf:∀(fn:Fn) (first cap:Array Value) (w:World),(Instr.makeFunc fn first cap).run Tryz.prog w = .ok (.func fn first cap) w:=fun _ _ _ _=>rfl;have hg:=hcu.lt
 have hat:w.cell? ⟨g,1,none⟩=some (.int .i64 at_):=by
   obtain⟨A,c,hb,_⟩:=hcu;simpa using hb.cell 1
 have HCU:=hd_ hcu;have HBN:=hd_ bn;have HBC:=hd_ bc;clear hcu bn bc;(have hg1:g<w.heap.size+1:=by omega);(have hg2:g<w.heap.size+1+1:=by omega);(have hg3:g<w.heap.size+1+1+1:=by omega);refine Q6 fun R hR=>?_;go_enter_defers Tryz.func39,Tryz.ntmps39;go_wp2_with fail;obtain⟨H,hH⟩:=nm_ (w.heap.size);rw [<-hH]at hg hg1 hg2 hg3;simp only [<-hH];obtain⟨W0,hW0⟩:=nm_ ((((w.alloc (.cells #[.pointer (some ⟨g,0,none⟩)] 43)).alloc (.cells #[.slice none 0 0] 22)).alloc (.cells #[.int .i64 0] 29)).alloc (.cells #[.int .i64 at_] 3));rw [<-hW0];(have f0:Q0 w W0:=by rw [hW0];exact((((Upd.refl _ w).alloc _).alloc _).alloc _).alloc _);(have k1:Blk W0 (H+1) 22 #[.slice none 0 0]:=by rw [hW0];exact((Q2 (by simp [hH]) _ _).alloc _).alloc _);(have k2:Blk W0 (H+1+1) 29 #[.int .i64 0]:=by rw [hW0];exact(Q2 (by simp [hH]) _ _).alloc _);clear hW0;have HH:=hd_ hH;clear hH;refine(YH (fun b=>F b/\b<w.heap.size) g pn pc bs at_ k W0 (HCU.out.both.fresh f0) hk (HBN.out.fresh f0) (HBC.out.fresh f0) (fun b hb=>hF b hb.1)).mono ?_;rintro e w1 ⟨v,rfl,o1,u1,c1,kf⟩;have KF:=hd_ (fun b hb=>Nat.le_trans f0.size (kf b hb));clear kf;obtain⟨A1,n1,c1',rfl,hn1⟩:=o1.form';have j1:=k1.upd u1 (by omega);have j2:=k2.upd u1 (by omega);have uu:Upd (fun b=>b=g) w w1:=(f0.mono (fun _ _ h=>h.elim)).trans' u1;have d1:=j1.cell0;have d2:=j2.cell0;have z1:=j1.frozen 0;have z2:=j2.frozen 0;have J1:=hd_ j1;have J2:=hd_ j2;have HO:=hd_ o1;have HC1:=hd_ c1;clear j1 j2 k1 k2 o1 c1 hn1;go_wp2;have L1:=(J1.out.set_ 0 (.slice A1 n1 c1')).far (p:=⟨H+1+1,0,none⟩) (by simp) (.int .i64 0);have L2:=(J2.out.far (p:=⟨H+1,0,none⟩) (by simp) (.slice A1 n1 c1')).set_ 0 (.int .i64 0);have hd2:=L2.cell0;have hd1:=L1.cell0;change Leaves _ _ _ _ _ _ _;refine leaves_cons (f:=49) (args:=#[.pointer (some ⟨H+1+1,0,none⟩),.pointer (some ⟨H+1+1+1,0,none⟩),.pointer (some ⟨H+1,0,none⟩),.pointer (some ⟨H,0,none⟩)]) (by simp) (by simp [go_sem]) ?_;refine(Yt _ _ _ _ .returning _ hd2).mono ?_;rintro e u' w'' ⟨rfl,rfl,rfl⟩;refine⟨.tuple #[.slice A1 n1 c1',.int .i64 0],?_,hR.out _ _ ⟨_,rfl,?_,?_,?_,KF.out⟩⟩
 . simp [results,Tryz.results39,go_sem,hd1,hd2]
 . exact(HO.out.far (p:=⟨H+1,0,none⟩) (HO.out.ne_blk J1.out (by decide)) _).far (p:=⟨H+1+1,0,none⟩) (HO.out.ne_blk J2.out (by decide)) _
 . exact(uu.setCell (p:=⟨H+1,0,none⟩) (fun h=>by have:=HH.out;simp at h;omega) _).setCell (p:=⟨H+1+1,0,none⟩) (fun h=>by have:=HH.out;simp at h;omega) _
 have m1:=HC1.out.upd (S:=fun b=>b=H+1) ((Upd.refl (fun b=>b=H+1) _).setCell (p:=⟨H+1,0,none⟩) (fun _=>rfl) (.slice A1 n1 c1')) (by omega) (fun b _ hb e=>by have:=hb.2;have:=HH.out;omega);have m2:=m1.upd (S:=fun b=>b=H+1+1) ((Upd.refl (fun b=>b=H+1+1) _).setCell (p:=⟨H+1+1,0,none⟩) (fun _=>rfl) (.int .i64 0)) (by omega) (fun b _ hb e=>by have:=hb.2;have:=HH.out;omega);exact m2.mono fun b hb=>hb.1
theorem Qi (F:Nat->Prop) (g:Nat) (bs:List Nat) (at_ k:Nat) (w:World) (hcu:Q3 w F g bs at_) (hk:at_+k<=bs.length) (hF:∀b,F b->b≠g) :
   Calls Tryz.prog 28 #[.pointer (some ⟨g,0,none⟩),.int .i64 k] w fun e w'=>∃v,e = .returned (.tuple #[v,.int .i64 0]) /\
     Own w' 5 v (((bs.drop at_).take k).map fun b=>.int .u8 (b:Nat))/\Upd (fun b=>b=g) w w'/\Q3 w' F g bs (at_+k)/\∀b,v.ownBlock=some b->w.heap.size<=b:=by
 have hmf:∀(fn:Fn) (first cap:Array Value) (w:World),(Instr.makeFunc fn first cap).run Tryz.prog w = .ok (.func fn first cap) w:=fun _ _ _ _=>rfl;obtain⟨H,hH⟩:=nm_ (w.heap.size)
 have hr:=Jg F g (H+1) H bs at_ k ((w.alloc (.cells #[.pointer (some ⟨g,0,none⟩)] 43)).alloc (.cells #[.int .i64 k] 3)) (hcu.fresh (((Upd.refl _ w).alloc _).alloc _)) hk
   (Q2 (by simp [hH]) _ _) ((Q2 hH _ _).alloc _) hF
 rw [hH]at hr;have HR:=hd_ hr;clear hr hcu hH H;refine Q6 fun R hR=>?_;go_enter Tryz.func28,Tryz.ntmps28;go_wp2_with fail;refine HR.out.mono ?_;rintro e w1 ⟨v,rfl,o1,u1,c1,kf⟩;go_wp2;(try go_ret2);refine hR.out _ _ ⟨v,rfl,o1,?_,c1,fun b hb=>by have:=kf b hb;simp at this;omega⟩;exact(((Upd.refl (fun b=>b=g) w).alloc _).alloc _).trans' u1
def Jw (R M:List Int) (k:Nat):List Int:=R.take k++M.drop k
def JN (B:List Int) (k:Nat):List Int:=Jw B (List.replicate B.length 0) k

section
variable {P:Program} (w:World)
theorem J0 {F:Nat->Prop} (t ty e:TypeId) (z:Value) (Q1:Nat) (ht:P.underlying t=some (.slice e)) (hi:(P.info? e).map (fun i=>(i.zero,i.size,i.bytes))=some (some z,1,Q1)) (hzs:z.cells.size=1)
   (v:Value) (xs:List Value) (hown:Own w e v xs) (A:Option Addr) (m c:Nat) (news:List Value) (hr:Rd w F A m news) (h1:∀u∈news,u.oneCell'=true)
   (hlen:xs.length+m<=2^47) (hlb:(xs.length+m)*Q1<=140737488355328) :
   ∃v' w',(Builtin.append_ #[t,t] ty #[v,.slice A m c]).run P w = .ok v' w'/\Own w' e v' (xs++news)/\w.grownBy w' v.ownBlock /\
     (v'.ownBlock=v.ownBlock\/v'.ownBlock=some w.heap.size):=by
 obtain⟨i,hi0,hz,hsize,hby⟩:=info_parts hi;have hm:=hr.1;(have h63:xs.length+m<=maxLen:=by simp only [maxLen];omega);have hbytes:=hlb;rcases Nat.eq_zero_or_pos m with h0|h0
 . subst h0
   have hn:news=[]:=List.eq_nil_of_length_eq_zero hm;subst hn;rcases A with _|ad
   . refine⟨v,w,?_,by simpa using hown,World.grownBy.refl w _,.inl rfl⟩
     rcases hown.2 with ⟨rfl,h00⟩|⟨g,cap,cur,rfl,_,_,hnc,_⟩
     . simp [Builtin.append_,run_underlying ht,sizeOf,typeInfo,hi0,Builtin.lenOf,Builtin.firstCells]
     simp [Builtin.append_,run_underlying ht,sizeOf,typeInfo,hi0,Builtin.lenOf,Builtin.firstCells,hnc,storeCells]
   obtain⟨v',w',hrun,h2,h3,_,h5⟩:=run_append_own_at (P:=P) w 0 t ty e i z 1 Q1 ht hi0 hz hsize hby hzs (by omega) v xs.length xs hown ad 0 c [] (by simp) (by simp) h1 h63 hbytes (Nat.zero_le _);exact⟨v',w',hrun,by simpa [Own]using h2,h3,h5⟩
 obtain⟨b,o,rfl,_,_,hc⟩:=hr.2 h0
 obtain⟨v',w',hrun,h2,h3,_,h5⟩:=run_append_own_at (P:=P) w 0 t ty e i z 1 Q1 ht hi0 hz hsize hby hzs (by omega) v xs.length xs hown ⟨b,o,none⟩ m c news (by omega)
   (fun j u hu=>by
     (have hj:j<m:=by have:=(List.getElem?_eq_some_iff.1 hu).1;omega)
     rw [Addr.add_lit,hc j hj,hu]) h1 h63 hbytes (Nat.zero_le _)
 exact⟨v',w',hrun,by unfold Own;rw [List.length_append,hm];exact h2,h3,h5⟩
theorem Jh {F:Nat->Prop} {o:Oper} {a:Act} {K:Act->World->Prop} {Q:Exit->Act->World->Prop} (s x:Operand) (t:TypeId)
   (ho:o.op = .call { callee:=.builtin .append,args:=#[s,x],argTypes:=#[t,t] })
   (e:TypeId) (z:Value) (Q1:Nat) (ht:P.underlying t=some (.slice e)) (hi:(P.info? e).map (fun i=>(i.zero,i.size,i.bytes))=some (some z,1,Q1)) (hzs:z.cells.size=1)
   (v:Value) (xs:List Value) (hs:a.eval s=v) (hown:Own w e v xs) (A:Option Addr) (m c:Nat) (news:List Value) (hx:a.eval x = .slice A m c) (hr:Rd w F A m news) (h1:∀u∈news,u.oneCell'=true)
   (hlen:xs.length+m<=2^47) (hlb:(xs.length+m)*Q1<=140737488355328)
   (h:∀v' w',Own w' e v' (xs++news)->w.grownBy w' v.ownBlock->(v'.ownBlock=v.ownBlock\/v'.ownBlock=some w.heap.size)->K (a.put o.dst v') w'):o.wp P a w K Q:=by
 obtain⟨v',w',hrun,h2,h3,h4⟩:=J0 (P:=P) w t o.type e z Q1 ht hi hzs v xs hown A m c news hr h1 hlen hlb;unfold Oper.wp execOp;simp only [ho,resolve,invoke,builtin,Sem.run_bind,Sem.run_pure,Result.andThen_ok,List.map_toArray,List.map_cons,List.map_nil,hs,hx,hrun];exact h v' w' h2 h3 h4
theorem QA {F:Nat->Prop} {ops:Array Oper} {rest:List Oper} {o:Oper} {a:Act} {Q:Exit->Act->World->Prop} (hgd:o.guard=none) (s x:Operand) (t:TypeId)
   (ho:o.op = .call { callee:=.builtin .append,args:=#[s,x],argTypes:=#[t,t] })
   (e:TypeId) (z:Value) (Q1:Nat) (ht:P.underlying t=some (.slice e)) (hi:(P.info? e).map (fun i=>(i.zero,i.size,i.bytes))=some (some z,1,Q1)) (hzs:z.cells.size=1)
   (v:Value) (xs:List Value) (hs:a.eval s=v) (hown:Own w e v xs) (A:Option Addr) (m c:Nat) (news:List Value) (hx:a.eval x = .slice A m c) (hr:Rd w F A m news) (h1:∀u∈news,u.oneCell'=true)
   (hlen:xs.length+m<=2^47) (hlb:(xs.length+m)*Q1<=140737488355328)
   (h:∀v' w',Own w' e v' (xs++news)->w.grownBy w' v.ownBlock->(v'.ownBlock=v.ownBlock\/v'.ownBlock=some w.heap.size)->wpList P ops Q rest (a.put o.dst v') w'):wpList P ops Q (o::rest) a w :=
 wpList_plain hgd fun _ hK=>Jh w s x t ho e z Q1 ht hi hzs v xs hs hown A m c news hx hr h1 hlen hlb fun v' w' h2 h3 h4=>hK _ _ (h v' w' h2 h3 h4)
end
theorem Qv {F:Nat->Prop} (A:Option Addr) (n c:Nat) (xs:List Value) (w:World) (hr:Rd w F A n xs) (h1:∀u∈xs,u.oneCell'=true) (hn:n<=2^47) :
   Calls Tryz.prog 34 #[.slice A n c] w fun e w'=>∃v,e = .returned v/\Own w' 5 v xs/\Q0 w w'/\∀k,v.ownBlock=some k->w.heap.size<=k:=by
 have q:∀(w:World) (a:Option Addr) (n c n' c':Nat),(binOp .eql 22 (.slice a n c) (.slice none n' c')).run Tryz.prog w = .ok (.bool a.isNone) w :=
   fun w a n c n' c'=>Lib.run_eql_slice_nil w _ _ a n c n' c' Tryz.underlying22
 rcases A with _|ad
 . have hx:n=0:=by
     rcases Nat.eq_zero_or_pos n with h|h
     . exact h
     obtain⟨_,_,h,_⟩:=hr.2 h;cases h
   subst hx;have hxs:xs=[]:=List.eq_nil_of_length_eq_zero hr.1;subst hxs;go_enter Tryz.func34,Tryz.ntmps34;go_wp2;go_ret;exact⟨_,rfl,Own.nil _ _,Upd.refl _ _,by simp [Value.ownBlock]⟩
 have o0:Own (w.alloc (.cells #[] 5)) 5 (.slice (some ⟨w.heap.size,0,none⟩) 0 0) []:=World.ownsRow_made w #[] 0 (Nat.zero_le _) (by simp [maxLen]) (by simp);have hlen:n<=140737488355328:=hn;clear hn;go_enter Tryz.func34,Tryz.ntmps34;go_wp2_with (at_builtin;go_must (refine QA _ rfl (.tmp 5) (.tmp 6) _ rfl 5 _ 1 Tryz.underlying22 QK rfl _ [] rfl o0 _ n _ _ rfl (hr.alloc _) h1 (by simpa using hlen) (by simpa using hlen) ?_));intro v' w1 o1 g1 a1;go_wp2;go_ret;exact⟨v',rfl,by simpa using o1,((Upd.refl _ _).alloc _).grown g1 (fun k hk hlt=>by simp [Value.ownBlock]at hk;omega),Yr (S:=fun k=>w.heap.size<=k) a1 (fun k hk=>by simp [Value.ownBlock]at hk;omega) (by simp)⟩
def Qg (w:World) (F:Nat->Prop) (g:Nat) (bs:List Nat) (at_:Nat):Prop :=
  ∃(A:Option Addr) (c:Nat),Blk w g 77 #[.slice A bs.length c,.int .i64 at_]/\Rd w F A bs.length (bs.map fun b=>.int .u8 (b:Nat)) /\
    (∀b∈bs,b<256)/\at_<=bs.length/\bs.length<=2^47/\bs.length<=c
theorem Qg.upd {w w':World} {F S:Nat->Prop} {g:Nat} {bs:List Nat} {at_:Nat} (h:Qg w F g bs at_) (hu:Upd S w w') (hg:¬S g) (hF:∀b,b<w.heap.size->F b->¬S b):Qg w' F g bs at_:=by
 obtain⟨A,c,hb,hr,r⟩:=h;exact⟨A,c,hb.upd hu hg,hr.upd hu hF,r⟩
theorem Qg.fresh {w w':World} {F:Nat->Prop} {g:Nat} {bs:List Nat} {at_:Nat} (h:Qg w F g bs at_) (hu:Q0 w w'):Qg w' F g bs at_:=h.upd hu (fun h=>h) (fun _ _ _ h=>h)
theorem Y1 (F:Nat->Prop) (A:Option Addr) (n c:Nat) (bs:List Nat) (w:World) (hr:Rd w F A n (bs.map fun b=>.int .u8 (b:Nat))) (hlt:∀b∈bs,b<256) (hlen:bs.length<=2^47) :
   Calls Tryz.prog 13 #[.slice A n c] w fun e w'=>∃g,e = .returned (.pointer (some ⟨g,0,none⟩))/\w.heap.size<=g/\Q0 w w' /\
     Qg w' (fun k=>w.heap.size<=k/\k≠g) g bs 0:=by
 (have hn:n=bs.length:=by have:=hr.1;simpa using this.symm);subst hn;have hk:=Qv A bs.length c _ w hr (by simp [Value.oneCell']) (by omega);have HK:=hd_ hk;clear hk hr;refine Q6 fun R hR=>?_;go_enter Tryz.func13,Tryz.ntmps13;go_wp2_with fail;refine HK.out.mono ?_;rintro e w1 ⟨v,rfl,o1,f1,k1⟩;obtain⟨A',n',c',rfl,hn'⟩:=o1.form';have hrd:=(o1.rd rfl).2.2;have hcap:=(o1.rd rfl).2.1;have HC:=hd_ hcap;(have hn2:n'=bs.length:=by simpa using hn'.out);have HN:=hd_ hn2;clear hn2 hn' hcap;go_wp2;(try go_ret);have:=HN.out;subst this;refine hR.out _ _ ⟨w1.heap.size,rfl,f1.size,f1.alloc _,A',c',?_,?_,hlt,by omega,hlen,by simpa using HC.out⟩
 . have:=Blk.new w1 77 #[.slice A' bs.length c',.int .i64 0]
   simpa using this
 have h2:=hrd.alloc (.cells #[.slice A' bs.length c',.int .i64 0] 77);refine⟨by simp,fun h=>?_⟩;obtain⟨b,o,hA,hb,hbs,hc⟩:=h2.2 (by simpa using h);exact⟨b,o,hA,⟨k1 b hb,by have:=o1.lt hb;omega⟩,hbs,fun j hj=>hc j (by simpa using hj)⟩
theorem Yu (F:Nat->Prop) (g:Nat) (bs:List Nat) (at_:Nat) (w:World) (hc:Qg w F g bs at_) :
   Calls Tryz.prog 36 #[.pointer (some ⟨g,0,none⟩)] w fun e w'=>e = .returned (.int .i64 (bs.length-at_:Nat))/\∃k,w'=w.drewN k:=by
 obtain⟨A,c,hb,hr,hlt,hat,hlen,hcap⟩:=hc;obtain⟨hc0,hc1⟩:=(hb).cells2;(have i1:(bs.length:Int)<=140737488355328:=by omega);(have e1:((bs.length-at_:Nat):Int)=bs.length-at_:=by omega);have E1:=hd_ e1;clear e1 hb hr;refine Q6 fun R hR=>?_;go_enter Tryz.func36,Tryz.ntmps36;go_wp2;go_quiet (fail);go_wp2;(try go_ret);exact hR.out _ _ ⟨Yj (by rw [E1.out]),_,rfl⟩
theorem QP (F:Nat->Prop) (g:Nat) (bs:List Nat) (at_ n:Nat) (w:World) (hc:Qg w F g bs at_) (hn:n<=2^32) :
   Calls Tryz.prog 23 #[.pointer (some ⟨g,0,none⟩),.int .i64 n] w fun e w'=>∃v,e = .returned v/\Own w' 5 v (((bs.drop at_).take n).map fun b=>.int .u8 (b:Nat))/\Q0 w w' /\
     ∀k,v.ownBlock=some k->w.heap.size<=k:=by
 have hl:=Yu F g bs at_ w hc;obtain⟨A,c,hb,hr,hlt,hat,hlen,hcap⟩:=hc;obtain⟨hc0,hc1⟩:=(hb).cells2;obtain⟨k,hk⟩:=nm_ (min n (bs.length-at_));(have hcase:((n:Int)=k/\(k:Int)<=((bs.length-at_:Nat):Int))\/(((bs.length-at_:Nat):Int)=k/\(k:Int)<n):=by omega);have hcut:=(hr.take (k:=at_+k) (by omega)).cut (k:=at_) (cap:=c) (by omega) (by omega)
 have hdt:((bs.map fun b=>Value.int .u8 (b:Nat)).take (at_+k)).drop at_=((bs.drop at_).take n).map fun b=>Value.int .u8 (b:Nat):=by
   rw [List.drop_take,<-List.map_drop,<-List.map_take,show at_+k-at_=k by omega,hk]
   congr 1
   by_cases h:n<=bs.length-at_
   . rw [Nat.min_eq_left h]
   rw [Nat.min_eq_right (by omega),List.take_of_length_le (by simp),List.take_of_length_le (by simp;omega)]
 rw [hdt,show at_+k-at_=k by omega]at hcut;(have i1:(bs.length:Int)<=140737488355328:=by omega);(have i2:(at_:Int)+k<=bs.length:=by omega);(have i3:(bs.length:Int)<=c:=by omega);have HL:=hd_ hl;have HC:=hd_ hcut
 have hxs1:∀u∈((bs.drop at_).take n).map (fun b=>Value.int .u8 (b:Nat)),u.oneCell'=true:=by
   intro u hu;obtain⟨_,_,rfl⟩:=List.mem_map.1 hu;rfl
 generalize ((bs.drop at_).take n).map (fun b=>Value.int .u8 (b:Nat))=XS at *;have HB:=hd_ hb;clear hl hcut hdt hk hb hr;generalize bs.length-at_=D at *;have hw1:IntKind.i64.wrap ((at_:Int)+k)=at_+k:=IntWalk.i64_in _ (by omega);refine Q6 fun R hR=>?_;(have hkk:((n=k/\k<=D)\/(D=k/\k<n)):=by omega);clear hcase;rcases hkk with ⟨hq,hkd⟩|⟨hq,hkd⟩;(all_goals have hq:=hq.symm);(all_goals subst hq)
 all_goals
   go_enter Tryz.func23,Tryz.ntmps23;go_wp2_with fail;refine HL.out.mono ?_;rintro e W ⟨rfl,kk,hW⟩;(have hb1:Blk W g 77 #[.slice A bs.length c,.int .i64 at_]:=by rw [hW];exact HB.out.drewN kk);have hc0':=hb1.cell 0;have hc1':=hb1.cell 1;simp only [List.getElem?_toArray,List.getElem?_cons_succ,List.getElem?_cons_zero]at hc0' hc1';(have f1:Q0 w W:=by rw [hW];exact(Upd.refl _ _).drewN kk);clear hW hb1;go_wp2_with fail;(have s1:(0:Int)<=at_:=by omega);(have s2:(at_:Int)<=at_+k:=by omega);(have s3:(at_:Int)+k<=c:=by omega);(have s4:((at_:Int)+k).toNat=at_+k:=by omega);go_still_tail 15,(by kernel_rfl);change wpList _ _ _ _ _ W.drew;go_wp2_with fail
   all_goals
     have hrd:=HC.out
     first
       | rw [if_neg (by omega)]at hrd
       | rw [if_pos (by omega)]at hrd
     refine(Qv _ _ _ _ W.drew (hrd.fresh f1).drew hxs1 (by omega)).mono ?_;rintro e w2 ⟨v,rfl,o2,f2,k2⟩;go_wp2;(try go_ret);exact hR.out _ _ ⟨v,rfl,o2,f1.drew.trans' f2,fun b hb=>Nat.le_trans f1.size (k2 b hb)⟩
theorem Y3 (F:Nat->Prop) (g:Nat) (bs:List Nat) (at_:Nat) (w:World) (hc:Qg w F g bs at_) :
   Calls Tryz.prog 19 #[.pointer (some ⟨g,0,none⟩)] w fun e w'=>e = .returned (.int .i64 at_)/\w=w':=by
 obtain⟨A,c,hb,hr,hlt,hat,hlen,hcap⟩:=hc;obtain⟨hc0,hc1⟩:=(hb).cells2;have HB:=hd_ hb;clear hb hr hlt hlen;go_enter Tryz.func19,Tryz.ntmps19;go_wp2_with fail;(try go_ret);exact⟨rfl,rfl⟩
end Go.Proofs.YtakjpcnhhkgfoaaGreat
