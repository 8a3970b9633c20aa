/-
  Joined texts, part 25: contracts and plain lemmas.
  Conditions: none beyond those of each theorem.
-/
import Derived.Test.YtjfdaphjijfieaaGreatN24
import Derived.Test.YtjfdaphjijfieaaGreatN9
import Derived.Test.YtjfdaphjijfieaaGreatN10
import Derived.Deep.OwnRows
set_option maxHeartbeats 2000000
set_option linter.unusedVariables false
set_option linter.unusedSimpArgs false
set_option maxRecDepth 100000
universe u
namespace Go.Proofs.YtjfdaphjijfieaaGreat
open Go.RowKit Go.Shelf
attribute [local go_sem] Oper.semAt_some
theorem ZY {f:Int->Option Int} {y:Nat} {v:Int} (hf:f y=none):∀(s:Nat),y<s ->
   (List.range s).countP (fun(x:Nat)=>((if(x:Int)=(y:Int)then some v else f x):Option Int).isNone)+1=(List.range s).countP (fun(x:Nat)=>(f x).isNone)
 | 0,h=>by omega
 | s+1,h=>by
   rw [List.range_succ,List.countP_append,List.countP_append]
   by_cases hys:y=s
   . subst hys
     have e:(List.range y).countP (fun(x:Nat)=>((if(x:Int)=(y:Int)then some v else f x):Option Int).isNone)=(List.range y).countP (fun(x:Nat)=>(f x).isNone):=by
       apply List.countP_congr;intro x hx;have:=List.mem_range.1 hx;rw [if_neg (by omega)]
     rw [e];simp [hf]
   have ih:=ZY (v:=v) hf s (by omega);have e:(if(s:Int)=(y:Int)then some v else f s)=f s:=if_neg (by omega);simp only [List.countP_singleton,e];omega
theorem Q1r (s R:Nat) (h:R<=s) (rs:List Nat) (hl:rs.length=R):(List.range s).countP (fun(x:Nat)=>(Qe s rs x).isNone)=s-R:=by
 induction R generalizing rs with
 | zero =>
   have:rs=[]:=List.eq_nil_of_length_eq_zero hl;subst this
   have e:(List.range s).countP (fun(x:Nat)=>(Qe s [] x).isNone)=(List.range s).length:=by
     rw [List.countP_eq_length];intro x _;simp [Qe]
   rw [e];simp
 | succ n ih =>
   obtain⟨q,y,rfl⟩:∃q y,rs=q++[y]:=⟨rs.dropLast,rs.getLast (by intro h;subst h;simp at hl),(List.dropLast_concat_getLast _).symm⟩;(have hq:q.length=n:=by simpa using hl);have h1:=ih (by omega) q hq
   have h2:(Qe s q ((s-1-q.length:Nat):Int))=none:=by
     unfold Qe;rw [if_pos (by omega),List.getElem?_eq_none (by omega)];rfl
   have h3:=ZY (f:=Qe s q) (y:=s-1-q.length) (v:=(y:Int)) h2 s (by omega);(have e:((s-1-q.length:Nat):Int)=(s:Int)-1-q.length:=by omega);rw [e]at h3;have h4:=ZL (s:=s) (rs:=q) (i:=y)
   have h5:(List.range s).countP (fun(x:Nat)=>(Qe s (q++[y]) x).isNone)=(List.range s).countP (fun(x:Nat)=>((if(x:Int)=(s:Int)-1-q.length then some (y:Int)else Qe s q x):Option Int).isNone):=by
     rw [<-h4]
   rw [h5];omega
theorem VY {s:Nat} {rest rs:List Nat} (hR:rs.length+rest.length=s):∀(pre:List Nat),(∀y∈pre,y<s) ->
   (List.range s).countP (fun(x:Nat)=>((Qy rest (Qe s rs) pre).1 x).isNone)+(Qy rest (Qe s rs) pre).2=rest.length:=by
 intro pre
 induction hn:pre.length generalizing pre with
 | zero =>
   intro _;have:pre=[]:=List.eq_nil_of_length_eq_zero hn;subst this;have:=Q1r s rs.length (by omega) rs rfl;simp only [Qy,List.foldl_nil];omega
 | succ n ih =>
   intro hlt;obtain⟨q,y,rfl⟩:∃q y,pre=q++[y]:=⟨pre.dropLast,pre.getLast (by intro h;subst h;simp at hn),(List.dropLast_concat_getLast _).symm⟩;(have hq:q.length=n:=by simpa using hn);have hy:=hlt y (by simp);have h1:=ih q hq fun z hz=>hlt z (by simp [hz]);rw [YQ];unfold YG;cases hs:((Qy rest (Qe s rs) q).1 y).isSome
   . have hnone:(Qy rest (Qe s rs) q).1 y=none:=by simpa using hs
     have h2:=ZY (v:=(((rest[(Qy rest (Qe s rs) q).2]?).getD 0:Nat):Int)) hnone s hy;simp only [Bool.false_eq_true,if_false];omega
   simp only [if_true];exact h1
theorem Vr {s:Nat} {rest rs:List Nat} {pre:List Nat} {x:Nat} (hlt:∀y∈pre,y<s) (hx:x<s) (hR:rs.length+rest.length=s)
   (hn:((Qy rest (Qe s rs) pre).1 x).isSome=false):(Qy rest (Qe s rs) pre).2<rest.length:=by
 have h1:=VY hR pre hlt
 have h2:0<(List.range s).countP (fun(x:Nat)=>((Qy rest (Qe s rs) pre).1 x).isNone):=by
   rw [List.countP_pos_iff];exact⟨x,List.mem_range.2 hx,by simpa using hn⟩
 omega
def Yu (l:List Nat):List Value:=l.map fun(i:Nat)=>.int .i64 (i:Int)
@[simp] theorem Q1s (l:List Nat):(Yu l).length=l.length:=by simp [Yu]
theorem Vs (l m:List Nat):Yu (l++m)=Yu l++Yu m:=by simp [Yu]
theorem YH (x:Nat) (h:x<=1024):wrap64 (x:Int)=x:=by unfold wrap64;omega
theorem KW {x:Int} (h:-9223372036854775808<=x/\x<=9223372036854775807):(Lit.int .i64 x).wf=true:=by
 (have h1:IntKind.i64.min<=x:=by(have:IntKind.i64.min=-9223372036854775808:=by decide);omega);(have h2:x<=IntKind.i64.max:=by(have:IntKind.i64.max=9223372036854775807:=by decide);omega);show(decide (IntKind.i64.min<=x)&&decide (x<=IntKind.i64.max))=true;rw [decide_eq_true h1,decide_eq_true h2];rfl
theorem Jo {N:List Int} {v:Int} (h:v∈N):QZ v<=QY N:=by
 induction N with
 | nil=>cases h
 | cons x l ih =>
   rw [Yy];have h1:=YX l;have h2:=JG x;rcases List.mem_cons.1 h with rfl|h
   . omega
   have:=ih h;omega
theorem XI:∀(l:List Int) (i:Nat),(QP i l).length<=l.length
 | [],i=>by simp [QP]
 | v::l,i=>by
   have:=XI l (i+1)
   rw [QP]
   split<;>simp<;>omega
theorem Q4D (N:List Int) (k:Nat):(Qv (N.take k)).length<=k:=by
 have h1:=XI (N.take k) 0;have h2:=List.length_take_le k N;unfold Qv;omega
theorem Q3u {N:List Int} (k:Nat):QY (N.take k)<=QY N:=by
 induction N generalizing k with
 | nil=>simp
 | cons x l ih =>
   cases k with
   | zero =>
     have h1:=YX (x::l);simp [QY]at h1 ⊢;exact h1
   | succ k =>
     rw [List.take_succ_cons,Yy,Yy];have:=ih k;omega
theorem Q4E {N:List Int} (h:∀v∈N,-1<=v) (k:Nat):((Ql (N.take k)).length:Int)<=QY N:=by
 have h1:=Jp (N.take k) 0 fun v hv=>h v (List.mem_of_mem_take hv);have h2:=Q3u (N:=N) k;unfold Ql;omega
theorem Q2t (s:Nat) (rs:List Nat) (i:Nat):Q0I (Qe s rs) ((s:Int)-1-rs.length) rs.length=(rs++[i]).length/\Kr (Qe s rs) ((s:Int)-1-rs.length) i=Qe s (rs++[i]):=by
 have h:Qe s rs ((s:Int)-1-rs.length)=none:=by
   unfold Qe;split
   . rw [List.getElem?_eq_none (by omega)];rfl
   rfl
 refine⟨?_,ZL⟩;unfold Q0I;rw [h];simp
theorem Ks:1000000<maxLen:=by unfold maxLen;omega
theorem KJ {F:Fence} {n:Nat} {P:Program} {α:Type} {g:Operand} {ps:Array Tmp} {assign body:Code} {Q:Exit->Act->World->Prop} {a:Act} {w:World}
   (hro:F.round=none) (h1:1<=n) {gf:Nat} {lb:Array Value} (hg:a.eval g = .func (.func gf) #[] lb) (hFg:F.fn gf) (eg:∀args w,(callFunc gf args).run P w = .ok (.enter gf args) w)
   {encs:α->Array Value} {Kp:World->World->Prop} {S Sp:List α->Prop} {N:Nat} {w0:World} (hseq:SeqStopsK F (n-1) P gf lb encs Kp S Sp N w0)
   (hKt:∀ {A B C:World},Kp A B->Kp B C->Kp A C) (hKb:∀(W:World) (l:Nat) (o o':Obj),w.heap.size<=l->W.heap[l]?=some o->o.isCells=false->o.isWalk=false->Kp W (W.putObj l o')) (hb0:Below w0.heap.size w0 w) (hps:∀x,(encs x).size=ps.size)
   (I:List α->World->Prop) (Ix:Code->List α->World->Prop) (hI:OwnFrom w.heap.size I) (hIx:∀c,OwnFrom w.heap.size (Ix c)) (h0:I [] w) (d:Nat) (dv:α->Value)
   (hassign:∀(l:Nat) (x:α) (W:World) (K:Act->World->Prop),K { tmps:=((ps.zip (encs x)).foldl (fun t (p,v)=>t.setIfInBounds p v) a.tmps).setIfInBounds d (dv x),defers:=[] } W ->
     assign.wpIn (F.inRound l) (n-1-1) P (Exit.then K (fun _ _ _=>False)) { tmps:=(ps.zip (encs x)).foldl (fun t (p,v)=>t.setIfInBounds p v) a.tmps,defers:=[] } W)
   (hbody:∀(l:Nat) (pre:List α) (x:α) (W:World),I pre W->pre.length<N->body.wpIn (F.inRound l) (n-1-1) P (ownPostG w.heap.size Kp I Ix (pre++[x]) W) { tmps:=((ps.zip (encs x)).foldl (fun t (p,v)=>t.setIfInBounds p v) a.tmps).setIfInBounds d (dv x),defers:=[] } W)
   (hdone:∀(D:Nat) (xs:List α) (W:World),w.heap.size<=D->S xs->I xs W->W.heap[D]?=some (.deferred (some []))->Q .normal { a with defers:={ target:=.collected D,args:=#[] } :: a.defers } W)
   (hstop:∀(D:Nat) (c:Code) (pre:List α) (W:World),w.heap.size<=D->Sp pre->Ix c pre W->W.heap[D]?=some (.deferred (some []))->c.wpIn F n P Q { a with defers:={ target:=.collected D,args:=#[] } :: a.defers } W) :
   (Code.rangeFunc g ps assign body).wpIn F n P Q a w :=
 wpIn_rangeFunc_ownG hro h1 hg hFg eg hseq hKt hKb hb0 hps I Ix hI hIx h0 (fun x=>{ tmps:=((ps.zip (encs x)).foldl (fun t (p,v)=>t.setIfInBounds p v) a.tmps).setIfInBounds d (dv x),defers:=[] }) hassign hbody hdone hstop
def Jy (w1:World) (M T k s:Nat) (rest rs:List Nat) (pre:List { x:Nat // x<s }) (W:World):Prop :=
  ∃(cnt:Nat) (A:Option Addr) (n c:Nat),Yc W Tryz.prog 3 3 M (k+pre.length) cnt (Qy rest (Qe s rs) (pre.map Subtype.val)).1/\Blk W (M+1) 268 #[.map (some M)]/\Blk W (M+1+1) 27 #[.slice A n c] /\
    Rd W (fun b=>M+3<=b/\b<T) A n (Yu (rest.drop (Qy rest (Qe s rs) (pre.map Subtype.val)).2))/\n<=c/\Q0 w1 W
theorem Jy.own {w1:World} {M T k s:Nat} {rest rs:List Nat} (hM:M=w1.heap.size) (hT:M+3<=T):OwnFrom (T+1) (Jy w1 M T k s rest rs):=by
 intro pre W W' row h hg hr;obtain⟨cnt,A,n,c,h1,h2,h3,h4,h5,h6⟩:=h;have hu:Upd (fun b=>T+1<=b) W W':=(Upd.refl _ W).grown hg (fun j e _=>(hr j e).1);exact⟨cnt,A,n,c,h1.upd hu (by omega),h2.upd hu (by omega),h3.upd hu (by omega),h4.upd hu (fun b _ hb h=>by omega),h5,h6.trans hu (fun b hb h=>by omega)⟩
def Jz (lg:Int) (N:List Int) (w:World) (e:Ending) (w':World):Prop :=
  if Qg lg N 256 9 then ∃g,e = .returned (.tuple #[.slice (some ⟨g,0,none⟩) (2^lg.toNat) (2^lg.toNat),.int .i64 0])/\Rd w' (fun b=>b=g) (some ⟨g,0,none⟩) (2^lg.toNat) (Q1 (Q7 lg.toNat N))/\w.heap.size<=g/\Q0 w w'
  else e = .returned (.tuple #[.slice none 0 0,.int .i64 13])/\Q0 w w'
theorem Q3v (F:Nat->Prop) (A:Option Addr) (n c p:Nat) (N:List Int) (w:World) (hr:Rd w F A n (Q1 N)) (hfit:Fit N) (hn:(n:Int)<=1099511627776) (hv:Qg p N 256 9) :
   Calls Tryz.prog 174 #[.agg #[.int .i64 p,.slice A n c]] w fun e w'=>∃g,e = .returned (.tuple #[.slice (some ⟨g,0,none⟩) (2^p) (2^p),.int .i64 0])/\Rd w' (fun b=>b=g) (some ⟨g,0,none⟩) (2^p) (Q1 (Q7 p N))/\w.heap.size<=g/\Q0 w w':=by
 (have hN:N.length=n:=by have:=hr.1;simpa using this);have hmm:=@run_makeMap Tryz.prog;obtain⟨w0,hw0⟩:=nm_ (w.alloc (.cells #[.int .i64 p,.slice A n c] 29));obtain⟨H,hH⟩:=nm_ (w.heap.size);(have f0:Q0 w w0:=by rw [hw0];exact(Upd.refl _ _).alloc _);(have bt:Blk w0 H 29 #[.int .i64 p,.slice A n c]:=by rw [hw0];exact Q2 hH _ _);have hck:=KV F A n c p 256 9 N w0 (hr.fresh f0) hfit hn;rw [if_pos hv]at hck;obtain⟨hv0,hv1,hv2,hv3,hv4,hv5,hv6,hv7⟩:=hv;(have hp9:p<=9:=by omega);have hpw:2^p<=512:=Nat.le_trans (Nat.pow_le_pow_right (by decide) hp9) (by decide);have hpp:=Nat.two_pow_pos p;obtain⟨s,hs⟩:=nm_ (2^p)
 have hsw:wrap64 ((2:Int)^p)=(s:Nat):=by
   (have e:((2:Int)^p)=(s:Nat):=by rw [hs];simp);rw [e];exact YH s (by omega)
 obtain⟨t0,t1⟩:=(bt).cells2;have HCK:=hd_ hck;have HR:=hd_ (fun W (h:Q0 w W)=>hr.fresh h);have BT:=hd_ bt;have F0:=hd_ f0;have HW:=hd_ hw0;have HH:=hd_ hH;have HN:=hd_ hN;have HS:=hd_ hs;clear hr hw0 hH f0 bt hck hN hs;refine Q6 fun R hR=>?_;refine(callsIn_wide (n:=3)).1 (callsIn_of_wp_marks Tryz.func174 rfl trivial ?_ rfl);simp only [Tryz.ntmps174,List.size_toArray,List.length_cons,List.length_nil,Nat.reduceAdd,Nat.reduceSub,Array.replicate_succ,Array.replicate_zero,List.push_toArray,List.append_toArray,List.nil_append,List.cons_append];refine wpIn_wide.2 ?_;go_upto_region 1 with fail;simp only [<-HH.out,<-HW.out];go_wp2_with fail;refine HCK.out.mono ?_;rintro e w1 ⟨rfl,f1⟩;have b1:=BT.out.fresh f1;obtain⟨t0,t1⟩:=(b1).cells2;have BT1:=hd_ b1;have F1:=hd_ (F0.out.trans' f1);clear b1 f1;go_upto_region 5 with fail;rw [hsw];clear hsw;go_upto_region 7 with fail;obtain⟨M,hM⟩:=nm_ (w1.heap.size);obtain⟨w2,hw2⟩:=nm_ (((w1.alloc (.map #[] 0)).alloc (.cells #[.map (some M)] 268)).alloc (.cells #[.slice none 0 0] 27));simp only [<-hM,<-hw2];(have f2:Q0 w1 w2:=by rw [hw2];exact(((Upd.refl _ _).alloc _).alloc _).alloc _);(have hz1:(w1.alloc (.map #[] 0)).heap.size=M+1:=by rw [hM];simp);(have hz2:w2.heap.size=M+3:=by rw [hw2,hM];simp)
 have im:Yc w2 Tryz.prog 3 3 M 0 0 (Qe s []):=by
   have h0:=Yc.new w1 Tryz.prog 3 3;(have e:Qe s []=fun _=>none:=by funext x;unfold Qe;simp);rw [e,hw2,hM];exact(h0.upd ((Upd.refl (fun _=>False) _).alloc _) (fun h=>h)).upd ((Upd.refl (fun _=>False) _).alloc _) (fun h=>h)
 (have bm:Blk w2 (M+1) 268 #[.map (some M)]:=by rw [hw2];exact(Q2 hz1.symm _ _).alloc _);(have bo:Blk w2 (M+1+1) 27 #[.slice none 0 0]:=by rw [hw2];exact Q2 (by rw [hM];simp) _ _);have b2:=BT1.out.fresh f2;obtain⟨t0,t1⟩:=(b2).cells2;have F2:=hd_ (F1.out.trans' f2);have BT2:=hd_ b2;have IM2:=hd_ im;have BM2:=hd_ bm;have BO2:=hd_ bo;have HZ2:=hd_ hz2;have HMM:=hd_ hM;have F02:=hd_ f2;clear hw2 f2 hz1 hz2 im bm bo b2 hM hmm;go_wp2_with fail;go_loopg [27] n (fun f i wr=>∃(k:Nat) (v:Value),k+f=n/\i = .int .i64 k/\Yc wr Tryz.prog 3 3 M k (Qv (N.take k)).length (Qe s (Qv (N.take k)))/\Blk wr (M+1) 268 #[.map (some M)]/\Blk wr (M+1+1) 27 #[v]/\Own wr 3 v (Yu (Ql (N.take k)))/\(∀b,v.ownBlock=some b->M+3<=b)/\Q0 w1 wr)
 case atStart=>exact⟨0,.slice none 0 0,by omega,rfl,IM2.out,BM2.out,BO2.out,Own.nil _ _,fun b h=>by simp [Value.ownBlock]at h,F02.out⟩
 case round =>
   obtain⟨k,v,hk,rfl,im,bm,bo,ov,hvb,fw⟩:=hrel;have HK:=hd_ hk;have IM:=hd_ im;have BM:=hd_ bm;have BO:=hd_ bo;have OV:=hd_ ov;have HVB:=hd_ hvb;have FW:=hd_ fw;clear hk im bm bo ov hvb fw;by_cases hlt:k<n
   . have hkN:k<N.length:=by rw [HN.out];exact hlt
     have HRT:=hd_ (VZ hkN);have HST:=hd_ (Zw hkN);have hz:=hv6 _ (List.getElem_mem hkN)
     have hz2:N[k]<=512:=by
       have h1:=Jo (List.getElem_mem hkN);rw [hv7]at h1;(have h2:((2:Int)^(p:Int).toNat)=((2^p:Nat):Int):=by simp);unfold QZ at h1;(split at h1<;>omega)
     have hzh:=hfit _ (List.getElem_mem hkN);obtain⟨b,o,_,rfl,_,hc⟩:=(HR.out _ (F1.out.trans' FW.out)).int (k:=k) hlt;generalize N[k]=z at *;(have hkI:(k:Int)<n:=by omega);have hw4:IntKind.i64.wrap ((k:Int)+1)=k+1:=IntWalk.i64_in _ (by omega);go_upto_if 33 with fail;have hrl:=Q4D N k;obtain⟨rs,hrs⟩:=nm_ (Qv (N.take k));rw [<-hrs]at IM HRT hrl;have cM:=BM.out.cell 0;simp at cM;have hml:=Ks;(have hk256:k<256:=by omega);clear hrs;go_cut [27]from 27 to 50 (fun ki wx=>ki = .int .i64 k/\Yc wx Tryz.prog 3 3 M (k+1) (Qv (N.take (k+1))).length (Qe s (Qv (N.take (k+1))))/\Blk wx (M+1) 268 #[.map (some M)]/\Blk wx (M+1+1) 27 #[v]/\Own wx 3 v (Yu (Ql (N.take k)))/\Q0 w1 wx)
     case first =>
       by_cases hz1:z=-1
       . have hzb:(z == -1)=true:=by simpa using hz1
         rw [if_pos hz1]at HRT;have e1:IntKind.i64.wrap ((s:Int)-1)=s-1:=IntWalk.i64_in _ (by have:=HS.out;omega);have e2:IntKind.i64.wrap ((s:Int)-1-rs.length)=s-1-rs.length:=IntWalk.i64_in _ (by have:=HS.out;omega);have HSL:=hd_ (show s<=512 by rw [HS.out];exact hpw);clear hz1
         go_wp2_with (first
           | (at_len;refine X0 _ rfl _ 268 rfl 3 3 Tryz.underlying268 M k _ _ rfl IM.out ?_)
           | (at_mapUpdate;refine X4 _ rfl _ _ _ 268 rfl 3 3 Tryz.underlying3 Tryz.underlying268 Tryz.underlying3 M k _ _ rfl IM.out (by omega) ((s:Int)-1-rs.length) k rfl rfl (KW (by have:=HSL.out;omega)) (KW (by omega)) ?_;intro w5 im5 g5))
         go_meet;obtain⟨q1,q2⟩:=Q2t s rs k;rw [q1,q2,<-HRT.out]at im5;have u5:Upd (fun b=>b=M) wr w5:=(Upd.refl _ _).grown g5 (fun j e _=>by injection e with e;exact e.symm);refine⟨rfl,im5,BM.out.upd u5 (by omega),BO.out.upd u5 (by omega),OV.out.upd u5 (fun b hb h=>by have:=HVB.out b hb;omega),FW.out.trans u5 (fun b hb h=>by have:=HMM.out;omega)⟩
       (have hzb:(z == -1)=false:=by simpa using hz1);rw [if_neg hz1,List.append_nil]at HRT;go_wp2_with fail;go_meet;rw [HRT.out];exact⟨rfl,IM.out.mono (by omega),BM.out,BO.out,OV.out,FW.out⟩
     case rest =>
       obtain⟨rfl,im,bm,bo,ov,fw⟩:=hcut;have IM3:=hd_ im;have BM3:=hd_ bm;have BO3:=hd_ bo;have OV3:=hd_ ov;have FW3:=hd_ fw;clear im bm bo ov fw IM BM BO OV FW cM;obtain⟨zn,hzn⟩:=nm_ (z.toNat);rw [<-hzn]at HST;(have hzn2:zn<=512:=by omega);go_upto_region 12 with fail;go_cut [27,42,43]from 27 to 50 (fun ki q i wx=>ki = .int .i64 k/\q = .int .i64 (zn:Nat)/\i = .int .i64 0/\wx=wc)
       case first =>
         by_cases hz0:0<=z
         . have hmx:max z 0=(zn:Nat):=by omega
           (have hzz:z=(zn:Nat):=by omega);clear hzn;subst hzz;go_wp2_with fail;(all_goals go_meet);(all_goals exact⟨rfl,by first|rfl|(congr 1;omega),rfl,rfl⟩)
         (have hzz:z=-1:=by omega);(have hzn0:zn=0:=by omega);clear hzn;subst hzz hzn0;go_wp2_with fail;(all_goals go_meet);(all_goals exact⟨rfl,by first|rfl|(congr 1;omega),rfl,rfl⟩)
       clear hzn
       case rest =>
       obtain⟨rfl,rfl,rfl,hwc⟩:=hcut;subst hwc;go_wp2_with fail;obtain⟨ko,hko⟩:=nm_ (gk);have HKO:=hd_ hko;clear hko;go_loopg [43] zn (fun f i wy=>∃(j:Nat) (v2:Value),j+f=zn/\i = .int .i64 j/\Yc wy Tryz.prog 3 3 M (k+1) (Qv (N.take (k+1))).length (Qe s (Qv (N.take (k+1))))/\Blk wy (M+1) 268 #[.map (some M)]/\Blk wy (M+1+1) 27 #[v2]/\Own wy 3 v2 (Yu (Ql (N.take k)++List.replicate j k))/\(∀b,v2.ownBlock=some b->M+3<=b)/\Q0 w1 wy)
       case atStart=>exact⟨0,v,by omega,rfl,IM3.out,BM3.out,BO3.out,by simpa using OV3.out,HVB.out,FW3.out⟩
       case round =>
         obtain⟨j,v2,hj,rfl,im,bm,bo,ov,hvb,fw⟩:=hrel;have HJ:=hd_ hj;have IM4:=hd_ im;have BM4:=hd_ bm;have BO4:=hd_ bo;have OV4:=hd_ ov;have HVB4:=hd_ hvb;have FW4:=hd_ fw;clear hj im bm bo ov hvb fw;by_cases hjz:j<zn
         . have hjI:(j:Int)<zn:=by omega
           have hw5:IntKind.i64.wrap ((j:Int)+1)=j+1:=IntWalk.i64_in _ (by omega);have cO:=BO4.out.cell 0;have zO:=BO4.out.frozen 0;simp at cO
           have HAP:=hd_ (show(Yu (Ql (N.take k)++List.replicate j k)).length+1<=2^40 by
             have h1:=Jp (N.take k) 0 (fun v hv=>hv6 v (List.mem_of_mem_take hv));have h2:=Q4E hv6 k;rw [hv7]at h2;(have h3:((2:Int)^(p:Int).toNat)=((2^p:Nat):Int):=by simp);simp only [Q1s,List.length_append,List.length_replicate]
             omega)
           go_upto_region 14 with fail;go_wp2_with (at_builtin;go_must (refine Yl _ rfl (.tmp 45) (.tmp 47) _ rfl 3 _ 8 Tryz.underlying27 Yx rfl v2 _ rfl (OV4.out.alloc _) _ 1 _ _ rfl (Rd.one wr 3 (.int .i64 k)) (by simp [Value.oneCell']) (by omega) HAP.out ?_);intro v5 w5 o5 g5 a5;obtain⟨A5,n5,c5,rfl,hn5⟩:=o5.form';have u5:Upd (fun b=>v2.ownBlock=some b) wr w5:=((Upd.refl _ wr).alloc _).grown g5 (fun k hk _=>hk);have b5:=BO4.out.upd u5 (fun h=>by have:=HVB4.out _ h;omega);have c5x:=b5.cell 0;have z5x:=b5.frozen 0;simp at c5x);have us:Upd (fun b=>b=M+1+1) w5 (w5.setCell ⟨M+1+1,0,none⟩ (.slice A5 n5 c5)):=(Upd.refl (fun b=>b=M+1+1) w5).setCell (p:=⟨M+1+1,0,none⟩) (fun _=>rfl) _
           have hob:∀b,(Value.slice A5 n5 c5).ownBlock=some b->M+3<=b:=by
             intro b hb;rcases a5 with e|e
             . exact HVB4.out b (by rw [<-e];exact hb)
             rw [e]at hb;injection hb with hb;have:=BO4.out.lt;simp at hb;omega
           have bs:=b5.set_ 0 (.slice A5 n5 c5);simp at bs;have os:=o5.far (p:=⟨M+1+1,0,none⟩) (fun h=>by have:M+3<=M+1+1:=hob _ h;omega) (.slice A5 n5 c5)
           have en:Yu (Ql (N.take k)++List.replicate j k)++[Value.int .i64 k]=Yu (Ql (N.take k)++List.replicate (j+1) k):=by
             rw [List.replicate_succ',<-List.append_assoc,Vs _ [k]];rfl
           rw [en]at os;have OS:=hd_ os;have BS:=hd_ bs;have HOB:=hd_ hob;have U5:=hd_ u5;have US:=hd_ us;clear os bs hob en u5 us b5;go_roundg (gk-1)
           case measure=>have:=HJ.out;omega
           case rel=>exact⟨j+1,.slice A5 n5 c5,by have:=HJ.out;omega,by go_num,(IM4.out.upd U5.out (fun h=>by have:=HVB4.out _ h;omega)).upd US.out (by omega),(BM4.out.upd U5.out (fun h=>by have:=HVB4.out _ h;omega)).upd US.out (by omega),BS.out,OS.out,HOB.out,(FW4.out.trans U5.out (fun b hb h=>by have:=HVB4.out _ h;have:=HMM.out;omega)).trans US.out (fun b hb h=>by have:=HMM.out;omega)⟩
         (obtain rfl:j=zn:=by have:=HJ.out;omega);rw [<-HST.out]at OV4;go_wp2_with fail;go_roundg (ko-1)
         case measure=>have:=HK.out;have:=HKO.out;omega
         case rel=>exact⟨k+1,v2,by have:=HK.out;have:=HKO.out;omega,by go_num,IM4.out,BM4.out,BO4.out,OV4.out,HVB4.out,FW4.out⟩
   (obtain rfl:k=n:=by have:=HK.out;omega);have htk:N.take k=N:=List.take_of_length_le (by have:=HN.out;omega);rw [htk]at IM OV;clear htk HK;go_wp2_with fail;refine(Q4A _ _).mono ?_;rintro e w3 ⟨rfl,rfl⟩;go_wp2_with fail;obtain⟨T,hT⟩:=nm_ (wr.heap.size);obtain⟨w4,hw4⟩:=nm_ (wr.alloc (.cells #[.int .i64 s] 3));simp only [<-hT,<-hw4];(have f4:Q0 wr w4:=by rw [hw4];exact(Upd.refl _ _).alloc _);(have bT:Blk w4 T 3 #[.int .i64 s]:=by rw [hw4];exact Q2 hT _ _);(have hz4:w4.heap.size=T+1:=by rw [hw4,hT];simp);(have hMT:M+3<=T:=by have:=BO.out.lt;have:=FW.out.size;have:=HZ2.out;have:=HMM.out;rw [hT];omega);obtain⟨A5,n5,c5,rfl,hn5⟩:=OV.out.form';have hrd:=OV.out.rd rfl
   have hI0:Jy w1 M T k s (Ql N) (Qv N) [] w4:=by
     refine⟨(Qv N).length,A5,n5,c5,?_,BM.out.fresh f4,BO.out.fresh f4,?_,?_,FW.out.trans' f4⟩
     . exact IM.out.upd f4 (fun h=>h)
     . have h1:=hrd.2.2.both
       rw [<-hn5.out]at h1;exact(h1.mono (fun b hb=>⟨HVB.out b hb.1,by rw [hT];exact hb.2⟩)).fresh f4
     have:=hrd.2.1;have:=hn5.out;omega
   (have hs12:1<=s/\s<=512:=by have:=HS.out;omega);(have hs1:0<s:=by omega);(have hcT:w4.cell? ⟨T,0,none⟩=some (.int .i64 s):=by simpa using bT.cell 0);(have hOwn:OwnFrom w4.heap.size (Jy w1 M T k s (Ql N) (Qv N)):=by rw [hz4];exact Jy.own HMM.out hMT)
   have hRR:(Qv N).length+(Ql N).length=s:=by
     have h1:=Jp N 0 hv6;rw [hv7]at h1;(have h3:((2:Int)^(p:Int).toNat)=((2^p:Nat):Int):=by simp);have:=HS.out;unfold Qv Ql;omega
   have HTT:=hd_ hT;have HZ4:=hd_ hz4;have HI0:=hd_ hI0;have HOWN:=hd_ hOwn;have HRR:=hd_ hRR;have HF4:=hd_ (FW.out.trans' f4);clear hT hw4 f4 hz4 hI0 hOwn hRR hrd IM BM BO OV HVB hn5;refine(wpIn_wide (n:=3)).1 ?_
   refine KJ (F:=Fence.wide) (n:=3) rfl (by omega) (gf:=218) (lb:=#[.pointer (some ⟨T,0,none⟩)]) rfl trivial (enters_of Tryz.func218 (by kernel_rfl) rfl)
     (Q2s (3-1) T s hs12 hs1 w4 (by have:=HZ4.out;omega) hcT) Y5.trans (fun W l o o' hl _ _ _=>Y5.putObj W o' (by have:=HZ4.out;omega)) (Below.refl _ _) (fun _=>rfl)
     (Jy w1 M T k s (Ql N) (Qv N)) (fun _ _ _=>False) HOWN.out (fun _ _ _ _ _ hs _ _=>hs) HI0.out 10 (fun x=>.int .i64 (x.1:Nat)) ?assign ?body ?done ?stop
   case assign =>
     intro l x W K hK;simp at hK ⊢;gi_wp2;exact hK
   case body =>
     rintro l pre x W hI hlt;simp;obtain⟨cnt,A6,n6,c6,im,bm,bo,rd,hcap,fw⟩:=hI;obtain⟨x,hxs⟩:=x
     have hpl:∀y∈pre.map Subtype.val,y<s:=by
       intro y hy;obtain⟨z,hz,rfl⟩:=List.mem_map.1 hy;exact z.2
     have hroom:=fun hn=>Vr (x:=x) hpl hxs HRR.out hn;have hstep:=YQ (Ql N) (Qe s (Qv N)) (pre.map Subtype.val) x;(have hmapv:(pre++[(⟨x,hxs⟩:{ x:Nat // x<s })]).map Subtype.val=pre.map Subtype.val++[x]:=by simp);(have hlenv:(pre++[(⟨x,hxs⟩:{ x:Nat // x<s })]).length=pre.length+1:=by simp);obtain⟨f,q,hvis⟩:∃f q,Qy (Ql N) (Qe s (Qv N)) (pre.map Subtype.val)=(f,q):=⟨_,_,rfl⟩;rw [hvis]at im rd hroom hstep;dsimp only at im rd hroom hstep
     have HI2:=hd_ (show ∀W',(∃(cnt:Nat) (A:Option Addr) (n c:Nat),Yc W' Tryz.prog 3 3 M (k+(pre.length+1)) cnt (YG (Ql N) (f,q) x).1/\Blk W' (M+1) 268 #[.map (some M)]/\Blk W' (M+1+1) 27 #[.slice A n c] /\
       Rd W' (fun b=>M+3<=b/\b<T) A n (Yu ((Ql N).drop (YG (Ql N) (f,q) x).2))/\n<=c/\Q0 w1 W')->Jy w1 M T k s (Ql N) (Qv N) (pre++[(⟨x,hxs⟩:{ x:Nat // x<s })]) W' from fun W' h=>by
         unfold Jy;rw [hmapv,hlenv,hstep]
         exact h)
     have cM:=bm.cell 0;simp at cM;have hkey:(Lit.int .i64 (x:Int)).wf=true:=KW (by omega);clear hmapv hlenv hstep hvis hpl
     cases hfx:(f x).isSome with
     | true =>
       (have hvs:YG (Ql N) (f,q) x=(f,q):=by unfold YG;rw [if_pos hfx]);rw [hvs]at HI2;have HF:=hd_ hfx;gi_wp2_with (gi_at_lookup;refine JB _ rfl _ _ 268 rfl 3 3 Tryz.underlying3 Tryz.underlying268 Tryz.underlying3 (Tryz.zeroValue3 _) M _ cnt f rfl im (x:Nat) rfl hkey ?_);exact⟨KeepsFrom.refl _ _,fun v h=>h,HI2.out W ⟨cnt,A6,n6,c6,im.mono (by omega),bm,bo,rd,hcap,fw⟩⟩
     | false =>
       have hq:=hroom hfx
       have hvs:YG (Ql N) (f,q) x=(Kr f x (((Ql N)[q]:Nat):Int),q+1):=by
         unfold YG;rw [hfx,List.getElem?_eq_getElem hq];rfl
       rw [hvs]at HI2;have HF:=hd_ hfx;(have hn6:n6=(Ql N).length-q:=by have:=rd.1;simp at this;exact this.symm);obtain⟨b6,o6,rfl,hb6,_,hc6⟩:=rd.at_ (k:=0) (by omega)
       have hd0:(Yu ((Ql N).drop q))[0]?=some (.int .i64 (((Ql N)[q]:Nat):Int)):=by
         simp [Yu,List.getElem?_eq_getElem hq]
       rw [hd0]at hc6;have hc7:W.cell? ⟨b6,o6,none⟩=some (.int .i64 (((Ql N)[q]:Nat):Int)):=hc6;have hyn:=(Kt N 0 _ (List.getElem_mem hq)).2;have hRD:=rd.cut (k:=1) (cap:=c6) (by omega) hcap;have hyw:(Lit.int .i64 (((Ql N)[q]:Nat):Int)).wf=true:=KW (by have h1:(Ql N)[q]<0+N.length:=hyn;omega);generalize (Ql N)[q]=y at *;have cO:=bo.cell 0;have zO:=bo.frozen 0;simp at cO;(have hn60:(0:Int)<n6:=by omega);(have hn6c:(n6:Int)<=c6:=by omega);(have hn61:(1:Int)<=n6:=by omega);clear hd0 hc6 hq hroom hyn;have imd:Yc W.drew Tryz.prog 3 3 M (k+pre.length) cnt f:=im.upd (Upd.refl (fun _=>False) W).drew (fun h=>h);(have hmo:Tryz.prog.follows .mixedOrders=true:=by kernel_rfl);have hml:=Ks;(have hbd:k+pre.length<maxLen:=by have:=HN.out;omega);obtain⟨w5,hrun,im5,g5⟩:=imd.run_put (t:=268) Tryz.underlying3 Tryz.underlying268 Tryz.underlying3 hbd (key:=(x:Nat)) (val:=(y:Nat)) hkey hyw;have u5:Upd (fun b=>b=M) W w5:=((Upd.refl _ W).drew).grown g5 (fun j e _=>by injection e with e;exact e.symm);have bo5:=bo.upd u5 (by omega);have bm5:=bm.upd u5 (by omega);have rd5:=hRD.upd u5 (fun b _ hb h=>by omega);have hfw5:=fw.trans u5 (fun b hb h=>by have:=HMM.out;omega);have cO5:=bo5.cell 0;have zO5:=bo5.frozen 0;simp at cO5;have kf5:KeepsFrom w4.heap.size W w5:=⟨g5.size,fun k o hB hk ho=>(KeepsFrom.of_grownBy g5 (fun j e=>by injection e with e;have:=HZ4.out;omega)).same k o hB hk ho⟩;have kc5:Y5 T W w5:=Y5.upd u5 (by omega);(have edr:(Yu ((Ql N).drop q)).drop 1=Yu ((Ql N).drop (q+1)):=by simp [Yu,List.map_drop]);rw [edr]at rd5
       have FIN:=hd_ (show ∀(a':Act) (A':Option Addr) (n' c':Nat),Rd w5 (fun b=>M+3<=b/\b<T) A' n' (Yu ((Ql N).drop (q+1)))->n'<=c' ->
           ownPostG w4.heap.size (Y5 T) (Jy w1 M T k s (Ql N) (Qv N)) (fun _ _ _=>False) (pre++[(⟨x,hxs⟩:{ x:Nat // x<s })]) W .normal a' (w5.setCell ⟨M+1+1,0,none⟩ (.slice A' n' c'))from fun a' A' n' c' hrd hnc=>by
         have us:Upd (fun b=>b=M+1+1) w5 (w5.setCell ⟨M+1+1,0,none⟩ (.slice A' n' c')):=(Upd.refl (fun b=>b=M+1+1) w5).setCell (p:=⟨M+1+1,0,none⟩) (fun _=>rfl) _;have bs:=bo5.set_ 0 (.slice A' n' c');simp at bs
         exact⟨kf5.trans ((KeepsOthers.setCell _ _ _).from _),kc5.trans (Y5.upd us (by omega)),HI2.out _ ⟨_,A',n',c',im5.upd us (by omega),bm5.upd us (by omega),bs,hrd.upd us (fun b _ hb h=>by omega),hnc,hfw5.trans us (fun b hb h=>by have:=HMM.out;omega)⟩⟩)
       have HN6:=hd_ hn6;have HIM:=hd_ im5;clear hn6 kf5 kc5 edr hfw5 bo5 bm5 g5 u5 imd bo bm HI2;gi_wp2_with (gi_at_lookup;refine JB _ rfl _ _ 268 rfl 3 3 Tryz.underlying3 Tryz.underlying268 Tryz.underlying3 (Tryz.zeroValue3 _) M _ cnt f rfl im (x:Nat) rfl hkey ?_);by_cases hc1:c6=1
       . subst hc1
         rw [if_pos rfl,show n6-1=0 by omega]at rd5;have RD5:=hd_ rd5;clear rd5;gi_region_with_o fail;(all_goals gi_wp2);(all_goals exact FIN.out _ _ _ _ RD5.out (by omega))
       rw [if_neg hc1]at rd5;have RD5:=hd_ rd5;(have hc1I:¬(c6:Int)=1:=by omega);clear rd5;gi_region_with_o fail;(all_goals gi_wp2);(all_goals exact FIN.out _ _ _ _ RD5.out (by omega))
   case done =>
     rintro D ys W hD rfl hI hK;obtain⟨cnt,A6,n6,c6,im,bm,bo,rd,hcap,fw⟩:=hI;rw [Q3t]at im;obtain⟨Z,hZ⟩:=nm_ (Q7 p N);(have hZs:Z.length=s:=by rw [hZ,HS.out];simp)
     have hZg:∀(j:Nat) (h:j<Z.length),Z[j]=((Qy (Ql N) (Qe s (Qv N)) (Y3 s)).1 (j:Int)).getD 0:=by
       intro j h;subst hZ;simp only [Q7,List.getElem_map,List.getElem_range,HS.out]
     generalize (Qy (Ql N) (Qe s (Qv N)) (Y3 s)).1=f at *
     have hmk:∀W,(Instr.makeSlice 27 (.int .i64 (s:Int)) (.int .i64 (s:Int))).run Tryz.prog W = .ok (.slice (some ⟨W.heap.size,0,none⟩) s s) (W.alloc (.cells (madeCells #[.int .i64 0] s) 3)):=fun W=>by
       have:=run_make_row' (P:=Tryz.prog) 27 3 (.int .i64 0) 8 Tryz.underlying27 Yx rfl .i64 .i64 s (by omega) (by omega) W;simpa using this
     obtain⟨cs,hcs⟩:=nm_ (madeCells #[Value.int .i64 0] s);simp only [<-hcs]at hmk;obtain⟨G,hG⟩:=nm_ (W.heap.size);obtain⟨w6,hw6⟩:=nm_ (W.alloc (.cells cs 3));(have f6:Q0 W w6:=by rw [hw6];exact(Upd.refl _ _).alloc _);(have bg0:Blk w6 G 3 cs:=by rw [hw6];exact Q2 hG _ _)
     have bg:Blk w6 G 3 (Q1 (ZZ Z 0)).toArray:=by
       have e:(Q1 (ZZ Z 0)).toArray=cs:=by
         rw [hcs,Q3w,hZs];exact Array.toList_inj.1 (by rw [toList_madeCells_one];simp [Q1])
       rw [e];exact bg0
     (have hGD:D<G:=by rw [hG];exact(Array.getElem?_eq_some_iff.1 hK).1);(have hK6:w6.heap[D]?=some (.deferred (some [])):=by rw [f6.block D (by omega) (fun h=>h)];exact hK);(have hGM:M+3<=G:=by have:=HZ4.out;omega);have HBG:=hd_ bg;have HIM:=hd_ (im.upd f6 (fun h=>h));have HBM:=hd_ (bm.fresh f6);have HFW:=hd_ (fw.trans' f6);have HK6:=hd_ hK6;have HZG:=hd_ hZg;have HZS:=hd_ hZs;have HZ:=hd_ hZ;(have hD2:M+3<=D:=by have:=HZ4.out;omega);clear im bm bo rd fw bg bg0 hK hK6 hZg hZs hZ hcs f6 hcap;go_upto_region 24 with fail;rw [<-hw6,<-hG];clear hw6 hG hmk;go_wp2_with fail;go_loopg [73] s (fun g i wy=>∃j:Nat,j+g=s/\i = .int .i64 j/\Blk wy G 3 (Q1 (ZZ Z j)).toArray/\Upd (fun b=>b=G) w6 wy)
     case atStart=>exact⟨0,by omega,rfl,HBG.out,Upd.refl _ _⟩
     case round =>
       obtain⟨j,hj,rfl,bg,uy⟩:=hrel;have HJ:=hd_ hj;have BGJ:=hd_ bg;have UY:=hd_ uy;have imy:=HIM.out.upd uy (by omega);have cM:=(HBM.out.upd uy (by omega)).cell 0;simp at cM;clear hj bg uy;by_cases hjs:j<s
       . have hjI:(j:Int)<s:=by omega
         (have hjZ:j<Z.length:=by rw [HZS.out];exact hjs);have hzv:=HZG.out j hjZ;have HLS:=hd_ (Q4F hjZ);have hg0:=Q4G hjZ;(have c0:wr.cell? ⟨G,j,none⟩=some (.int .i64 0):=by rw [BGJ.out.cell];simp [Q1,hg0]);have z0:=BGJ.out.frozen j;have bs:=BGJ.out.set_ j (.int .i64 ((f j).getD 0));rw [Ku,<-hzv,HLS.out]at bs;have hw5:IntKind.i64.wrap ((j:Int)+1)=j+1:=IntWalk.i64_in _ (by omega);(have hj0:(0:Int)<=j:=by omega);have hkey:(Lit.int .i64 (j:Int)).wf=true:=KW (by omega);rw [hzv]at bs;have BS:=hd_ bs;clear bs hzv;go_wp2_with (at_lookup;refine Zj _ rfl _ _ 268 rfl 3 3 Tryz.underlying3 Tryz.underlying268 Tryz.underlying3 (Tryz.zeroValue3 _) M _ cnt f rfl imy (j:Nat) rfl hkey ?_);go_roundg (gk-1)
         case measure=>have:=HJ.out;omega
         case rel=>exact⟨j+1,by have:=HJ.out;omega,by go_num,BS.out,UY.out.setCell (p:=⟨G,j,none⟩) (fun _=>rfl) _⟩
       (obtain rfl:j=s:=by have:=HJ.out;omega);(have hly:ZZ Z j=Z:=by have:=Q4H Z;rw [HZS.out]at this;exact this);rw [hly]at BGJ;go_wp2_with fail;(have hKy:wr.heap[D]?=some (.deferred (some [])):=by rw [UY.out.block D (by have:=(Array.getElem?_eq_some_iff.1 HK6.out).1;exact this) (by omega)];exact HK6.out);refine⟨by simp,.inl ⟨_,_,rfl,run_takeDeferred hKy,?_⟩⟩;refine⟨_,results_tmp2 rfl _ _ _,?_⟩;have u7:Upd (fun b=>b=D) wr (wr.putObj D (.deferred none)):=(Upd.refl (fun b=>b=D) wr).grown (grownBy_putObj' wr D _) (fun k e _=>by injection e with e;exact e.symm);have r7:=Blk.rdg (BGJ.out.upd u7 (by omega)) rfl;refine hR.out _ _ ⟨G,by rw [<-HS.out];rfl,?_,by have:=HH.out;have:=HMM.out;have h1:=F1.out.size;omega,?_⟩
       . have e7:Z.length=2^p:=by rw [HZS.out,HS.out]
         rw [e7,HZ.out]at r7;exact r7
       exact((F1.out.trans' HFW.out).trans UY.out (fun b hb h=>by have:=F1.out.size;have:=HMM.out;omega)).trans u7 (fun b hb h=>by have:=F1.out.size;have:=HMM.out;omega)
   case stop =>
     rintro D c pre W _ _ h _;exact h.elim
theorem Q3x (F:Nat->Prop) (A:Option Addr) (n c:Nat) (lg:Int) (N:List Int) (w:World) (hr:Rd w F A n (Q1 N)) (hfit:Fit N) (hn:(n:Int)<=1099511627776) (hv:¬Qg lg N 256 9) :
   Calls Tryz.prog 174 #[.agg #[.int .i64 lg,.slice A n c]] w fun e w'=>e = .returned (.tuple #[.slice none 0 0,.int .i64 13])/\Q0 w w':=by
 obtain⟨w0,hw0⟩:=nm_ (w.alloc (.cells #[.int .i64 lg,.slice A n c] 29));obtain⟨H,hH⟩:=nm_ (w.heap.size);(have f0:Q0 w w0:=by rw [hw0];exact(Upd.refl _ _).alloc _);(have bt:Blk w0 H 29 #[.int .i64 lg,.slice A n c]:=by rw [hw0];exact Q2 hH _ _);have hck:=KV F A n c lg 256 9 N w0 (hr.fresh f0) hfit hn;rw [if_neg hv]at hck;obtain⟨t0,t1⟩:=(bt).cells2;have HCK:=hd_ hck;have F0:=hd_ f0;have HW:=hd_ hw0;have HH:=hd_ hH;clear hr hw0 hH f0 bt hck hv;refine Q6 fun R hR=>?_;refine(callsIn_wide (n:=3)).1 (callsIn_of_wp_marks Tryz.func174 rfl trivial ?_ rfl);simp only [Tryz.ntmps174,List.size_toArray,List.length_cons,List.length_nil,Nat.reduceAdd,Nat.reduceSub,Array.replicate_succ,Array.replicate_zero,List.push_toArray,List.append_toArray,List.nil_append,List.cons_append];refine wpIn_wide.2 ?_;go_upto_region 1 with fail;simp only [<-HH.out,<-HW.out];go_wp2_with fail;refine HCK.out.mono ?_;rintro e w1 ⟨rfl,f1⟩;have F1:=hd_ (F0.out.trans' f1);clear f1;go_wp2_with fail;exact⟨_,results_tmp2 rfl _ _ _,hR.out _ _ ⟨rfl,F1.out⟩⟩
theorem Kv (F:Nat->Prop) (A:Option Addr) (n c:Nat) (lg:Int) (N:List Int) (w:World) (hr:Rd w F A n (Q1 N)) (hfit:Fit N) (hn:(n:Int)<=1099511627776) :
   Calls Tryz.prog 174 #[.agg #[.int .i64 lg,.slice A n c]] w (Jz lg N w):=by
 by_cases hv:Qg lg N 256 9
 . obtain⟨p,rfl⟩:∃p:Nat,lg=p:=⟨lg.toNat,by have:=hv.1;omega⟩
   refine(Q3v F A n c p N w hr hfit hn hv).mono fun e w' h=>?_;unfold Jz;rw [if_pos hv];exact h
 refine(Q3x F A n c lg N w hr hfit hn hv).mono fun e w' h=>?_;unfold Jz;rw [if_neg hv];exact h
end Go.Proofs.YtjfdaphjijfieaaGreat
namespace Go.Proofs.YtjfdaphjijfieaaGreat
open Go.RowKit
def JE (P:List Int) (c:Int) (k:Nat):List Nat:=(List.range k).filter fun i=>decide (P[i]?=some c)
theorem Q3y {P:List Int} {c:Int} {k:Nat} (h:k<P.length):JE P c (k+1)=JE P c k++(if P[k]=c then [k]else []):=by
 unfold JE;rw [List.range_succ,List.filter_append]
 congr 1
 simp only [List.filter_cons,List.filter_nil,List.getElem?_eq_getElem h];(by_cases hc:P[k]=c<;>simp [hc])
theorem Q5L (P:List Int) (c:Int) (k:Nat):(JE P c k).length<=k:=by
 unfold JE;have:=List.length_filter_le (fun i=>decide (P[i]?=some c)) (List.range k);simpa using this
def Q6X (lg:Int) (N:List Int) (c:Int) (w:World) (e:Ending) (w':World):Prop :=
  if Qg lg N 256 9 then ∃v,e = .returned (.tuple #[v,.int .i64 0])/\Own w' 3 v (Yu (JE (Q7 lg.toNat N) c (2^lg.toNat)))/\(∀b,v.ownBlock=some b->w.heap.size<=b)/\Q0 w w'
  else e = .returned (.tuple #[.slice none 0 0,.int .i64 13])/\Q0 w w'
theorem Q6o (F:Nat->Prop) (A:Option Addr) (n c p:Nat) (sy:Int) (N:List Int) (w:World) (hr:Rd w F A n (Q1 N)) (hfit:Fit N) (hn:(n:Int)<=1099511627776) (hv:Qg p N 256 9) :
   Calls Tryz.prog 126 #[.agg #[.int .i64 p,.slice A n c],.int .i64 sy] w fun e w'=>∃v,e = .returned (.tuple #[v,.int .i64 0])/\Own w' 3 v (Yu (JE (Q7 p N) sy (2^p)))/\(∀b,v.ownBlock=some b->w.heap.size<=b)/\Q0 w w':=by
 (have hp:p<=9:=by have:=hv.2.1;omega);have hpw:2^p<=512:=Nat.le_trans (Nat.pow_le_pow_right (by decide) hp) (by decide);obtain⟨w0,hw0⟩:=nm_ (w.alloc (.cells #[.int .i64 p,.slice A n c] 29));obtain⟨H,hH⟩:=nm_ (w.heap.size);(have f0:Q0 w w0:=by rw [hw0];exact(Upd.refl _ _).alloc _);(have bt:Blk w0 H 29 #[.int .i64 p,.slice A n c]:=by rw [hw0];exact Q2 hH _ _);have hsp:=Kv F A n c p N w0 (hr.fresh f0) hfit hn;unfold Jz at hsp;simp only [if_pos hv,Int.toNat_natCast]at hsp;obtain⟨t0,t1⟩:=(bt).cells2;obtain⟨P,hP⟩:=nm_ (Q7 p N);(have hPl:P.length=2^p:=by rw [hP];simp);rw [<-hP]at hsp ⊢;have HSP:=hd_ hsp;have F0:=hd_ f0;have HW:=hd_ hw0;have HH:=hd_ hH;have HPL:=hd_ hPl;clear hr hw0 hH f0 bt hsp hv hP hPl hp;generalize 2^p=s at *;refine Q6 fun R hR=>?_;go_enter Tryz.func126,Tryz.ntmps126;go_upto_region 1 with fail;simp only [<-HH.out,<-HW.out];go_wp2_with fail;refine HSP.out.mono ?_;rintro e w1 ⟨g,rfl,r1,hg,f1⟩;have R1:=hd_ r1;have F1:=hd_ (F0.out.trans' f1);have HGW:=hd_ (show w.heap.size<=g from by have:=F0.out.size;omega)
 have hg1:s≠0->g<w1.heap.size:=fun h=>by
   obtain⟨b,o,e,h1,h2,_⟩:=r1.2 (by omega);omega
 have HG1:=hd_ hg1;clear t0 t1 r1 f1 hg hg1;go_wp2_with fail;go_loopg [8,21] s (fun f v8 i wr=>∃j:Nat,j+f=s/\i = .int .i64 j/\Q0 w1 wr/\Own wr 3 v8 (Yu (JE P sy j))/\(∀b,v8.ownBlock=some b->w1.heap.size<=b))
 case atStart=>exact⟨0,by omega,rfl,Upd.refl _ _,Own.nil _ _,fun b h=>by simp [Value.ownBlock]at h⟩
 case round =>
   obtain⟨j,hj,rfl,fr,ov,hvb⟩:=hrel;have HJ:=hd_ hj;have FR:=hd_ fr;have OV:=hd_ ov;have HVB:=hd_ hvb;by_cases hjs:j<s
   . have hjI:(j:Int)<s:=by omega
     have hw4:IntKind.i64.wrap ((j:Int)+1)=j+1:=IntWalk.i64_in _ (by omega);(have hjP:j<P.length:=by rw [HPL.out];exact hjs);have HPS:=hd_ (Q3y (c:=sy) hjP);obtain⟨b,o,_,e1,_,hc⟩:=(R1.out.fresh fr).int (k:=j) hjs;injection e1 with e1;injection e1 with e1 e2;subst e1 e2;rw [Nat.zero_add]at hc;have hpl:=Q5L P sy j;generalize P[j]=y at *;clear hj fr ov hvb;by_cases hy:y=sy
     . have hyb:(y == sy)=true:=by simpa using hy
       rw [if_pos hy]at HPS;(have hlen:(Yu (JE P sy j)).length+1<=2^40:=by simp;omega);clear hy;go_wp2_with (at_builtin;go_must (refine Yl _ rfl (.tmp 29) (.tmp 31) _ rfl 3 _ 8 Tryz.underlying27 Yx rfl u8 _ rfl (OV.out.alloc _) _ 1 _ _ rfl (Rd.one wr 3 (.int .i64 (j:Nat))) (by simp [Value.oneCell']) (by omega) hlen ?_);intro v5 w5 o5 g5 a5;obtain⟨A5,n5,c5,rfl,hn5⟩:=o5.form');have u5:Upd (fun b=>u8.ownBlock=some b) wr w5:=((Upd.refl _ wr).alloc _).grown g5 (fun k hk _=>hk);(have en:Yu (JE P sy j)++[Value.int .i64 (j:Nat)]=Yu (JE P sy (j+1)):=by rw [HPS.out,Vs];rfl);rw [en]at o5
       have hob:∀b,(Value.slice A5 n5 c5).ownBlock=some b->w1.heap.size<=b:=by
         intro b hb;rcases a5 with e|e
         . exact HVB.out b (by rw [<-e];exact hb)
         rw [e]at hb;injection hb with hb;have:=FR.out.size;simp at hb;omega
       have O5:=hd_ o5;have HOB:=hd_ hob;have U5:=hd_ (FR.out.trans u5 (fun b hb h=>by have:=HVB.out b h;omega));clear o5 hob u5 en g5 a5;go_roundg (gk-1)
       case measure=>have:=HJ.out;omega
       case rel=>exact⟨j+1,by have:=HJ.out;omega,by go_num,U5.out,O5.out,HOB.out⟩
     (have hyb:(y == sy)=false:=by simpa using hy);rw [if_neg hy,List.append_nil]at HPS;go_wp2_with fail;go_roundg (gk-1)
     case measure=>have:=HJ.out;omega
     case rel=>exact⟨j+1,by have:=HJ.out;omega,by go_num,FR.out,by rw [HPS.out];exact OV.out,HVB.out⟩
   (obtain rfl:j=s:=by have:=HJ.out;omega);clear hj fr ov hvb;go_wp2_with fail;(try go_ret);exact hR.out _ _ ⟨u8,rfl,OV.out,fun b hb=>by have:=HVB.out b hb;have:=F1.out.size;omega,F1.out.trans' FR.out⟩
end Go.Proofs.YtjfdaphjijfieaaGreat
