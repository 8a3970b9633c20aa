/-
  Joined texts, part 42: contracts and plain lemmas.
  Conditions: none beyond those of each theorem.
-/
import Derived.Test.YtckjdhaflokcgaaGreatQ38
import Derived.Test.YtckjdhaflokcgaaGreatQ31
import Derived.Test.YtckjdhaflokcgaaGreatQ25
import Derived.Test.YtckjdhaflokcgaaGreatQ23
import Derived.Laws.EntriesVeiled
set_option maxHeartbeats 8000000
set_option linter.unusedVariables false
set_option linter.unusedSimpArgs false
set_option linter.unnecessarySimpa false
set_option maxRecDepth 100000
universe u
namespace Go.Proofs.YtckjdhaflokcgaaGreat
open Go.RowKit Go.Shelf Go.Sort
attribute [local go_sem] Oper.semAt_some
theorem ZL {l:List Int} (ht:Qj l) {bs:List Nat} (h:QL l bs=-1):∀c∈bs,c<l.length/\0<(Qh l c).1:=by
 intro c hc;unfold QL at h
 cases hf:bs.findIdx? (noK l)with
 | some i =>
   rw [hf]at h;have h:(i:Int)=-1:=h;omega
 | none =>
   rw [List.findIdx?_eq_none_iff]at hf;have:=hf c hc;unfold noK at this;have hcl:=YR ht c;by_cases hlt:c<l.length
   . refine⟨hlt,?_⟩
     rw [hcl];have h2:=ht.1 _ (List.getElem_mem hlt);simp [List.getElem?_eq_getElem hlt]at this ⊢;omega
   simp at this;omega
def JW (l:List Int) (pre:List (Nat × Nat)):List Bool:=(pre.map fun x=>Qs (Qh l x.2).1 (Qh l x.2).2).flatten
theorem Q1A (l:List Int) (pre:List (Nat × Nat)) (x:Nat × Nat):JW l (pre++[x])=JW l pre++Qs (Qh l x.2).1 (Qh l x.2).2:=by simp [JW]
theorem V1 {l:List Int} (ht:Qj l):∀pre:List (Nat × Nat),(JW l pre).length<=11*pre.length
 | []=>by simp [JW]
 | x::pre=>by
   have ih:=V1 ht pre
   have h:=(Jb ht x.2).1
   unfold JW at ih ⊢
   rw [List.map_cons,List.flatten_cons,List.length_append,List.length_cons]
   have:(Qs (Qh l x.2).1 (Qh l x.2).2).length=(Qh l x.2).1:=by simp
   omega
theorem X8 {Pq:Nat × Nat->Prop} (l:List Int) (bs:List Nat) (hq:∀(j:Nat) (h:j<bs.length),Pq (j,bs[j])):JW l ((bkB bs hq 0).map Subtype.val)=Yh l bs:=by
 unfold JW Yh bkB;simp only [List.drop_zero,List.map_reverse,List.map_map]
 congr 2
 apply List.ext_getElem
 . simp
 intro i h1 h2;simp
def OeI {Pq:Nat × Nat->Prop} (w:World) (C g Sb n m d:Nat) (B:Option Addr) (l:List Int) (pre:List { p:Nat × Nat // Pq p }) (W:World):Prop :=
  Q0 w W/\Blk W Sb 22 #[.slice B m d]/\Blk W C 119 #[.slice (some ⟨g,0,none⟩) n n]/\Blk W (C+1+1) 127 #[.func (.func 87) #[] #[.pointer (some ⟨C+1,0,none⟩)]] /\
    RdK W (fun b=>b=g) 2 (some ⟨g,0,none⟩) n ((Qz l).map cd2)/\QD W (fun k=>C<k) (C+1) (JW l (pre.map Subtype.val))
theorem OeI.own {Pq:Nat × Nat->Prop} {w:World} {C g Sb n m d Bs:Nat} {B:Option Addr} {l:List Int} (hB:w.heap.size<=Bs) (hg:g<Bs):OwnFrom Bs (OeI (Pq:=Pq) w C g Sb n m d B l):=by
 intro pre W W' row h hg' hr;obtain⟨h1,h2,h3,h4,h5,h6⟩:=h;have hr':=fun r e=>(hr r e).2;refine⟨h1.grown hg' (fun k hk hlt=>by have:=(hr k hk).1;omega),h2.kept hg' hr',h3.kept hg' hr',h4.kept hg' hr',?_,?_⟩
 . exact h5.upd (S:=fun b=>row=some b) ((Upd.refl _ W).grown hg' fun k hk _=>hk) (fun b _ hb hs=>by have:=(hr b hs).1;omega)
 obtain⟨v,n,sv,bs,q1,q2,q3,q4,q5,q6,q7,q8⟩:=h6;exact⟨v,n,sv,bs,q1.kept hg' hr',q2.kept hg' hr',q3,q4,q5,q6,q7,q8⟩
theorem Q3A (F G:Nat->Prop) (A B:Option Addr) (n c m d:Nat) (l:List Int) (bs:List Nat) (w:World) (hr:Rd w F A n (Qm l)) (hbs:Rd w G B m (Qa bs)) (hlt:∀b∈bs,b<256) (hn:n<=2^40) (hm:m<=2^40) (hc:n<=c)
   (ht:Qj l) (hb:bs.length<=131072/\QL l bs=-1) :
   Calls Tryz.prog 48 #[.slice A n c,.slice B m d] w fun e w'=>∃v,e = .returned (.tuple #[v,.int .i64 0])/\Qk w w' v (QE (Yh l bs++[true])):=by
 have hmf:∀(fn:Fn) (first cap:Array Value) (w:World),(Instr.makeFunc fn first cap).run Tryz.prog w = .ok (.func fn first cap) w:=fun _ _ _ _=>rfl;(have hL:bs.length=m:=by have:=hbs.1;simpa using this);(have hLl:l.length=n:=by have:=hr.1;simpa using this);obtain⟨w0,hw0⟩:=nm_ ((w.alloc (.cells #[.slice none 0 0] 22)).alloc (.cells #[.int .i64 0] 24));obtain⟨H,hH⟩:=nm_ (w.heap.size);(have f0:Q0 w w0:=by rw [hw0];exact((Upd.refl _ _).alloc _).alloc _);(have bo:Blk w0 H 22 #[.slice none 0 0]:=by rw [hw0];exact(Qc hH _ _).alloc _);(have be:Blk w0 (H+1) 24 #[.int .i64 0]:=by rw [hw0];exact Qc (by simp [hH]) _ _);(have hs0:w0.heap.size=H+2:=by rw [hw0];simp [hH])
 have HCO:=hd_ (show Calls Tryz.prog 86 #[.slice A n c,.slice B m d] w0 fun e w'=>Q0 w0 w'/\∃g,e = .returned (.slice (some ⟨g,0,none⟩) n n)/\RdK w' (fun b=>b=g) 2 (some ⟨g,0,none⟩) n ((Qz l).map cd2)/\w0.heap.size<=g from
   (Jq F G A B n c m d l bs w0 (hr.fresh f0) (hbs.fresh f0) hlt hn hm hc).mono fun e w' h=>⟨h.1,by have h2:=h.2;rw [if_pos ht,if_pos hb]at h2;exact h2⟩)
 have HQ:=hd_ (show ∀(j:Nat) (h:j<bs.length),(fun p:Nat × Nat=>p.2<n/\p.2<256) (j,bs[j])from fun j h=>⟨by have:=(ZL ht hb.2 _ (List.getElem_mem h)).1;omega,hlt _ (List.getElem_mem h)⟩);have HRB:=hd_ hbs.both;have HT:=hd_ ht;have HM:=hd_ (show m<=131072 by omega);have HNP:=hd_ (show 0<n by have h1:=ht.2.2.1;have h2:=YP l;omega);have HLl:=hd_ hLl;have BO:=hd_ bo;have BE:=hd_ be;have F0:=hd_ f0;have HW:=hd_ hw0;have HH:=hd_ hH;have HS0:=hd_ hs0;have HL:=hd_ hL;(have hsz:(w.alloc (.cells #[.slice none 0 0] 22)).heap.size=H+1:=by simp [hH]);clear hw0 hH f0 bo be hr hbs hlt hn hm hc ht hb hL hLl hs0;refine Qg fun R hR=>?_;refine(callsIn_wide (n:=3)).1 (callsIn_of_wp_marks Tryz.func48 rfl trivial ?_ rfl);simp only [Tryz.ntmps48,List.size_toArray,List.length_cons,List.length_nil,Nat.reduceAdd,Nat.reduceSub,Array.replicate_succ,Array.replicate_zero,List.push_toArray,List.append_toArray,List.nil_append,List.cons_append];refine wpIn_wide.2 ?_;go_upto_region 1 with fail;simp only [hsz,<-HH.out,<-HW.out];clear hsz;go_wp2_with fail;refine HCO.out.mono ?_;rintro e w1 ⟨f1,g,rfl,rd1,hg⟩;have F1:=hd_ f1;have RD1:=hd_ rd1
 have HG:=hd_ (show H+2<=g/\g<w1.heap.size from by
   obtain⟨b,o,he,hb,hbl,_⟩:=rd1.2 HNP.out;have:=HS0.out
   exact⟨by omega,by omega⟩)
 clear f1 rd1 hg HCO;go_wp2_with fail;obtain⟨C,hC⟩:=nm_ (w1.heap.size);obtain⟨w3,hw3⟩:=nm_ (((w1.alloc (.cells #[.slice (some ⟨g,0,none⟩) n n] 119)).alloc (.cells #[.int .u64 0,.int .i64 0,.slice none 0 0] 124)).alloc (.cells #[.func (.func 87) #[] #[.pointer (some ⟨C+1,0,none⟩)]] 127));simp only [<-hC,<-hw3];(have f3:Q0 w1 w3:=by rw [hw3];exact(((Upd.refl _ _).alloc _).alloc _).alloc _);(have bC:Blk w3 C 119 #[.slice (some ⟨g,0,none⟩) n n]:=by rw [hw3];exact((Qc hC _ _).alloc _).alloc _);(have bW:Blk w3 (C+1) 124 #[.int .u64 0,.int .i64 0,.slice none 0 0]:=by rw [hw3];exact(Qc (by simp [hC]) _ _).alloc _);(have bP:Blk w3 (C+1+1) 127 #[.func (.func 87) #[] #[.pointer (some ⟨C+1,0,none⟩)]]:=by rw [hw3];exact Qc (by simp [hC]) _ _);(have hz3:w3.heap.size=C+3:=by rw [hw3,hC];simp);(have hwC:H+2<=C:=by rw [hC];have:=F1.out.size;have:=HS0.out;omega);have HGC:=hd_ (show H+2<=g/\g<C by rw [hC];exact HG.out);have HF3:=hd_ (F1.out.trans' f3);have HB3:=hd_ (And.intro bC (And.intro bW bP));have RD3:=hd_ (RD1.out.fresh f3);have HZ3:=hd_ hz3;have HWC:=hd_ hwC;clear hC hw3 f3 bC bW bP hz3 hwC HG RD1;refine(VA _ _ _ _).mono ?_;rintro e w4 ⟨rfl,hw4⟩;obtain⟨Sb,hSb⟩:=nm_ (w3.heap.size);rw [<-hSb];(have f4:Q0 w3 w4:=by rw [hw4];exact(Upd.refl _ _).alloc _);(have bSb:Blk w4 Sb 22 #[.slice B m d]:=by rw [hw4];exact Qc hSb _ _);(have hz4:w4.heap.size=Sb+1:=by rw [hw4,hSb];simp);(have hSP:Sb=C+3:=by rw [hSb];exact HZ3.out)
 have hI0:OeI (Pq:=fun p:Nat × Nat=>p.2<n/\p.2<256) w0 C g Sb n m d B l [] w4 :=
   ⟨HF3.out.trans' f4,bSb,HB3.out.1.fresh f4,HB3.out.2.2.fresh f4,RD3.out.fresh f4,0,0,_,[],HB3.out.2.1.fresh f4,Own.nil _ _,by omega,by simp,(fun b hb=>by cases hb),rfl,by omega,(fun k hk=>by simp [Value.ownBlock]at hk)⟩
 have HI0:=hd_ hI0;have HBS:=hd_ bSb;have HZ4:=hd_ hz4;have HSP:=hd_ hSP;have HF4:=hd_ (HF3.out.trans' f4);clear hw4 hSb f4 bSb hz4 hSP hI0 HF3 HB3 RD3 HZ3;go_wp2_with fail;obtain⟨Kb,hKb⟩:∃Kb:Nat->Prop,Kb=fun k=>(G k/\k<w.heap.size)\/k=Sb:=⟨_,rfl⟩;have HKB:=hd_ (show ∀k,Kb k ↔ (G k/\k<w.heap.size)\/k=Sb from fun k=>by rw [hKb]);have HKD:=hd_ (show ∀k,Kb k->k<w4.heap.size from fun k hk=>by rcases(HKB.out k).1 hk with h|h;have:=HF4.out.size;have:=HS0.out;have:=HH.out;omega;have:=HZ4.out;omega)
 have HKN:=hd_ (show ∀k,Kb k->k≠C+1/\∀W,(C<k/\∃cs,Blk W k 5 cs)->Blk W Sb 22 #[.slice B m d]->False from fun k hk=>by
   rcases(HKB.out k).1 hk with h|h
   . have:=HH.out;have:=HWC.out
     exact⟨by omega,fun W h2 _=>by omega⟩
   have:=HSP.out
   exact⟨by omega,fun W h2 h3=>by obtain⟨_,cs,hc⟩:=h2;subst h;exact hc.ne_ h3 (by decide) rfl⟩)
 (have hcSb:w4.cell? ⟨Sb,0,none⟩=some (.slice B m d):=by simpa using HBS.out.cell 0);clear hKb;have hOwn:OwnFrom w4.heap.size (OeI (Pq:=fun p:Nat × Nat=>p.2<n/\p.2<256) w0 C g Sb n m d B l):=OeI.own HF4.out.size (by have:=HGC.out;have:=HSP.out;have:=HZ4.out;omega);refine(wpIn_wide (n:=3)).1 ?_
 refine Zp (F:=Fence.wide) (n:=3) rfl (by omega) (gf:=147) (lb:=#[.pointer (some ⟨Sb,0,none⟩)]) rfl trivial (enters_of Tryz.func147 (by kernel_rfl) rfl)
   (Xu (Pq:=fun p:Nat × Nat=>p.2<n/\p.2<256) (3-1) Sb m d B bs Kb _ HQ.out w4 (by have:=HZ4.out;omega) hcSb ((HKB.out Sb).2 (.inr rfl)) (HRB.out.fresh (F0.out.trans' HF4.out)) (fun b hb=>(HKB.out b).2 (.inl hb)) (by have:=HM.out;omega))
   QI.trans (fun W l o o' hl ho _ _=>QI.putObj W o' (fun k hk=>⟨by have:=HKD.out k hk;have:=(Array.getElem?_eq_some_iff.1 ho).1;omega,by have:=HKD.out k hk;omega⟩)) (Below.refl _ _) (fun _=>rfl)
   (OeI w0 C g Sb n m d B l) (fun _ _ _=>False) hOwn (fun _ _ _ _ _ hs _ _=>hs) HI0.out 10 (fun x=>.int .u8 (x.1.2:Nat)) ?assign ?body ?done ?stop
 case assign =>
   intro l x W K hK;simp [bkW]at hK ⊢;gi_wp2;exact hK
 case body =>
   rintro ll pre x W hI hlt;simp [bkW];obtain⟨hf,hbSb,hbC,hbP,hrd,hwr⟩:=hI;obtain⟨⟨i,q⟩,hqn,hq256⟩:=x;simp only at hqn hq256 ⊢;(have hqI:(q:Int)<n:=by omega);(have hmo:Tryz.prog.follows .mixedOrders=true:=by kernel_rfl);obtain⟨b9,o9,he9,_,_,hc9⟩:=hrd.at_ (r:=0) hqn;injection he9 with he9;injection he9 with hb9 ho9;subst hb9 ho9;(have hrow:((Qz l).map cd2)[q]'(by rw [List.length_map,Yb,HLl.out];exact hqn)=cd2 (Qh l q):=by simp [Qz]);obtain⟨hl11,hx11⟩:=Jb HT.out q;have c0:=hc9 0 (by omega);have c1:=hc9 1 (by omega);rw [hrow]at c0 c1;have hvs:=Q1A l (pre.map Subtype.val) (i,q);have hvl:=V1 HT.out (pre.map Subtype.val);rw [List.length_map]at hvl;(have hmap:(pre++[(⟨(i,q),hqn,hq256⟩:{ p:Nat × Nat // p.2<n/\p.2<256 })]).map Subtype.val=pre.map Subtype.val++[(i,q)]:=by simp);obtain⟨D,hD⟩:=nm_ (JW l (pre.map Subtype.val));rw [<-hD]at hvs hvl hwr;simp only at hvs;obtain⟨L,hL⟩:=nm_ ((Qh l q).1);obtain⟨X,hX⟩:=nm_ ((Qh l q).2);rw [<-hL,<-hX]at hvs hx11;rw [<-hL]at hl11;simp only [cd2,<-hL,<-hX,List.getElem?_cons_zero,List.getElem?_cons_succ]at c0 c1;simp at c0 c1;have p0:=hbP.cell 0;have p1:=hbC.cell 0;simp at p0 p1;have hX11:X<2048:=Nat.lt_of_lt_of_le hx11 (Nat.pow_le_pow_right (n:=2) (by decide) (show L<=11 from hl11));(have hw1:IntKind.u64.wrap (L:Int)=L:=by unfold IntKind.wrap;simp [IntKind.bits];omega);(have hw2:IntKind.u64.wrap (X:Int)=X:=by unfold IntKind.wrap;simp [IntKind.bits];omega);have q0:=cell_regrown p0;have q1:=cell_regrown p1;have q2:=cell_regrown c0;have q3:=cell_regrown c1
   have HFIN:=hd_ (show ∀W',Q0 w0 W'->Blk W' Sb 22 #[.slice B m d]->Blk W' C 119 #[.slice (some ⟨g,0,none⟩) n n]->Blk W' (C+1+1) 127 #[.func (.func 87) #[] #[.pointer (some ⟨C+1,0,none⟩)]]->RdK W' (fun b=>b=g) 2 (some ⟨g,0,none⟩) n ((Qz l).map cd2)->QD W' (fun k=>C<k) (C+1) (D++Qs L X) ->
       OeI w0 C g Sb n m d B l (pre++[(⟨(i,q),hqn,hq256⟩:{ p:Nat × Nat // p.2<n/\p.2<256 })]) W' from by
     intro W' h1 h2 h3 h4 h5 h6;unfold OeI;rw [hmap,hvs]
     exact⟨h1,h2,h3,h4,h5,h6⟩)
   have HF:=hd_ hf;have HSb:=hd_ hbSb;have HC:=hd_ hbC;have HP:=hd_ hbP;have HRD:=hd_ hrd;have HWR:=hd_ hwr;have HVL:=hd_ (show D.length<=1441792 by have:=HM.out;omega);have HX:=hd_ (And.intro hl11 hx11);clear hf hbSb hbC hbP hrd hwr hc9 hrow hvs hvl hmap hD hL hX hl11 hx11 hlt p0 p1 c0 c1 hcSb hOwn;gi_upto_region 7 with fail;refine Ku (C:=fun w'=>∃pp:Regrown,w'=grow (redrawn W pp.d) pp.os) 14 rfl ll hmo (by kernel_rfl) (by kernel_rfl) ⟨⟨W.drawn+1,#[]⟩,by rw [grow_empty];rfl⟩ ?_;simp only [List.take_succ_cons,List.take_zero,List.drop_succ_cons,List.drop_zero];(repeat(refine wpQuietIn_step (fun _ _ _ _=>trivial) (fun K hK=>?_);go_simp;refine hK _ ?_;clear hK K));refine wpQuietIn_nil ?_;intro _ hw';obtain⟨⟨dr,osr⟩,hw''⟩:=hw';subst hw'';have fr:Q0 W (grow (redrawn W dr) osr):=Upd.of_below (below_regrown W dr osr);generalize grow (redrawn W dr) osr=Wr at *;clear q0 q1 q2 q3;have HPUT:=Q2A (C+1) (C+1) X L D Wr (((HWR.out.mono (fun k h=>h)).upd fr (fun _ _ h=>h.elim))) (by have:=(HWR.out.lt).1;have:=fr.size;omega) (by have:=HX.out.1;omega) HX.out.2 (by have:=HVL.out;omega);gi_wp2;refine⟨trivial,callsIn_wide.2 (HPUT.mono ?_)⟩;rintro e w5 ⟨rfl,u5,h5⟩;have hsp:=HSP.out;have hgc:=HGC.out;have hwc:=HWC.out;have hhh:=HS0.out;have sb5:=(HSb.out.fresh fr).upd u5 (fun hT=>by rcases hT with hT|⟨_,cs,hT⟩;omega;exact(HSb.out.fresh fr).ne_ hT (by decide) rfl);have c5:=(HC.out.fresh fr).upd u5 (fun hT=>by rcases hT with hT|⟨hT,_⟩<;>omega);have p5:=(HP.out.fresh fr).upd u5 (fun hT=>by rcases hT with hT|⟨_,cs,hT⟩;omega;exact(HP.out.fresh fr).ne_ hT (by decide) rfl);have rd5:=(HRD.out.fresh fr).upd u5 (fun b _ hb hT=>by rcases hT with hT|⟨hT,_⟩<;>omega);have f5:=(HF.out.trans' fr).trans u5 (fun b hb hT=>by rcases hT with hT|⟨hT,_⟩<;>omega);have HI5:=hd_ (HFIN.out w5 f5 sb5 c5 p5 rd5 h5);(have hws:w4.heap.size<=W.heap.size:=by have:=HSb.out.lt;have:=HZ4.out;omega);have HK5:=hd_ ((QI.upd (Kb:=Kb) fr (fun k hk=>⟨by have:=HKD.out k hk;omega,fun h=>h⟩)).trans (QI.upd u5 (fun k hk=>⟨by have:=HKD.out k hk;have:=fr.size;omega,fun hT=>by rcases hT with hT|⟨h1,cs,hT⟩;exact(HKN.out k hk).1 hT;exact(HKN.out k hk).2 Wr ⟨by omega,cs,hT⟩ (HSb.out.fresh fr)⟩)))
   have HF5:=hd_ ((Yf w4.heap.size fr (fun k _ hk=>hk.elim)).trans (Yf w4.heap.size u5 (fun k _ hk=>by
     rcases hk with hk|⟨_,cs,hk⟩
     . subst hk;exact⟨_,(HWR.out.upd fr (fun _ _ h=>h.elim)).lt.2⟩
     exact⟨_,cs,hk⟩)))
   clear sb5 c5 p5 rd5 f5 u5 h5 HPUT fr hsp hgc hwc hhh hws;gi_wp2;exact⟨HF5.out,HK5.out,HI5.out⟩
 case done =>
   rintro D ys W hD rfl ⟨hf,hbSb,hbC,hbP,hrd,hwr⟩ hK;rw [X8]at hwr
   have hel:(Yh l bs).length<=1441792:=by
     rw [<-X8 (Pq:=fun p:Nat × Nat=>p.2<n/\p.2<256) l bs HQ.out];have h1:=V1 HT.out ((bkB (Pq:=fun p:Nat × Nat=>p.2<n/\p.2<256) bs HQ.out 0).map Subtype.val);rw [List.length_map,KB]at h1;have:=HM.out;have:=HL.out;omega
   have hcl:=Q1s (fun k=>C<k) (C+1) (Yh l bs) W hwr (by omega);have HCL:=hd_ hcl;have HF:=hd_ (F0.out.trans' hf);have HK:=hd_ hK;have HDD:=hd_ hD;have BO5:=hd_ (BO.out.fresh hf);have BE5:=hd_ (BE.out.fresh hf);clear hf hbSb hbC hbP hrd hwr hK hcl hel hcSb hOwn;go_wp2_with fail;refine HCL.out.mono ?_;rintro e w6 ⟨v6,rfl,nb⟩;obtain⟨A6,n6,c6,rfl,hn6⟩:=nb.1.form';have bo6:=BO5.out.fresh nb.2.1;have be6:=BE5.out.fresh nb.2.1;have k0:=bo6.cell 0;have z0:=bo6.frozen 0;have k1:=be6.cell 0;have z1:=be6.frozen 0;simp at k0 k1;have NB:=hd_ nb;have BO6:=hd_ bo6;have BE6:=hd_ be6;clear nb bo6 be6 hn6 HCL;go_wp2_with fail;have hsz:=HZ4.out;have hsp:=HSP.out;have hwc:=HWC.out;have hdd:=HDD.out;(have hb6:∀b,Value.ownBlock (.slice A6 n6 c6)=some b->H+1<b:=fun b hb=>by have h1:=NB.out.2.2 b hb;have h2:=BE5.out.lt;omega);have b7:=(BO6.out.set_ 0 (.slice A6 n6 c6)).far (p:=⟨H+1,0,none⟩) (by simp) (.int .i64 0);have e7:=(BE6.out.far (p:=⟨H,0,none⟩) (by simp) (.slice A6 n6 c6)).set_ 0 (.int .i64 0);have us:Upd (fun b=>b=H\/b=H+1) w6 ((w6.setCell ⟨H,0,none⟩ (.slice A6 n6 c6)).setCell ⟨H+1,0,none⟩ (.int .i64 0)):=((Upd.refl (fun b=>b=H\/b=H+1) w6).setCell (p:=⟨H,0,none⟩) (fun _=>.inl rfl) _).setCell (p:=⟨H+1,0,none⟩) (fun _=>.inr rfl) _;(have hK6:w6.heap[D]?=some (.deferred (some [])):=by rw [NB.out.2.1.block D (Array.getElem?_eq_some_iff.1 HK.out).1 (fun h=>h)];exact HK.out);obtain⟨w7,hw7⟩:=nm_ ((w6.setCell ⟨H,0,none⟩ (.slice A6 n6 c6)).setCell ⟨H+1,0,none⟩ (.int .i64 0));rw [<-hw7]at b7 e7 us ⊢;(have hK7:w7.heap[D]?=some (.deferred (some [])):=by rw [us.block D (Array.getElem?_eq_some_iff.1 hK6).1 (by omega)];exact hK6);have u8:Upd (fun b=>b=D) w7 (w7.putObj D (.deferred none)):=(Upd.refl (fun b=>b=D) w7).grown (grownBy_putObj' w7 D _) (fun k e _=>by injection e with e;exact e.symm);have b8:=b7.upd u8 (by omega);have e8:=e7.upd u8 (by omega);have d0:=b8.cell 0;have d1:=e8.cell 0;simp at d0 d1;show LeavesInM Fence.wide 3 _ _ _ _ ({ target:=.collected D,args:=#[] } :: _) .returning _;refine Zy (by simp) (run_takeDeferred hK7) ?_;refine Q0b (f:=84) (args:=#[.pointer (some ⟨H+1,0,none⟩),.func (.func 85) #[] #[.pointer (some ⟨H,0,none⟩)]]) (by simp) (by simp [go_sem]) ?_;refine(Kv _ _ _ _).mono ?_;rintro e u' w'' ⟨rfl,rfl,rfl⟩
   have ov:Own (w7.putObj D (.deferred none)) 5 (.slice A6 n6 c6) (Qa (QE (Yh l bs++[true]))):=(NB.out.1.upd us (fun b hb hT=>by have:=hb6 b hb;omega)).upd u8 (fun b hb hT=>by
     obtain⟨cs,hc⟩:=(NB.out.1.upd us (fun b hb hT=>by have:=hb6 b hb;omega)).blk hb;subst hT;unfold Blk at hc;rw [hK7]at hc
     cases hc)
   have fw:Q0 w (w7.putObj D (.deferred none)):=((HF.out.trans' NB.out.2.1).trans us (fun b hb h=>by have:=HH.out;omega)).trans u8 (fun b hb h=>by have:=HH.out;omega);refine⟨.tuple #[.slice A6 n6 c6,.int .i64 0],?_,hR.out _ _ ⟨_,rfl,ov,fw,fun b hb=>by have h1:=hb6 b hb;have h2:=HH.out;omega⟩⟩;simp [results,Tryz.results48,go_sem,d0,d1]
 case stop =>
   rintro D c pre W _ _ h _;exact h.elim
end Go.Proofs.YtckjdhaflokcgaaGreat
namespace Go.Proofs.YtckjdhaflokcgaaGreat
open Go.RowKit
theorem XO (F G:Nat->Prop) (A B:Option Addr) (n c m d:Nat) (l:List Int) (bs:List Nat) (er:Int) (w:World) (hr:Rd w F A n (Qm l)) (hbs:Rd w G B m (Qa bs)) (hlt:∀b∈bs,b<256) (hn:n<=2^40) (hm:m<=2^40) (hc:n<=c)
   (her:if Qj l then ¬(bs.length<=131072/\QL l bs=-1)/\er=2 else er=12) :
   Calls Tryz.prog 48 #[.slice A n c,.slice B m d] w fun e w'=>e = .returned (.tuple #[.slice none 0 0,.int .i64 er])/\Q0 w w':=by
 have hmf:∀(fn:Fn) (first cap:Array Value) (w:World),(Instr.makeFunc fn first cap).run Tryz.prog w = .ok (.func fn first cap) w:=fun _ _ _ _=>rfl;obtain⟨w0,hw0⟩:=nm_ ((w.alloc (.cells #[.slice none 0 0] 22)).alloc (.cells #[.int .i64 0] 24));obtain⟨H,hH⟩:=nm_ (w.heap.size);(have f0:Q0 w w0:=by rw [hw0];exact((Upd.refl _ _).alloc _).alloc _);(have bo:Blk w0 H 22 #[.slice none 0 0]:=by rw [hw0];exact(Qc hH _ _).alloc _);(have be:Blk w0 (H+1) 24 #[.int .i64 0]:=by rw [hw0];exact Qc (by simp [hH]) _ _)
 have HCO:=hd_ (show Calls Tryz.prog 86 #[.slice A n c,.slice B m d] w0 fun e w'=>Q0 w0 w'/\e=Qi er from
   (Jq F G A B n c m d l bs w0 (hr.fresh f0) (hbs.fresh f0) hlt hn hm hc).mono fun e w' h=>⟨h.1,by
     have h2:=h.2;by_cases ht:Qj l
     . rw [if_pos ht]at h2 her;rw [if_neg her.1]at h2;rw [her.2];exact h2
     rw [if_neg ht]at h2 her;rw [her];exact h2⟩)
 have BO:=hd_ bo;have BE:=hd_ be;have F0:=hd_ f0;have HW:=hd_ hw0;have HH:=hd_ hH;(have hsz:(w.alloc (.cells #[.slice none 0 0] 22)).heap.size=H+1:=by simp [hH]);clear hw0 hH f0 bo be hr hbs hlt hn hm hc her;refine Qg fun R hR=>?_;go_enter_defers Tryz.func48,Tryz.ntmps48;go_upto_region 1 with fail;simp only [hsz,<-HH.out,<-HW.out];clear hsz;go_wp2_with fail;refine HCO.out.mono ?_;rintro e w1 ⟨f1,rfl⟩;have b1:=BO.out.fresh f1;have e1:=BE.out.fresh f1;have F1:=hd_ (F0.out.trans' f1);simp only [Qi];change Leaves _ _ _ _ _ _ _;refine leaves_cons (f:=84) (args:=#[.pointer (some ⟨H+1,0,none⟩),.func (.func 85) #[] #[.pointer (some ⟨H,0,none⟩)]]) (by simp) (by simp [go_sem]) ?_;refine(YE 85 #[.pointer (some ⟨H,0,none⟩)] (fun b=>b=H) (fun W=>Blk W H 22 #[.slice none 0 0]) (H+1) er _ w1 e1 (by omega) (fun _ _=>rfl) (Q2D H _ w1 b1)).mono ?_;rintro e u' w'' ⟨rfl,rfl,w2,u2,b2,rfl⟩;have e2:=(e1.upd u2 (by omega)).set_ 0 (.int .i64 er);have b3:=b2.far (p:=⟨H+1,0,none⟩) (by simp) (.int .i64 er);have d0:=b3.cell 0;have d1:=e2.cell 0;simp at d0 d1;show Leaves _ _ _ _ [] .returning _;refine⟨.tuple #[.slice none 0 0,.int .i64 er],?_,hR.out _ _ ⟨rfl,F1.out.trans (u2.mono (T:=fun b=>b=H\/b=H+1) (fun _ _ h=>.inl h) |>.setCell (p:=⟨H+1,0,none⟩) (fun _=>.inr rfl) _) (fun b hb e=>by have:=HH.out;omega)⟩⟩;simp [results,Tryz.results48,go_sem,d0,d1]
theorem XP (F G:Nat->Prop) (A B:Option Addr) (n c m d:Nat) (l:List Int) (bs:List Nat) (er:Int) (w:World) (hr:Rd w F A n (Qm l)) (hbs:Rd w G B m (Qa bs)) (hlt:∀b∈bs,b<256) (hn:n<=2^40) (hm:m<=2^40) (hc:n<=c)
   (her:if Qj l then ¬(bs.length<=131072/\QL l bs=-1)/\er=2 else er=12) :
   Calls Tryz.prog 94 #[.slice A n c,.slice B m d] w fun e w'=>e = .returned (.tuple #[.int .i64 0,.int .i64 er])/\Q0 w w':=by
 have hmf:∀(fn:Fn) (first cap:Array Value) (w:World),(Instr.makeFunc fn first cap).run Tryz.prog w = .ok (.func fn first cap) w:=fun _ _ _ _=>rfl;obtain⟨w0,hw0⟩:=nm_ ((w.alloc (.cells #[.int .i64 0] 3)).alloc (.cells #[.int .i64 0] 24));obtain⟨H,hH⟩:=nm_ (w.heap.size);(have f0:Q0 w w0:=by rw [hw0];exact((Upd.refl _ _).alloc _).alloc _);(have bo:Blk w0 H 3 #[.int .i64 0]:=by rw [hw0];exact(Qc hH _ _).alloc _);(have be:Blk w0 (H+1) 24 #[.int .i64 0]:=by rw [hw0];exact Qc (by simp [hH]) _ _)
 have HCO:=hd_ (show Calls Tryz.prog 86 #[.slice A n c,.slice B m d] w0 fun e w'=>Q0 w0 w'/\e=Qi er from
   (Jq F G A B n c m d l bs w0 (hr.fresh f0) (hbs.fresh f0) hlt hn hm hc).mono fun e w' h=>⟨h.1,by
     have h2:=h.2;by_cases ht:Qj l
     . rw [if_pos ht]at h2 her;rw [if_neg her.1]at h2;rw [her.2];exact h2
     rw [if_neg ht]at h2 her;rw [her];exact h2⟩)
 have BO:=hd_ bo;have BE:=hd_ be;have F0:=hd_ f0;have HW:=hd_ hw0;have HH:=hd_ hH;(have hsz:(w.alloc (.cells #[.int .i64 0] 3)).heap.size=H+1:=by simp [hH]);clear hw0 hH f0 bo be hr hbs hlt hn hm hc her;refine Qg fun R hR=>?_;go_enter_defers Tryz.func94,Tryz.ntmps94;go_upto_region 1 with fail;simp only [hsz,<-HH.out,<-HW.out];clear hsz;go_wp2_with fail;refine HCO.out.mono ?_;rintro e w1 ⟨f1,rfl⟩;have b1:=BO.out.fresh f1;have e1:=BE.out.fresh f1;have F1:=hd_ (F0.out.trans' f1);simp only [Qi];change Leaves _ _ _ _ _ _ _;refine leaves_cons (f:=84) (args:=#[.pointer (some ⟨H+1,0,none⟩),.func (.func 149) #[] #[.pointer (some ⟨H,0,none⟩)]]) (by simp) (by simp [go_sem]) ?_;refine(YE 149 #[.pointer (some ⟨H,0,none⟩)] (fun b=>b=H) (fun W=>Blk W H 3 #[.int .i64 0]) (H+1) er _ w1 e1 (by omega) (fun _ _=>rfl) (Q2E H _ w1 b1)).mono ?_;rintro e u' w'' ⟨rfl,rfl,w2,u2,b2,rfl⟩;have e2:=(e1.upd u2 (by omega)).set_ 0 (.int .i64 er);have b3:=b2.far (p:=⟨H+1,0,none⟩) (by simp) (.int .i64 er);have d0:=b3.cell 0;have d1:=e2.cell 0;simp at d0 d1;show Leaves _ _ _ _ [] .returning _;refine⟨.tuple #[.int .i64 0,.int .i64 er],?_,hR.out _ _ ⟨rfl,F1.out.trans (u2.mono (T:=fun b=>b=H\/b=H+1) (fun _ _ h=>.inl h) |>.setCell (p:=⟨H+1,0,none⟩) (fun _=>.inr rfl) _) (fun b hb e=>by have:=HH.out;omega)⟩⟩;simp [results,Tryz.results94,go_sem,d0,d1]
def Qu (l:List Int) (bs:List Nat):Int:=if Qj l then if bs.length<=131072/\QL l bs=-1 then 0 else 2 else 12
theorem Zg (F G:Nat->Prop) (A B:Option Addr) (n c m d:Nat) (l:List Int) (bs:List Nat) (w:World) (hr:Rd w F A n (Qm l)) (hbs:Rd w G B m (Qa bs)) (hlt:∀b∈bs,b<256) (hn:n<=2^40) (hm:m<=2^40) (hc:n<=c) :
   Calls Tryz.prog 48 #[.slice A n c,.slice B m d] w fun e w'=>if Qu l bs=0 then ∃v,e = .returned (.tuple #[v,.int .i64 0])/\Qk w w' v (QE (Yh l bs++[true]))else e = .returned (.tuple #[.slice none 0 0,.int .i64 (Qu l bs)])/\Q0 w w':=by
 by_cases ht:Qj l
 . by_cases hb:bs.length<=131072/\QL l bs=-1
   . have e:Qu l bs=0:=by unfold Qu;rw [if_pos ht,if_pos hb]
     rw [e];simpa using Q3A F G A B n c m d l bs w hr hbs hlt hn hm hc ht hb
   (have e:Qu l bs=2:=by unfold Qu;rw [if_pos ht,if_neg hb]);rw [e];simpa using XO F G A B n c m d l bs 2 w hr hbs hlt hn hm hc (by rw [if_pos ht];exact⟨hb,rfl⟩)
 (have e:Qu l bs=12:=by unfold Qu;rw [if_neg ht]);rw [e];simpa using XO F G A B n c m d l bs 12 w hr hbs hlt hn hm hc (by rw [if_neg ht])
def Yp (l:List Int) (bs:List Nat):Nat:=(bs.map fun c=>(Qh l c).1).sum
theorem Q0o {l:List Int} {bs:List Nat} {k:Nat} (h:k<bs.length):Yp l (bs.take (k+1))=Yp l (bs.take k)+(Qh l bs[k]).1:=by
 unfold Yp;rw [List.take_succ_eq_append_getElem h,List.map_append,List.sum_append];simp
theorem JJ {l:List Int} (ht:Qj l):∀bs:List Nat,Yp l bs<=11*bs.length
 | []=>by simp [Yp]
 | c::bs=>by
   have h1:=(Jb ht c).1
   have h2:=JJ ht bs
   unfold Yp at h2 ⊢
   rw [List.map_cons,List.sum_cons,List.length_cons]
   omega
theorem Q3B (F G:Nat->Prop) (A B:Option Addr) (n c m d:Nat) (l:List Int) (bs:List Nat) (w:World) (hr:Rd w F A n (Qm l)) (hbs:Rd w G B m (Qa bs)) (hlt:∀b∈bs,b<256) (hn:n<=2^40) (hm:m<=2^40) (hc:n<=c)
   (ht:Qj l) (hb:bs.length<=131072/\QL l bs=-1) :
   Calls Tryz.prog 94 #[.slice A n c,.slice B m d] w fun e w'=>e = .returned (.tuple #[.int .i64 (Yp l bs:Nat),.int .i64 0])/\Q0 w w':=by
 have hmf:∀(fn:Fn) (first cap:Array Value) (w:World),(Instr.makeFunc fn first cap).run Tryz.prog w = .ok (.func fn first cap) w:=fun _ _ _ _=>rfl;(have hL:bs.length=m:=by have:=hbs.1;simpa using this);(have hLl:l.length=n:=by have:=hr.1;simpa using this);obtain⟨w0,hw0⟩:=nm_ ((w.alloc (.cells #[.int .i64 0] 3)).alloc (.cells #[.int .i64 0] 24));obtain⟨H,hH⟩:=nm_ (w.heap.size);(have f0:Q0 w w0:=by rw [hw0];exact((Upd.refl _ _).alloc _).alloc _);(have bo:Blk w0 H 3 #[.int .i64 0]:=by rw [hw0];exact(Qc hH _ _).alloc _);(have be:Blk w0 (H+1) 24 #[.int .i64 0]:=by rw [hw0];exact Qc (by simp [hH]) _ _);(have hs0:w0.heap.size=H+2:=by rw [hw0];simp [hH])
 have HCO:=hd_ (show Calls Tryz.prog 86 #[.slice A n c,.slice B m d] w0 fun e w'=>Q0 w0 w'/\∃g,e = .returned (.slice (some ⟨g,0,none⟩) n n)/\RdK w' (fun b=>b=g) 2 (some ⟨g,0,none⟩) n ((Qz l).map cd2)/\w0.heap.size<=g from
   (Jq F G A B n c m d l bs w0 (hr.fresh f0) (hbs.fresh f0) hlt hn hm hc).mono fun e w' h=>⟨h.1,by have h2:=h.2;rw [if_pos ht,if_pos hb]at h2;exact h2⟩)
 have HQ:=hd_ (show ∀(j:Nat) (h:j<bs.length),bs[j]<n/\bs[j]<256 from fun j h=>⟨by have:=(ZL ht hb.2 _ (List.getElem_mem h)).1;omega,hlt _ (List.getElem_mem h)⟩);have HRB:=hd_ (hbs.both.fresh f0);have HT:=hd_ ht;have HM:=hd_ (show m<=131072 by omega);have HLl:=hd_ hLl;have BO:=hd_ bo;have BE:=hd_ be;have F0:=hd_ f0;have HW:=hd_ hw0;have HH:=hd_ hH;have HS0:=hd_ hs0;have HL:=hd_ hL;(have hsz:(w.alloc (.cells #[.int .i64 0] 3)).heap.size=H+1:=by simp [hH]);(have hmI:(m:Int)<=131072:=by omega);clear hw0 hH f0 bo be hr hbs hlt hn hm hc ht hb hL hLl hs0;refine Qg fun R hR=>?_;go_enter_defers Tryz.func94,Tryz.ntmps94;go_upto_region 1 with fail;simp only [hsz,<-HH.out,<-HW.out];clear hsz;go_wp2_with fail;refine HCO.out.mono ?_;rintro e w1 ⟨f1,g,rfl,rd1,hg⟩;have F1:=hd_ f1;have BO1:=hd_ (BO.out.fresh f1);have BE1:=hd_ (BE.out.fresh f1);have RD1:=hd_ rd1;have HG:=hd_ hg;have HRB1:=hd_ (HRB.out.fresh f1);clear f1 rd1 hg HCO HRB;go_wp2_with fail;go_loopg [15] m (fun f vi wr=>∃k:Nat,k+f=m/\vi = .int .i64 k/\Blk wr H 3 #[.int .i64 (Yp l (bs.take k):Nat)]/\Upd (fun b=>b=H) w1 wr)
 case atStart=>exact⟨0,by omega,rfl,by simpa [Yp]using BO1.out,Upd.refl _ _⟩
 case round =>
   obtain⟨k,hk,rfl,bk,uk⟩:=hrel;have HK:=hd_ hk;(have hkI:(k:Int)<=131072:=by have:=HM.out;omega);by_cases hlt:k<m
   . have hlI:(k:Int)<m:=by omega
     (have hk0:0<=(k:Int):=by omega);(have hkb:k<bs.length:=by rw [HL.out];exact hlt);obtain⟨b,o,rfl,hbb,_,hcb⟩:=(HRB1.out.upd uk (fun b _ hb e=>by have:=hb.2;have:=HH.out;omega)).at_ (k:=k) hlt;obtain⟨q,hq⟩:=nm_ (bs[k]);(have hc0:wr.cell? ⟨b,o+k,none⟩=some (.int .u8 (q:Nat)):=by rw [hcb];simp [Qa,hkb,<-hq]);(have hqn:q<n:=by rw [hq];exact(HQ.out k hkb).1);(have hqI:(q:Int)<n:=by omega);(have hq0:0<=(q:Int):=by omega);obtain⟨b9,o9,he9,_,_,hc9⟩:=(RD1.out.upd uk (fun b _ hb e=>by have:=HG.out;have:=HS0.out;omega)).at_ (r:=0) hqn;injection he9 with he9;injection he9 with hb9 ho9;subst hb9 ho9;(have hrow:((Qz l).map cd2)[q]'(by rw [List.length_map,Yb,HLl.out];exact hqn)=cd2 (Qh l q):=by simp [Qz]);have c0:=hc9 0 (by omega);rw [hrow]at c0;have hst:=Q0o (l:=l) hkb;rw [<-hq]at hst;have hble:=JJ HT.out (bs.take k);have hl11:=(Jb HT.out q).1;rw [List.length_take]at hble;obtain⟨S,hS⟩:=nm_ (Yp l (bs.take k));obtain⟨L,hLe⟩:=nm_ ((Qh l q).1);simp only [cd2,<-hLe,List.getElem?_cons_zero]at c0;simp at c0;rw [<-hS]at bk hst hble;rw [<-hLe]at hst hl11;(have hwS:IntKind.i64.wrap ((S:Int)+L)=((S+L:Nat):Int):=by rw [IntWalk.i64_in _ (by omega)];omega);have k0:=bk.cell 0;have z0:=bk.frozen 0;simp at k0;have BK:=hd_ bk;have UK:=hd_ uk;have HST:=hd_ hst;clear hcb hc9 hrow hq hble hl11 hS hLe bk uk hk hst hqn hbb;go_upto_region 6 with fail;refine Qv 7 (by kernel_rfl) (by kernel_rfl) ?_;simp only [List.take_succ_cons,List.take_zero,List.drop_succ_cons,List.drop_zero];(repeat(first|go_big_quiet_step (fail)|quiet_step (fail)));refine wpQuiet_nil ?_;rintro w5 ⟨q5,rfl⟩;have HWS:=hd_ hwS;clear hwS;go_wp2_with fail;go_roundg (gk-1)
     case measure=>have:=HK.out;omega
     case rel =>
       have bs:=(BK.out.drewN q5).set_ 0 (.int .i64 ((S+L:Nat):Int));simp at bs;refine⟨k+1,by have:=HK.out;omega,by go_num,?_,(UK.out.drewN q5).setCell (p:=⟨H,0,none⟩) (fun _=>rfl) _⟩;rw [HST.out]
       first
         | exact bs
         | (rw [<-HWS.out]at bs;exact bs)
         | (have:=HWS.out;simp_all)
   (obtain rfl:k=m:=by omega);rw [List.take_of_length_le (by rw [HL.out];exact Nat.le_refl _)]at bk;have be2:=BE1.out.upd uk (by omega);have k0:=bk.cell 0;have z0:=bk.frozen 0;have k1:=be2.cell 0;have z1:=be2.frozen 0;simp at k0 k1;have BK:=hd_ bk;have BE2:=hd_ be2;have UK:=hd_ uk;obtain⟨S,hS⟩:=nm_ (Yp l bs);rw [<-hS]at BK k0 hR;clear bk uk hk be2 hS;go_wp2_with fail;change Leaves _ _ _ _ _ _ _;refine leaves_cons (f:=84) (args:=#[.pointer (some ⟨H+1,0,none⟩),.func (.func 149) #[] #[.pointer (some ⟨H,0,none⟩)]]) (by simp) (by simp [go_sem]) ?_;have b2:=(BK.out.set_ 0 (.int .i64 (S:Nat))).far (p:=⟨H+1,0,none⟩) (by simp) (.int .i64 0);have e2:=(BE2.out.far (p:=⟨H,0,none⟩) (by simp) (.int .i64 (S:Nat))).set_ 0 (.int .i64 0);have d0:=b2.cell 0;have d1:=e2.cell 0;simp at d0 d1;refine(JZ _ _ _).mono ?_;rintro e u' w'' ⟨rfl,rfl,rfl⟩;refine⟨.tuple #[.int .i64 (S:Nat),.int .i64 0],?_,hR.out _ _ ⟨rfl,((F0.out.trans' F1.out).trans ((UK.out.mono (T:=fun b=>b=H\/b=H+1) (fun _ _ h=>.inl h)).setCell (p:=⟨H,0,none⟩) (fun _=>.inl rfl) _ |>.setCell (p:=⟨H+1,0,none⟩) (fun _=>.inr rfl) _) (fun b hb e=>by have:=HH.out;omega))⟩⟩;simp [results,Tryz.results94,go_sem,d0,d1]
theorem X9 (F G:Nat->Prop) (A B:Option Addr) (n c m d:Nat) (l:List Int) (bs:List Nat) (w:World) (hr:Rd w F A n (Qm l)) (hbs:Rd w G B m (Qa bs)) (hlt:∀b∈bs,b<256) (hn:n<=2^40) (hm:m<=2^40) (hc:n<=c) :
   Calls Tryz.prog 94 #[.slice A n c,.slice B m d] w fun e w'=>e = .returned (.tuple #[.int .i64 ((if Qu l bs=0 then Yp l bs else 0:Nat):Int),.int .i64 (Qu l bs)])/\Q0 w w':=by
 by_cases ht:Qj l
 . by_cases hb:bs.length<=131072/\QL l bs=-1
   . have e:Qu l bs=0:=by unfold Qu;rw [if_pos ht,if_pos hb]
     rw [e];simpa using Q3B F G A B n c m d l bs w hr hbs hlt hn hm hc ht hb
   (have e:Qu l bs=2:=by unfold Qu;rw [if_pos ht,if_neg hb]);rw [e];simpa using XP F G A B n c m d l bs 2 w hr hbs hlt hn hm hc (by rw [if_pos ht];exact⟨hb,rfl⟩)
 (have e:Qu l bs=12:=by unfold Qu;rw [if_neg ht]);rw [e];simpa using XP F G A B n c m d l bs 12 w hr hbs hlt hn hm hc (by rw [if_neg ht])
theorem Q0p (b:Bool) (er:Int) (w:World) (hb:b=true):Calls Tryz.prog 150 #[.bool b,.int .i64 er] w fun e w'=>e = .returned (.tuple #[])/\w'=w:=hb ▸ Zw er w
theorem Q0q (b:Bool) (er:Int) (w:World) (hb:b=false):Calls Tryz.prog 150 #[.bool b,.int .i64 er] w fun e w'=>e=Qi er/\w'=w:=hb ▸ Q0Z er w
theorem Q0r (n:Nat) (w:World) (hn:n<=131072) (hk:n<=3*((n+3) / 4)) :
   Calls Tryz.prog 98 #[.int .i64 (n:Nat)] w fun e w'=>e=Qi 11/\Q0 w w':=by
 (have hnI:(n:Int)<=131072:=by omega);(have hn0:(0:Int)<=n:=by omega);obtain⟨k,hkd⟩:=nm_ ((n+3) / 4);have hs1:IntKind.i64.wrap ((n:Int)+3)=n+3:=IntWalk.i64_in _ (by omega);(have hs2:((n:Int)+3) / 4=(k:Nat):=by omega);have hs3:IntKind.i64.wrap (3*(k:Int))=3*k:=IntWalk.i64_in _ (by omega);(have hgt:¬3*(k:Int)<n:=by omega);have HGT:=hd_ hgt;clear hn hk hkd;refine Qg fun R hR=>?_;go_enter Tryz.func98,Tryz.ntmps98;go_wp2_with fail;refine(Zw _ _).mono ?_;rintro e w1 ⟨rfl,hw1⟩;go_wp2_with fail;refine(Q0q _ _ _ (decide_eq_false (by have:=HGT.out;omega))).mono ?_;rintro e w2 ⟨rfl,hw2⟩;simp only [Qi];exact⟨rfl,hR.out _ _ ⟨rfl,by rw [hw2];exact(Upd.refl _ _).alloc _⟩⟩
def Y9 (l:List Int) (bs:List Nat):Int:=if Qu l bs=0 then if bs.length<=3*((bs.length+3) / 4)then 11 else 0 else Qu l bs
theorem YI {l:List Int} {bs:List Nat} (h:Qu l bs=0):bs.length<=131072:=by
 unfold Qu at h;split at h
 . split at h
   . next h2=>exact h2.1
   cases h
 cases h
theorem Q3C (F G:Nat->Prop) (A B:Option Addr) (n c m d:Nat) (l:List Int) (bs:List Nat) (w:World) (hr:Rd w F A n (Qm l)) (hbs:Rd w G B m (Qa bs)) (hlt:∀b∈bs,b<256) (hn:n<=2^40) (hm:m<=2^40) (hc:n<=c) (her:Y9 l bs≠0) :
   Calls Tryz.prog 50 #[.slice A n c,.slice B m d] w fun e w'=>e = .returned (.tuple #[.slice none 0 0,.int .i64 (Y9 l bs)])/\Q0 w w':=by
 have hmf:∀(fn:Fn) (first cap:Array Value) (w:World),(Instr.makeFunc fn first cap).run Tryz.prog w = .ok (.func fn first cap) w:=fun _ _ _ _=>rfl;obtain⟨w0,hw0⟩:=nm_ ((((w.alloc (.cells #[.slice A n c] 33)).alloc (.cells #[.slice B m d] 22)).alloc (.cells #[.slice none 0 0] 22)).alloc (.cells #[.int .i64 0] 24));obtain⟨H,hH⟩:=nm_ (w.heap.size);(have f0:Q0 w w0:=by rw [hw0];exact((((Upd.refl _ _).alloc _).alloc _).alloc _).alloc _);(have b0:Blk w0 H 33 #[.slice A n c]:=by rw [hw0];exact(((Qc hH _ _).alloc _).alloc _).alloc _);(have b1:Blk w0 (H+1) 22 #[.slice B m d]:=by rw [hw0];exact((Qc (by simp [hH]) _ _).alloc _).alloc _);(have bo:Blk w0 (H+1+1) 22 #[.slice none 0 0]:=by rw [hw0];exact(Qc (by simp [hH]) _ _).alloc _);(have be:Blk w0 (H+1+1+1) 24 #[.int .i64 0]:=by rw [hw0];exact Qc (by simp [hH]) _ _);have HBL:=hd_ (X9 F G A B n c m d l bs w0 (hr.fresh f0) (hbs.fresh f0) hlt hn hm hc);(have hL:bs.length=m:=by have:=hbs.1;simpa using this);have x0:=b0.cell 0;have x1:=b1.cell 0;simp at x0 x1;have B1:=hd_ b1;have BO:=hd_ bo;have BE:=hd_ be;have F0:=hd_ f0;have HW:=hd_ hw0;have HH:=hd_ hH;have HL:=hd_ hL;(have hz1:(w.alloc (.cells #[.slice A n c] 33)).heap.size=H+1:=by simp [hH]);(have hz2:((w.alloc (.cells #[.slice A n c] 33)).alloc (.cells #[.slice B m d] 22)).heap.size=H+1+1:=by simp [hH]);(have hz3:(((w.alloc (.cells #[.slice A n c] 33)).alloc (.cells #[.slice B m d] 22)).alloc (.cells #[.slice none 0 0] 22)).heap.size=H+1+1+1:=by simp [hH]);obtain⟨sb,hsb⟩:=nm_ (if Qu l bs=0 then Yp l bs else 0);rw [<-hsb]at HBL;obtain⟨er,hE⟩:=nm_ (Y9 l bs);rw [<-hE]at her ⊢
 have hE2:(Qu l bs=0/\bs.length<=3*((bs.length+3) / 4)/\er=11)\/(Qu l bs≠0/\er=Qu l bs):=by
   unfold Y9 at hE;by_cases h1:Qu l bs=0
   . rw [if_pos h1]at hE
     by_cases h2:bs.length<=3*((bs.length+3) / 4)
     . rw [if_pos h2]at hE;exact .inl ⟨h1,h2,hE⟩
     rw [if_neg h2]at hE;exact absurd hE her
   rw [if_neg h1]at hE;exact .inr ⟨h1,hE⟩
 have HE:=hd_ hE2;have HLE:=hd_ (fun(h:Qu l bs=0)=>YI h);clear hw0 hH f0 b0 b1 bo be hr hbs hlt hn hm hc hL hsb hE hE2 her;refine Qg fun R hR=>?_;go_enter_defers Tryz.func50,Tryz.ntmps50;go_upto_region 1 with fail;simp only [hz1,hz2,hz3,<-HH.out,<-HW.out];clear hz1 hz2 hz3;go_wp2_with fail;refine HBL.out.mono ?_;rintro e w1 ⟨rfl,f1⟩;have F1:=hd_ f1;have y1:=(B1.out.fresh f1).cell 0;simp at y1;clear f1 HBL
 have HTAIL:=hd_ (show ∀(w3:World) tmps,Q0 w0 w3->tmps[4]?=some (.pointer (some ⟨H+1+1,0,none⟩))->tmps[5]?=some (.pointer (some ⟨H+1+1+1,0,none⟩)) ->
     Leaves Tryz.prog Tryz.f50 tmps R [{ target:=.fn (.func 92) #[],args:=#[.pointer (some ⟨H+1+1+1,0,none⟩),.func (.func 93) #[] #[.pointer (some ⟨H+1+1,0,none⟩)]] }]
       (.panicking [{ v:=.iface 24 (.int .i64 er),recovered:=false }]) w3 from by
   intro w3 tmps f3 ht4 ht5;refine leaves_cons (f:=92) (args:=#[.pointer (some ⟨H+1+1+1,0,none⟩),.func (.func 93) #[] #[.pointer (some ⟨H+1+1,0,none⟩)]]) (by simp) (by simp [go_sem]) ?_;refine(Kg 93 #[.pointer (some ⟨H+1+1,0,none⟩)] (fun b=>b=H+1+1) (fun W=>Blk W (H+1+1) 22 #[.slice none 0 0]) (H+1+1+1) er _ w3 (BE.out.fresh f3) (by omega) (fun _ _=>rfl) (Q2F (H+1+1) _ w3 (BO.out.fresh f3))).mono ?_;rintro e u' w'' ⟨rfl,rfl,w4,u4,b4,rfl⟩;have e4:=((BE.out.fresh f3).upd u4 (by omega)).set_ 0 (.int .i64 er);have b5:=b4.far (p:=⟨H+1+1+1,0,none⟩) (by simp) (.int .i64 er);have d0:=b5.cell 0;have d1:=e4.cell 0;simp at d0 d1;show Leaves _ _ _ _ [] .returning _;refine⟨.tuple #[.slice none 0 0,.int .i64 er],?_,hR.out _ _ ⟨rfl,(F0.out.trans' f3).trans (u4.mono (T:=fun b=>b=H+1+1\/b=H+1+1+1) (fun _ _ h=>.inl h) |>.setCell (p:=⟨H+1+1+1,0,none⟩) (fun _=>.inr rfl) _) (fun b hb e=>by have:=HH.out;omega)⟩⟩
   simp [results,Tryz.results50,go_sem,d0,d1,ht4,ht5])
 rcases HE.out with ⟨h1,h2,h3⟩|⟨h1,h3⟩
 . have HPN:=hd_ (fun W=>Q0r m W (by rw [<-HL.out];exact HLE.out h1) (by rw [<-HL.out];exact h2))
   rw [h1];subst h3;clear h1 h2 HE HLE;go_wp2_with fail;refine(Jg _ _ _ (by simpa using(Blk.new w1 24 #[.int .i64 0]).cell 0)).mono ?_;rintro e w2 ⟨rfl,hw2⟩;have f12:Q0 w0 w2:=F1.out.trans' (by rw [hw2];exact(Upd.refl _ _).alloc _);have y2:=(B1.out.fresh f12).cell 0;simp at y2;have F12:=hd_ f12;clear hw2 f12 y1;go_wp2_with fail;refine(HPN.out _).mono ?_;rintro e w3 ⟨rfl,f3⟩;simp only [Qi];exact HTAIL.out w3 _ (F12.out.trans' f3) rfl rfl
 rw [<-h3];have HER:=hd_ (show er≠0 by rw [h3];exact h1);clear h1 h3 HE HLE;go_wp2_with fail;refine(Xm er _ _ _ (by simpa using(Blk.new w1 24 #[.int .i64 er]).cell 0) HER.out).mono ?_;rintro e w2 ⟨rfl,hw2⟩;simp only [Qi];exact HTAIL.out w2 _ (F1.out.trans' (by rw [hw2];exact(Upd.refl _ _).alloc _)) rfl rfl
theorem Rd.byte {w:World} {F:Nat->Prop} {A:Option Addr} {n:Nat} {bs:List Nat} (h:Rd w F A n (Qa bs)) {k:Nat} (hk:k<n) :
   ∃(b o:Nat) (hk':k<bs.length),A=some ⟨b,o,none⟩/\b<w.heap.size/\w.cell? ⟨b,o+k,none⟩=some (.int .u8 (bs[k]:Nat)):=by
 obtain⟨b,o,hA,_,hb,hc⟩:=h.at_ hk;(have hkl:k<bs.length:=by have:=h.1;rw [Qp]at this;omega);refine⟨b,o,hkl,hA,hb,?_⟩;rw [hc];simp [Qa,hkl]
theorem Q2G (F G:Nat->Prop) (A B:Option Addr) (n c m d:Nat) (l:List Int) (bs:List Nat) (w:World) (hr:Rd w F A n (Qm l)) (hbs:Rd w G B m (Qa bs)) (hlt:∀b∈bs,b<256) (hn:n<=2^40) (hm:m<=2^40) :
   Calls Tryz.prog 156 #[.slice A n c,.slice B m d] w fun e w'=>(∃q:Int,e = .returned (.tuple #[.int .i64 q,.bool (decide (QL l bs=-1))]))/\w=w':=by
 (have hL:bs.length=m:=by have:=hbs.1;simpa using this);(have hLl:l.length=n:=by have:=hr.1;simpa using this);(have hmI:(m:Int)<=1099511627776:=by omega);(have hnI:(n:Int)<=1099511627776:=by omega);have HR:=hd_ hr;have HB:=hd_ hbs;have HLT:=hd_ hlt;have HL:=hd_ hL;have HLL:=hd_ hLl;clear hr hbs hlt hn hm hL hLl;refine Qg fun R hR=>?_;go_enter Tryz.func156,Tryz.ntmps156;go_wp2_with fail;go_loopg [6] m (fun f vi wr=>wr=w/\∃k:Nat,k+f=m/\vi = .int .i64 (k:Nat)/\∀x∈bs.take k,noK l x=false)
 case atStart=>exact⟨rfl,0,by omega,rfl,by simp⟩
 case round =>
   obtain⟨rfl,k,hk,rfl,hall⟩:=hrel;have HK:=hd_ hk;have HA:=hd_ hall;by_cases hlt:k<m
   . have hlI:(k:Int)<m:=by omega
     obtain⟨b,o,hkl,rfl,_,hc⟩:=HB.out.byte (k:=k) hlt;have HTK:=hd_ (show bs.take (k+1)=bs.take k++[bs[k]]from List.take_succ_eq_append_getElem hkl);have hz8:=HLT.out _ (List.getElem_mem hkl)
     have HBAD:=hd_ (fun(hp:noK l bs[k]=true)=>show decide (QL l bs=-1)=false from decide_eq_false (by
       unfold QL;rw [ZB hkl hall hp]
       simp only;omega))
     obtain⟨z,hz⟩:=nm_ (bs[k]);rw [<-hz]at hc hz8;simp only [<-hz]at HTK HBAD;(have hz8I:(z:Int)<=255:=by omega);clear hz hk hall;by_cases hzn:n<=z
     . have hznI:(n:Int)<=z:=by omega
       rw [HBAD.out (by unfold noK;rw [HLL.out];exact decide_eq_true (.inl hzn))]at hR;clear hzn HBAD hz8;go_wp2_with fail;(try go_ret);exact hR.out _ _ ⟨⟨_,rfl⟩,rfl⟩
     (have hznI:(z:Int)<n:=by omega);obtain⟨b2,o2,hzl,rfl,_,hcz⟩:=HR.out.int (k:=z) (by omega)
     have HNK:=hd_ (show noK l z=decide (l[z]=0)from by
       unfold noK;rw [Bool.eq_iff_iff,List.getElem?_eq_getElem hzl];simp only [decide_eq_true_eq,Option.getD_some]
       omega)
     obtain⟨y,hy⟩:=nm_ (l[z]);rw [<-hy]at hcz;simp only [<-hy]at HNK;clear hy hzn hz8;by_cases hy0:y=0
     . subst hy0
       rw [HBAD.out (by rw [HNK.out];rfl)]at hR;clear HBAD;go_wp2_with fail;(try go_ret);exact hR.out _ _ ⟨⟨_,rfl⟩,rfl⟩
     (have hyb:(y == 0)=false:=by simpa using hy0);have HY:=hd_ hy0;clear hy0 HBAD;go_wp2_with fail;go_roundg (gk-1)
     case measure=>have:=HK.out;omega
     case rel=>exact⟨rfl,k+1,by have:=HK.out;omega,by go_num,by rw [HTK.out];intro x hx;rcases List.mem_append.1 hx with h|h;exact HA.out x h;rw [List.mem_singleton.1 h,HNK.out];exact decide_eq_false HY.out⟩
   (obtain rfl:k=m:=by omega);have htl:bs.take k=bs:=List.take_of_length_le (by have:=HL.out;omega);rw [htl]at hall
   have hd:decide (QL l bs=-1)=true:=decide_eq_true (by
     unfold QL
     rw [List.findIdx?_eq_none_iff.2 hall])
   rw [hd]at hR;clear hd hall htl hk hlt HK HA;go_wp2_with fail;(try go_ret);exact hR.out _ _ ⟨⟨_,rfl⟩,rfl⟩
theorem KH (F G:Nat->Prop) (A B:Option Addr) (n c m d:Nat) (l:List Int) (bs:List Nat) (w:World) (hr:Rd w F A n (Qm l)) (hbs:Rd w G B m (Qa bs)) (hlt:∀b∈bs,b<256) (hn:n<=2^40) (hm:m<=2^40) :
   Calls Tryz.prog 105 #[.slice A n c,.slice B m d] w fun e w'=>e = .returned (.int .i64 (Qu l bs))/\w=w':=by
 (have hL:bs.length=m:=by have:=hbs.1;simpa using this);have HRI:=hd_ (Kr F A n c l w hr hn);have HHA:=hd_ (Q2G F G A B n c m d l bs w hr hbs hlt hn hm);unfold Qu;rw [hL];clear hr hbs hlt hn hm hL;refine Qg fun R hR=>?_;go_enter Tryz.func105,Tryz.ntmps105;by_cases ht:Qj l
 . rw [decide_eq_true ht]at HRI
   rw [if_pos ht]at hR;go_wp2_with fail;refine HRI.out.mono ?_;rintro e w' ⟨rfl,rfl⟩;by_cases hm2:m<=131072
   . have hmI:¬131072<(m:Int):=by omega
     by_cases hb:QL l bs=-1
     . rw [decide_eq_true hb]at HHA
       rw [if_pos ⟨hm2,hb⟩]at hR;go_wp2_with fail;refine HHA.out.mono ?_;rintro e w' ⟨⟨q,rfl⟩,rfl⟩;go_wp2_with fail;(try go_ret);exact hR.out _ _ ⟨rfl,rfl⟩
     rw [decide_eq_false hb]at HHA;rw [if_neg (fun h=>hb h.2)]at hR;go_wp2_with fail;refine HHA.out.mono ?_;rintro e w' ⟨⟨q,rfl⟩,rfl⟩;go_wp2_with fail;(try go_ret);exact hR.out _ _ ⟨rfl,rfl⟩
   (have hmI:131072<(m:Int):=by omega);rw [if_neg (fun h=>hm2 h.1)]at hR;go_wp2_with fail;refine HHA.out.mono ?_;rintro e w' ⟨⟨q,rfl⟩,rfl⟩;go_wp2_with fail;(try go_ret);exact hR.out _ _ ⟨rfl,rfl⟩
 rw [decide_eq_false ht]at HRI;rw [if_neg ht]at hR;go_wp2_with fail;refine HRI.out.mono ?_;rintro e w' ⟨rfl,rfl⟩;go_wp2_with fail;(try go_ret);exact hR.out _ _ ⟨rfl,rfl⟩
end Go.Proofs.YtckjdhaflokcgaaGreat
