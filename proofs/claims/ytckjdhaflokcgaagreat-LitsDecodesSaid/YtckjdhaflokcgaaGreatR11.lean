/- Contracts and plain lemmas, part 11. Conditions: none beyond those of each. -/
import Derived.Test.YtckjdhaflokcgaaGreatR10
set_option maxHeartbeats 8000000
set_option linter.unusedVariables false
set_option linter.unusedSimpArgs false
set_option linter.unnecessarySimpa false
set_option maxRecDepth 100000
namespace Go.Proofs.YtckjdhaflokcgaaGreat
open Go.RowKit Go.Proofs.Tryz
def Y2 (l:List Nat):Int ⊕ (Nat × Bool × Nat × Nat) :=
  match l with
  | []=>.inl 3
  | c::t =>
    if c<8/\(c<4\/2<=c%4)then
      if(Qt t).2.2=0 then
        if(Qt t).1<=131072/\(0<(Qt t).1\/c%4=0)then .inr (c%4,decide (4<=c),(Qt t).1,1+(Qt t).2.1)else .inl 11
      else .inl (Qt t).2.2
    else .inl 11
theorem Va (c:Nat) (h:c<256):bits .and .u8 (c:Int) 3=((c%4:Nat):Int):=by
 (have:∀x:Fin 256,bits .and .u8 ((x.val:Nat):Int) 3=((x.val%4:Nat):Int):=by decide +kernel);exact this ⟨c,h⟩
theorem Vb (c:Nat) (h:c<256):bits .and .u8 ((c:Int) / 4) 1=((c / 4%2:Nat):Int):=by
 (have:∀x:Fin 256,bits .and .u8 (((x.val:Nat):Int) / 4) 1=((x.val / 4%2:Nat):Int):=by decide +kernel);exact this ⟨c,h⟩
def YP (F:Nat->Prop) (g:Nat) (bs:List Nat) (at_:Nat) (w:World) (e:Ending) (w':World):Prop :=
  Upd (λb=>b=g) w w'/\match Y2 (bs.drop at_)with
    | .inl er=>e=Qa er/\er≠0
    | .inr (k,f,s,u)=>e = .returned (.agg #[.int .i64 k,.bool f,.int .i64 s])/\Q4 w' F g bs (at_+u)
theorem YU (b:Bool) (er:Int) (w:World) (hb:b=true):Calls prog 43 #[.bool b,.int .i64 er] w λe w'=>e = .returned (.tuple #[])/\w'=w:=hb ▸ XR er w
theorem Jq (b:Bool) (er:Int) (w:World) (hb:b=false):Calls prog 43 #[.bool b,.int .i64 er] w λe w'=>e=Qa er/\w'=w:=hb ▸ Vs er w
theorem ZM {g H:Nat} {w w0 w1 w2 w3:World} (hH:H=w.heap.size) (f0:Q0 w w0) (u1:Upd (λb=>b=g) w0 w1) (u2:Upd (λb=>b=H) w1 w2) (u3:Upd (λb=>b=g) w2 w3):Upd (λb=>b=g) w w3 :=
 (((f0.mono (λ_ _ h=>h.elim)).trans u1 (λ_ _ h=>h)).trans u2 (λb hb e=>by omega)).trans u3 (λ_ _ h=>h)
theorem Q77 (F:Nat->Prop) (g pr:Nat) (tv:Value) (bs:List Nat) (at_:Nat) (w:World) (hcu:Q4 w F g bs at_) (hF:∀b,F b->b≠g) (hFW:∀b,F b->b<w.heap.size)
   (br:Blk w pr 101 #[.pointer (some ⟨g,0,none⟩),tv]) (hpg:pr≠g) (h:¬at_<bs.length) :
   Calls prog 65 #[.pointer (some ⟨pr,0,none⟩)] w (YP F g bs at_ w):=by
 have hmf:∀(fn:Fn) (first cap:Array Value) (w:World),(Instr.makeFunc fn first cap).run prog w = .ok (.func fn first cap) w:=λ_ _ _ _=>rfl;obtain⟨w0,H,hw0,hH,f0,bh⟩:=al_ w 41 #[.int .i64 0,.bool false,.int .i64 0];have br0:=br.fresh f0;have HRB:=hd_ (Jd F g bs at_ w0 (hcu.fresh f0) hF);(have hb:∀x∈bs,x<256:=by obtain⟨_,_,_,_,h,_⟩:=hcu;exact h);have HFW:=hd_ hFW;have HRPR:=hd_ (show pr<w.heap.size from br.lt);have HHg:=hd_ (show H≠g by rw [hH];have:=hcu.lt;omega);have c0:=br0.cell 0;simp at c0;have BH:=hd_ bh;have BR:=hd_ br0;have F0:=hd_ f0;have HW:=hd_ hw0;have HH:=hd_ hH;have HB:=hd_ hb;clear hw0 hH f0 bh br0 br hcu hb hFW;refine Q8 λR hR=>?_;go_enter func65,ntmps65;go_upto_region 1 with fail;simp only [<-HH.out,<-HW.out];have HRB2:=hd_ (show Calls prog 119 _ w0 _ from HRB.mono λe w' hq=>by rw [if_neg h]at hq;exact hq);have hR1:=hd_ (show ∀w',Upd (λb=>b=g) w w'->R (Qa 3) w' from λw' ha=>hR _ w' ⟨ha,by rw [List.drop_of_length_le (by omega)];exact⟨rfl,by decide⟩⟩);clear HRB hR h;go_wp2_with fail;refine HRB2.mono ?_;rintro e w1 ⟨u1,rfl,c1⟩;simp only [Qa];exact⟨rfl,hR1 _ ((F0.mono (λ_ _ h=>h.elim)).trans u1 (λ_ _ h=>h))⟩
theorem Q78 (F:Nat->Prop) (g pr:Nat) (tv:Value) (bs:List Nat) (at_:Nat) (w:World) (hcu:Q4 w F g bs at_) (hF:∀b,F b->b≠g) (hFW:∀b,F b->b<w.heap.size)
   (br:Blk w pr 101 #[.pointer (some ⟨g,0,none⟩),tv]) (hpg:pr≠g) (h:at_<bs.length) (hok:8<=(bs[at_]?.getD 0)) :
   Calls prog 65 #[.pointer (some ⟨pr,0,none⟩)] w (YP F g bs at_ w):=by
 have hmf:∀(fn:Fn) (first cap:Array Value) (w:World),(Instr.makeFunc fn first cap).run prog w = .ok (.func fn first cap) w:=λ_ _ _ _=>rfl;obtain⟨w0,H,hw0,hH,f0,bh⟩:=al_ w 41 #[.int .i64 0,.bool false,.int .i64 0];have br0:=br.fresh f0;have HRB:=hd_ (Jd F g bs at_ w0 (hcu.fresh f0) hF);(have hb:∀x∈bs,x<256:=by obtain⟨_,_,_,_,h,_⟩:=hcu;exact h);have HFW:=hd_ hFW;have HRPR:=hd_ (show pr<w.heap.size from br.lt);have HHg:=hd_ (show H≠g by rw [hH];have:=hcu.lt;omega);have c0:=br0.cell 0;simp at c0;have BH:=hd_ bh;have BR:=hd_ br0;have F0:=hd_ f0;have HW:=hd_ hw0;have HH:=hd_ hH;have HB:=hd_ hb;clear hw0 hH f0 bh br0 br hcu hb hFW;refine Q8 λR hR=>?_;go_enter func65,ntmps65;go_upto_region 1 with fail;simp only [<-HH.out,<-HW.out];have HRB2:=hd_ (show Calls prog 119 _ w0 _ from HRB.mono λe w' hq=>by rw [if_pos h]at hq;exact hq);clear HRB;obtain⟨c,hc⟩:=nm_ (bs[at_]?.getD 0);(have hdrop:bs.drop at_=c::bs.drop (at_+1):=by rw [List.drop_eq_getElem_cons h,hc];simp [h]);(have hc256:c<256:=by rw [hc,List.getElem?_eq_getElem h];exact HB _ (List.getElem_mem _));rw [<-hc]at HRB2;rw [<-hc]at hok;have a3:=Va c hc256;have a1:=Vb c hc256;clear hc;have hR1:=hd_ (show ∀w',Upd (λb=>b=g) w w'->R (Qa 11) w' from λw' ha=>hR _ w' ⟨ha,by simp only [hdrop,Y2];rw [if_neg (by omega)];exact⟨rfl,by decide⟩⟩);clear hR hdrop;(have h8:(8:Int)<=c:=by omega);clear hok;go_wp2_with fail;refine HRB2.mono ?_;rintro e w1 ⟨u1,rfl,c1⟩;have bh1:=BH.upd u1 HHg.out;have br1:=BR.upd u1 hpg;have k0:=bh1.cell 0;have k1:=bh1.cell 1;have z1:=bh1.frozen 0;have z2:=bh1.frozen 1;simp at k0 k1;have U1:=hd_ u1;have C1:=hd_ c1;have BH1:=hd_ bh1;have BR1:=hd_ br1;clear u1 c1 HRB2 c0 bh1 br1;go_wp2_with fail;refine(Jq _ _ _ (by first|rfl|exact decide_eq_false (by omega)|(simp;omega))).mono ?_;rintro e w2 ⟨rfl,rfl⟩;simp only [Qa];exact⟨rfl,hR1 _ (Upd.setCell (Upd.setCell ((F0.mono (λ_ _ h=>h.elim)).trans U1.out (λ_ _ h=>h)) (λh=>absurd h (by show ¬H<_;have:=HH.out;omega)) _) (λh=>absurd h (by show ¬H<_;have:=HH.out;omega)) _)⟩
theorem Q79 (F:Nat->Prop) (g pr:Nat) (tv:Value) (bs:List Nat) (at_:Nat) (w:World) (hcu:Q4 w F g bs at_) (hF:∀b,F b->b≠g) (hFW:∀b,F b->b<w.heap.size)
   (br:Blk w pr 101 #[.pointer (some ⟨g,0,none⟩),tv]) (hpg:pr≠g) (h:at_<bs.length) (hok:4<=(bs[at_]?.getD 0)/\(bs[at_]?.getD 0)<8/\(bs[at_]?.getD 0)%4<2) :
   Calls prog 65 #[.pointer (some ⟨pr,0,none⟩)] w (YP F g bs at_ w):=by
 have hmf:∀(fn:Fn) (first cap:Array Value) (w:World),(Instr.makeFunc fn first cap).run prog w = .ok (.func fn first cap) w:=λ_ _ _ _=>rfl;obtain⟨w0,H,hw0,hH,f0,bh⟩:=al_ w 41 #[.int .i64 0,.bool false,.int .i64 0];have br0:=br.fresh f0;have HRB:=hd_ (Jd F g bs at_ w0 (hcu.fresh f0) hF);(have hb:∀x∈bs,x<256:=by obtain⟨_,_,_,_,h,_⟩:=hcu;exact h);have HFW:=hd_ hFW;have HRPR:=hd_ (show pr<w.heap.size from br.lt);have HHg:=hd_ (show H≠g by rw [hH];have:=hcu.lt;omega);have c0:=br0.cell 0;simp at c0;have BH:=hd_ bh;have BR:=hd_ br0;have F0:=hd_ f0;have HW:=hd_ hw0;have HH:=hd_ hH;have HB:=hd_ hb;clear hw0 hH f0 bh br0 br hcu hb hFW;refine Q8 λR hR=>?_;go_enter func65,ntmps65;go_upto_region 1 with fail;simp only [<-HH.out,<-HW.out];have HRB2:=hd_ (show Calls prog 119 _ w0 _ from HRB.mono λe w' hq=>by rw [if_pos h]at hq;exact hq);clear HRB;obtain⟨c,hc⟩:=nm_ (bs[at_]?.getD 0);(have hdrop:bs.drop at_=c::bs.drop (at_+1):=by rw [List.drop_eq_getElem_cons h,hc];simp [h]);(have hc256:c<256:=by rw [hc,List.getElem?_eq_getElem h];exact HB _ (List.getElem_mem _));rw [<-hc]at HRB2;rw [<-hc]at hok;have a3:=Va c hc256;have a1:=Vb c hc256;clear hc;have hR1:=hd_ (show ∀w',Upd (λb=>b=g) w w'->R (Qa 11) w' from λw' ha=>hR _ w' ⟨ha,by simp only [hdrop,Y2];rw [if_neg (by omega)];exact⟨rfl,by decide⟩⟩);clear hR hdrop;(have h8:(c:Int)<8:=by omega);(have q1:(c:Int) / 4%2=1:=by omega);(have q2:¬2<=(c:Int)%4:=by omega);clear hok;go_wp2_with fail;refine HRB2.mono ?_;rintro e w1 ⟨u1,rfl,c1⟩;have bh1:=BH.upd u1 HHg.out;have br1:=BR.upd u1 hpg;have k0:=bh1.cell 0;have k1:=bh1.cell 1;have z1:=bh1.frozen 0;have z2:=bh1.frozen 1;simp at k0 k1;have U1:=hd_ u1;have C1:=hd_ c1;have BH1:=hd_ bh1;have BR1:=hd_ br1;clear u1 c1 HRB2 c0 bh1 br1;go_wp2_with fail;refine(Jq _ _ _ (by first|rfl|exact decide_eq_false (by omega)|(simp;omega))).mono ?_;rintro e w2 ⟨rfl,rfl⟩;simp only [Qa];exact⟨rfl,hR1 _ (Upd.setCell (Upd.setCell ((F0.mono (λ_ _ h=>h.elim)).trans U1.out (λ_ _ h=>h)) (λh=>absurd h (by show ¬H<_;have:=HH.out;omega)) _) (λh=>absurd h (by show ¬H<_;have:=HH.out;omega)) _)⟩
theorem Q7a (F:Nat->Prop) (g pr:Nat) (tv:Value) (bs:List Nat) (at_:Nat) (w:World) (hcu:Q4 w F g bs at_) (hF:∀b,F b->b≠g) (hFW:∀b,F b->b<w.heap.size)
   (br:Blk w pr 101 #[.pointer (some ⟨g,0,none⟩),tv]) (hpg:pr≠g) (h:at_<bs.length) (hok:(bs[at_]?.getD 0)<4) (v0:¬(Qt (bs.drop (at_+1))).2.2=0) :
   Calls prog 65 #[.pointer (some ⟨pr,0,none⟩)] w (YP F g bs at_ w):=by
 have hmf:∀(fn:Fn) (first cap:Array Value) (w:World),(Instr.makeFunc fn first cap).run prog w = .ok (.func fn first cap) w:=λ_ _ _ _=>rfl;obtain⟨w0,H,hw0,hH,f0,bh⟩:=al_ w 41 #[.int .i64 0,.bool false,.int .i64 0];have br0:=br.fresh f0;have HRB:=hd_ (Jd F g bs at_ w0 (hcu.fresh f0) hF);(have hb:∀x∈bs,x<256:=by obtain⟨_,_,_,_,h,_⟩:=hcu;exact h);have HFW:=hd_ hFW;have HRPR:=hd_ (show pr<w.heap.size from br.lt);have HHg:=hd_ (show H≠g by rw [hH];have:=hcu.lt;omega);have c0:=br0.cell 0;simp at c0;have BH:=hd_ bh;have BR:=hd_ br0;have F0:=hd_ f0;have HW:=hd_ hw0;have HH:=hd_ hH;have HB:=hd_ hb;clear hw0 hH f0 bh br0 br hcu hb hFW;refine Q8 λR hR=>?_;go_enter func65,ntmps65;go_upto_region 1 with fail;simp only [<-HH.out,<-HW.out];have HRB2:=hd_ (show Calls prog 119 _ w0 _ from HRB.mono λe w' hq=>by rw [if_pos h]at hq;exact hq);clear HRB;obtain⟨c,hc⟩:=nm_ (bs[at_]?.getD 0);(have hdrop:bs.drop at_=c::bs.drop (at_+1):=by rw [List.drop_eq_getElem_cons h,hc];simp [h]);(have hc256:c<256:=by rw [hc,List.getElem?_eq_getElem h];exact HB _ (List.getElem_mem _));rw [<-hc]at HRB2;rw [<-hc]at hok;have a3:=Va c hc256;have a1:=Vb c hc256;clear hc;(have h8:(c:Int)<8:=by omega);(have q1:(c:Int) / 4%2=0:=by omega);(have q3:decide (4<=c)=false:=by simp;omega);have HO:=hd_ (show c<8/\(c<4\/2<=c%4) by omega);have Q3:=hd_ q3;clear q3 hok;go_wp2_with fail;refine HRB2.mono ?_;rintro e w1 ⟨u1,rfl,c1⟩;have bh1:=BH.upd u1 HHg.out;have br1:=BR.upd u1 hpg;have k0:=bh1.cell 0;have k1:=bh1.cell 1;have z1:=bh1.frozen 0;have z2:=bh1.frozen 1;simp at k0 k1;have U1:=hd_ u1;have C1:=hd_ c1;have BH1:=hd_ bh1;have BR1:=hd_ br1;clear u1 c1 HRB2 c0 bh1 br1;go_wp2_with fail;refine(YU _ _ _ (by first|rfl|exact decide_eq_true (by omega)|(simp;omega))).mono ?_;rintro e w2 ⟨rfl,rfl⟩;obtain⟨w2,hw2⟩:=nm_ ((w1.setCell ⟨H,0,none⟩ (.int .i64 ((c:Int)%4))).setCell ⟨H,1,none⟩ (.bool false));(have u2:Upd (λb=>b=H) w1 w2:=by rw [hw2];exact((Upd.refl (λb=>b=H) w1).setCell (p:=⟨H,0,none⟩) (λ_=>rfl) _).setCell (p:=⟨H,1,none⟩) (λ_=>rfl) _);(have bh2:Blk w2 H 41 #[.int .i64 ((c:Int)%4),.bool false,.int .i64 0]:=by rw [hw2];have:=(BH1.set_ 0 (.int .i64 ((c:Int)%4))).set_ 1 (.bool false);simpa using this);have br2:Blk w2 pr 101 #[.pointer (some ⟨g,0,none⟩),tv]:=BR1.upd u2 (by rw [HH.out];have:=BR.lt;have:=HRPR.out;omega);have c2:=C1.upd u2 (λe=>HHg e.symm) (λb hb hF' e=>by have:=HFW b hF';rw [HH.out]at e;omega);have q0:=br2.cell 0;have kk:=bh2.cell 0;simp at q0 kk;simp only [<-hw2];have HV:=hd_ (Kw F g bs (at_+1) w2 c2 hF)
 have BH2:=hd_ bh2;have U2:=hd_ u2;clear hw2 u2 bh2 br2 c2 k0 k1 z1 z2;obtain⟨V,hV⟩:=nm_ (Qt (bs.drop (at_+1)));rw [<-hV]at HV;rw [<-hV]at v0
 have hR1:=hd_ (show ∀e w',(Upd (λb=>b=g) w w'/\if V.2.2=0 then(if V.1<=131072/\(0<V.1\/c%4=0)then e = .returned (.agg #[.int .i64 (c%4:Nat),.bool false,.int .i64 V.1])/\Q4 w' F g bs (at_+(1+V.2.1))else e=Qa 11)else e=Qa V.2.2)->R e w' from λe w' h=>hR _ _ ⟨h.1,by
   have h2:=h.2;simp only [hdrop,Y2,if_pos HO.out,<-hV,Q3.out];by_cases v0:V.2.2=0
   . simp only [if_pos v0]at h2|-
     split at h2
     . next v1=>rw [if_pos v1];exact h2
     next v1=>rw [if_neg v1];exact⟨h2,by decide⟩
   simp only [if_neg v0]at h2|-
   exact⟨h2,v0⟩⟩)
 clear hR hV;have HV2:=hd_ (show Calls prog 121 _ w2 _ from HV.mono λe w' hq=>by simp only [if_neg v0]at hq;exact hq);simp only [if_neg v0]at hR1;clear HV v0;go_wp2_with fail;refine HV2.mono ?_;rintro e w3 ⟨u3,rfl,c3⟩;simp only [Qa];exact⟨rfl,hR1 _ _ ⟨ZM HH.out F0.out U1.out U2.out u3,rfl⟩⟩
theorem Q7b (F:Nat->Prop) (g pr:Nat) (tv:Value) (bs:List Nat) (at_:Nat) (w:World) (hcu:Q4 w F g bs at_) (hF:∀b,F b->b≠g) (hFW:∀b,F b->b<w.heap.size)
   (br:Blk w pr 101 #[.pointer (some ⟨g,0,none⟩),tv]) (hpg:pr≠g) (h:at_<bs.length) (hok:(bs[at_]?.getD 0)<4) (v0:(Qt (bs.drop (at_+1))).2.2=0) :
   Calls prog 65 #[.pointer (some ⟨pr,0,none⟩)] w (YP F g bs at_ w):=by
 have hmf:∀(fn:Fn) (first cap:Array Value) (w:World),(Instr.makeFunc fn first cap).run prog w = .ok (.func fn first cap) w:=λ_ _ _ _=>rfl;obtain⟨w0,H,hw0,hH,f0,bh⟩:=al_ w 41 #[.int .i64 0,.bool false,.int .i64 0];have br0:=br.fresh f0;have HRB:=hd_ (Jd F g bs at_ w0 (hcu.fresh f0) hF);(have hb:∀x∈bs,x<256:=by obtain⟨_,_,_,_,h,_⟩:=hcu;exact h);have HFW:=hd_ hFW;have HRPR:=hd_ (show pr<w.heap.size from br.lt);have HHg:=hd_ (show H≠g by rw [hH];have:=hcu.lt;omega);have c0:=br0.cell 0;simp at c0;have BH:=hd_ bh;have BR:=hd_ br0;have F0:=hd_ f0;have HW:=hd_ hw0;have HH:=hd_ hH;have HB:=hd_ hb;clear hw0 hH f0 bh br0 br hcu hb hFW;refine Q8 λR hR=>?_;go_enter func65,ntmps65;go_upto_region 1 with fail;simp only [<-HH.out,<-HW.out];have HRB2:=hd_ (show Calls prog 119 _ w0 _ from HRB.mono λe w' hq=>by rw [if_pos h]at hq;exact hq);clear HRB;obtain⟨c,hc⟩:=nm_ (bs[at_]?.getD 0);(have hdrop:bs.drop at_=c::bs.drop (at_+1):=by rw [List.drop_eq_getElem_cons h,hc];simp [h]);(have hc256:c<256:=by rw [hc,List.getElem?_eq_getElem h];exact HB _ (List.getElem_mem _));rw [<-hc]at HRB2;rw [<-hc]at hok;have a3:=Va c hc256;have a1:=Vb c hc256;clear hc;(have h8:(c:Int)<8:=by omega);(have q1:(c:Int) / 4%2=0:=by omega);(have q3:decide (4<=c)=false:=by simp;omega);have HO:=hd_ (show c<8/\(c<4\/2<=c%4) by omega);have Q3:=hd_ q3;clear q3 hok;go_wp2_with fail;refine HRB2.mono ?_;rintro e w1 ⟨u1,rfl,c1⟩;have bh1:=BH.upd u1 HHg.out;have br1:=BR.upd u1 hpg;have k0:=bh1.cell 0;have k1:=bh1.cell 1;have z1:=bh1.frozen 0;have z2:=bh1.frozen 1;simp at k0 k1;have U1:=hd_ u1;have C1:=hd_ c1;have BH1:=hd_ bh1;have BR1:=hd_ br1;clear u1 c1 HRB2 c0 bh1 br1;go_wp2_with fail;refine(YU _ _ _ (by first|rfl|exact decide_eq_true (by omega)|(simp;omega))).mono ?_;rintro e w2 ⟨rfl,rfl⟩;obtain⟨w2,hw2⟩:=nm_ ((w1.setCell ⟨H,0,none⟩ (.int .i64 ((c:Int)%4))).setCell ⟨H,1,none⟩ (.bool false));(have u2:Upd (λb=>b=H) w1 w2:=by rw [hw2];exact((Upd.refl (λb=>b=H) w1).setCell (p:=⟨H,0,none⟩) (λ_=>rfl) _).setCell (p:=⟨H,1,none⟩) (λ_=>rfl) _);(have bh2:Blk w2 H 41 #[.int .i64 ((c:Int)%4),.bool false,.int .i64 0]:=by rw [hw2];have:=(BH1.set_ 0 (.int .i64 ((c:Int)%4))).set_ 1 (.bool false);simpa using this);have br2:Blk w2 pr 101 #[.pointer (some ⟨g,0,none⟩),tv]:=BR1.upd u2 (by rw [HH.out];have:=BR.lt;have:=HRPR.out;omega);have c2:=C1.upd u2 (λe=>HHg e.symm) (λb hb hF' e=>by have:=HFW b hF';rw [HH.out]at e;omega);have q0:=br2.cell 0;have kk:=bh2.cell 0;simp at q0 kk;simp only [<-hw2];have HV:=hd_ (Kw F g bs (at_+1) w2 c2 hF)
 have BH2:=hd_ bh2;have U2:=hd_ u2;clear hw2 u2 bh2 br2 c2 k0 k1 z1 z2;obtain⟨V,hV⟩:=nm_ (Qt (bs.drop (at_+1)));rw [<-hV]at HV;rw [<-hV]at v0
 have hR1:=hd_ (show ∀e w',(Upd (λb=>b=g) w w'/\if V.2.2=0 then(if V.1<=131072/\(0<V.1\/c%4=0)then e = .returned (.agg #[.int .i64 (c%4:Nat),.bool false,.int .i64 V.1])/\Q4 w' F g bs (at_+(1+V.2.1))else e=Qa 11)else e=Qa V.2.2)->R e w' from λe w' h=>hR _ _ ⟨h.1,by
   have h2:=h.2;simp only [hdrop,Y2,if_pos HO.out,<-hV,Q3.out];by_cases v0:V.2.2=0
   . simp only [if_pos v0]at h2|-
     split at h2
     . next v1=>rw [if_pos v1];exact h2
     next v1=>rw [if_neg v1];exact⟨h2,by decide⟩
   simp only [if_neg v0]at h2|-
   exact⟨h2,v0⟩⟩)
 clear hR hV;have HV2:=hd_ (show Calls prog 121 _ w2 _ from HV.mono λe w' hq=>by simp only [if_pos v0]at hq;exact hq);simp only [if_pos v0]at hR1;obtain⟨n,hn⟩:=nm_ (V.1);obtain⟨m,hm⟩:=nm_ (V.2.1);rw [<-hn,<-hm]at hR1;rw [<-hn,<-hm]at HV2;clear HV v0 hn hm;go_wp2_with fail;refine HV2.mono ?_;rintro e w3 ⟨u3,rfl,c3⟩;have bh3:=BH2.upd u3 HHg.out;have k0:=bh3.cell 0;have k1:=bh3.cell 1;have k2:=bh3.cell 2;have z0:=bh3.frozen 0;have z1:=bh3.frozen 1;have z2:=bh3.frozen 2;simp at k0 k1 k2;have U3:=hd_ u3;have C3:=hd_ c3;have BH3:=hd_ bh3;clear u3 c3 bh3 HV2;by_cases n1:n<=131072
 . have n1I:(n:Int)<=131072:=by omega
   (have hwn:IntKind.i64.wrap (n:Int)=n:=by unfold IntKind.wrap;simp [IntKind.bits];omega);rcases Nat.eq_zero_or_pos n with n0|n0
   . by_cases ck:c%4=0
     . have nI:(n:Int)=0:=by omega
       (have ckI:(c:Int)%4=0:=by omega);have hR2:=hd_ (show ∀e w',Upd (λb=>b=g) w w'->e = .returned (.agg #[.int .i64 (c%4:Nat),.bool false,.int .i64 n])->Q4 w' F g bs (at_+(1+m))->R e w' from λe w' ha hb hc=>hR1 e w' ⟨ha,by rw [if_pos ⟨n1,.inr ck⟩];exact⟨hb,hc⟩⟩);clear hR1 n1 n0 ck;go_wp2_with fail;refine(YU _ _ _ (by first|rfl|exact decide_eq_true (by omega)|(simp;omega))).mono ?_;rintro e w4 ⟨rfl,rfl⟩;go_wp2_with fail;(have hHlt:¬H<w.heap.size:=by have:=HH.out;omega)
       have b5:Blk ((((w4.setCell ⟨H,2,none⟩ (.int .i64 0)).setCell ⟨H,0,none⟩ (.int .i64 0)).setCell ⟨H,1,none⟩ (.bool false)).setCell ⟨H,2,none⟩ (.int .i64 0)) H 41 #[.int .i64 0,.bool false,.int .i64 0]:=by
         have:=(((BH3.set_ 2 (.int .i64 0)).set_ 0 (.int .i64 0)).set_ 1 (.bool false)).set_ 2 (.int .i64 0);simpa using this
       obtain⟨d0,d1,d2⟩:=(b5).cells3;have us:Upd (λb=>b=H) w4 ((((w4.setCell ⟨H,2,none⟩ (.int .i64 0)).setCell ⟨H,0,none⟩ (.int .i64 0)).setCell ⟨H,1,none⟩ (.bool false)).setCell ⟨H,2,none⟩ (.int .i64 0)):=((((Upd.refl (λb=>b=H) w4).setCell (p:=⟨H,2,none⟩) (λ_=>rfl) _).setCell (p:=⟨H,0,none⟩) (λ_=>rfl) _).setCell (p:=⟨H,1,none⟩) (λ_=>rfl) _).setCell (p:=⟨H,2,none⟩) (λ_=>rfl) _
       have hv:Ending.returned (.agg #[.int .i64 0,.bool false,.int .i64 0])=Ending.returned (.agg #[.int .i64 (c%4:Nat),.bool false,.int .i64 n]):=by
         rw [show((c%4:Nat):Int)=0 by omega,show(n:Int)=0 by omega]
       refine⟨rfl,.agg #[.int .i64 0,.bool false,.int .i64 0],?_,?_⟩
       . simp [results,results65,go_sem,d0,d1,d2]
       refine hR2.out _ _ ((ZM HH.out F0.out U1.out U2.out U3.out).trans us (λb hb e=>absurd hb (by rw [e];exact hHlt))) hv ?_;have:=C3.upd us (λe=>HHg e.symm) (λb hb hF' e=>by have:=HFW b hF';rw [HH.out]at e;omega);rw [show at_+(1+m)=at_+1+m by omega];exact this
     (have nI:(n:Int)=0:=by omega);(have ckI:¬(c:Int)%4=0:=by omega);have hR2:=hd_ (show ∀w',Upd (λb=>b=g) w w'->R (Qa 11) w' from λw' ha=>hR1 _ w' ⟨ha,by rw [if_neg (by omega)]⟩);clear hR1 n1 n0 ck;go_wp2_with fail;refine(Jq _ _ _ (by first|rfl|exact decide_eq_false (by omega)|(simp;omega))).mono ?_;rintro e w4 ⟨rfl,rfl⟩;simp only [Qa];exact⟨rfl,hR2 _ (ZM HH.out F0.out U1.out U2.out U3.out)⟩
   (have nI:0<(n:Int):=by omega);have hR2:=hd_ (show ∀e w',Upd (λb=>b=g) w w'->e = .returned (.agg #[.int .i64 (c%4:Nat),.bool false,.int .i64 n])->Q4 w' F g bs (at_+(1+m))->R e w' from λe w' ha hb hc=>hR1 e w' ⟨ha,by rw [if_pos ⟨n1,.inl n0⟩];exact⟨hb,hc⟩⟩);clear hR1 n1 n0;go_wp2_with fail;refine(YU _ _ _ (by first|rfl|exact decide_eq_true (by omega)|(simp;omega))).mono ?_;rintro e w4 ⟨rfl,rfl⟩;go_wp2_with fail;(have hHlt:¬H<w.heap.size:=by have:=HH.out;omega)
   have b5:Blk ((((w4.setCell ⟨H,2,none⟩ (.int .i64 n)).setCell ⟨H,0,none⟩ (.int .i64 ((c:Int)%4))).setCell ⟨H,1,none⟩ (.bool false)).setCell ⟨H,2,none⟩ (.int .i64 n)) H 41 #[.int .i64 ((c:Int)%4),.bool false,.int .i64 n]:=by
     have:=(((BH3.set_ 2 (.int .i64 n)).set_ 0 (.int .i64 ((c:Int)%4))).set_ 1 (.bool false)).set_ 2 (.int .i64 n);simpa using this
   obtain⟨d0,d1,d2⟩:=(b5).cells3;have us:Upd (λb=>b=H) w4 ((((w4.setCell ⟨H,2,none⟩ (.int .i64 n)).setCell ⟨H,0,none⟩ (.int .i64 ((c:Int)%4))).setCell ⟨H,1,none⟩ (.bool false)).setCell ⟨H,2,none⟩ (.int .i64 n)):=((((Upd.refl (λb=>b=H) w4).setCell (p:=⟨H,2,none⟩) (λ_=>rfl) _).setCell (p:=⟨H,0,none⟩) (λ_=>rfl) _).setCell (p:=⟨H,1,none⟩) (λ_=>rfl) _).setCell (p:=⟨H,2,none⟩) (λ_=>rfl) _
   have hv:Ending.returned (.agg #[.int .i64 ((c:Int)%4),.bool false,.int .i64 n])=Ending.returned (.agg #[.int .i64 (c%4:Nat),.bool false,.int .i64 n]):=by
     rw [show((c%4:Nat):Int)=((c:Int)%4) by omega,show(n:Int)=n by omega]
   refine⟨rfl,.agg #[.int .i64 ((c:Int)%4),.bool false,.int .i64 n],?_,?_⟩
   . simp [results,results65,go_sem,d0,d1,d2]
   refine hR2.out _ _ ((ZM HH.out F0.out U1.out U2.out U3.out).trans us (λb hb e=>absurd hb (by rw [e];exact hHlt))) hv ?_;have:=C3.upd us (λe=>HHg e.symm) (λb hb hF' e=>by have:=HFW b hF';rw [HH.out]at e;omega);rw [show at_+(1+m)=at_+1+m by omega];exact this
 (have n1I:¬(n:Int)<=131072:=by omega);have hR2:=hd_ (show ∀w',Upd (λb=>b=g) w w'->R (Qa 11) w' from λw' ha=>hR1 _ w' ⟨ha,by rw [if_neg (by omega)]⟩);clear hR1 n1;go_wp2_with fail;refine(Jq _ _ _ (by first|rfl|exact decide_eq_false (by omega)|(simp;omega))).mono ?_;rintro e w4 ⟨rfl,rfl⟩;simp only [Qa];exact⟨rfl,hR2 _ (ZM HH.out F0.out U1.out U2.out U3.out)⟩
theorem Q7c (F:Nat->Prop) (g pr:Nat) (tv:Value) (bs:List Nat) (at_:Nat) (w:World) (hcu:Q4 w F g bs at_) (hF:∀b,F b->b≠g) (hFW:∀b,F b->b<w.heap.size)
   (br:Blk w pr 101 #[.pointer (some ⟨g,0,none⟩),tv]) (hpg:pr≠g) (h:at_<bs.length) (hok:4<=(bs[at_]?.getD 0)/\(bs[at_]?.getD 0)<8/\2<=(bs[at_]?.getD 0)%4) (v0:¬(Qt (bs.drop (at_+1))).2.2=0) :
   Calls prog 65 #[.pointer (some ⟨pr,0,none⟩)] w (YP F g bs at_ w):=by
 have hmf:∀(fn:Fn) (first cap:Array Value) (w:World),(Instr.makeFunc fn first cap).run prog w = .ok (.func fn first cap) w:=λ_ _ _ _=>rfl;obtain⟨w0,H,hw0,hH,f0,bh⟩:=al_ w 41 #[.int .i64 0,.bool false,.int .i64 0];have br0:=br.fresh f0;have HRB:=hd_ (Jd F g bs at_ w0 (hcu.fresh f0) hF);(have hb:∀x∈bs,x<256:=by obtain⟨_,_,_,_,h,_⟩:=hcu;exact h);have HFW:=hd_ hFW;have HRPR:=hd_ (show pr<w.heap.size from br.lt);have HHg:=hd_ (show H≠g by rw [hH];have:=hcu.lt;omega);have c0:=br0.cell 0;simp at c0;have BH:=hd_ bh;have BR:=hd_ br0;have F0:=hd_ f0;have HW:=hd_ hw0;have HH:=hd_ hH;have HB:=hd_ hb;clear hw0 hH f0 bh br0 br hcu hb hFW;refine Q8 λR hR=>?_;go_enter func65,ntmps65;go_upto_region 1 with fail;simp only [<-HH.out,<-HW.out];have HRB2:=hd_ (show Calls prog 119 _ w0 _ from HRB.mono λe w' hq=>by rw [if_pos h]at hq;exact hq);clear HRB;obtain⟨c,hc⟩:=nm_ (bs[at_]?.getD 0);(have hdrop:bs.drop at_=c::bs.drop (at_+1):=by rw [List.drop_eq_getElem_cons h,hc];simp [h]);(have hc256:c<256:=by rw [hc,List.getElem?_eq_getElem h];exact HB _ (List.getElem_mem _));rw [<-hc]at HRB2;rw [<-hc]at hok;have a3:=Va c hc256;have a1:=Vb c hc256;clear hc;(have h8:(c:Int)<8:=by omega);(have q1:(c:Int) / 4%2=1:=by omega);(have q2:2<=(c:Int)%4:=by omega);(have q3:decide (4<=c)=true:=by simp;omega);have HO:=hd_ (show c<8/\(c<4\/2<=c%4) by omega);have Q3:=hd_ q3;clear q3 hok;go_wp2_with fail;refine HRB2.mono ?_;rintro e w1 ⟨u1,rfl,c1⟩;have bh1:=BH.upd u1 HHg.out;have br1:=BR.upd u1 hpg;have k0:=bh1.cell 0;have k1:=bh1.cell 1;have z1:=bh1.frozen 0;have z2:=bh1.frozen 1;simp at k0 k1;have U1:=hd_ u1;have C1:=hd_ c1;have BH1:=hd_ bh1;have BR1:=hd_ br1;clear u1 c1 HRB2 c0 bh1 br1;go_wp2_with fail;refine(YU _ _ _ (by first|rfl|exact decide_eq_true (by omega)|(simp;omega))).mono ?_;rintro e w2 ⟨rfl,rfl⟩;obtain⟨w2,hw2⟩:=nm_ ((w1.setCell ⟨H,0,none⟩ (.int .i64 ((c:Int)%4))).setCell ⟨H,1,none⟩ (.bool true));(have u2:Upd (λb=>b=H) w1 w2:=by rw [hw2];exact((Upd.refl (λb=>b=H) w1).setCell (p:=⟨H,0,none⟩) (λ_=>rfl) _).setCell (p:=⟨H,1,none⟩) (λ_=>rfl) _);(have bh2:Blk w2 H 41 #[.int .i64 ((c:Int)%4),.bool true,.int .i64 0]:=by rw [hw2];have:=(BH1.set_ 0 (.int .i64 ((c:Int)%4))).set_ 1 (.bool true);simpa using this);have br2:Blk w2 pr 101 #[.pointer (some ⟨g,0,none⟩),tv]:=BR1.upd u2 (by rw [HH.out];have:=BR.lt;have:=HRPR.out;omega);have c2:=C1.upd u2 (λe=>HHg e.symm) (λb hb hF' e=>by have:=HFW b hF';rw [HH.out]at e;omega);have q0:=br2.cell 0;have kk:=bh2.cell 0;simp at q0 kk
 simp only [<-hw2];have HV:=hd_ (Kw F g bs (at_+1) w2 c2 hF);have BH2:=hd_ bh2;have U2:=hd_ u2;clear hw2 u2 bh2 br2 c2 k0 k1 z1 z2;obtain⟨V,hV⟩:=nm_ (Qt (bs.drop (at_+1)));rw [<-hV]at HV;rw [<-hV]at v0
 have hR1:=hd_ (show ∀e w',(Upd (λb=>b=g) w w'/\if V.2.2=0 then(if V.1<=131072/\(0<V.1\/c%4=0)then e = .returned (.agg #[.int .i64 (c%4:Nat),.bool true,.int .i64 V.1])/\Q4 w' F g bs (at_+(1+V.2.1))else e=Qa 11)else e=Qa V.2.2)->R e w' from λe w' h=>hR _ _ ⟨h.1,by
   have h2:=h.2;simp only [hdrop,Y2,if_pos HO.out,<-hV,Q3.out];by_cases v0:V.2.2=0
   . simp only [if_pos v0]at h2|-
     split at h2
     . next v1=>rw [if_pos v1];exact h2
     next v1=>rw [if_neg v1];exact⟨h2,by decide⟩
   simp only [if_neg v0]at h2|-
   exact⟨h2,v0⟩⟩)
 clear hR hV;have HV2:=hd_ (show Calls prog 121 _ w2 _ from HV.mono λe w' hq=>by simp only [if_neg v0]at hq;exact hq);simp only [if_neg v0]at hR1;clear HV v0;go_wp2_with fail;refine HV2.mono ?_;rintro e w3 ⟨u3,rfl,c3⟩;simp only [Qa];exact⟨rfl,hR1 _ _ ⟨ZM HH.out F0.out U1.out U2.out u3,rfl⟩⟩
theorem Q7d (F:Nat->Prop) (g pr:Nat) (tv:Value) (bs:List Nat) (at_:Nat) (w:World) (hcu:Q4 w F g bs at_) (hF:∀b,F b->b≠g) (hFW:∀b,F b->b<w.heap.size)
   (br:Blk w pr 101 #[.pointer (some ⟨g,0,none⟩),tv]) (hpg:pr≠g) (h:at_<bs.length) (hok:4<=(bs[at_]?.getD 0)/\(bs[at_]?.getD 0)<8/\2<=(bs[at_]?.getD 0)%4) (v0:(Qt (bs.drop (at_+1))).2.2=0) :
   Calls prog 65 #[.pointer (some ⟨pr,0,none⟩)] w (YP F g bs at_ w):=by
 have hmf:∀(fn:Fn) (first cap:Array Value) (w:World),(Instr.makeFunc fn first cap).run prog w = .ok (.func fn first cap) w:=λ_ _ _ _=>rfl;obtain⟨w0,H,hw0,hH,f0,bh⟩:=al_ w 41 #[.int .i64 0,.bool false,.int .i64 0];have br0:=br.fresh f0;have HRB:=hd_ (Jd F g bs at_ w0 (hcu.fresh f0) hF);(have hb:∀x∈bs,x<256:=by obtain⟨_,_,_,_,h,_⟩:=hcu;exact h);have HFW:=hd_ hFW;have HRPR:=hd_ (show pr<w.heap.size from br.lt);have HHg:=hd_ (show H≠g by rw [hH];have:=hcu.lt;omega);have c0:=br0.cell 0;simp at c0;have BH:=hd_ bh;have BR:=hd_ br0;have F0:=hd_ f0;have HW:=hd_ hw0;have HH:=hd_ hH;have HB:=hd_ hb;clear hw0 hH f0 bh br0 br hcu hb hFW;refine Q8 λR hR=>?_;go_enter func65,ntmps65;go_upto_region 1 with fail;simp only [<-HH.out,<-HW.out];have HRB2:=hd_ (show Calls prog 119 _ w0 _ from HRB.mono λe w' hq=>by rw [if_pos h]at hq;exact hq);clear HRB;obtain⟨c,hc⟩:=nm_ (bs[at_]?.getD 0);(have hdrop:bs.drop at_=c::bs.drop (at_+1):=by rw [List.drop_eq_getElem_cons h,hc];simp [h]);(have hc256:c<256:=by rw [hc,List.getElem?_eq_getElem h];exact HB _ (List.getElem_mem _));rw [<-hc]at HRB2;rw [<-hc]at hok;have a3:=Va c hc256;have a1:=Vb c hc256;clear hc;(have h8:(c:Int)<8:=by omega);(have q1:(c:Int) / 4%2=1:=by omega);(have q2:2<=(c:Int)%4:=by omega);(have q3:decide (4<=c)=true:=by simp;omega);have HO:=hd_ (show c<8/\(c<4\/2<=c%4) by omega);have Q3:=hd_ q3;clear q3 hok;go_wp2_with fail;refine HRB2.mono ?_;rintro e w1 ⟨u1,rfl,c1⟩;have bh1:=BH.upd u1 HHg.out;have br1:=BR.upd u1 hpg;have k0:=bh1.cell 0;have k1:=bh1.cell 1;have z1:=bh1.frozen 0;have z2:=bh1.frozen 1;simp at k0 k1;have U1:=hd_ u1;have C1:=hd_ c1;have BH1:=hd_ bh1;have BR1:=hd_ br1;clear u1 c1 HRB2 c0 bh1 br1;go_wp2_with fail;refine(YU _ _ _ (by first|rfl|exact decide_eq_true (by omega)|(simp;omega))).mono ?_;rintro e w2 ⟨rfl,rfl⟩;obtain⟨w2,hw2⟩:=nm_ ((w1.setCell ⟨H,0,none⟩ (.int .i64 ((c:Int)%4))).setCell ⟨H,1,none⟩ (.bool true));(have u2:Upd (λb=>b=H) w1 w2:=by rw [hw2];exact((Upd.refl (λb=>b=H) w1).setCell (p:=⟨H,0,none⟩) (λ_=>rfl) _).setCell (p:=⟨H,1,none⟩) (λ_=>rfl) _);(have bh2:Blk w2 H 41 #[.int .i64 ((c:Int)%4),.bool true,.int .i64 0]:=by rw [hw2];have:=(BH1.set_ 0 (.int .i64 ((c:Int)%4))).set_ 1 (.bool true);simpa using this);have br2:Blk w2 pr 101 #[.pointer (some ⟨g,0,none⟩),tv]:=BR1.upd u2 (by rw [HH.out];have:=BR.lt;have:=HRPR.out;omega);have c2:=C1.upd u2 (λe=>HHg e.symm) (λb hb hF' e=>by have:=HFW b hF';rw [HH.out]at e;omega);have q0:=br2.cell 0;have kk:=bh2.cell 0;simp at q0 kk
 simp only [<-hw2];have HV:=hd_ (Kw F g bs (at_+1) w2 c2 hF);have BH2:=hd_ bh2;have U2:=hd_ u2;clear hw2 u2 bh2 br2 c2 k0 k1 z1 z2;obtain⟨V,hV⟩:=nm_ (Qt (bs.drop (at_+1)));rw [<-hV]at HV;rw [<-hV]at v0
 have hR1:=hd_ (show ∀e w',(Upd (λb=>b=g) w w'/\if V.2.2=0 then(if V.1<=131072/\(0<V.1\/c%4=0)then e = .returned (.agg #[.int .i64 (c%4:Nat),.bool true,.int .i64 V.1])/\Q4 w' F g bs (at_+(1+V.2.1))else e=Qa 11)else e=Qa V.2.2)->R e w' from λe w' h=>hR _ _ ⟨h.1,by
   have h2:=h.2;simp only [hdrop,Y2,if_pos HO.out,<-hV,Q3.out];by_cases v0:V.2.2=0
   . simp only [if_pos v0]at h2|-
     split at h2
     . next v1=>rw [if_pos v1];exact h2
     next v1=>rw [if_neg v1];exact⟨h2,by decide⟩
   simp only [if_neg v0]at h2|-
   exact⟨h2,v0⟩⟩)
 clear hR hV;have HV2:=hd_ (show Calls prog 121 _ w2 _ from HV.mono λe w' hq=>by simp only [if_pos v0]at hq;exact hq);simp only [if_pos v0]at hR1;obtain⟨n,hn⟩:=nm_ (V.1);obtain⟨m,hm⟩:=nm_ (V.2.1);rw [<-hn,<-hm]at hR1;rw [<-hn,<-hm]at HV2;clear HV v0 hn hm;go_wp2_with fail;refine HV2.mono ?_;rintro e w3 ⟨u3,rfl,c3⟩;have bh3:=BH2.upd u3 HHg.out;have k0:=bh3.cell 0;have k1:=bh3.cell 1;have k2:=bh3.cell 2;have z0:=bh3.frozen 0;have z1:=bh3.frozen 1;have z2:=bh3.frozen 2;simp at k0 k1 k2;have U3:=hd_ u3;have C3:=hd_ c3;have BH3:=hd_ bh3;clear u3 c3 bh3 HV2;by_cases n1:n<=131072
 . have n1I:(n:Int)<=131072:=by omega
   (have hwn:IntKind.i64.wrap (n:Int)=n:=by unfold IntKind.wrap;simp [IntKind.bits];omega);rcases Nat.eq_zero_or_pos n with n0|n0
   . by_cases ck:c%4=0
     . have nI:(n:Int)=0:=by omega
       exact absurd ck (by omega)
     (have nI:(n:Int)=0:=by omega);(have ckI:¬(c:Int)%4=0:=by omega);have hR2:=hd_ (show ∀w',Upd (λb=>b=g) w w'->R (Qa 11) w' from λw' ha=>hR1 _ w' ⟨ha,by rw [if_neg (by omega)]⟩);clear hR1 n1 n0 ck;go_wp2_with fail;refine(Jq _ _ _ (by first|rfl|exact decide_eq_false (by omega)|(simp;omega))).mono ?_;rintro e w4 ⟨rfl,rfl⟩;simp only [Qa];exact⟨rfl,hR2 _ (ZM HH.out F0.out U1.out U2.out U3.out)⟩
   (have nI:0<(n:Int):=by omega);have hR2:=hd_ (show ∀e w',Upd (λb=>b=g) w w'->e = .returned (.agg #[.int .i64 (c%4:Nat),.bool true,.int .i64 n])->Q4 w' F g bs (at_+(1+m))->R e w' from λe w' ha hb hc=>hR1 e w' ⟨ha,by rw [if_pos ⟨n1,.inl n0⟩];exact⟨hb,hc⟩⟩);clear hR1 n1 n0;go_wp2_with fail;refine(YU _ _ _ (by first|rfl|exact decide_eq_true (by omega)|(simp;omega))).mono ?_;rintro e w4 ⟨rfl,rfl⟩;go_wp2_with fail;(have hHlt:¬H<w.heap.size:=by have:=HH.out;omega)
   have b5:Blk ((((w4.setCell ⟨H,2,none⟩ (.int .i64 n)).setCell ⟨H,0,none⟩ (.int .i64 ((c:Int)%4))).setCell ⟨H,1,none⟩ (.bool true)).setCell ⟨H,2,none⟩ (.int .i64 n)) H 41 #[.int .i64 ((c:Int)%4),.bool true,.int .i64 n]:=by
     have:=(((BH3.set_ 2 (.int .i64 n)).set_ 0 (.int .i64 ((c:Int)%4))).set_ 1 (.bool true)).set_ 2 (.int .i64 n);simpa using this
   obtain⟨d0,d1,d2⟩:=(b5).cells3;have us:Upd (λb=>b=H) w4 ((((w4.setCell ⟨H,2,none⟩ (.int .i64 n)).setCell ⟨H,0,none⟩ (.int .i64 ((c:Int)%4))).setCell ⟨H,1,none⟩ (.bool true)).setCell ⟨H,2,none⟩ (.int .i64 n)):=((((Upd.refl (λb=>b=H) w4).setCell (p:=⟨H,2,none⟩) (λ_=>rfl) _).setCell (p:=⟨H,0,none⟩) (λ_=>rfl) _).setCell (p:=⟨H,1,none⟩) (λ_=>rfl) _).setCell (p:=⟨H,2,none⟩) (λ_=>rfl) _
   have hv:Ending.returned (.agg #[.int .i64 ((c:Int)%4),.bool true,.int .i64 n])=Ending.returned (.agg #[.int .i64 (c%4:Nat),.bool true,.int .i64 n]):=by
     rw [show((c%4:Nat):Int)=((c:Int)%4) by omega,show(n:Int)=n by omega]
   refine⟨rfl,.agg #[.int .i64 ((c:Int)%4),.bool true,.int .i64 n],?_,?_⟩
   . simp [results,results65,go_sem,d0,d1,d2]
   refine hR2.out _ _ ((ZM HH.out F0.out U1.out U2.out U3.out).trans us (λb hb e=>absurd hb (by rw [e];exact hHlt))) hv ?_;have:=C3.upd us (λe=>HHg e.symm) (λb hb hF' e=>by have:=HFW b hF';rw [HH.out]at e;omega);rw [show at_+(1+m)=at_+1+m by omega];exact this
 (have n1I:¬(n:Int)<=131072:=by omega);have hR2:=hd_ (show ∀w',Upd (λb=>b=g) w w'->R (Qa 11) w' from λw' ha=>hR1 _ w' ⟨ha,by rw [if_neg (by omega)]⟩);clear hR1 n1;go_wp2_with fail;refine(Jq _ _ _ (by first|rfl|exact decide_eq_false (by omega)|(simp;omega))).mono ?_;rintro e w4 ⟨rfl,rfl⟩;simp only [Qa];exact⟨rfl,hR2 _ (ZM HH.out F0.out U1.out U2.out U3.out)⟩
theorem Q5A (F:Nat->Prop) (g pr:Nat) (tv:Value) (bs:List Nat) (at_:Nat) (w:World) (hcu:Q4 w F g bs at_) (hF:∀b,F b->b≠g) (hFW:∀b,F b->b<w.heap.size)
   (br:Blk w pr 101 #[.pointer (some ⟨g,0,none⟩),tv]) (hpg:pr≠g) :
   Calls prog 65 #[.pointer (some ⟨pr,0,none⟩)] w (YP F g bs at_ w):=by
 by_cases h:at_<bs.length
 . by_cases c8:(bs[at_]?.getD 0)<8
   . by_cases c4:(bs[at_]?.getD 0)<4
     . by_cases v0:(Qt (bs.drop (at_+1))).2.2=0
       . exact Q7b F g pr tv bs at_ w hcu hF hFW br hpg h c4 v0
       exact Q7a F g pr tv bs at_ w hcu hF hFW br hpg h c4 v0
     by_cases c2:2<=(bs[at_]?.getD 0)%4
     . by_cases v0:(Qt (bs.drop (at_+1))).2.2=0
       . exact Q7d F g pr tv bs at_ w hcu hF hFW br hpg h ⟨by omega,c8,c2⟩ v0
       exact Q7c F g pr tv bs at_ w hcu hF hFW br hpg h ⟨by omega,c8,c2⟩ v0
     exact Q79 F g pr tv bs at_ w hcu hF hFW br hpg h ⟨by omega,c8,by omega⟩
   exact Q78 F g pr tv bs at_ w hcu hF hFW br hpg h (by omega)
 exact Q77 F g pr tv bs at_ w hcu hF hFW br hpg h
theorem Vu (F:Nat->Prop) (g pr:Nat) (tv:Value) (bs:List Nat) (at_:Nat) (w:World) (hcu:Q4 w F g bs at_) (hF:∀b,F b->b≠g)
   (br:Blk w pr 101 #[.pointer (some ⟨g,0,none⟩),tv]) (hpg:pr≠g) :
   Calls prog 65 #[.pointer (some ⟨pr,0,none⟩)] w (YP F g bs at_ w):=by
 refine(Q5A (λb=>F b/\b<w.heap.size) g pr tv bs at_ w hcu.both (λb h=>hF b h.1) (λb h=>h.2) br hpg).mono ?_;rintro e w' ⟨u,h⟩;refine⟨u,?_⟩
 cases hh:Y2 (bs.drop at_)with
 | inl er=>rw [hh]at h;exact h
 | inr x=>rw [hh]at h;exact⟨h.1,h.2.mono λ_ h=>h.1⟩
theorem Q7e (F:Nat->Prop) (g pn pc:Nat) (bs:List Nat) (at_ k:Nat) (w:World) (hcu:Q4 w F g bs at_) (hk:bs.length<at_+k) (hk2:k<=2^40)
   (bn:Blk w pn 3 #[.int .i64 k]) (bc:Blk w pc 46 #[.pointer (some ⟨g,0,none⟩)]) :
   Calls prog 63 #[.pointer (some ⟨pn,0,none⟩),.pointer (some ⟨pc,0,none⟩)] w λe w'=>e = .returned (.tuple #[.slice none 0 0,.int .i64 3])/\Q0 w w':=by
 have hl:=λj=>JG F g bs at_ (w.drewN j) hcu;obtain⟨A,c,hb,hr,hlt,hat,hlen,hcap⟩:=hcu;have hn:=bn.cell0;have hc:=bc.cell0;(have i1:((bs.length-at_:Nat):Int)<(k:Int):=by omega);(have i2:(k:Int)<=1099511627776:=by omega);(have i3:¬(k:Int)<0:=by omega);have HL:=hd_ hl;clear hl hb hr bn bc hlt hat hlen hcap hk hk2;generalize bs.length-at_=D at *;refine Q8 λR hR=>?_;go_enter func63,ntmps63;go_wp2_with fail;go_quiet ((go_at_call 39;exact Calls.quiet_of (HL _)));go_wp2_with fail;(try go_ret2);exact hR _ _ ⟨rfl,(Upd.refl _ _).drewN _⟩
theorem Vv (F:Nat->Prop) (g:Nat) (bs:List Nat) (at_ k:Nat) (w:World) (hcu:Q4 w F g bs at_) (hk:bs.length<at_+k) (hk2:k<=2^40) (hF:∀b,F b->b≠g) :
   Calls prog 26 #[.pointer (some ⟨g,0,none⟩),.int .i64 k] w λe w'=>e = .returned (.tuple #[.slice none 0 0,.int .i64 3])/\Upd (λb=>b=g) w w'/\Q4 w' F g bs at_:=by
 have hmf:∀(fn:Fn) (first cap:Array Value) (w:World),(Instr.makeFunc fn first cap).run prog w = .ok (.func fn first cap) w:=λ_ _ _ _=>rfl;obtain⟨w0,H,hw0,hH,f0,bc,bn⟩:=Jw w 46 #[.pointer (some ⟨g,0,none⟩)] 3 #[.int .i64 k]
 have hr:=Q7f F g bs at_ 63 #[.pointer (some ⟨H+1,0,none⟩),.pointer (some ⟨H,0,none⟩)] 3 w0 (hcu.fresh f0) (λ_ _=>rfl) hF (by decide) (λW hW hc =>
   (Q7e _ g (H+1) H bs at_ k W hc hk hk2 (bn.fresh hW) (bc.fresh hW)).mono λe w' h=>⟨none,0,0,at_,h.1,h.2.mono (λ_ _ h=>h.elim),hc.fresh h.2⟩)
 have HR:=hd_ hr;have F0:=hd_ f0;have HH:=hd_ hH;have HW:=hd_ hw0;clear hr hcu hH hw0 f0 bc bn;refine Q8 λR hR=>?_;go_enter func26,ntmps26;go_wp2_with fail;simp only [<-HH.out,<-HW.out];refine HR.mono ?_;rintro e w1 ⟨rfl,u1,c1⟩;go_wp2;(try go_ret2);exact hR _ _ ⟨rfl,(F0.mono (λ_ _ h=>h.elim)).trans' u1,c1⟩
def QaJ (F:Nat->Prop) (g:Nat) (bs:List Nat) (at_ k:Nat) (v:Value) (W w':World):Prop :=
  ∃K,v = .pointer (some ⟨K,0,none⟩)/\W.heap.size<=K/\Q4 w' (λb=>W.heap.size<=b/\b≠K) K ((bs.drop at_).take k) 0/\Q4 w' F g bs (at_+k)
theorem Q8Y (F:Nat->Prop) (g pn pc:Nat) (bs:List Nat) (at_ k:Nat) (w:World) (hcu:Q4 w F g bs at_) (hk:at_+k<=bs.length) (hF:∀b,F b->b≠g) (hFW:∀b,F b->b<w.heap.size)
   (bn:Blk w pn 3 #[.int .i64 k]) (bc:Blk w pc 46 #[.pointer (some ⟨g,0,none⟩)]) :
   Calls prog 220 #[.pointer (some ⟨pc,0,none⟩),.pointer (some ⟨pn,0,none⟩)] w λe w'=>∃p1,e = .returned (.tuple #[.pointer p1,.int .i64 0])/\Upd (λb=>b=g) w w'/\QaJ F g bs at_ k (.pointer p1) w w':=by
 (have hlt:∀b∈bs,b<256:=by obtain⟨_,_,_,_,h,_⟩:=hcu;exact h);(have hlen:bs.length<=2^32:=by obtain⟨_,_,_,_,_,_,h,_⟩:=hcu;exact h);have HB:=hd_ (ZN F g bs at_ k w hcu hk hF);have hn:=bn.cell0;have hc:=bc.cell0;have HK:=hd_ (show((bs.drop at_).take k).length=k by simp;omega);have HLT:=hd_ (show(∀b∈(bs.drop at_).take k,b<256)/\k<=2^32 from⟨λb hb=>hlt b (List.mem_of_mem_drop (List.mem_of_mem_take hb)),by omega⟩);have HG:=hd_ hcu.lt;clear hcu bn bc hlt hlen hk hF hFW;refine Q8 λR hR=>?_;go_enter func220,ntmps220;go_wp2_with fail;refine HB.mono ?_;rintro e w1 ⟨v,rfl,ov,u1,c1,hv⟩;obtain⟨A3,n3,c3,rfl,hn3⟩:=ov.form';obtain⟨hn4,hc4,hrd⟩:=ov.rd rfl;have OV:=hd_ ov;have HV:=hd_ hv;have U1:=hd_ u1;have C1:=hd_ c1;have HN:=hd_ (And.intro hn4 (And.intro hc4 hrd));clear ov hv u1 c1 hn3 hn4 hc4 hrd HB;go_wp2_with fail;(try go_ret2);have fa:Q0 w1 (w1.alloc (.cells #[.slice A3 n3 c3,.int .i64 0] 96)):=(Upd.refl _ _).alloc _;obtain⟨hn4,hc4,hrd⟩:=HN.out;(have hll:(((bs.drop at_).take k).map λb:Nat=>Value.int .u8 (b:Nat)).length=((bs.drop at_).take k).length:=by simp);rw [hll]at hn4 hc4 hrd;have hsz:=U1.size;refine hR.out _ _ ⟨some ⟨w1.heap.size,0,none⟩,rfl,U1.alloc _,w1.heap.size,rfl,hsz,⟨A3,c3,?_,?_,HLT.1,by omega,by have:=HLT.2;have:=HK.out;omega,hc4⟩,C1.fresh fa⟩
 . rw [<-hn4];exact Blk.new _ _ _
 refine(hrd.mono (G:=λb=>w.heap.size<=b/\b≠w1.heap.size) λb hb=>⟨HV b hb,?_⟩).fresh fa;have:=OV.lt hb;omega
def VU (F:Nat->Prop) (g:Nat) (bs:List Nat) (at_ k:Nat) (w:World) (e:Ending) (w':World):Prop :=
  Upd (λb=>b=g) w w'/\if at_+k<=bs.length then ∃K,e = .returned (.tuple #[.pointer (some ⟨K,0,none⟩),.int .i64 0])/\w.heap.size<=K/\Q4 w' (λb=>w.heap.size<=b/\b≠K) K ((bs.drop at_).take k) 0/\Q4 w' F g bs (at_+k)
    else e = .returned (.tuple #[.pointer none,.int .i64 3])/\Q4 w' F g bs at_
theorem Q8Z (F:Nat->Prop) (g pn pc:Nat) (bs:List Nat) (at_ k:Nat) (w:World) (hcu:Q4 w F g bs at_) (hk:bs.length<at_+k) (hk2:k<=2^40) (hF:∀b,F b->b≠g)
   (bn:Blk w pn 3 #[.int .i64 k]) (bc:Blk w pc 46 #[.pointer (some ⟨g,0,none⟩)]) :
   Calls prog 220 #[.pointer (some ⟨pc,0,none⟩),.pointer (some ⟨pn,0,none⟩)] w λe w'=>∃p1,e = .returned (.tuple #[.pointer p1,.int .i64 3])/\Upd (λb=>b=g) w w'/\Q4 w' F g bs at_:=by
 have HB:=hd_ (Vv F g bs at_ k w hcu hk hk2 hF);have hn:=bn.cell0;have hc:=bc.cell0;clear hcu bn bc hk hF hk2;refine Q8 λR hR=>?_;go_enter func220,ntmps220;go_wp2_with fail;refine HB.mono ?_;rintro e w1 ⟨rfl,u1,c1⟩;have U1:=hd_ u1;have C1:=hd_ c1;clear u1 c1 HB;go_wp2_with fail;(try go_ret2);exact hR _ _ ⟨some ⟨w1.heap.size,0,none⟩,rfl,U1.alloc _,C1.fresh ((Upd.refl _ _).alloc _)⟩
theorem Q90 (F:Nat->Prop) (g:Nat) (bs:List Nat) (at_ k:Nat) (w:World) (hcu:Q4 w F g bs at_) (hk2:k<=2^40) (hF:∀b,F b->b≠g) :
   Calls prog 173 #[.pointer (some ⟨g,0,none⟩),.int .i64 k] w (VU F g bs at_ k w):=by
 have hmf:∀(fn:Fn) (first cap:Array Value) (w:World),(Instr.makeFunc fn first cap).run prog w = .ok (.func fn first cap) w:=λ_ _ _ _=>rfl;obtain⟨w0,H,hw0,hH,f0,bc,bn⟩:=Jw w 46 #[.pointer (some ⟨g,0,none⟩)] 3 #[.int .i64 k];have hcu0:=hcu.both.fresh f0;have hgl:=hcu.lt;have hs0:=f0.size
 have HR:=hd_ (show Calls prog 219 #[.pointer (some ⟨g,0,none⟩),.func (.func 220) #[] #[.pointer (some ⟨H,0,none⟩),.pointer (some ⟨H+1,0,none⟩)]] w0 λe w'=>∃p1 er,e = .returned (.tuple #[.pointer p1,.int .i64 er])/\VU F g bs at_ k w e w' from by
   by_cases hk:at_+k<=bs.length
   . refine(Q7g (λb=>F b/\b<w.heap.size) g bs at_ 220 #[.pointer (some ⟨H,0,none⟩),.pointer (some ⟨H+1,0,none⟩)] w0 hcu0 (λ_ _=>rfl) (QaJ (λb=>F b/\b<w.heap.size) g bs at_ k) (λW hW _ =>
       Q8Y _ g (H+1) H bs at_ k W (hcu0.fresh hW) hk (λb hb=>hF b hb.1) (λb hb=>by have:=hW.size;have:=hb.2;omega) (bn.fresh hW) (bc.fresh hW))).mono ?_
     rintro e w' ⟨p1,W,w1,rfl,⟨K,hp,hK,cK,cG⟩,fW,hsz,us,ug⟩;injection hp with hp;subst hp;refine⟨_,_,rfl,?_⟩;unfold VU;rw [if_pos hk];refine⟨(f0.mono (λ_ _ h=>h.elim)).trans' ug,K,rfl,by have:=fW.size;omega,(cK.upd us (by omega) (λb _ hb h=>by have:=hb.1;omega)).mono λb hb=>⟨by have:=hb.1;have:=fW.size;omega,hb.2⟩,(cG.upd us (by omega) (λb _ hb h=>by have:=hb.2;omega)).mono λb hb=>hb.1⟩
   refine(Q7h (λb=>F b/\b<w.heap.size) g bs at_ 220 #[.pointer (some ⟨H,0,none⟩),.pointer (some ⟨H+1,0,none⟩)] 3 w0 hcu0 (λ_ _=>rfl) (λb hb=>hF b hb.1) (by decide) (λW hW hc =>
     (Q8Z _ g (H+1) H bs at_ k W hc (by omega) hk2 (λb hb=>hF b hb.1.1) (bn.fresh hW) (bc.fresh hW)).mono λe w' h=>by obtain⟨p1,he,h1,h2⟩:=h;exact⟨p1,at_,he,h1,h2⟩)).mono ?_
   rintro e w' ⟨rfl,ug,cG⟩;refine⟨_,_,rfl,?_⟩;unfold VU;rw [if_neg hk]
   exact⟨(f0.mono (λ_ _ h=>h.elim)).trans' ug,rfl,cG.mono λb hb=>hb.1⟩)
 have HH:=hd_ hH;have HW:=hd_ hw0;clear hcu hH hw0 f0 bc bn hcu0 hgl hs0 hF hk2;refine Q8 λR hR=>?_;go_enter func173,ntmps173;go_wp2_with fail;simp only [<-HH.out,<-HW.out];refine HR.mono ?_;rintro e w1 ⟨p1,er,rfl,hP⟩;have HP:=hd_ hP;clear hP HR;go_wp2_with fail;(try go_ret2);exact hR _ _ HP.out
theorem Q2o (F:Nat->Prop) (g:Nat) (bs:List Nat) (at_:Nat) (w:World) (hcu:Q4 w F g bs at_) :
   Calls prog 184 #[.pointer (some ⟨g,0,none⟩)] w λe w'=>∃v,e = .returned v/\Qu w w' v (bs.drop at_):=by
 obtain⟨A,c,hb,hr,hlt,hat,hlen,hcap⟩:=hcu;obtain⟨c0,c1⟩:=(hb).cells2;have hcut:=hr.cut (k:=at_) hat hcap;have HCL:=hd_ (λq=>YA _ (bs.length-at_) (c-at_) _ (w.drewN q) (hcut.drewN q) (by intro u hu;have:=List.mem_of_mem_drop hu;exact X8 bs u this) (by omega));(have hI:(at_:Int)<=bs.length:=by omega);(have hI0:(0:Int)<=at_:=by omega);have hatN:at_<=bs.length:=hat;have hcN:bs.length<=c:=hcap;(have hcI:(bs.length:Int)<=c:=by omega);(have hmap:(bs.map λb:Nat=>Value.int .u8 (b:Nat)).drop at_=Q2 (bs.drop at_):=by simp [Q2]);rw [hmap]at HCL;clear hb hr hlt hat hlen hcap hcut hmap;refine Q8 λR hR=>?_;go_enter func184,ntmps184;go_wp2_with fail;by_cases hcat:c=at_
 . simp only [if_pos hcat]at HCL
   (have hc0:c-at_=0:=by omega);rw [hc0]at HCL;clear hc0;refine QJ 9 (by kernel_rfl) (by kernel_rfl) ?_;simp only [List.take_succ_cons,List.take_zero,List.drop_succ_cons,List.drop_zero];(repeat(first|go_big_quiet_step (fail)|quiet_step (fail)));refine wpQuiet_nil ?_;rintro w5 ⟨q5,rfl⟩;go_wp2_with fail;refine(HCL q5).mono ?_;rintro e w1 ⟨v,rfl,ov,f1,hv⟩;have OV:=hd_ ov;have F1:=hd_ f1;have HV:=hd_ hv;clear ov f1 hv HCL;go_wp2_with fail;(try go_ret);exact hR _ _ ⟨v,rfl,OV.out,((Upd.refl _ _).drewN _).trans' F1.out,HV.out⟩
 simp only [if_neg hcat]at HCL;refine QJ 9 (by kernel_rfl) (by kernel_rfl) ?_;simp only [List.take_succ_cons,List.take_zero,List.drop_succ_cons,List.drop_zero];(repeat(first|go_big_quiet_step (fail)|quiet_step (fail)));refine wpQuiet_nil ?_;rintro w5 ⟨q5,rfl⟩;go_wp2_with fail;refine(HCL q5).mono ?_;rintro e w1 ⟨v,rfl,ov,f1,hv⟩;have OV:=hd_ ov;have F1:=hd_ f1;have HV:=hd_ hv;clear ov f1 hv HCL;go_wp2_with fail;(try go_ret);exact hR _ _ ⟨v,rfl,OV.out,((Upd.refl _ _).drewN _).trans' F1.out,HV.out⟩
end Go.Proofs.YtckjdhaflokcgaaGreat
namespace Go.Proofs.YtckjdhaflokcgaaGreat
open Go.RowKit Go.Shelf Go.Proofs.Tryz
attribute [local go_sem] Oper.semAt_some
def QY (Kb:Nat->Prop) (W W':World):Prop:=∀k,Kb k->W'.heap[k]?=W.heap[k]?
theorem QY.refl (Kb:Nat->Prop) (W:World):QY Kb W W:=λ_ _=>rfl
theorem QY.trans {Kb:Nat->Prop} {A B C:World} (h:QY Kb A B) (k:QY Kb B C):QY Kb A C:=λj hj=>(k j hj).trans (h j hj)
theorem QY.upd {S Kb:Nat->Prop} {W W':World} (h:Upd S W W') (hs:∀k,Kb k->k<W.heap.size/\¬S k):QY Kb W W':=λk hk=>h.block k (hs k hk).1 (hs k hk).2
theorem QY.putObj {Kb:Nat->Prop} {l:Nat} (W:World) (o':Obj) (h:∀k,Kb k->k<W.heap.size/\k≠l):QY Kb W (W.putObj l o') :=
 QY.upd (S:=λk=>k=l) ((Upd.refl _ W).grown (grownBy_putObj' W l o') (λk e _=>by injection e with e;exact e.symm)) h
theorem QY.cell {Kb:Nat->Prop} {W W':World} (h:QY Kb W W') {b:Nat} (hb:Kb b) (o:Nat):W'.cell? ⟨b,o,none⟩=W.cell? ⟨b,o,none⟩:=World.cell?_of_block (a:=⟨b,o,none⟩) (h b hb)
section
variable {Pq:Nat × Nat->Prop}
def bkB (l:List Nat) (hq:∀(j:Nat) (h:j<l.length),Pq (j,l[j])) (k:Nat):List { p:Nat × Nat // Pq p } :=
  (((List.finRange l.length).drop k).map λj=>⟨(j.val,l[j.val]),hq j.val j.isLt⟩).reverse
theorem Qag (l:List Nat) (hq:∀(j:Nat) (h:j<l.length),Pq (j,l[j])):bkB l hq l.length=[]:=by
 unfold bkB;rw [List.drop_of_length_le (by simp)];rfl
theorem Q91 (l:List Nat) (hq:∀(j:Nat) (h:j<l.length),Pq (j,l[j])) (k:Nat) (h:k<l.length):bkB l hq k=bkB l hq (k+1)++[⟨(k,l[k]),hq k h⟩]:=by
 unfold bkB;rw [List.drop_eq_getElem_cons (by simpa using h)];simp
theorem Q1g (l:List Nat) (hq:∀(j:Nat) (h:j<l.length),Pq (j,l[j])) (k:Nat):(bkB l hq k).length=l.length-k:=by
 unfold bkB;simp
end
theorem Q34 (A:Option Addr) (n c:Nat) (w:World) :
   Calls prog 90 #[.slice A n c] w λe w'=>e = .returned (.func (.func 147) #[] #[.pointer (some ⟨w.heap.size,0,none⟩)])/\w'=w.alloc (.cells #[.slice A n c] 22):=by
 go_enter func90,ntmps90;go_wp2_with fail;(try go_ret);exact⟨rfl,rfl⟩
def bkW {Pq:Nat × Nat->Prop} (x:{ p:Nat × Nat // Pq p }):Array Value:=#[.int .i64 (x.1.1:Nat),.int .u8 (x.1.2:Nat)]
theorem Q7i {Pq:Nat × Nat->Prop} (Fe:Fence) (m l Sb n c:Nat) (A:Option Addr) (L:List Nat) (Kb Fl:Nat->Prop) (hq:∀(j:Nat) (h:j<L.length),Pq (j,L[j])) (hft:Fe.fn 147) (hro:Fe.round=none) (hd:Fe.depth=none)
   (J Jx:List { p:Nat × Nat // Pq p }->World->Prop)
   (hY:∀pre x W,J pre W->pre.length<n->YieldAt Fe (m-1) prog l (bkW x) W λe W' =>
     (e = .returned (.bool true)/\J (pre++[x]) W'/\QY Kb W W')\/(e = .returned (.bool false)/\Jx (pre++[x]) W'))
   (W:World) (hS:W.cell? ⟨Sb,0,none⟩=some (.slice A n c)) (hKS:Kb Sb) (hR:Rd W Fl A n (Q2 L)) (hKF:∀b,Fl b->Kb b) (hn:n<=2^40) (h0:J [] W) :
   CallsIn Fe m prog 147 #[.func (.yield l) #[] #[],.pointer (some ⟨Sb,0,none⟩)] W λe W'=>(∃v,e = .returned v) /\
     ((∃ys,ys=bkB L hq 0/\J ys W')\/(∃pre,True/\Jx pre W')):=by
 (have hL:L.length=n:=by have:=hR.1;simpa using this);have hw1:IntKind.i64.wrap ((n:Int)-1)=n-1:=IntWalk.i64_in _ (by omega);refine callsIn_of_wp func147 rfl hft ?_ hro;simp only [ntmps147,List.size_toArray,List.length_cons,List.length_nil,Nat.reduceAdd,Nat.reduceSub,Array.replicate_succ,Array.replicate_zero,List.push_toArray,List.append_toArray,List.nil_append,List.cons_append];gi_wp2;gi_loopg [3] n (λf i wr=>f<=n/\i = .int .i64 ((f:Int)-1)/\J (bkB L hq f) wr/\QY Kb W wr)
 case atStart=>exact⟨Nat.le_refl _,rfl,by rw [<-hL,Qag];exact h0,QY.refl _ _⟩
 case round =>
   obtain⟨hfn,rfl,hJ,hk⟩:=hrel;have hS':wr.cell? ⟨Sb,0,none⟩=some (.slice A n c):=(hk.cell hKS 0).trans hS;rcases gk with _|k
   . gi_wp2
     go_end0;exact⟨⟨_,rfl⟩,.inl ⟨_,rfl,hJ⟩⟩
   (have hkL:k<L.length:=by omega);(have hkn:k<n:=by omega);have hY':=hY (bkB L hq (k+1)) ⟨(k,L[k]),hq k hkL⟩ wr hJ (by rw [Q1g];omega);rw [<-Q91 L hq k hkL]at hY';obtain⟨b,o,rfl,hFb,_,hc⟩:=hR.at_ (k:=k) hkn
   have c0:wr.cell? ⟨b,o+k,none⟩=some (.int .u8 (L[k]:Nat)):=by
     rw [hk.cell (hKF b hFb),hc];simp [Q2,hkL]
   (have e1:((k+1:Nat):Int)-1=(k:Nat):=by omega);have hw2:IntKind.i64.wrap ((k:Int)-1)=k-1:=IntWalk.i64_in _ (by omega);(have hkI:(k:Int)<n:=by omega);(have hk0:(0:Int)<=k:=by omega);obtain⟨fn,tmps,assign,body,hy,hRd⟩:=hY';simp only [bkW]at hy;have HK:=hd_ hk;clear hc hJ hk hY hR;simp only [e1];gi_wp2
   first
     | refine hRd.mono ?_
     | refine⟨?_,?_,hRd.mono ?_⟩
   rintro e W3 (⟨rfl,hJ3,hk3⟩|⟨rfl,hJx3⟩)
   . have HJ3:=hd_ hJ3
     have HK3:=hd_ hk3;clear hJ3 hk3 hRd hy;gi_wp2;gi_roundg k
     case measure=>omega
     case rel=>exact⟨by omega,by go_num,HJ3.out,HK.trans HK3.out⟩
   gi_wp2;refine bodyPost_ret (results_none rfl _ _ _) rfl ?_;exact⟨⟨_,rfl⟩,.inr ⟨_,trivial,hJx3⟩⟩
theorem Q4q {Pq:Nat × Nat->Prop} (m Sb n c:Nat) (A:Option Addr) (L:List Nat) (Kb Fl:Nat->Prop) (hq:∀(j:Nat) (h:j<L.length),Pq (j,L[j])) (w:World) (hSb:Sb<w.heap.size) (hS:w.cell? ⟨Sb,0,none⟩=some (.slice A n c)) (hKS:Kb Sb) (hR:Rd w Fl A n (Q2 L)) (hKF:∀b,Fl b->Kb b) (hn:n<=2^40) :
   SeqStopsK Fence.wide m prog 147 #[.pointer (some ⟨Sb,0,none⟩)] (bkW (Pq:=Pq)) (QY Kb) (λys=>ys=bkB L hq 0) (λ_=>True) n w :=
 λl J Jx W hW hJa _ hY h0=>Q7i Fence.wide m l Sb n c A L Kb Fl hq trivial rfl rfl J Jx hY W ((hW.cell (p:=⟨Sb,0,none⟩) hSb).trans hS) hKS (hR.upd (S:=λ_=>False) (Upd.of_below hW) (λ_ _ _ h=>h)) hKF hn h0
end Go.Proofs.YtckjdhaflokcgaaGreat
