/- Contracts and plain lemmas, part 28. Conditions: none beyond those of each. -/
import Derived.Test.YtckjdhaflokcgaaGreatR27
set_option maxHeartbeats 8000000
set_option linter.unusedVariables false
set_option linter.unusedSimpArgs false
set_option linter.unnecessarySimpa false
set_option maxRecDepth 100000
namespace Go.Proofs.YtckjdhaflokcgaaGreat
open Go.RowKit Go.Proofs.Tryz
def JI (a:Nat) (q:Int ⊕ (Nat × Bool × Nat × Nat)) (w:World) (e:Ending) (w':World):Prop :=
  Q0 w w'/\match q with
    | .inl er=>∃p:Int,e = .returned (.tuple #[.agg #[.int .i64 0,.bool false,.int .i64 0],.int .i64 p,.int .i64 er])
    | .inr (k,f,s,u)=>e = .returned (.tuple #[.agg #[.int .i64 k,.bool f,.int .i64 s],.int .i64 ((a+u:Nat):Int),.int .i64 0])
theorem ZK (F:Nat->Prop) (A:Option Addr) (n c:Nat) (bs:List Nat) (a:Nat) (w:World) (hr:Rd w F A n (Q2 bs)) (hlt:∀b∈bs,b<256) (hn:n<=100000) (ha:a<=n) :
   Calls prog 22 #[.slice A n c,.int .i64 (a:Nat)] w (JI a (Y2 (bs.drop a)) w):=by
 (have hL:bs.length=n:=by have:=hr.1;simpa using this);(have hnI:(n:Int)<=100000:=by omega);(have haI:(a:Int)<=n:=by omega);obtain⟨w0,H,hw0,hH,f0,bh,bn⟩:=Jw w 41 #[.int .i64 0,.bool false,.int .i64 0] 41 #[.int .i64 0,.bool false,.int .i64 0];(have hsz:(w.alloc (.cells #[.int .i64 0,.bool false,.int .i64 0] 41)).heap.size=H+1:=by simp [hH]);(have hs0:w0.heap.size=H+2:=by rw [hw0];simp [hH]);have BH:=hd_ bh;have BN:=hd_ bn;have F0:=hd_ f0;have HW:=hd_ hw0;have HH:=hd_ hH;have HS0:=hd_ hs0;have HRD:=hd_ (hr.fresh f0);have HLT:=hd_ hlt;have HL:=hd_ hL;refine Q8 λR hR=>?_;unfold JI at hR
 have HERR:=hd_ (show ∀(W:World) (er:Int) (p:Int),(∀e w',Q0 w w'->e = .returned (.tuple #[.agg #[.int .i64 0,.bool false,.int .i64 0],.int .i64 p,.int .i64 er])->R e w')->Upd (λb=>b=H) w0 W->∀e,e = .returned (.tuple #[.agg #[.int .i64 0,.bool false,.int .i64 0],.int .i64 p,.int .i64 er])->R e W from
   λW er p h u e he=>h e W (f0.trans u (λb hb hq=>by omega)) he)
 clear hw0 hH f0 bh bn hr hlt hs0;by_cases h:n<=a
 . have hI:(n:Int)<=a:=by omega
   have hR1:=hd_ (show ∀e w',Q0 w w'->e = .returned (.tuple #[.agg #[.int .i64 0,.bool false,.int .i64 0],.int .i64 (a:Int),.int .i64 3])->R e w' from λe w' hf he=>hR e w' ⟨hf,by
     rw [List.drop_of_length_le (by omega)]
     exact⟨_,he⟩⟩)
   clear hR h;have k0:=BH.cell 0;have k1:=BH.cell 1;have k2:=BH.cell 2;have z0:=BH.frozen 0;have z1:=BH.frozen 1;have z2:=BH.frozen 2;have y0:=BN.cell 0;have y1:=BN.cell 1;have y2:=BN.cell 2;simp at k0 k1 k2 y0 y1 y2;go_enter func22,ntmps22;go_upto_region 2 with fail;simp only [hsz,<-HH.out,<-HW.out];clear hsz;go_wp2_with fail;have b5:=YB BH.out (.int .i64 0) (.bool false) (.int .i64 0);obtain⟨d0,d1,d2⟩:=(b5).cells3;have us:=YC w0 H (.int .i64 0) (.bool false) (.int .i64 0);refine⟨rfl,.tuple #[.agg #[.int .i64 0,.bool false,.int .i64 0],_,_],by simp [results,results22,go_sem,d0,d1,d2];exact⟨rfl,rfl⟩,?_⟩;exact HERR _ 3 a hR1.out us _ rfl
 (have hI:(a:Int)<n:=by omega);(have hab:a<bs.length:=by omega);obtain⟨z,hz⟩:=nm_ (bs[a]?.getD 0);(have hdrop:bs.drop a=z::bs.drop (a+1):=by rw [List.drop_eq_getElem_cons hab,hz];simp [hab]);(have hz8:z<256:=by rw [hz,List.getElem?_eq_getElem hab];exact HLT _ (List.getElem_mem _));obtain⟨b,o,rfl,_,hbs,hc⟩:=HRD.at_ (k:=a) (by omega)
 have hcz:(Q2 bs)[a]?=some (.int .u8 (z:Int)):=by
   rw [hz];simp only [Q2,List.getElem?_map];rw [List.getElem?_eq_getElem hab];rfl
 rw [hcz]at hc;rw [hdrop]at hR;(have hzI:(z:Int)<=255:=by omega);have HAB:=hd_ hab;have HN:=hd_ hn;clear hcz hz hdrop h hn hL ha hab hbs;(have hm4:(z:Int)%4<4:=by omega);by_cases hg:z<8/\(z<4\/2<=z%4)
 . have HG:=hd_ hg
   have hGet:=hd_ (show ∀W,Q0 w0 W->Calls prog 60 #[.slice (some ⟨b,o,none⟩) n c,.int .i64 ((a:Int)+1)] W λe w'=>Zi (a+1) (bs.drop (a+1)) e/\W=w' from λW hf=>by
     have:=Q0h F (some ⟨b,o,none⟩) n c bs (a+1) W (HRD.fresh hf) HLT.out HN.out (by have:=HAB.out;have:=HL.out;omega);rw [show((a+1:Nat):Int)=(a:Int)+1 by omega]at this
     exact this)
   simp only [Y2,if_pos hg]at hR;unfold Zi at hGet;obtain⟨V,hV⟩:=nm_ (Qt (bs.drop (a+1)));rw [<-hV]at hGet hR;clear hV;by_cases h4:4<=z
   . have q1:(z:Int) / 4%2=1:=by have:=HG.out;omega
     (have hd4:decide (4<=z)=true:=by simp;omega);(have h7I:¬7<(z:Int):=by have:=HG.out;omega);(have h2I:¬(z:Int)%4<2:=by have:=HG.out;omega);rw [hd4]at hR;clear hd4 h4 hg;obtain⟨w1,hw1⟩:=nm_ (w0.alloc (.cells #[.int .i64 ((z:Int)%4),.bool true,.int .i64 0] 41));(have f1:Q0 w0 w1:=by rw [hw1];exact(Upd.refl _ _).alloc _);(have bx:Blk w1 (H+2) 41 #[.int .i64 ((z:Int)%4),.bool true,.int .i64 0]:=by rw [hw1];exact Qb HS0.symm _ _);have BH1:=hd_ (BH.fresh f1);have BN1:=hd_ (BN.fresh f1);have BX:=hd_ bx;have F1:=hd_ f1;have HW1:=hd_ hw1;have x0:=bx.cell 0;have x1:=bx.cell 1;have x2:=bx.cell 2;have x9:=bx.frozen 2;have x8:=bx.frozen 0;have x7:=bx.frozen 1;simp at x0 x1 x2;clear hw1 bx f1;have k0:=BH1.cell 0;have k1:=BH1.cell 1;have k2:=BH1.cell 2;have z0:=BH1.frozen 0;have z1:=BH1.frozen 1;have z2:=BH1.frozen 2;have y0:=BN1.cell 0;have y1:=BN1.cell 1;have y2:=BN1.cell 2;simp at k0 k1 k2 y0 y1 y2;go_enter func22,ntmps22;go_upto_region 2 with fail;simp only [hsz,<-HH.out,<-HW.out];clear hsz;go_upto_region 8 with fail;simp only [HS0.out,<-HW1.out];go_wp2_with fail;refine(hGet w1 F1.out).mono ?_;rintro e w2 ⟨⟨x,q,rfl,hxq⟩,rfl⟩;by_cases v0:V.2.2=0
     . obtain⟨rfl,rfl⟩:=hxq v0
       rw [v0];simp only [if_pos v0]at hR;obtain⟨m,hm⟩:=nm_ (V.1);obtain⟨u,hu⟩:=nm_ (V.2.1);rw [<-hm,<-hu]at hR;rw [<-hm,<-hu];clear v0 hm hu hxq hGet;by_cases m1:m<=131072
       . have m1I:¬131072<(m:Int):=by omega
         (have m2I:(m:Int)<=131072:=by omega);(have hwn:IntKind.i64.wrap (m:Int)=m:=by unfold IntKind.wrap;simp [IntKind.bits];omega);rcases Nat.eq_zero_or_pos m with m0|m0
         . have m0I:(m:Int)=0:=by omega
           by_cases ck:z%4=0
           . have ckI:¬0<(z:Int)%4:=by omega
             have hR2:=hd_ (show ∀e w',Q0 w w'->e = .returned (.tuple #[.agg #[.int .i64 (z%4:Nat),.bool true,.int .i64 m],.int .i64 ((a+(1+u):Nat):Int),.int .i64 0])->R e w' from λe w' hf he=>hR e w' ⟨hf,by rw [if_pos ⟨m1,.inr ck⟩];exact he⟩);clear hR;exfalso;have:=HG.out;omega
           (have ckI:0<(z:Int)%4:=by omega)
           have hR1:=hd_ (show ∀e w',Q0 w w'->e = .returned (.tuple #[.agg #[.int .i64 0,.bool false,.int .i64 0],.int .i64 (a:Int),.int .i64 11])->R e w' from λe w' hf he=>hR e w' ⟨hf,by
             rw [if_neg (by omega)]
             exact⟨_,he⟩⟩)
           clear hR m1 m0 ck;go_wp2_with fail;have b5:=YB BH1.out (.int .i64 0) (.bool false) (.int .i64 0);obtain⟨d0,d1,d2⟩:=(b5).cells3;have us:=YC w1 H (.int .i64 0) (.bool false) (.int .i64 0);refine⟨rfl,.tuple #[.agg #[.int .i64 0,.bool false,.int .i64 0],_,_],by simp [results,results22,go_sem,d0,d1,d2];exact⟨rfl,rfl⟩,?_⟩;exact HERR _ 11 a hR1.out ((F1.mono (λ_ _ h=>h.elim)).trans us (λ_ _ h=>h)) _ rfl
         (have m0I:¬(m:Int)=0:=by omega);have hR2:=hd_ (show ∀e w',Q0 w w'->e = .returned (.tuple #[.agg #[.int .i64 (z%4:Nat),.bool true,.int .i64 m],.int .i64 ((a+(1+u):Nat):Int),.int .i64 0])->R e w' from λe w' hf he=>hR e w' ⟨hf,by rw [if_pos ⟨m1,.inl m0⟩];exact he⟩);clear hR m1 m0;go_wp2_with fail;have bx3:=BX.set_ 2 (.int .i64 m);have b5:=YB (BH1.far (p:=⟨H+2,2,none⟩) (by simp) (.int .i64 m)) (.int .i64 ((z:Int)%4)) (.bool true) (.int .i64 m);obtain⟨d0,d1,d2⟩:=(b5).cells3;have us:=YC (w1.setCell ⟨H+2,2,none⟩ (.int .i64 m)) H (.int .i64 ((z:Int)%4)) (.bool true) (.int .i64 m);have u2:Upd (λb=>b=H+2) w1 (w1.setCell ⟨H+2,2,none⟩ (.int .i64 m)):=(Upd.refl (λb=>b=H+2) w1).setCell (p:=⟨H+2,2,none⟩) (λ_=>rfl) _;refine⟨rfl,.tuple #[.agg #[.int .i64 ((z:Int)%4),.bool true,.int .i64 m],_,_],by simp [results,results22,go_sem,d0,d1,d2];exact⟨rfl,rfl⟩,?_⟩;refine hR2.out _ _ (((F0.trans' F1.out).trans u2 (λb hb hq=>by have:=HH.out;omega)).trans us (λb hb hq=>by have:=HH.out;omega)) ?_;rw [show((z%4:Nat):Int)=(z:Int)%4 by omega,show((a+(1+u):Nat):Int)=(a:Int)+1+u by omega]
       (have m1I:131072<(m:Int):=by omega)
       have hR1:=hd_ (show ∀e w',Q0 w w'->e = .returned (.tuple #[.agg #[.int .i64 0,.bool false,.int .i64 0],.int .i64 (a:Int),.int .i64 11])->R e w' from λe w' hf he=>hR e w' ⟨hf,by
         rw [if_neg (by omega)]
         exact⟨_,he⟩⟩)
       clear hR m1;go_wp2_with fail;have b5:=YB BH1.out (.int .i64 0) (.bool false) (.int .i64 0);obtain⟨d0,d1,d2⟩:=(b5).cells3;have us:=YC w1 H (.int .i64 0) (.bool false) (.int .i64 0);refine⟨rfl,.tuple #[.agg #[.int .i64 0,.bool false,.int .i64 0],_,_],by simp [results,results22,go_sem,d0,d1,d2];exact⟨rfl,rfl⟩,?_⟩;exact HERR _ 11 a hR1.out ((F1.mono (λ_ _ h=>h.elim)).trans us (λ_ _ h=>h)) _ rfl
     have hR1:=hd_ (show ∀e w',Q0 w w'->e = .returned (.tuple #[.agg #[.int .i64 0,.bool false,.int .i64 0],.int .i64 (a:Int),.int .i64 V.2.2])->R e w' from λe w' hf he=>hR e w' ⟨hf,by
       rw [if_neg v0]
       exact⟨_,he⟩⟩)
     obtain⟨er,her⟩:=nm_ (V.2.2);rw [<-her]at hR1 v0;rw [<-her];clear hR hxq her hGet;go_wp2_with fail;have b5:=YB BH1.out (.int .i64 0) (.bool false) (.int .i64 0);obtain⟨d0,d1,d2⟩:=(b5).cells3;have us:=YC w1 H (.int .i64 0) (.bool false) (.int .i64 0);refine⟨rfl,.tuple #[.agg #[.int .i64 0,.bool false,.int .i64 0],_,_],by simp [results,results22,go_sem,d0,d1,d2];exact⟨rfl,rfl⟩,?_⟩;exact HERR _ er a hR1.out ((F1.mono (λ_ _ h=>h.elim)).trans us (λ_ _ h=>h)) _ rfl
   (have q1:(z:Int) / 4%2=0:=by have:=HG.out;omega);(have hd4:decide (4<=z)=false:=by simp;omega);(have h7I:¬7<(z:Int):=by have:=HG.out;omega);rw [hd4]at hR;clear hd4 h4 hg;obtain⟨w1,hw1⟩:=nm_ (w0.alloc (.cells #[.int .i64 ((z:Int)%4),.bool false,.int .i64 0] 41));(have f1:Q0 w0 w1:=by rw [hw1];exact(Upd.refl _ _).alloc _);(have bx:Blk w1 (H+2) 41 #[.int .i64 ((z:Int)%4),.bool false,.int .i64 0]:=by rw [hw1];exact Qb HS0.symm _ _);have BH1:=hd_ (BH.fresh f1);have BN1:=hd_ (BN.fresh f1);have BX:=hd_ bx;have F1:=hd_ f1;have HW1:=hd_ hw1;have x0:=bx.cell 0;have x1:=bx.cell 1;have x2:=bx.cell 2;have x9:=bx.frozen 2;have x8:=bx.frozen 0;have x7:=bx.frozen 1;simp at x0 x1 x2;clear hw1 bx f1;have k0:=BH1.cell 0;have k1:=BH1.cell 1;have k2:=BH1.cell 2;have z0:=BH1.frozen 0;have z1:=BH1.frozen 1;have z2:=BH1.frozen 2;have y0:=BN1.cell 0;have y1:=BN1.cell 1;have y2:=BN1.cell 2;simp at k0 k1 k2 y0 y1 y2;go_enter func22,ntmps22;go_upto_region 2 with fail;simp only [hsz,<-HH.out,<-HW.out];clear hsz;go_upto_region 8 with fail;simp only [HS0.out,<-HW1.out];go_wp2_with fail;refine(hGet w1 F1.out).mono ?_;rintro e w2 ⟨⟨x,q,rfl,hxq⟩,rfl⟩;by_cases v0:V.2.2=0
   . obtain⟨rfl,rfl⟩:=hxq v0
     rw [v0];simp only [if_pos v0]at hR;obtain⟨m,hm⟩:=nm_ (V.1);obtain⟨u,hu⟩:=nm_ (V.2.1);rw [<-hm,<-hu]at hR;rw [<-hm,<-hu];clear v0 hm hu hxq hGet;by_cases m1:m<=131072
     . have m1I:¬131072<(m:Int):=by omega
       (have m2I:(m:Int)<=131072:=by omega);(have hwn:IntKind.i64.wrap (m:Int)=m:=by unfold IntKind.wrap;simp [IntKind.bits];omega);rcases Nat.eq_zero_or_pos m with m0|m0
       . have m0I:(m:Int)=0:=by omega
         by_cases ck:z%4=0
         . have ckI:¬0<(z:Int)%4:=by omega
           have hR2:=hd_ (show ∀e w',Q0 w w'->e = .returned (.tuple #[.agg #[.int .i64 (z%4:Nat),.bool false,.int .i64 m],.int .i64 ((a+(1+u):Nat):Int),.int .i64 0])->R e w' from λe w' hf he=>hR e w' ⟨hf,by rw [if_pos ⟨m1,.inr ck⟩];exact he⟩);clear hR;subst m0;go_wp2_with fail;have bx3:=BX.set_ 2 (.int .i64 0);have b5:=YB (BH1.far (p:=⟨H+2,2,none⟩) (by simp) (.int .i64 0)) (.int .i64 ((z:Int)%4)) (.bool false) (.int .i64 0);obtain⟨d0,d1,d2⟩:=(b5).cells3;have us:=YC (w1.setCell ⟨H+2,2,none⟩ (.int .i64 0)) H (.int .i64 ((z:Int)%4)) (.bool false) (.int .i64 0);have u2:Upd (λb=>b=H+2) w1 (w1.setCell ⟨H+2,2,none⟩ (.int .i64 0)):=(Upd.refl (λb=>b=H+2) w1).setCell (p:=⟨H+2,2,none⟩) (λ_=>rfl) _;refine⟨rfl,.tuple #[.agg #[.int .i64 ((z:Int)%4),.bool false,.int .i64 0],_,_],by simp [results,results22,go_sem,d0,d1,d2];exact⟨rfl,rfl⟩,?_⟩;refine hR2.out _ _ (((F0.trans' F1.out).trans u2 (λb hb hq=>by have:=HH.out;omega)).trans us (λb hb hq=>by have:=HH.out;omega)) ?_;rw [show((z%4:Nat):Int)=(z:Int)%4 by omega,show((a+(1+u):Nat):Int)=(a:Int)+1+u by omega];rfl
         (have ckI:0<(z:Int)%4:=by omega)
         have hR1:=hd_ (show ∀e w',Q0 w w'->e = .returned (.tuple #[.agg #[.int .i64 0,.bool false,.int .i64 0],.int .i64 (a:Int),.int .i64 11])->R e w' from λe w' hf he=>hR e w' ⟨hf,by
           rw [if_neg (by omega)]
           exact⟨_,he⟩⟩)
         clear hR m1 m0 ck;go_wp2_with fail;have b5:=YB BH1.out (.int .i64 0) (.bool false) (.int .i64 0);obtain⟨d0,d1,d2⟩:=(b5).cells3;have us:=YC w1 H (.int .i64 0) (.bool false) (.int .i64 0);refine⟨rfl,.tuple #[.agg #[.int .i64 0,.bool false,.int .i64 0],_,_],by simp [results,results22,go_sem,d0,d1,d2];exact⟨rfl,rfl⟩,?_⟩;exact HERR _ 11 a hR1.out ((F1.mono (λ_ _ h=>h.elim)).trans us (λ_ _ h=>h)) _ rfl
       (have m0I:¬(m:Int)=0:=by omega);have hR2:=hd_ (show ∀e w',Q0 w w'->e = .returned (.tuple #[.agg #[.int .i64 (z%4:Nat),.bool false,.int .i64 m],.int .i64 ((a+(1+u):Nat):Int),.int .i64 0])->R e w' from λe w' hf he=>hR e w' ⟨hf,by rw [if_pos ⟨m1,.inl m0⟩];exact he⟩);clear hR m1 m0;go_wp2_with fail;have bx3:=BX.set_ 2 (.int .i64 m);have b5:=YB (BH1.far (p:=⟨H+2,2,none⟩) (by simp) (.int .i64 m)) (.int .i64 ((z:Int)%4)) (.bool false) (.int .i64 m);obtain⟨d0,d1,d2⟩:=(b5).cells3;have us:=YC (w1.setCell ⟨H+2,2,none⟩ (.int .i64 m)) H (.int .i64 ((z:Int)%4)) (.bool false) (.int .i64 m);have u2:Upd (λb=>b=H+2) w1 (w1.setCell ⟨H+2,2,none⟩ (.int .i64 m)):=(Upd.refl (λb=>b=H+2) w1).setCell (p:=⟨H+2,2,none⟩) (λ_=>rfl) _;refine⟨rfl,.tuple #[.agg #[.int .i64 ((z:Int)%4),.bool false,.int .i64 m],_,_],by simp [results,results22,go_sem,d0,d1,d2];exact⟨rfl,rfl⟩,?_⟩;refine hR2.out _ _ (((F0.trans' F1.out).trans u2 (λb hb hq=>by have:=HH.out;omega)).trans us (λb hb hq=>by have:=HH.out;omega)) ?_;rw [show((z%4:Nat):Int)=(z:Int)%4 by omega,show((a+(1+u):Nat):Int)=(a:Int)+1+u by omega]
     (have m1I:131072<(m:Int):=by omega)
     have hR1:=hd_ (show ∀e w',Q0 w w'->e = .returned (.tuple #[.agg #[.int .i64 0,.bool false,.int .i64 0],.int .i64 (a:Int),.int .i64 11])->R e w' from λe w' hf he=>hR e w' ⟨hf,by
       rw [if_neg (by omega)]
       exact⟨_,he⟩⟩)
     clear hR m1;go_wp2_with fail;have b5:=YB BH1.out (.int .i64 0) (.bool false) (.int .i64 0);obtain⟨d0,d1,d2⟩:=(b5).cells3;have us:=YC w1 H (.int .i64 0) (.bool false) (.int .i64 0);refine⟨rfl,.tuple #[.agg #[.int .i64 0,.bool false,.int .i64 0],_,_],by simp [results,results22,go_sem,d0,d1,d2];exact⟨rfl,rfl⟩,?_⟩;exact HERR _ 11 a hR1.out ((F1.mono (λ_ _ h=>h.elim)).trans us (λ_ _ h=>h)) _ rfl
   have hR1:=hd_ (show ∀e w',Q0 w w'->e = .returned (.tuple #[.agg #[.int .i64 0,.bool false,.int .i64 0],.int .i64 (a:Int),.int .i64 V.2.2])->R e w' from λe w' hf he=>hR e w' ⟨hf,by
     rw [if_neg v0]
     exact⟨_,he⟩⟩)
   obtain⟨er,her⟩:=nm_ (V.2.2);rw [<-her]at hR1 v0;rw [<-her];clear hR hxq her hGet;go_wp2_with fail;have b5:=YB BH1.out (.int .i64 0) (.bool false) (.int .i64 0);obtain⟨d0,d1,d2⟩:=(b5).cells3;have us:=YC w1 H (.int .i64 0) (.bool false) (.int .i64 0);refine⟨rfl,.tuple #[.agg #[.int .i64 0,.bool false,.int .i64 0],_,_],by simp [results,results22,go_sem,d0,d1,d2];exact⟨rfl,rfl⟩,?_⟩;exact HERR _ er a hR1.out ((F1.mono (λ_ _ h=>h.elim)).trans us (λ_ _ h=>h)) _ rfl
 have hR1:=hd_ (show ∀e w',Q0 w w'->e = .returned (.tuple #[.agg #[.int .i64 0,.bool false,.int .i64 0],.int .i64 (a:Int),.int .i64 11])->R e w' from λe w' hf he=>hR e w' ⟨hf,by
   simp only [Y2,if_neg hg]
   exact⟨_,he⟩⟩)
 clear hR;by_cases h7:7<z
 . have h7I:7<(z:Int):=by omega
   clear h7;rcases(show(z:Int) / 4%2=1\/(z:Int) / 4%2=0 by omega)with q1|q1
   . obtain⟨w1,hw1⟩:∃w1,w1=w0.alloc (.cells #[.int .i64 ((z:Int)%4),.bool true,.int .i64 0] 41):=⟨_,rfl⟩
     (have f1:Q0 w0 w1:=by rw [hw1];exact(Upd.refl _ _).alloc _);(have bx:Blk w1 (H+2) 41 #[.int .i64 ((z:Int)%4),.bool true,.int .i64 0]:=by rw [hw1];exact Qb HS0.symm _ _);have BH1:=hd_ (BH.fresh f1);have BN1:=hd_ (BN.fresh f1);have BX:=hd_ bx;have F1:=hd_ f1;have HW1:=hd_ hw1;have x0:=bx.cell 0;have x1:=bx.cell 1;have x2:=bx.cell 2;have x9:=bx.frozen 2;have x8:=bx.frozen 0;have x7:=bx.frozen 1;simp at x0 x1 x2;clear hw1 bx f1;have k0:=BH1.cell 0;have k1:=BH1.cell 1;have k2:=BH1.cell 2;have z0:=BH1.frozen 0;have z1:=BH1.frozen 1;have z2:=BH1.frozen 2;have y0:=BN1.cell 0;have y1:=BN1.cell 1;have y2:=BN1.cell 2;simp at k0 k1 k2 y0 y1 y2;go_enter func22,ntmps22;go_upto_region 2 with fail;simp only [hsz,<-HH.out,<-HW.out];clear hsz;go_upto_region 7 with fail;simp only [HS0.out,<-HW1.out];go_wp2_with fail;have b5:=YB BH1.out (.int .i64 0) (.bool false) (.int .i64 0);obtain⟨d0,d1,d2⟩:=(b5).cells3;have us:=YC w1 H (.int .i64 0) (.bool false) (.int .i64 0);refine⟨rfl,.tuple #[.agg #[.int .i64 0,.bool false,.int .i64 0],_,_],by simp [results,results22,go_sem,d0,d1,d2];exact⟨rfl,rfl⟩,?_⟩;exact HERR _ 11 a hR1.out ((F1.mono (λ_ _ h=>h.elim)).trans us (λ_ _ h=>h)) _ rfl
   obtain⟨w1,hw1⟩:=nm_ (w0.alloc (.cells #[.int .i64 ((z:Int)%4),.bool false,.int .i64 0] 41));(have f1:Q0 w0 w1:=by rw [hw1];exact(Upd.refl _ _).alloc _);(have bx:Blk w1 (H+2) 41 #[.int .i64 ((z:Int)%4),.bool false,.int .i64 0]:=by rw [hw1];exact Qb HS0.symm _ _);have BH1:=hd_ (BH.fresh f1);have BN1:=hd_ (BN.fresh f1);have BX:=hd_ bx;have F1:=hd_ f1;have HW1:=hd_ hw1;have x0:=bx.cell 0;have x1:=bx.cell 1;have x2:=bx.cell 2;have x9:=bx.frozen 2;have x8:=bx.frozen 0;have x7:=bx.frozen 1;simp at x0 x1 x2;clear hw1 bx f1;have k0:=BH1.cell 0;have k1:=BH1.cell 1;have k2:=BH1.cell 2;have z0:=BH1.frozen 0;have z1:=BH1.frozen 1;have z2:=BH1.frozen 2;have y0:=BN1.cell 0;have y1:=BN1.cell 1;have y2:=BN1.cell 2;simp at k0 k1 k2 y0 y1 y2;go_enter func22,ntmps22;go_upto_region 2 with fail;simp only [hsz,<-HH.out,<-HW.out];clear hsz;go_upto_region 7 with fail;simp only [HS0.out,<-HW1.out];go_wp2_with fail;have b5:=YB BH1.out (.int .i64 0) (.bool false) (.int .i64 0);obtain⟨d0,d1,d2⟩:=(b5).cells3;have us:=YC w1 H (.int .i64 0) (.bool false) (.int .i64 0);refine⟨rfl,.tuple #[.agg #[.int .i64 0,.bool false,.int .i64 0],_,_],by simp [results,results22,go_sem,d0,d1,d2];exact⟨rfl,rfl⟩,?_⟩;exact HERR _ 11 a hR1.out ((F1.mono (λ_ _ h=>h.elim)).trans us (λ_ _ h=>h)) _ rfl
 (have h7I:¬7<(z:Int):=by omega);(have q1:(z:Int) / 4%2=1:=by omega);(have h2I:(z:Int)%4<2:=by omega);clear h7 hg;obtain⟨w1,hw1⟩:=nm_ (w0.alloc (.cells #[.int .i64 ((z:Int)%4),.bool true,.int .i64 0] 41));(have f1:Q0 w0 w1:=by rw [hw1];exact(Upd.refl _ _).alloc _);(have bx:Blk w1 (H+2) 41 #[.int .i64 ((z:Int)%4),.bool true,.int .i64 0]:=by rw [hw1];exact Qb HS0.symm _ _);have BH1:=hd_ (BH.fresh f1);have BN1:=hd_ (BN.fresh f1);have BX:=hd_ bx;have F1:=hd_ f1;have HW1:=hd_ hw1;have x0:=bx.cell 0;have x1:=bx.cell 1;have x2:=bx.cell 2;have x9:=bx.frozen 2;have x8:=bx.frozen 0;have x7:=bx.frozen 1;simp at x0 x1 x2;clear hw1 bx f1;have k0:=BH1.cell 0;have k1:=BH1.cell 1;have k2:=BH1.cell 2;have z0:=BH1.frozen 0;have z1:=BH1.frozen 1;have z2:=BH1.frozen 2;have y0:=BN1.cell 0;have y1:=BN1.cell 1;have y2:=BN1.cell 2;simp at k0 k1 k2 y0 y1 y2;go_enter func22,ntmps22;go_upto_region 2 with fail;simp only [hsz,<-HH.out,<-HW.out];clear hsz;go_upto_region 7 with fail;simp only [HS0.out,<-HW1.out];go_wp2_with fail;have b5:=YB BH1.out (.int .i64 0) (.bool false) (.int .i64 0);obtain⟨d0,d1,d2⟩:=(b5).cells3;have us:=YC w1 H (.int .i64 0) (.bool false) (.int .i64 0);refine⟨rfl,.tuple #[.agg #[.int .i64 0,.bool false,.int .i64 0],_,_],by simp [results,results22,go_sem,d0,d1,d2];exact⟨rfl,rfl⟩,?_⟩;exact HERR _ 11 a hR1.out ((F1.mono (λ_ _ h=>h.elim)).trans us (λ_ _ h=>h)) _ rfl
theorem Q9E {bs:List Nat} {a m y u:Nat} {x:List Int} (ha:a<=bs.length) (h:Z4 bs a m y = .inr (x,u)):a+u<=bs.length:=by
 unfold Z4 at h;split at h
 . split at h
   . cases h
   next h2 =>
   injection h with h;injection h with _ h;subst h;unfold KQ at h2;split at h2
   . next h3=>rw [List.length_drop]at h3;omega
   cases h2
 unfold Zh at h;split at h
 . cases h
 split at h
 . split at h
   . next h3 =>
     split at h
     . cases h
     injection h with h;injection h with _ h;omega
   cases h
 cases h
theorem Q8q {bs:List Nat} {a u:Nat} {t:List Int} (h:JS bs a = .inr (t,u)):a+u<=bs.length:=by
 unfold JS at h;split at h
 . split at h
   . cases h
   split at h
   . next h3 =>
     split at h
     . split at h
       . cases h
       next h4 =>
       split at h
       . injection h with h
         injection h with _ h;have:=Q9E (by omega) h4;omega
       cases h
     cases h
   cases h
 cases h
theorem Yw {fn:Func} {t u v x:Tmp} (h:fn.results=#[.tmp t,.tmp u,.tmp v,.tmp x]) (tmps:Array Value) (P:Program) (w:World) :
   (results fn tmps).run P w = .ok (.tuple #[tmps.getD t undef,tmps.getD u undef,tmps.getD v undef,tmps.getD x undef]) w:=by
 simp [results,h]
def Kr (a:Nat) (q:Int ⊕ (List Nat × List Int × Nat)) (w:World) (e:Ending) (w':World):Prop :=
  Q0 w w'/\match q with
    | .inl er=>e = .returned (.tuple #[.slice none 0 0,.slice none 0 0,.int .i64 (a:Nat),.int .i64 er])
    | .inr (x,t,u)=>∃A n c B m d,e = .returned (.tuple #[.slice A n c,.slice B m d,.int .i64 (u:Nat),.int .i64 0])/\Rd w' (λ_=>True) A n (Q2 x)/\Rd w' (λ_=>True) B m (Q7 t)
theorem Q4O (F G:Nat->Prop) (A B:Option Addr) (n c tn tc a:Nat) (bs:List Nat) (tree:List Int) (w:World) (hr:Rd w F A n (Q2 bs)) (hlt:∀b∈bs,b<256) (hn:n<=100000) (ha:a<=n) (er:Int) (hh:Y2 (bs.drop a) = .inl er) (hne:er≠0) :
   Calls prog 21 #[.slice A n c,.int .i64 (a:Nat),.slice B tn tc] w (Kr a (.inl er) w):=by
 have HH:=hd_ (ZK F A n c bs a w hr hlt hn ha);rw [hh]at HH;unfold JI at HH;simp only at HH;(have hb:(er != 0)=true:=by simpa using hne);clear hr hlt hn ha hh hne;refine Q8 λR hR=>?_;unfold Kr at hR;go_enter func21,ntmps21;go_wp2_with fail;refine HH.mono ?_;rintro e w1 ⟨f1,p,rfl⟩;have F1:=hd_ f1;clear f1 HH;go_wp2_with fail;refine bodyPost_ret (Yw rfl _ _ _) rfl ?_;exact hR _ _ ⟨F1.alloc _,rfl⟩
theorem Q41 (F G:Nat->Prop) (A B:Option Addr) (n c tn tc a:Nat) (bs:List Nat) (tree:List Int) (w:World) (hr:Rd w F A n (Q2 bs)) (hlt:∀b∈bs,b<256) (hc:n<=c) (hn:n<=100000) (ha:a<=n) (hrt:Rd w G B tn (Q7 tree)) (fo:Bool) (s u0:Nat) (hs:s<=131072) (hh:Y2 (bs.drop a) = .inr (0,fo,s,u0)) (hu:a+u0<=n) :
   Calls prog 21 #[.slice A n c,.int .i64 (a:Nat),.slice B tn tc] w (Kr a (X0 tree bs (a+u0) s) w):=by
 (have hL:bs.length=n:=by have:=hr.1;simpa using this);have HH:=hd_ (ZK F A n c bs a w hr hlt hn ha);rw [hh]at HH;unfold JI at HH;simp only at HH;obtain⟨p,hp⟩:=nm_ (a+u0);rw [<-hp]at HH hu|-;have HBY:=hd_ (λW (hW:Q0 w W)=>Ko F A n c bs p s W (hr.fresh hW) hc hn hu (by omega));unfold Q25 at HBY;unfold X0;have HT:=hd_ hrt;(have hsI:(s:Int)<=131072:=by omega);clear hr hlt hc hn ha hrt hs hh hp;refine Q8 λR hR=>?_;unfold Kr at hR;go_enter func21,ntmps21;go_wp2_with fail;refine HH.mono ?_;rintro e w1 ⟨f1,rfl⟩;go_upto_region 2 with fail;obtain⟨w2,X,hw2,hX,-,b2⟩:=al_ w1 41 #[.int .i64 0,.bool fo,.int .i64 (s:Nat)];have F2:=hd_ (show Q0 w w2 by rw [hw2];exact f1.alloc _);simp only [<-hX,<-hw2];have HB2:=hd_ (HBY w2 F2.out);obtain⟨c0,c1,c2⟩:=(b2).cells3;clear HH HBY hw2 hX b2 f1;by_cases hk:p+s<=bs.length
 . simp only [if_pos hk]at HB2 hR
   clear hk;go_wp2_with fail;refine HB2.mono ?_;rintro e w3 ⟨⟨C,cc,rfl,hcc,hrd⟩,rfl⟩;have HRD:=hd_ hrd;clear hrd hcc HB2;go_wp2_with fail;refine bodyPost_ret (Yw rfl _ _ _) rfl ?_;exact hR _ _ ⟨F2.out,_,_,_,_,_,_,rfl,HRD.mono λ_ _=>trivial,(HT.fresh F2.out).mono λ_ _=>trivial⟩
 simp only [if_neg hk]at HB2 hR;clear hk;go_wp2_with fail;refine HB2.mono ?_;rintro e w3 ⟨rfl,rfl⟩;clear HB2;go_wp2_with fail;refine bodyPost_ret (Yw rfl _ _ _) rfl ?_;exact hR _ _ ⟨F2.out,rfl⟩
theorem Q6s (F G:Nat->Prop) (A B:Option Addr) (n c tn tc a:Nat) (bs:List Nat) (tree:List Int) (w:World) (hr:Rd w F A n (Q2 bs)) (hlt:∀b∈bs,b<256) (hn:n<=100000) (ha:a<=n) (hrt:Rd w G B tn (Q7 tree)) (fo:Bool) (s u0:Nat) (hs:s<=131072) (hh:Y2 (bs.drop a) = .inr (1,fo,s,u0)) :
   Calls prog 21 #[.slice A n c,.int .i64 (a:Nat),.slice B tn tc] w (Kr a (Q28 tree bs (a+u0) s) w):=by
 (have hL:bs.length=n:=by have:=hr.1;simpa using this);have HH:=hd_ (ZK F A n c bs a w hr hlt hn ha);rw [hh]at HH;unfold JI at HH;simp only at HH;obtain⟨p,hp⟩:=nm_ (a+u0);rw [<-hp]at HH|-;unfold Q28;have HT:=hd_ hrt;have HR:=hd_ hr;have HLT:=hd_ hlt;have HS:=hd_ hs;(have hsI:(s:Int)<=131072:=by omega);(have hnI:(n:Int)<=100000:=by omega);clear hr hlt hn ha hrt hs hh hp;refine Q8 λR hR=>?_;unfold Kr at hR;go_enter func21,ntmps21;go_wp2_with fail;refine HH.mono ?_;rintro e w1 ⟨f1,rfl⟩;go_upto_region 2 with fail;obtain⟨w2,X,hw2,hX,-,b2⟩:=al_ w1 41 #[.int .i64 1,.bool fo,.int .i64 (s:Nat)];have F2:=hd_ (show Q0 w w2 by rw [hw2];exact f1.alloc _);simp only [<-hX,<-hw2];have c0:=b2.cell 0;simp at c0;have B2:=hd_ b2;clear HH hw2 hX b2 f1;rw [hL]at hR;by_cases hk:p<n
 . simp only [if_pos hk]at hR
   (have hkI:(p:Int)<n:=by omega);(have hkJ:¬(n:Int)<=p:=by omega);have hkd:decide ((n:Int)<=p)=false:=decide_eq_false hkJ;simp only [show((p+1:Nat):Int)=(p:Int)+1 from by omega]at hR;have HRW:=hd_ (λW (hW:Q0 w2 W)=>(HR.fresh (F2.trans' hW)).byte (k:=p) hk);obtain⟨b,o,hpl,rfl,hbl,hcb⟩:=HRW w2 (Upd.refl _ _);have hz8:=HLT _ (List.getElem_mem hpl);have HZ:=hd_ (show(bs[p]?).getD 0=bs[p] by rw [List.getElem?_eq_getElem hpl];rfl);obtain⟨z,hz⟩:=nm_ (bs[p]);rw [<-hz]at hcb hz8 HZ;rw [HZ.out]at hR;have HCB:=hd_ (show ∀W,Q0 w2 W->W.cell? ⟨b,o+p,none⟩=some (.int .u8 (z:Nat))from λW hW=>(hW.cells b _ hbl).trans hcb);clear hk hz hcb hz8 HZ HRW;go_wp2_with fail;go_loopg [16,17] s (λf vo vi wr=>∃i:Nat,i+f=s/\vi = .int .i64 (i:Nat)/\Qu w2 wr vo (List.replicate i z))
   case atStart=>exact⟨0,by omega,rfl,Own.nil _ _,Upd.refl _ _,by simp [Value.ownBlock]⟩
   case round =>
     obtain⟨i,hi,rfl,nb⟩:=hrel;clear c0;have NB:=hd_ nb;have HI:=hd_ hi;obtain⟨A9,n9,c9,rfl,hn9⟩:=nb.1.form';have c2:=(B2.fresh nb.2.1).cell 2;simp at c2;have hcb:=HCB wr nb.2.1;clear nb hi hn9;by_cases hlt:i<s
     . have hlI:(i:Int)<s:=by omega
       obtain⟨w5,P5,hw5,hP5,f5,b5⟩:=al_ wr 5 #[.int .u8 (z:Nat)];have RB:=hd_ (show Rd w5 (λ_=>True) (some ⟨P5,0,none⟩) 1 (Q2 [z])from by simpa [Q2]using Blk.rds b5);have N5:=hd_ (NB.frs f5);have HP:=hd_ hP5;have HW:=hd_ hw5;have HLI:=hd_ hlt;clear f5 b5 hP5 hw5 hlt;go_wp2_with (at_builtin;simp only [<-HP.out,<-HW.out];go_must (refine Qm _ rfl (.tmp 70) (.tmp 75) _ rfl 5 _ 1 underlying22 JX rfl (.slice A9 n9 c9) _ rfl N5.1 _ _ _ _ rfl RB.out (Jo _) (by omega) (by have:=HI.out;have:=HS.out;simp [Q2];omega) ?_));intro v6 w6 ho hg6 ha6;have N6:=hd_ (N5.app ho hg6 ha6);clear ho hg6 ha6 N5 RB HP HW;go_wp2_with fail;go_roundg (gk-1)
       case measure=>have:=HI.out;have:=HLI.out;omega
       case rel=>exact⟨i+1,by have:=HI.out;have:=HLI.out;omega,by go_num,by rw [List.replicate_succ'];exact N6.out⟩
     (have his:i=s:=by have:=HI.out;omega);subst his;(have hnl:¬(i:Int)<i:=by omega);clear hlt;go_wp2_with fail;refine bodyPost_ret (Yw rfl _ _ _) rfl ?_;obtain⟨hn4,hc4,hrd⟩:=NB.1.rd rfl;rw [<-hn4]at hrd;exact hR _ _ ⟨F2.trans' NB.2.1,_,_,_,_,_,_,rfl,hrd.mono λ_ _=>trivial,((HT.fresh F2.out).fresh NB.2.1).mono λ_ _=>trivial⟩
 simp only [if_neg hk]at hR;(have hkI:¬(p:Int)<n:=by omega);(have hkJ:(n:Int)<=p:=by omega);clear hk;go_wp2_with fail;refine bodyPost_ret (Yw rfl _ _ _) rfl ?_;exact hR _ _ ⟨F2.out,rfl⟩
def Ks (k:Nat) (tree:List Int) (p:List Nat):Int ⊕ (List Int × Nat):=if k=2 then JS p 0 else .inr (tree,0)
theorem XB {k:Nat} (h2:2<=k) {fo:Bool} {tree:List Int} {bs:List Nat} {u s:Nat}:JT k fo tree bs u s =
   match J7 (bs.drop u)with
   | .inl er=>.inl er
   | .inr (x,m)=>match Ks k tree ((bs.drop (u+x)).take m)with
     | .inl er=>.inl er
     | .inr (t,k0)=>match YN fo t (((bs.drop (u+x)).take m).drop k0) s with
       | .inl er=>.inl er
       | .inr y=>.inr (y,t,u+x+m):=by
 unfold JT Ks;rw [if_neg (by omega),if_neg (by omega)];by_cases hk:k=2
 . simp only [if_pos hk]
   unfold Q3g;rfl
 simp only [if_neg hk];unfold Qa7 KR
 cases J7 (bs.drop u)with
 | inl er=>rfl
 | inr q =>
   obtain⟨x,m⟩:=q;simp only [List.drop_zero];(cases YN fo tree ((bs.drop (u+x)).take m) s<;>rfl)
theorem Q8r {l:List Nat} {u m:Nat} (h:J7 l = .inr (u,m)):u+m<=l.length:=by
 unfold J7 at h;split at h
 . next h0 =>
   split at h
   . next h1 =>
     injection h with h;injection h with h2 h3;have:=VD h0;omega
   cases h
 cases h
theorem Q42 {l:List Nat} {er:Int} (h:J7 l = .inl er):er≠0:=by
 unfold J7 at h;split at h
 . split at h
   . cases h
   injection h with h;omega
 next h0=>injection h with h;rw [<-h];exact h0
theorem Q43 {l:List Nat} {er:Int} (h:Y2 l = .inl er):er≠0:=by
 unfold Y2 at h;split at h
 . injection h with h;omega
 split at h
 . split at h
   . split at h
     . cases h
     injection h with h;omega
   next h2=>injection h with h;rw [<-h];exact h2
 injection h with h;omega
theorem Q8s {l:List Nat} {k s u:Nat} {f:Bool} (h:Y2 l = .inr (k,f,s,u)):u<=l.length:=by
 unfold Y2 at h;split at h
 . cases h
 next c t =>
 split at h
 . split at h
   . next h0 =>
     split at h
     . injection h with h
       injection h with _ h;injection h with _ h;injection h with _ h;have:=VD h0;rw [List.length_cons];omega
     cases h
   cases h
 cases h
theorem Q44 {o:Option (List Nat)} {er:Int} {w w':World} {e:Ending} (h:YQ o er w e w') :
   ∃(v:Value) (er':Int),e = .returned (.tuple #[v,.int .i64 er'])/\Q0 w w'/\((o=none/\er'=er)\/∃x A' n' c',o=some x/\er'=0/\v = .slice A' n' c'/\Rd w' (λ_=>True) A' n' (Q2 x)):=by
 cases o with
 | none=>exact⟨_,_,h.1,h.2,.inl ⟨rfl,rfl⟩⟩
 | some x =>
   obtain⟨v,he,nb⟩:=h;obtain⟨A',n',c',rfl,hn⟩:=nb.1.form';obtain⟨hn4,_,hrd⟩:=nb.1.rd rfl;rw [<-hn4]at hrd;exact⟨_,0,he,nb.2.1,.inr ⟨x,A',n',c',rfl,rfl,rfl,hrd.mono λ_ _=>trivial⟩⟩
theorem Q2Q {q:Int ⊕ List Nat} {w w':World} {e:Ending} (h:Kd q w e w') :
   ∃(v:Value) (er':Int),e = .returned (.tuple #[v,.int .i64 er'])/\Q0 w w'/\((∃e,q = .inl e/\er'=e)\/∃x A' n' c',q = .inr x/\er'=0/\v = .slice A' n' c'/\Rd w' (λ_=>True) A' n' (Q2 x)):=by
 cases q with
 | inl er=>exact⟨_,_,h.1,h.2,.inl ⟨_,rfl,rfl⟩⟩
 | inr x =>
   obtain⟨v,he,nb⟩:=h;obtain⟨A',n',c',rfl,hn⟩:=nb.1.form';obtain⟨hn4,_,hrd⟩:=nb.1.rd rfl;rw [<-hn4]at hrd;exact⟨_,0,he,nb.2.1,.inr ⟨x,A',n',c',rfl,rfl,rfl,hrd.mono λ_ _=>trivial⟩⟩
theorem Q45 (F G:Nat->Prop) (A B:Option Addr) (n c tn tc a:Nat) (bs:List Nat) (tree:List Int) (w:World) (hr:Rd w F A n (Q2 bs)) (hlt:∀b∈bs,b<256) (hc:n<=c) (hn:n<=500) (ha:a<=n) (hrt:Rd w G B tn (Q7 tree)) (htn:tn<=2^40) (k:Nat) (hk2:2<=k) (hk4:k<4) (fo:Bool) (s u0:Nat) (hs:s<=131072) (hh:Y2 (bs.drop a) = .inr (k,fo,s,u0)) (hu:a+u0<=n) :
   Calls prog 21 #[.slice A n c,.int .i64 (a:Nat),.slice B tn tc] w (Kr a (JT k fo tree bs (a+u0) s) w):=by
 (have hL:bs.length=n:=by have:=hr.1;simpa using this);have HH:=hd_ (ZK F A n c bs a w hr hlt (by omega) ha);rw [hh]at HH;unfold JI at HH;simp only at HH;obtain⟨p,hp⟩:=nm_ (a+u0);rw [<-hp]at HH hu|-;have HPA:=hd_ (λW (hW:Q0 w W)=>Q68 F A n c bs p W (hr.fresh hW) hlt hc (by omega) hu);unfold Q3P at HPA;rw [XB hk2];have HT:=hd_ hrt;have HLT:=hd_ hlt;have HPE:=hd_ (λu m (h:J7 (bs.drop p) = .inr (u,m))=>show p+u+m<=n/\m<=500 from by have:=Q8r h;rw [List.length_drop]at this;omega);have HPN:=hd_ (λer (h:J7 (bs.drop p) = .inl er)=>Q42 h);(have hsI:(s:Int)<=131072:=by omega);have HS:=hd_ hs;(have hk0:((k:Int) == 0)=false:=by simp;omega);(have hk1:((k:Int) == 1)=false:=by simp;omega);have HTN:=hd_ htn;have HK:=hd_ (And.intro hk2 hk4);clear hr hlt hc hn ha hrt htn hs hh hp hu hL hk4 hk2;refine Q8 λR hR=>?_;unfold Kr at hR;go_enter func21,ntmps21;go_wp2_with fail;refine HH.mono ?_;rintro e w1 ⟨f1,rfl⟩;go_upto_region 2 with fail;obtain⟨w2,X,hw2,hX,-,b2⟩:=al_ w1 41 #[.int .i64 k,.bool fo,.int .i64 (s:Nat)];have F2:=hd_ (show Q0 w w2 by rw [hw2];exact f1.alloc _);simp only [<-hX,<-hw2];have BX:=hd_ b2;have c0:=b2.cell 0;simp at c0;have HPA2:=hd_ (HPA w2 F2.out);clear HH HPA hw2 hX b2 f1
 cases hP:J7 (bs.drop p)with
 | inl er =>
   simp only [hP]at HPA2 hR;(have hb:(er != 0)=true:=by simpa using HPN.out er hP);clear hP HPN HPE;go_wp2_with fail;refine HPA2.mono ?_;rintro e w3 ⟨rfl,rfl⟩;clear HPA2;go_wp2_with fail;refine bodyPost_ret (Yw rfl _ _ _) rfl ?_;exact hR _ _ ⟨F2.out,rfl⟩
 | inr q =>
   obtain⟨u,m⟩:=q;simp only [hP]at HPA2 hR;obtain⟨hend,hm5⟩:=HPE u m hP;obtain⟨E,hE⟩:=nm_ (p+u+m);obtain⟨P,hPd⟩:=nm_ ((bs.drop (p+u)).take m);simp only [<-hE,<-hPd]at HPA2 hR;have hPlt:∀b∈P,b<256:=λb hb=>HLT b (by rw [hPd]at hb;exact List.mem_of_mem_drop (List.mem_of_mem_take hb));have HPL:=hd_ hPlt;have HM5:=hd_ hm5;clear hP HPN HPE hend hE hPd hPlt hm5;go_wp2_with fail;refine HPA2.mono ?_;rintro e w3 ⟨⟨C,cc,rfl,hmc,hrd⟩,rfl⟩;have HRD:=hd_ hrd;have HMC:=hd_ hmc;have HPm:=hd_ (show P.length=m by have:=hrd.1;simpa using this);clear hrd hmc HPA2 HLT
   cases hW:Ks k tree P with
   | inl er =>
     have hk2:k=2:=by
       rcases(show k=2\/k=3 by have:=HK.out;omega)with h|h
       . exact h
       unfold Ks at hW;rw [if_neg (by omega)]at hW;cases hW
     subst hk2;have hw:=hW;unfold Ks at hw;rw [if_pos rfl]at hw;simp only [hW]at hR;have HGE:=hd_ (Q1F F C m cc P 0 w2 HRD.out HPL.out HMC.out HM5.out (Nat.zero_le _));rw [hw]at HGE;unfold JV at HGE;simp only at HGE;(have hb:(er != 0)=true:=by simpa using Q19 hw);clear hW hw;go_wp2_with fail;refine HGE.mono ?_;rintro e w4 ⟨f4,v,x,rfl⟩;have F4:=hd_ (F2.trans' f4);clear f4 HGE;go_wp2_with fail;refine bodyPost_ret (Yw rfl _ _ _) rfl ?_;exact hR _ _ ⟨F4.out,rfl⟩
   | inr q =>
     obtain⟨t,k0⟩:=q;simp only [hW]at hR
     have hk0m:k0<=m:=by
       have h:=hW;unfold Ks at h;split at h
       . have:=Q8q h;have:=HPm.out;omega
       injection h with h;injection h with _ h;omega
     have HK0:=hd_ hk0m;clear hk0m;go_upto_if 94 with fail;go_cut [2,20] (λq2 q20 wx=>∃D dn dc,q2 = .slice D dn dc/\q20 = .int .i64 (k0:Nat)/\dn<=2^40/\Q0 w2 wx/\Rd wx (λ_=>True) D dn (Q7 t))
     case first =>
       by_cases hk2:k=2
       . subst hk2
         have hw:=hW;unfold Ks at hw;rw [if_pos rfl]at hw;have HGE:=hd_ (Q1F F C m cc P 0 w2 HRD.out HPL.out HMC.out HM5.out (Nat.zero_le _));rw [hw]at HGE;unfold JV at HGE;simp only [Nat.zero_add]at HGE;clear hW hw;go_wp2_with fail;refine HGE.mono ?_;rintro e w4 ⟨f4,D,dn,dc,rfl,hdc,hdn,hrt⟩;have F4:=hd_ f4;have RT:=hd_ hrt;have HDN:=hd_ hdn;clear f4 hdc hdn hrt HGE;go_wp2_with fail;go_meet;exact⟨_,_,_,rfl,rfl,by have:=HDN.out;omega,F4.out,RT.mono λ_ _=>trivial⟩
       (have hkb:((k:Int) == 2)=false:=by simp;omega);have hw:=hW;unfold Ks at hw;rw [if_neg hk2]at hw;injection hw with hw;injection hw with hw1 hw2;subst hw1 hw2;clear hW hk2;go_wp2_with fail;go_meet;exact⟨_,_,_,rfl,rfl,HTN.out,Upd.refl _ _,(HT.fresh F2.out).mono λ_ _=>trivial⟩
     case rest =>
       obtain⟨D,dn,dc,rfl,rfl,hdn,f4,hrt⟩:=hcut;obtain⟨w4,rfl⟩:=nm_ (wc);have HRI:=hd_ (KW _ D dn dc t w4 hrt hdn);have F4:=hd_ (F2.trans' f4);have RT:=hd_ hrt;have RP:=hd_ ((HRD.fresh f4).cut (k:=k0) (cap:=cc) HK0.out HMC.out);rw [show(Q2 P).drop k0=Q2 (P.drop k0)from(List.map_drop ..).symm]at RP;have BX4:=hd_ (BX.fresh f4);obtain⟨Q,hQ⟩:=nm_ (P.drop k0);have hQlt:∀b∈Q,b<256:=λb hb=>HPL b (by rw [hQ]at hb;exact List.mem_of_mem_drop hb);rw [<-hQ]at hR RP;have HONE:=hd_ (λW A' c' (hW:Q0 w4 W) (h:Rd W (λ_=>True) A' (m-k0) (Q2 Q))=>Q1C _ _ D A' dn dc (m-k0) c' s t Q W (hrt.fresh hW) h hQlt hdn (by have:=HM5.out;omega) HS.out);have HFO:=hd_ (λW A' c' (hW:Q0 w4 W) (h:Rd W (λ_=>True) A' (m-k0) (Q2 Q)) (hc':m-k0<=c')=>Q6m _ _ D A' dn dc (m-k0) c' s t Q W (hrt.fresh hW) h hQlt hdn (by have:=HM5.out;omega) hc' HS.out);(have hkmI:(k0:Int)<=m:=by have:=HK0.out;omega);(have hkcI:(k0:Int)<=cc:=by have:=HK0.out;have:=HMC.out;omega);(have hmcI:(m:Int)<=cc:=by have:=HMC.out;omega);clear hQ hQlt f4 hrt hdn hW c0 hk0 hk1;by_cases ht:Qc t
       case neg =>
         rw [decide_eq_false ht]at HRI;(have e:YN fo t Q s = .inl 12:=by unfold YN;rw [if_neg ht]);simp only [e]at hR;clear ht e HONE HFO;go_wp2_with fail;refine HRI.mono ?_;rintro e w5 ⟨rfl,rfl⟩;clear HRI;go_wp2_with fail;refine bodyPost_ret (Yw rfl _ _ _) rfl ?_;exact hR _ _ ⟨F4.out,rfl⟩
       rw [decide_eq_true ht]at HRI;simp only [if_pos ht]at HONE;(have e:YN fo t Q s=Ys fo t Q s:=by unfold YN;rw [if_pos ht]);rw [e]at hR;clear ht e;go_wp2_with fail;refine HRI.mono ?_;rintro e w5 ⟨rfl,rfl⟩;clear HRI;go_upto_region 30 with fail;have HX2:=hd_ (show ∀W,Q0 w4 W->W.cell? ⟨X,2,none⟩=some (.int .i64 (s:Nat))from λW hW=>by simpa using(BX4.fresh hW).cell 2);have HX1:=hd_ (show ∀W,Q0 w4 W->W.cell? ⟨X,1,none⟩=some (.bool fo)from λW hW=>by simpa using(BX4.fresh hW).cell 1);go_cut [24,25] (λq24 q25 wx=>∃er:Int,q25 = .int .i64 er/\Q0 w4 wx/\((Jb t Q s=none/\er=14)\/∃x A' n' c',Jb t Q s=some x/\er=0/\q24 = .slice A' n' c'/\Rd wx (λ_=>True) A' n' (Q2 x)))
       case first =>
         have hx2:=HX2 _ ((Upd.refl _ w4).drew);by_cases hcs:cc=k0
         . subst hcs
           have HDC:=hd_ (HONE w4.drew C 0 ((Upd.refl _ w4).drew) (by have h:=RP.out;rw [if_pos rfl]at h;exact((h.fresh (Upd.refl _ _)).fresh ((Upd.refl _ w4).drew)).mono λ_ _=>trivial));go_wp2_with fail
           go_region_held3 (λW=>W.cell? ⟨X,2,none⟩=some (.int .i64 (s:Nat)))
             (first|exact hx2|exact HX2 _ ux)
             (first
               | (go_at_call 58;refine HDC.mono ?_;rintro e w6 h6;obtain⟨v6,er6,rfl,u6,h6⟩:=Q44 h6;have ux:Q0 w4 w6:=((Upd.refl _ w4).drew).trans' u6))
           go_wp2_with fail;go_meet;exact⟨_,rfl,ux,h6⟩
         have HDC:=hd_ (HONE w4.drew (C.map (·.add k0)) (cc-k0) ((Upd.refl _ w4).drew) (by have h:=RP.out;rw [if_neg hcs]at h;exact((h.fresh (Upd.refl _ _)).fresh ((Upd.refl _ w4).drew)).mono λ_ _=>trivial));have hcs2:¬k0=cc:=λh=>hcs h.symm;go_wp2_with fail
         go_region_held3 (λW=>W.cell? ⟨X,2,none⟩=some (.int .i64 (s:Nat)))
           (first|exact hx2|exact HX2 _ ux)
           (first
             | (go_at_call 58;refine HDC.mono ?_;rintro e w6 h6;obtain⟨v6,er6,rfl,u6,h6⟩:=Q44 h6;have ux:Q0 w4 w6:=((Upd.refl _ w4).drew).trans' u6))
         go_wp2_with fail;go_meet;exact⟨_,rfl,ux,h6⟩
       case rest =>
         obtain⟨er1,rfl,f5,h1⟩:=hcut;obtain⟨w5,rfl⟩:=nm_ (wc);have H1:=hd_ h1;have F5:=hd_ f5;have hx1:=HX1 _ f5;clear h1 f5;obtain⟨v24,hv24⟩:∃v,v=u24:=⟨_,rfl⟩;go_upto_if 122 with fail;go_cut [24,25] (λq24 q25 wx=>∃er:Int,q25 = .int .i64 er/\Q0 w4 wx/\((∃e,Ys fo t Q s = .inl e/\er=e)\/∃x A' n' c',Ys fo t Q s = .inr x/\er=0/\q24 = .slice A' n' c'/\Rd wx (λ_=>True) A' n' (Q2 x)))
         case first =>
           cases fo with
           | false =>
             go_wp2_with fail;go_meet;refine⟨_,rfl,F5.out,?_⟩;unfold Ys;rw [if_neg (by decide)];rcases H1.out with ⟨h,rfl⟩|⟨x,A',n',c',h,rfl,h2,h3⟩
             . rw [h];exact .inl ⟨_,rfl,rfl⟩
             rw [h];exact .inr ⟨x,A',n',c',rfl,rfl,h2,h3⟩
           | true =>
             have hx2:=HX2 _ (F5.drew);by_cases hcs:cc=k0
             . subst hcs
               have HDC:=hd_ (HFO w5.drew C 0 (F5.drew) (by have h:=RP.out;rw [if_pos rfl]at h;exact((h.fresh F5.out).fresh ((Upd.refl _ w5).drew)).mono λ_ _=>trivial) (by omega));go_wp2_with fail
               go_region_held3 (λW=>W.cell? ⟨X,2,none⟩=some (.int .i64 (s:Nat)))
                 (first|exact hx2|exact HX2 _ ux)
                 (first
                   | (go_at_call 59;refine HDC.mono ?_;rintro e w6 h6;obtain⟨v6,er6,rfl,u6,h6⟩:=Q2Q h6;have ux:Q0 w4 w6:=(F5.drew).trans' u6))
               go_wp2_with fail;go_meet;refine⟨_,rfl,ux,?_⟩;unfold Ys;rw [if_pos rfl];exact h6
             have HDC:=hd_ (HFO w5.drew (C.map (·.add k0)) (cc-k0) (F5.drew) (by have h:=RP.out;rw [if_neg hcs]at h;exact((h.fresh F5.out).fresh ((Upd.refl _ w5).drew)).mono λ_ _=>trivial) (by omega));have hcs2:¬k0=cc:=λh=>hcs h.symm;go_wp2_with fail
             go_region_held3 (λW=>W.cell? ⟨X,2,none⟩=some (.int .i64 (s:Nat)))
               (first|exact hx2|exact HX2 _ ux)
               (first
                 | (go_at_call 59;refine HDC.mono ?_;rintro e w6 h6;obtain⟨v6,er6,rfl,u6,h6⟩:=Q2Q h6;have ux:Q0 w4 w6:=(F5.drew).trans' u6))
             go_wp2_with fail;go_meet;refine⟨_,rfl,ux,?_⟩;unfold Ys;rw [if_pos rfl];exact h6
         case rest =>
           obtain⟨er2,rfl,f6,h2⟩:=hcut;obtain⟨w6,rfl⟩:=nm_ (wc);have F6:=hd_ (F4.trans' f6);have HNE:=hd_ (λer (h:Ys fo t Q s = .inl er)=>Q01 h);rcases h2 with ⟨e,h,rfl⟩|⟨x,A',n',c',h,rfl,rfl,h3⟩
           . simp only [h]at hR
             (have hb:(er2 != 0)=true:=by simpa using HNE.out _ h);clear h f6;go_wp2_with fail;refine bodyPost_ret (Yw rfl _ _ _) rfl ?_;exact hR _ _ ⟨F6.out,rfl⟩
           simp only [h]at hR;have H3:=hd_ h3;have RT6:=hd_ (RT.fresh f6);clear h h3 f6;go_wp2_with fail;refine bodyPost_ret (Yw rfl _ _ _) rfl ?_;exact hR _ _ ⟨F6.out,_,_,_,_,_,_,rfl,H3.out,RT6.out⟩
theorem Q6t (F G:Nat->Prop) (A B:Option Addr) (n c tn tc a:Nat) (bs:List Nat) (tree:List Int) (w:World) (hr:Rd w F A n (Q2 bs)) (hlt:∀b∈bs,b<256) (hc:n<=c) (hn:n<=500) (ha:a<=n) (hrt:Rd w G B tn (Q7 tree)) (htn:tn<=2^40) :
   Calls prog 21 #[.slice A n c,.int .i64 (a:Nat),.slice B tn tc] w (Kr a (Jr tree bs a) w):=by
 (have hL:bs.length=n:=by have:=hr.1;simpa using this);unfold Jr
 cases hh:Y2 (bs.drop a)with
 | inl er=>exact Q4O F G A B n c tn tc a bs tree w hr hlt (by omega) ha er hh (Q43 hh)
 | inr q =>
   obtain⟨k,fo,s,u0⟩:=q;obtain⟨hs,hs0,hk,hfo⟩:=Q2M hh;have hu:=Q8s hh;rw [List.length_drop]at hu;rcases(show k=0\/k=1\/2<=k by omega)with rfl|rfl|h2
   . exact Q41 F G A B n c tn tc a bs tree w hr hlt hc (by omega) ha hrt fo s u0 hs hh (by omega)
   . exact Q6s F G A B n c tn tc a bs tree w hr hlt (by omega) ha hrt fo s u0 hs hh
   exact Q45 F G A B n c tn tc a bs tree w hr hlt hc hn ha hrt htn k h2 hk fo s u0 hs hh (by omega)
theorem Q46 {l:List Int} (ht:Qc l) {v:Nat}:∀ {k t t':Nat} {x:List Nat},QG l v t k=some (x,t')->∀b∈x,b<256
 | 0,t,t',x,h=>by
   rw [QG]at h
   injection h with h
   injection h with h _
   subst h
   exact λb hb=>by cases hb
 | k+1,t,t',x,h=>by
   cases hs:Jz l v t with
   | none=>rw [Zm _ hs]at h;cases h
   | some q =>
     obtain⟨s,t2⟩:=q
     rw [ZP _ hs]at h
     cases hr:QG l v t2 k with
     | none=>rw [hr]at h;cases h
     | some q =>
       obtain⟨y,t3⟩:=q
       rw [hr]at h
       simp only [JA,Option.map_some]at h
       injection h with h
       injection h with h _
       subst h
       intro b hb
       rcases List.mem_append.1 hb with h1|h1
       . rw [List.mem_singleton.1 h1]
         have:=(QaP ht hs).1
         have:=ht.2.1
         omega
       exact Q46 ht hr b h1
theorem Q5k {l:List Int} (ht:Qc l) {bs x:List Nat} {n:Nat} (h:Jb l bs n=some x):∀b∈x,b<256:=by
 unfold Jb at h;split at h
 . cases h
 split at h
 . next h2=>injection h with h;subst h;exact Q46 ht h2
 cases h
theorem Q5l {l:List Int} (ht:Qc l) (cb:List Nat) (n:Nat):∀i,∀b∈Zu l cb n i,b<256
 | 0=>λb hb=>by simp [Zu]at hb
 | i+1=>λb hb=>by
   rw [Vz]at hb
   rcases List.mem_append.1 hb with h|h
   . exact Q5l ht cb n i b h
   cases hp:pD l cb n i with
   | none=>rw [hp]at h;simp at h
   | some y=>rw [hp]at h;exact Q5k ht hp b h
theorem Q8t {fo:Bool} {l:List Int} {cb x:List Nat} {s:Nat} (h:YN fo l cb s = .inr x):∀b∈x,b<256:=by
 unfold YN at h;split at h
 . next ht =>
   unfold Ys at h;split at h
   . unfold QZ at h
     rw [if_pos ht]at h;by_cases h1:s<=3*((s+3) / 4)
     . rw [if_pos h1]at h;cases h
     rw [if_neg h1]at h;by_cases h2:YY cb 0=0
     . rw [if_pos h2]at h
       by_cases h3:stF cb 0 3<=cb.length
       . rw [if_pos h3]at h
         split at h
         . injection h with h;subst h;exact Q5l ht cb s 4
         cases h
       rw [if_neg h3]at h;cases h
     rw [if_neg h2]at h;cases h
   split at h
   . next h2=>injection h with h;subst h;exact Q5k ht h2
   cases h
 cases h
theorem Q8u {fo:Bool} {l:List Int} {cb:List Nat} {s:Nat} {er:Int} (h:YN fo l cb s = .inl er):er≠0:=by
 unfold YN at h;split at h
 . exact Q01 h
 injection h with h;omega
theorem Q9F {k:Nat} {fo:Bool} {tree t:List Int} {bs x:List Nat} {u s v:Nat} (hlt:∀b∈bs,b<256) (h:JT k fo tree bs u s = .inr (x,t,v)):(∀b∈x,b<256)/\(t=tree\/t.length<=256):=by
 by_cases h2:2<=k
 . rw [XB h2]at h
   split at h
   . cases h
   split at h
   . cases h
   next x1 m hp t' k0 hf =>
   split at h
   . cases h
   next y hy =>
   injection h with h;injection h with ha h;injection h with hb _;subst ha hb;refine⟨Q8t hy,?_⟩;unfold Ks at hf;split at hf
   . exact .inr (Q2L hf)
   injection hf with hf;injection hf with hf _;exact .inl hf.symm
 unfold JT at h;split at h
 . unfold X0 at h
   split at h
   . injection h with h
     injection h with ha h;injection h with hb _;subst ha hb;exact⟨λb hb=>hlt b (List.mem_of_mem_drop (List.mem_of_mem_take hb)),.inl rfl⟩
   cases h
 rw [if_pos (by omega)]at h;unfold Q28 at h;split at h
 . next hu =>
   injection h with h;injection h with ha h;injection h with hb _;subst ha hb;refine⟨λb hb=>?_,.inl rfl⟩;rw [(List.mem_replicate.1 hb).2,List.getElem?_eq_getElem hu];exact hlt _ (List.getElem_mem hu)
 cases h
theorem Q9G {k:Nat} {fo:Bool} {tree:List Int} {bs:List Nat} {u s:Nat} {er:Int} (h:JT k fo tree bs u s = .inl er):er≠0:=by
 by_cases h2:2<=k
 . rw [XB h2]at h
   split at h
   . next hp=>injection h with h;subst h;exact Q42 hp
   split at h
   . next hf =>
     injection h with h;subst h;unfold Ks at hf;split at hf
     . exact Q19 hf
     cases hf
   split at h
   . next hy=>injection h with h;subst h;exact Q8u hy
   cases h
 unfold JT at h;split at h
 . unfold X0 at h
   split at h
   . cases h
   injection h with h;omega
 rw [if_pos (by omega)]at h;unfold Q28 at h;split at h
 . cases h
 injection h with h;omega
theorem Q9H {tree t:List Int} {bs x:List Nat} {a v:Nat} (hlt:∀b∈bs,b<256) (h:Jr tree bs a = .inr (x,t,v)):(∀b∈x,b<256)/\(t=tree\/t.length<=256):=by
 unfold Jr at h;split at h
 . cases h
 exact Q9F hlt h
theorem Q9I {tree:List Int} {bs:List Nat} {a:Nat} {er:Int} (h:Jr tree bs a = .inl er):er≠0:=by
 unfold Jr at h;split at h
 . next h2=>injection h with h;subst h;exact Q43 h2
 exact Q9G h
theorem Q4P (F G:Nat->Prop) (A B:Option Addr) (n c m d:Nat) (xs:List Int) (w:World) (hx:Rd w F A n (Q7 xs)) (hy:Rd w G B m (Q7 xs)) (hn:n<=2^40) :
   Calls prog 24 #[.slice A n c,.slice B m d] w λe w'=>e = .returned (.bool true)/\Q0 w w':=by
 (have hnm:m=n:=by have h1:=hx.1;have h2:=hy.1;omega);subst hnm;(have hmI:(m:Int)<=1099511627776:=by omega);have HX:=hd_ hx;have HY:=hd_ hy;clear hx hy hn;refine Q8 λR hR=>?_;go_enter func24,ntmps24;go_wp2_with fail;go_loopg [5] m (λf vi wr=>Q0 w wr/\∃i:Nat,i+f=m/\vi = .int .i64 (i:Nat))
 case atStart=>exact⟨Upd.refl _ _,0,by omega,rfl⟩
 case round =>
   obtain⟨fr,i,hi,rfl⟩:=hrel;have FR:=hd_ fr;clear fr;have HI:=hd_ hi;clear hi;by_cases hlt:i<m
   . have hlI:(i:Int)<m:=by omega
     obtain⟨b,o,hil,rfl,_,hc⟩:=(HX.fresh FR.out).int (k:=i) hlt;obtain⟨b2,o2,hil2,rfl,_,hc2⟩:=(HY.fresh FR.out).int (k:=i) hlt;generalize xs[i]=z at *;have HLI:=hd_ hlt;clear hlt;go_wp2_with fail;go_quiet (fail);go_wp2;go_roundg (gk-1)
     case measure=>have:=HI.out;have:=HLI.out;omega
     case rel=>exact⟨FR.drewN _,i+1,by have:=HI.out;have:=HLI.out;omega,by go_num⟩
   (have him:i=m:=by have:=HI.out;omega);subst him;(have hnl:¬(i:Int)<i:=by omega);clear hlt;go_wp2_with fail;(try go_ret);exact hR _ _ ⟨rfl,FR.out⟩
end Go.Proofs.YtckjdhaflokcgaaGreat
