/- Contracts and plain lemmas, part 22. Conditions: none beyond those of each. -/
import Derived.Test.YtckjdhaflokcgaaGreatR21
import Derived.Test.YtckjdhaflokcgaaGreatR17
set_option maxHeartbeats 4000000
set_option linter.unusedVariables false
set_option linter.unusedSimpArgs false
set_option linter.unnecessarySimpa false
set_option maxRecDepth 100000
namespace Go.Proofs.YtckjdhaflokcgaaGreat
open Go.RowKit Go.Proofs.Tryz
def Z4 (bs:List Nat) (a m way:Nat):Int ⊕ (List Int × Nat) :=
  if way=0 then(match KQ (bs.drop a) m with | .inl e=>.inl e | .inr x=>.inr (x,(m+1) / 2))else Zh bs a m
def JS (bs:List Nat) (at_:Nat):Int ⊕ (List Int × Nat) :=
  if(Qn 255 (bs.drop at_)).2.2=0 then
    if(Qn 255 (bs.drop at_)).1=0 then .inl 12 else
    if at_+(Qn 255 (bs.drop at_)).2.1<bs.length then
      if(bs[at_+(Qn 255 (bs.drop at_)).2.1]?).getD 0<2 then
        match Z4 bs (at_+(Qn 255 (bs.drop at_)).2.1+1) (Qn 255 (bs.drop at_)).1 ((bs[at_+(Qn 255 (bs.drop at_)).2.1]?).getD 0)with
        | .inl e=>.inl e
        | .inr (x,u)=>if okW x then .inr (KT x,(Qn 255 (bs.drop at_)).2.1+1+u)else .inl 12
      else .inl 12
    else .inl 3
  else .inl (Qn 255 (bs.drop at_)).2.2
def Q3O (F:Nat->Prop) (g:Nat) (bs:List Nat) (at_:Nat) (q:Int ⊕ (List Int × Nat)) (w:World) (e:Ending) (w':World):Prop :=
  Upd (λb=>b=g) w w'/\match q with
    | .inl er=>e = .returned (.tuple #[.slice none 0 0,.int .i64 er])
    | .inr (x,u)=>∃v,e = .returned (.tuple #[v,.int .i64 0])/\Own w' 3 v (Q7 x)/\(∀b,v.ownBlock=some b->w.heap.size<=b)/\Q4 w' F g bs (at_+u)
def KA (F:Nat->Prop) (g:Nat) (bs:List Nat) (a:Nat) (q:Int ⊕ (List Int × Nat)) (w:World) (e:Ending) (w':World):Prop :=
  Upd (λb=>b=g) w w'/\match q with
    | .inl er=>e=Qa er
    | .inr (x,u)=>∃A n c,e = .returned (.slice A n c)/\n<=c/\n<=2^33/\Rd w' (λb=>w.heap.size<=b) A n (Q7 x)/\Q4 w' F g bs (a+u)
theorem Q0j {V p:Nat} {N:List Int}:∀ {k now other t:Nat} {x:List Nat} {t':Nat},Yd V p N k now other t=some (x,t')->x.length=k
 | 0,_,_,_,x,t',h=>by simp [Yd]at h;simp [<-h.1]
 | k+1,now,other,t,x,t',h=>by
   unfold Yd at h
   split at h
   . split at h
     . rw [Option.map_eq_some_iff]at h
       obtain⟨⟨y,s⟩,h1,h2⟩:=h
       injection h2 with h2 h3
       rw [<-h2,List.length_cons,Q0j h1]
     cases h
   rw [Option.map_eq_some_iff]at h
   obtain⟨⟨y,s⟩,h1,h2⟩:=h
   injection h2 with h2 h3
   rw [<-h2,List.length_cons,Q0j h1]
theorem Q2K {lg:Int} {N:List Int} {bs:List Nat} {n:Nat} {x:List Nat} (h:Y1 lg N bs n = .inr x):x.length=n:=by
 unfold Y1 at h;split at h
 . split at h
   . cases h
   split at h
   . next h2 =>
     injection h with h;subst h;unfold ZS at h2;split at h2
     . cases h2
     split at h2
     . next h3=>injection h2 with h2;rw [<-h2];exact Q0j h3
     cases h2
   cases h
 cases h
theorem Q65 {bs:List Nat} {a m:Nat} {x:List Int} {u:Nat} (h:Zh bs a m = .inr (x,u)):x.length=m:=by
 unfold Zh at h;split at h
 . cases h
 split at h
 . split at h
   . split at h
     . cases h
     next h2=>injection h with h;injection h with h3 h4;rw [<-h3,List.length_map];exact Q2K h2
   cases h
 cases h
theorem Q9r (F:Nat->Prop) (g m:Nat) (bs:List Nat) (a:Nat) (w:World) (hcu:Q4 w F g bs a) (hm:0<m) (hm2:m<=255) (hF:∀b,F b->b≠g) :
   Calls prog 177 #[.agg #[.pointer (some ⟨g,0,none⟩)],.int .i64 (m:Nat)] w (KA F g bs a (Z4 bs a m 0) w):=by
 refine(Q7J F g m bs a w hcu hm hm2 hF).mono λe w' h=>?_;unfold Q3F at h;unfold KA Z4;rw [if_pos rfl];obtain⟨hu,h⟩:=h;refine⟨hu,?_⟩
 cases hq:KQ (bs.drop a) m with
 | inl er=>rw [hq]at h;exact h
 | inr x =>
   rw [hq]at h;obtain⟨A,c,h1,h2,h3,h4⟩:=h;exact⟨A,m,c,h1,h2,by omega,h3,h4⟩
theorem Q9s (F:Nat->Prop) (g m:Nat) (bs:List Nat) (a:Nat) (w:World) (hcu:Q4 w F g bs a) (hm2:m<=255) (hF:∀b,F b->b≠g) :
   Calls prog 178 #[.agg #[.pointer (some ⟨g,0,none⟩)],.int .i64 (m:Nat)] w (KA F g bs a (Z4 bs a m 1) w):=by
 refine(Q81 F g m bs a w hcu hm2 hF).mono λe w' h=>?_;unfold Q3K at h;unfold KA Z4;rw [if_neg (by decide)];obtain⟨hu,h⟩:=h;refine⟨hu,?_⟩
 cases hq:Zh bs a m with
 | inl er=>rw [hq]at h;exact h
 | inr q =>
   obtain⟨x,u⟩:=q;rw [hq]at h;obtain⟨A,n,c,h1,h2,h3,h4⟩:=h;exact⟨A,n,c,h1,h2,by have:=h3.1;rw [Qz,Q65 hq]at this;omega,h3,h4⟩
theorem Q9t (F:Nat->Prop) (g:Nat) (bs:List Nat) (at_:Nat) (w:World) (hcu:Q4 w F g bs at_) (hF:∀b,F b->b≠g) :
   Calls prog 129 #[.pointer (some ⟨g,0,none⟩)] w (Q3O F g bs at_ (JS bs at_) w):=by
 have hmf:∀(fn:Fn) (first cap:Array Value) (w:World),(Instr.makeFunc fn first cap).run prog w = .ok (.func fn first cap) w:=λ_ _ _ _=>rfl;(have hblt:∀b∈bs,b<256:=by obtain⟨_,_,_,_,h,_⟩:=hcu;exact h);obtain⟨H,hH⟩:=nm_ (w.heap.size);(have hH2:w.heap.size+1+1=H+2:=by omega);obtain⟨w1,hw1⟩:=nm_ ((((w.alloc (.cells #[.slice none 0 0] 33)).alloc (.cells #[.int .i64 0] 24)).alloc (.cells #[.pointer (some ⟨g,0,none⟩)] 229)));(have f1:Q0 w w1:=by rw [hw1];exact(((Upd.refl _ _).alloc _).alloc _).alloc _);(have bo:Blk w1 H 33 #[.slice none 0 0]:=by rw [hw1];exact((Qb hH _ _).alloc _).alloc _);(have be:Blk w1 (H+1) 24 #[.int .i64 0]:=by rw [hw1];exact(Qb (by simp [hH]) _ _).alloc _);(have bp:Blk w1 (H+2) 229 #[.pointer (some ⟨g,0,none⟩)]:=by rw [hw1];exact Qb (by simp [hH]) _ _);have hg:=hcu.lt;have HG:=hd_ (show g<H by omega);have HNU:=hd_ (Q3E (λb=>F b/\b<w.heap.size) g 255 bs at_ w1 (hcu.both.fresh f1) (by omega) (λb hb=>hF b hb.1));have hVl:(Qn 255 (bs.drop at_)).2.2=0->(Qn 255 (bs.drop at_)).1<=255:=Vc;unfold JS;generalize hV:Qn 255 (bs.drop at_)=V at *;have HF:=hd_ hF;have HB:=hd_ hblt;have HH:=hd_ hH;have HH2:=hd_ hH2;have HW:=hd_ hw1;have F1:=hd_ f1;have BO:=hd_ bo;have BE:=hd_ be;have BP:=hd_ bp;have p0:=bp.cell 0;simp at p0;clear hcu hF hblt hH hH2 hw1 f1 bo be bp hg hV;refine Q8 λR hR=>?_;unfold Q3O at hR;have HLE:=hd_ (show ∀W w8,Upd (λb=>b=g) w1 W->Upd (λb=>b=H) W w8->∀v,Upd (λb=>b=g) w (w8.setCell ⟨H+1,0,none⟩ v)from λW w8 hu h8 v=>(((F1.mono (T:=λb=>b=g) λ_ _ h=>h.elim).trans' hu).trans h8 (λb hb e=>by have:=HH.out;omega)).setCell (p:=⟨H+1,0,none⟩) (λh=>by have:=HH.out;simp only at h;omega) v);go_enter_defers func129,ntmps129;go_upto_region 2 with fail;simp only [<-HH.out];go_upto_region 3 with fail;simp only [HH2.out,<-HW.out];by_cases h0:V.2.2=0
 case neg =>
   simp only [if_neg h0]at HNU hR;have HRE:=hd_ (show ∀(e0:Int) W,Upd (λb=>b=g) w W->e0=V.2.2->R (.returned (.tuple #[.slice none 0 0,.int .i64 e0])) W from λe0 W h he=>hR _ _ ⟨h,by rw [he]⟩);obtain⟨er,her⟩:=nm_ (V.2.2);rw [<-her]at HNU HRE;clear hR h0 her hVl;go_wp2_with fail;refine HNU.mono ?_;rintro e w2 ⟨u2,rfl⟩;simp only [Qa];have hUP:=u2;change Leaves _ _ _ _ _ _ _;refine leaves_cons (f:=100) (args:=#[.pointer (some ⟨H+1,0,none⟩),.func (.func 174) #[] #[.pointer (some ⟨H,0,none⟩)]]) (by simp) (by simp [go_sem]) ?_;refine(Y7 174 #[.pointer (some ⟨H,0,none⟩)] (λb=>b=H) (λW=>Blk W H 33 #[.slice none 0 0]) (H+1) er _ w2 (BE.upd hUP (by have:=HG.out;omega)) (by omega) (λ_ _=>rfl) (Q0b H _ w2 (BO.upd hUP (by have:=HG.out;omega)))).mono ?_;rintro e u' w'' ⟨rfl,rfl,w8,u8,b8,rfl⟩;have e8:=((BE.upd hUP (by have:=HG.out;omega)).upd u8 (by omega)).set_ 0 (.int .i64 er);have b9:=b8.far (p:=⟨H+1,0,none⟩) (by simp) (.int .i64 er);have d0:=b9.cell 0;have d1:=e8.cell 0;simp at d0 d1;show Leaves _ _ _ _ [] .returning _;refine⟨.tuple #[.slice none 0 0,.int .i64 er],?_,HRE er _ (HLE _ _ hUP u8 _) rfl⟩;simp [results,results129,go_sem,d0,d1]
 simp only [if_pos h0]at HNU hR;obtain⟨m,hm⟩:=nm_ (V.1);obtain⟨a1,ha1⟩:=nm_ (at_+V.2.1);have hml:=hVl h0;rw [<-hm]at hml;simp only [<-hm,<-ha1]at HNU hR;have HM:=hd_ hml;have HA1:=hd_ ha1;(have hmI:(m:Int)<=255:=by omega);(have hm0:(0:Int)<=m:=by omega);clear hml hVl h0 hm ha1;go_wp2_with fail;refine HNU.mono ?_;rintro e w2 ⟨u2,rfl,c2⟩;have q0:=(BP.upd u2 (by have:=HG.out;omega)).cell 0;simp at q0;have U2:=hd_ u2;have C2:=hd_ c2;clear u2 c2 HNU;go_upto_region 4 with fail;by_cases hz:m=0
 . simp only [if_pos hz]at hR
   have HRE:=hd_ (show ∀(e0:Int) W,Upd (λb=>b=g) w W->e0=12->R (.returned (.tuple #[.slice none 0 0,.int .i64 e0])) W from λe0 W h he=>hR _ _ ⟨h,by rw [he]⟩);subst hz;clear hR;go_wp2_with fail;refine(Yi _ _ _ (by simp)).mono ?_;rintro e w9 ⟨rfl,rfl⟩;simp only [Qa];have hUP:=U2.out;change Leaves _ _ _ _ _ _ _;refine leaves_cons (f:=100) (args:=#[.pointer (some ⟨H+1,0,none⟩),.func (.func 174) #[] #[.pointer (some ⟨H,0,none⟩)]]) (by simp) (by simp [go_sem]) ?_;refine(Y7 174 #[.pointer (some ⟨H,0,none⟩)] (λb=>b=H) (λW=>Blk W H 33 #[.slice none 0 0]) (H+1) 12 _ w9 (BE.upd hUP (by have:=HG.out;omega)) (by omega) (λ_ _=>rfl) (Q0b H _ w9 (BO.upd hUP (by have:=HG.out;omega)))).mono ?_;rintro e u' w'' ⟨rfl,rfl,w8,u8,b8,rfl⟩;have e8:=((BE.upd hUP (by have:=HG.out;omega)).upd u8 (by omega)).set_ 0 (.int .i64 12);have b9:=b8.far (p:=⟨H+1,0,none⟩) (by simp) (.int .i64 12);have d0:=b9.cell 0;have d1:=e8.cell 0;simp at d0 d1;show Leaves _ _ _ _ [] .returning _;refine⟨.tuple #[.slice none 0 0,.int .i64 12],?_,HRE 12 _ (HLE _ _ hUP u8 _) rfl⟩;simp [results,results129,go_sem,d0,d1]
 simp only [if_neg hz]at hR;(have hzI:(0:Int)<m:=by omega);have HZ:=hd_ hz;clear hz;go_wp2_with fail;refine(YK _ _ _ (by simpa using hzI)).mono ?_;rintro e w9 ⟨rfl,rfl⟩;obtain⟨w5,hw5⟩:=nm_ (w9.alloc (.cells #[.func (.func 177) #[.agg #[.pointer (some ⟨g,0,none⟩)]] #[],.func (.func 178) #[.agg #[.pointer (some ⟨g,0,none⟩)]] #[]] 232));obtain⟨K,hK⟩:=nm_ (w9.heap.size);(have f5:Q0 w9 w5:=by rw [hw5];exact(Upd.refl _ _).alloc _);(have bk:Blk w5 K 232 #[.func (.func 177) #[.agg #[.pointer (some ⟨g,0,none⟩)]] #[],.func (.func 178) #[.agg #[.pointer (some ⟨g,0,none⟩)]] #[]]:=by rw [hw5];exact Qb hK _ _);have HK:=hd_ hK;have HW5:=hd_ hw5;have U5:=hd_ (U2.trans' (f5.mono (T:=λb=>b=g) λ_ _ h=>h.elim));have r0:=(BP.upd U5.out (by have:=HG.out;omega)).cell 0;simp at r0;have HRB:=hd_ (Q66 _ g bs a1 w5 (C2.fresh f5) (λb hb=>HF b hb.1));have HKg:=hd_ (show K≠g by have:=BP.lt;have:=U2.size;have:=HG.out;omega);have BK:=hd_ bk;clear hK hw5 f5 bk C2 U2;go_upto_region 6 with fail;simp only [<-HK.out,<-HW5.out];by_cases hlt:a1<bs.length
 case neg =>
   simp only [if_neg hlt]at HRB hR;have HRE:=hd_ (show ∀(e0:Int) W,Upd (λb=>b=g) w W->e0=3->R (.returned (.tuple #[.slice none 0 0,.int .i64 e0])) W from λe0 W h he=>hR _ _ ⟨h,by rw [he]⟩);clear hR hlt;go_wp2_with fail;refine HRB.mono ?_;rintro e w6 ⟨u6,rfl,-⟩;simp only [Qa];have hUP:=(U5.trans' u6);change Leaves _ _ _ _ _ _ _;refine leaves_cons (f:=100) (args:=#[.pointer (some ⟨H+1,0,none⟩),.func (.func 174) #[] #[.pointer (some ⟨H,0,none⟩)]]) (by simp) (by simp [go_sem]) ?_;refine(Y7 174 #[.pointer (some ⟨H,0,none⟩)] (λb=>b=H) (λW=>Blk W H 33 #[.slice none 0 0]) (H+1) 3 _ w6 (BE.upd hUP (by have:=HG.out;omega)) (by omega) (λ_ _=>rfl) (Q0b H _ w6 (BO.upd hUP (by have:=HG.out;omega)))).mono ?_;rintro e u' w'' ⟨rfl,rfl,w8,u8,b8,rfl⟩;have e8:=((BE.upd hUP (by have:=HG.out;omega)).upd u8 (by omega)).set_ 0 (.int .i64 3);have b9:=b8.far (p:=⟨H+1,0,none⟩) (by simp) (.int .i64 3);have d0:=b9.cell 0;have d1:=e8.cell 0;simp at d0 d1;show Leaves _ _ _ _ [] .returning _;refine⟨.tuple #[.slice none 0 0,.int .i64 3],?_,HRE 3 _ (HLE _ _ hUP u8 _) rfl⟩;simp [results,results129,go_sem,d0,d1]
 simp only [if_pos hlt]at HRB hR;obtain⟨y,hy⟩:=nm_ ((bs[a1]?).getD 0);obtain⟨a2,ha2⟩:=nm_ (a1+1);simp only [<-hy,<-ha2]at HRB hR
 have hyl:y<256:=by
   rw [hy,List.getElem?_eq_getElem hlt];exact HB _ (List.getElem_mem hlt)
 have HA2:=hd_ ha2;have HYL:=hd_ hyl;(have hyI:(y:Int)<256:=by omega);(have hy0:(0:Int)<=y:=by omega);clear hy ha2 hlt hyl;go_wp2_with fail;refine HRB.mono ?_;rintro e w6 ⟨u6,rfl,c6⟩;have U6:=hd_ (U5.trans' u6);have C6:=hd_ c6;have kb:=BK.upd u6 HKg.out;obtain⟨k0,k1⟩:=(kb).cells2;clear u6 c6 HRB r0 kb;go_upto_region 7 with fail;by_cases hyy:y<2
 case neg =>
   simp only [if_neg hyy]at hR;have HRE:=hd_ (show ∀(e0:Int) W,Upd (λb=>b=g) w W->e0=12->R (.returned (.tuple #[.slice none 0 0,.int .i64 e0])) W from λe0 W h he=>hR _ _ ⟨h,by rw [he]⟩);(have hyI2:(2:Int)<=y:=by omega);clear hR hyy;go_wp2_with fail;refine(Yi _ _ _ (by simpa using hyI2)).mono ?_;rintro e w7 ⟨rfl,rfl⟩;simp only [Qa];have hUP:=U6.out;change Leaves _ _ _ _ _ _ _;refine leaves_cons (f:=100) (args:=#[.pointer (some ⟨H+1,0,none⟩),.func (.func 174) #[] #[.pointer (some ⟨H,0,none⟩)]]) (by simp) (by simp [go_sem]) ?_;refine(Y7 174 #[.pointer (some ⟨H,0,none⟩)] (λb=>b=H) (λW=>Blk W H 33 #[.slice none 0 0]) (H+1) 12 _ w7 (BE.upd hUP (by have:=HG.out;omega)) (by omega) (λ_ _=>rfl) (Q0b H _ w7 (BO.upd hUP (by have:=HG.out;omega)))).mono ?_;rintro e u' w'' ⟨rfl,rfl,w8,u8,b8,rfl⟩;have e8:=((BE.upd hUP (by have:=HG.out;omega)).upd u8 (by omega)).set_ 0 (.int .i64 12);have b9:=b8.far (p:=⟨H+1,0,none⟩) (by simp) (.int .i64 12);have d0:=b9.cell 0;have d1:=e8.cell 0;simp at d0 d1;show Leaves _ _ _ _ [] .returning _;refine⟨.tuple #[.slice none 0 0,.int .i64 12],?_,HRE 12 _ (HLE _ _ hUP u8 _) rfl⟩;simp [results,results129,go_sem,d0,d1]
 simp only [if_pos hyy]at hR;(have hyI2:(y:Int)<2:=by omega);have HYY:=hd_ hyy;clear hyy;go_wp2_with fail;refine(YK _ _ _ (by simpa using hyI2)).mono ?_;rintro e w7 ⟨rfl,rfl⟩;have HM2:=HM.out;have HZ2:=HZ.out;have HWY0:=hd_ (Q9r _ g m bs a2 w7 C6.out (by omega) HM2 (λb hb=>HF b hb.1));have HWY1:=hd_ (Q9s _ g m bs a2 w7 C6.out HM2 (λb hb=>HF b hb.1));clear HM2 HZ2 C6;(obtain rfl|rfl:y=0\/y=1:=by have:=HYY.out;omega)
 . clear HWY1
   cases hO:Z4 bs a2 m 0 with
   | inl er =>
     rw [hO]at HWY0;simp only [hO]at hR;have HRE:=hd_ (show ∀(e0:Int) W,Upd (λb=>b=g) w W->e0=er->R (.returned (.tuple #[.slice none 0 0,.int .i64 e0])) W from λe0 W h he=>hR _ _ ⟨h,by rw [he]⟩);clear hR hO;unfold KA at HWY0;go_wp2_with fail;refine HWY0.mono ?_;rintro e w8 ⟨u8,rfl⟩;simp only [Qa];have hUP:=(U6.trans' u8);change Leaves _ _ _ _ _ _ _;refine leaves_cons (f:=100) (args:=#[.pointer (some ⟨H+1,0,none⟩),.func (.func 174) #[] #[.pointer (some ⟨H,0,none⟩)]]) (by simp) (by simp [go_sem]) ?_;refine(Y7 174 #[.pointer (some ⟨H,0,none⟩)] (λb=>b=H) (λW=>Blk W H 33 #[.slice none 0 0]) (H+1) er _ w8 (BE.upd hUP (by have:=HG.out;omega)) (by omega) (λ_ _=>rfl) (Q0b H _ w8 (BO.upd hUP (by have:=HG.out;omega)))).mono ?_;rintro e u' w'' ⟨rfl,rfl,w8,u8,b8,rfl⟩;have e8:=((BE.upd hUP (by have:=HG.out;omega)).upd u8 (by omega)).set_ 0 (.int .i64 er);have b9:=b8.far (p:=⟨H+1,0,none⟩) (by simp) (.int .i64 er);have d0:=b9.cell 0;have d1:=e8.cell 0;simp at d0 d1;show Leaves _ _ _ _ [] .returning _;refine⟨.tuple #[.slice none 0 0,.int .i64 er],?_,HRE er _ (HLE _ _ hUP u8 _) rfl⟩;simp [results,results129,go_sem,d0,d1]
   | inr q =>
     obtain⟨x,u⟩:=q;rw [hO]at HWY0;simp only [hO]at hR;clear hO;unfold KA at HWY0;go_wp2_with fail;refine HWY0.mono ?_;rintro e w8 ⟨u8,A8,n8,c8,rfl,hc8,hn8,r8,d8⟩;have HTR:=hd_ (Q2F _ A8 n8 c8 x w8 r8 (by omega) hc8);have U8:=hd_ (U6.trans' u8);have D8:=hd_ d8;(have hc8I:(n8:Int)<=c8:=by omega);(have hc80:(0:Int)<=n8:=by omega);clear HWY0 u8 d8 r8 hn8;by_cases hok:okW x
     case neg =>
       simp only [if_neg hok]at hR;have HRE:=hd_ (show ∀(e0:Int) W,Upd (λb=>b=g) w W->e0=12->R (.returned (.tuple #[.slice none 0 0,.int .i64 e0])) W from λe0 W h he=>hR _ _ ⟨h,by rw [he]⟩);unfold Kg at HTR;simp only [if_neg hok]at HTR;clear hR hok;go_wp2_with fail;refine HTR.mono ?_;rintro e w11 ⟨f11,rfl⟩;simp only [Qa];have hUP:=(U8.trans' (f11.mono λ_ _ h=>h.elim));change Leaves _ _ _ _ _ _ _;refine leaves_cons (f:=100) (args:=#[.pointer (some ⟨H+1,0,none⟩),.func (.func 174) #[] #[.pointer (some ⟨H,0,none⟩)]]) (by simp) (by simp [go_sem]) ?_;refine(Y7 174 #[.pointer (some ⟨H,0,none⟩)] (λb=>b=H) (λW=>Blk W H 33 #[.slice none 0 0]) (H+1) 12 _ w11 (BE.upd hUP (by have:=HG.out;omega)) (by omega) (λ_ _=>rfl) (Q0b H _ w11 (BO.upd hUP (by have:=HG.out;omega)))).mono ?_;rintro e u' w'' ⟨rfl,rfl,w8,u8,b8,rfl⟩;have e8:=((BE.upd hUP (by have:=HG.out;omega)).upd u8 (by omega)).set_ 0 (.int .i64 12);have b9:=b8.far (p:=⟨H+1,0,none⟩) (by simp) (.int .i64 12);have d0:=b9.cell 0;have d1:=e8.cell 0;simp at d0 d1;show Leaves _ _ _ _ [] .returning _;refine⟨.tuple #[.slice none 0 0,.int .i64 12],?_,HRE 12 _ (HLE _ _ hUP u8 _) rfl⟩;simp [results,results129,go_sem,d0,d1]
     simp only [if_pos hok]at hR;unfold Kg at HTR;simp only [if_pos hok]at HTR;clear hok;go_wp2_with fail;refine HTR.mono ?_;rintro e w11 ⟨f11,v,rfl,o11,hv11⟩;obtain⟨A2,n2,c2,rfl,hn2⟩:=o11.form';have UT:=hd_ (U8.trans' (f11.mono λ_ _ h=>h.elim));have OV:=hd_ o11;have HV:=hd_ hv11;have D11:=hd_ (D8.fresh f11);have bo2:=BO.upd UT.out (by have:=HG.out;omega);have be2:=BE.upd UT.out (by have:=HG.out;omega);have c0:=bo2.cell 0;have z0:=bo2.frozen 0;have c1:=be2.cell 0;have z1:=be2.frozen 0;simp at c0 c1;have BO2:=hd_ bo2;have BE2:=hd_ be2;have HS8:=hd_ (show w1.heap.size<=w8.heap.size from U8.size);clear f11 o11 hv11 hn2 bo2 be2 HTR U8 D8;go_wp2_with fail;change Leaves _ _ _ _ _ _ _;refine leaves_cons (f:=100) (args:=#[.pointer (some ⟨H+1,0,none⟩),.func (.func 174) #[] #[.pointer (some ⟨H,0,none⟩)]]) (by simp) (by simp [go_sem]) ?_;have b2:=((BO2.set_ 0 (.slice A2 n2 c2)).set_ 0 (.slice A2 n2 c2)).far (p:=⟨H+1,0,none⟩) (by simp) (.int .i64 0);have e2:=((BE2.far (p:=⟨H,0,none⟩) (by simp) (.slice A2 n2 c2)).far (p:=⟨H,0,none⟩) (by simp) (.slice A2 n2 c2)).set_ 0 (.int .i64 0);have d0:=b2.cell 0;have d1:=e2.cell 0;simp at d0 d1;refine(KB _ _ _).mono ?_;rintro e u' w'' ⟨rfl,rfl,rfl⟩;have us:Upd (λb=>b=H\/b=H+1) w11 (((w11.setCell ⟨H,0,none⟩ (.slice A2 n2 c2)).setCell ⟨H,0,none⟩ (.slice A2 n2 c2)).setCell ⟨H+1,0,none⟩ (.int .i64 0)):=(((Upd.refl (λb=>b=H\/b=H+1) w11).setCell (p:=⟨H,0,none⟩) (λ_=>.inl rfl) _).setCell (p:=⟨H,0,none⟩) (λ_=>.inl rfl) _).setCell (p:=⟨H+1,0,none⟩) (λ_=>.inr rfl) _;have hH1:H+1<w1.heap.size:=BE.lt;have hD:=(D11.upd us (by have:=HG.out;omega) (λb _ hb h=>by have h1:=hb.2;have:=HH.out;omega)).mono (G:=F) λb hb=>hb.1;rw [show a2+u=at_+(V.2.1+1+u) by have h1:=HA1.out;have h2:=HA2.out;omega]at hD;refine⟨.tuple #[.slice A2 n2 c2,.int .i64 0],by simp [results,results129,go_sem,d0,d1],hR _ _ ⟨((F1.mono (T:=λb=>b=g) λ_ _ h=>h.elim).trans' UT.out).trans us (λb hb e=>by have:=HH.out;omega),_,rfl,OV.upd us (λb hb e=>by have:=HV b hb;have:=HS8.out;omega),λb hb=>by have h1:=HV b hb;have h2:=HH.out;have h3:=HS8.out;omega,hD⟩⟩
 clear HWY0
 cases hO:Z4 bs a2 m 1 with
 | inl er =>
   rw [hO]at HWY1;simp only [hO]at hR;have HRE:=hd_ (show ∀(e0:Int) W,Upd (λb=>b=g) w W->e0=er->R (.returned (.tuple #[.slice none 0 0,.int .i64 e0])) W from λe0 W h he=>hR _ _ ⟨h,by rw [he]⟩);clear hR hO;unfold KA at HWY1;go_wp2_with fail;refine HWY1.mono ?_;rintro e w8 ⟨u8,rfl⟩;simp only [Qa];have hUP:=(U6.trans' u8);change Leaves _ _ _ _ _ _ _;refine leaves_cons (f:=100) (args:=#[.pointer (some ⟨H+1,0,none⟩),.func (.func 174) #[] #[.pointer (some ⟨H,0,none⟩)]]) (by simp) (by simp [go_sem]) ?_;refine(Y7 174 #[.pointer (some ⟨H,0,none⟩)] (λb=>b=H) (λW=>Blk W H 33 #[.slice none 0 0]) (H+1) er _ w8 (BE.upd hUP (by have:=HG.out;omega)) (by omega) (λ_ _=>rfl) (Q0b H _ w8 (BO.upd hUP (by have:=HG.out;omega)))).mono ?_;rintro e u' w'' ⟨rfl,rfl,w8,u8,b8,rfl⟩;have e8:=((BE.upd hUP (by have:=HG.out;omega)).upd u8 (by omega)).set_ 0 (.int .i64 er);have b9:=b8.far (p:=⟨H+1,0,none⟩) (by simp) (.int .i64 er);have d0:=b9.cell 0;have d1:=e8.cell 0;simp at d0 d1;show Leaves _ _ _ _ [] .returning _;refine⟨.tuple #[.slice none 0 0,.int .i64 er],?_,HRE er _ (HLE _ _ hUP u8 _) rfl⟩;simp [results,results129,go_sem,d0,d1]
 | inr q =>
   obtain⟨x,u⟩:=q;rw [hO]at HWY1;simp only [hO]at hR;clear hO;unfold KA at HWY1;go_wp2_with fail;refine HWY1.mono ?_;rintro e w8 ⟨u8,A8,n8,c8,rfl,hc8,hn8,r8,d8⟩;have HTR:=hd_ (Q2F _ A8 n8 c8 x w8 r8 (by omega) hc8);have U8:=hd_ (U6.trans' u8);have D8:=hd_ d8;(have hc8I:(n8:Int)<=c8:=by omega);(have hc80:(0:Int)<=n8:=by omega);clear HWY1 u8 d8 r8 hn8;by_cases hok:okW x
   case neg =>
     simp only [if_neg hok]at hR;have HRE:=hd_ (show ∀(e0:Int) W,Upd (λb=>b=g) w W->e0=12->R (.returned (.tuple #[.slice none 0 0,.int .i64 e0])) W from λe0 W h he=>hR _ _ ⟨h,by rw [he]⟩);unfold Kg at HTR;simp only [if_neg hok]at HTR;clear hR hok;go_wp2_with fail;refine HTR.mono ?_;rintro e w11 ⟨f11,rfl⟩;simp only [Qa];have hUP:=(U8.trans' (f11.mono λ_ _ h=>h.elim));change Leaves _ _ _ _ _ _ _;refine leaves_cons (f:=100) (args:=#[.pointer (some ⟨H+1,0,none⟩),.func (.func 174) #[] #[.pointer (some ⟨H,0,none⟩)]]) (by simp) (by simp [go_sem]) ?_;refine(Y7 174 #[.pointer (some ⟨H,0,none⟩)] (λb=>b=H) (λW=>Blk W H 33 #[.slice none 0 0]) (H+1) 12 _ w11 (BE.upd hUP (by have:=HG.out;omega)) (by omega) (λ_ _=>rfl) (Q0b H _ w11 (BO.upd hUP (by have:=HG.out;omega)))).mono ?_;rintro e u' w'' ⟨rfl,rfl,w8,u8,b8,rfl⟩;have e8:=((BE.upd hUP (by have:=HG.out;omega)).upd u8 (by omega)).set_ 0 (.int .i64 12);have b9:=b8.far (p:=⟨H+1,0,none⟩) (by simp) (.int .i64 12);have d0:=b9.cell 0;have d1:=e8.cell 0;simp at d0 d1;show Leaves _ _ _ _ [] .returning _;refine⟨.tuple #[.slice none 0 0,.int .i64 12],?_,HRE 12 _ (HLE _ _ hUP u8 _) rfl⟩;simp [results,results129,go_sem,d0,d1]
   simp only [if_pos hok]at hR;unfold Kg at HTR;simp only [if_pos hok]at HTR;clear hok;go_wp2_with fail;refine HTR.mono ?_;rintro e w11 ⟨f11,v,rfl,o11,hv11⟩;obtain⟨A2,n2,c2,rfl,hn2⟩:=o11.form';have UT:=hd_ (U8.trans' (f11.mono λ_ _ h=>h.elim));have OV:=hd_ o11;have HV:=hd_ hv11;have D11:=hd_ (D8.fresh f11);have bo2:=BO.upd UT.out (by have:=HG.out;omega);have be2:=BE.upd UT.out (by have:=HG.out;omega);have c0:=bo2.cell 0;have z0:=bo2.frozen 0;have c1:=be2.cell 0;have z1:=be2.frozen 0;simp at c0 c1;have BO2:=hd_ bo2;have BE2:=hd_ be2;have HS8:=hd_ (show w1.heap.size<=w8.heap.size from U8.size);clear f11 o11 hv11 hn2 bo2 be2 HTR U8 D8;go_wp2_with fail;change Leaves _ _ _ _ _ _ _;refine leaves_cons (f:=100) (args:=#[.pointer (some ⟨H+1,0,none⟩),.func (.func 174) #[] #[.pointer (some ⟨H,0,none⟩)]]) (by simp) (by simp [go_sem]) ?_;have b2:=((BO2.set_ 0 (.slice A2 n2 c2)).set_ 0 (.slice A2 n2 c2)).far (p:=⟨H+1,0,none⟩) (by simp) (.int .i64 0);have e2:=((BE2.far (p:=⟨H,0,none⟩) (by simp) (.slice A2 n2 c2)).far (p:=⟨H,0,none⟩) (by simp) (.slice A2 n2 c2)).set_ 0 (.int .i64 0);have d0:=b2.cell 0;have d1:=e2.cell 0;simp at d0 d1;refine(KB _ _ _).mono ?_;rintro e u' w'' ⟨rfl,rfl,rfl⟩;have us:Upd (λb=>b=H\/b=H+1) w11 (((w11.setCell ⟨H,0,none⟩ (.slice A2 n2 c2)).setCell ⟨H,0,none⟩ (.slice A2 n2 c2)).setCell ⟨H+1,0,none⟩ (.int .i64 0)):=(((Upd.refl (λb=>b=H\/b=H+1) w11).setCell (p:=⟨H,0,none⟩) (λ_=>.inl rfl) _).setCell (p:=⟨H,0,none⟩) (λ_=>.inl rfl) _).setCell (p:=⟨H+1,0,none⟩) (λ_=>.inr rfl) _;have hH1:H+1<w1.heap.size:=BE.lt;have hD:=(D11.upd us (by have:=HG.out;omega) (λb _ hb h=>by have h1:=hb.2;have:=HH.out;omega)).mono (G:=F) λb hb=>hb.1;rw [show a2+u=at_+(V.2.1+1+u) by have h1:=HA1.out;have h2:=HA2.out;omega]at hD;refine⟨.tuple #[.slice A2 n2 c2,.int .i64 0],by simp [results,results129,go_sem,d0,d1],hR _ _ ⟨((F1.mono (T:=λb=>b=g) λ_ _ h=>h.elim).trans' UT.out).trans us (λb hb e=>by have:=HH.out;omega),_,rfl,OV.upd us (λb hb e=>by have:=HV b hb;have:=HS8.out;omega),λb hb=>by have h1:=HV b hb;have h2:=HH.out;have h3:=HS8.out;omega,hD⟩⟩
theorem Q67 (Fk:Nat->Prop) (K qc:Nat) (cb:List Nat) (w:World) (hck:Q4 w Fk K cb 0) (hF:∀b,Fk b->b≠K) (bc:Blk w qc 46 #[.pointer (some ⟨K,0,none⟩)]) :
   Calls prog 128 #[.pointer (some ⟨qc,0,none⟩)] w λe w'=>Upd (λb=>b=K) w w'/\match JS cb 0 with
     | .inl er=>∃v,e = .returned (.tuple #[v,.int .i64 er])
     | .inr (x,u)=>∃v,e = .returned (.tuple #[v,.int .i64 0])/\Own w' 3 v (Q7 x)/\(∀b,v.ownBlock=some b->w.heap.size<=b)/\Q4 w' Fk K cb u:=by
 have HD:=hd_ (Q9t Fk K cb 0 w hck hF);have x0:=bc.cell 0;simp at x0;clear hck hF bc;unfold Q3O at HD;refine Q8 λR hR=>?_;go_enter func128,ntmps128
 cases ho:JS cb 0 with
 | inl er =>
   rw [ho]at HD hR;simp only at HD hR;go_wp2_with fail;refine HD.mono ?_;rintro e w1 ⟨u1,rfl⟩;have U1:=hd_ u1;clear u1 HD;go_wp2_with fail;(try go_ret2);exact hR _ _ ⟨U1.out,_,rfl⟩
 | inr q =>
   obtain⟨x,u⟩:=q;rw [ho]at HD hR;simp only [Nat.zero_add]at HD hR;go_wp2_with fail;refine HD.mono ?_;rintro e w1 ⟨u1,v,rfl,o1,h1,c1⟩;have U1:=hd_ u1;have O1:=hd_ o1;have H1:=hd_ h1;have C1:=hd_ c1;clear u1 o1 h1 c1 HD;go_wp2_with fail;(try go_ret2);exact hR _ _ ⟨U1.out,_,rfl,O1.out,H1.out,C1.out⟩
theorem Q9u {l:List Nat} {m:Nat} {er:Int} (h:KQ l m = .inl er):er≠0:=by
 unfold KQ at h;split at h
 . split at h
   . cases h
   injection h with h;omega
 injection h with h;omega
theorem Q85 {bs:List Nat} {a m:Nat} {er:Int} (h:Zh bs a m = .inl er):er≠0:=by
 unfold Zh at h;split at h
 . next h2=>injection h with h;subst h;exact ZX h2
 split at h
 . split at h
   . split at h
     . next h2=>injection h with h;subst h;exact Xs h2
     cases h
   injection h with h;omega
 next h2=>injection h with h;rw [<-h];exact h2
theorem Q19 {bs:List Nat} {a:Nat} {er:Int} (h:JS bs a = .inl er):er≠0:=by
 unfold JS at h;split at h
 . split at h
   . injection h with h;omega
   split at h
   . split at h
     . split at h
       . next h2 =>
         injection h with h;subst h;unfold Z4 at h2;split at h2
         . split at h2
           . next h3=>injection h2 with h2;subst h2;exact Q9u h3
           cases h2
         exact Q85 h2
       split at h
       . cases h
       injection h with h;omega
     injection h with h;omega
   injection h with h;omega
 next h2=>injection h with h;rw [<-h];exact h2
theorem Q2L {bs:List Nat} {a u:Nat} {t:List Int} (h:JS bs a = .inr (t,u)):t.length<=256:=by
 unfold JS at h;split at h
 . split at h
   . cases h
   split at h
   . split at h
     . split at h
       . cases h
       split at h
       . next hk=>injection h with h;injection h with h1 h2;rw [<-h1];have:=hk.2.1;simp [KT];omega
       cases h
     cases h
   cases h
 cases h
def Q3g (fo:Bool) (bs:List Nat) (at_ s:Nat):Int ⊕ (List Nat × List Int × Nat) :=
  match J7 (bs.drop at_)with
  | .inl er=>.inl er
  | .inr (u,m)=>match JS ((bs.drop (at_+u)).take m) 0 with
    | .inl er=>.inl er
    | .inr (t,k)=>match YN fo t (((bs.drop (at_+u)).take m).drop k) s with
      | .inl er=>.inl er
      | .inr x=>.inr (x,t,at_+u+m)
def JH (T F:Nat->Prop) (pr g:Nat) (bs:List Nat) (q:Int ⊕ (List Nat × List Int × Nat)) (w:World) (e:Ending) (w':World):Prop :=
  Upd (λb=>b=g\/b=pr) w w'/\match q with
    | .inl er=>e=Qa er
    | .inr (x,t,u)=>XX w x e w'/\Q4 w' F g bs u/\∃B m d,m<=d/\Blk w' pr 101 #[.pointer (some ⟨g,0,none⟩),.slice B m d]/\Rd w' (λb=>T b\/w.heap.size<=b) B m (Q7 t)
theorem Q86 (T F:Nat->Prop) (g pr s:Nat) (kd:Int) (fo:Bool) (tv:Value) (bs:List Nat) (at_:Nat) (w:World) (hcu:Q4 w F g bs at_) (hF:∀b,F b->b≠g) (hFp:∀b,F b->b≠pr)
   (br:Blk w pr 101 #[.pointer (some ⟨g,0,none⟩),tv]) (hpg:pr≠g) (hs:s<=131072) :
   Calls prog 70 #[.pointer (some ⟨pr,0,none⟩),.agg #[.int .i64 kd,.bool fo,.int .i64 (s:Nat)]] w (JH T F pr g bs (Q3g fo bs at_ s) w):=by
 have hmf:∀(fn:Fn) (first cap:Array Value) (w:World),(Instr.makeFunc fn first cap).run prog w = .ok (.func fn first cap) w:=λ_ _ _ _=>rfl;obtain⟨w0,H,hw0,hH,f0,b0⟩:=al_ w 41 #[.int .i64 kd,.bool fo,.int .i64 (s:Nat)];(have hHg:H≠g:=by have:=hcu.lt;omega);(have hHp:H≠pr:=by have:=br.lt;omega);have HPT:=hd_ (Vx _ g pr tv bs at_ w0 (hcu.both.fresh f0) (λb hb=>hF b hb.1) (br.fresh f0) hpg);unfold Ka at HPT;have hgl:=hcu.lt;have hpl:=br.lt;have HX:=hd_ (And.intro hF (And.intro hFp (And.intro hs (And.intro hHg (And.intro hHp (And.intro hpg (And.intro hgl hpl)))))));have HH:=hd_ hH;have HW:=hd_ hw0;have F0:=hd_ f0;have B0:=hd_ b0;have BR:=hd_ (br.fresh f0);unfold Q3g;clear hcu hF hFp br hpg hs hw0 hH f0 b0 hHg hHp hgl hpl;refine Q8 λR hR=>?_;unfold JH at hR;go_enter func70,ntmps70;go_upto_region 1 with fail;simp only [<-HH.out,<-HW.out];have HU:=hd_ (show ∀W,Upd (λb=>b=g) w0 W->Upd (λb=>b=g\/b=pr) w W from λW h=>(F0.mono (T:=λb=>b=g\/b=pr) λ_ _ h=>h.elim).trans' (h.mono λ_ _ h=>.inl h))
 cases hp:J7 (bs.drop at_)with
 | inl er =>
   simp only [hp]at HPT hR;clear hp;go_wp2_with fail;refine HPT.mono ?_;rintro e w1 ⟨u1,rfl⟩;simp only [Qa];exact⟨rfl,hR _ _ ⟨HU _ u1,rfl⟩⟩
 | inr q =>
   obtain⟨u,m⟩:=q;simp only [hp]at HPT hR;obtain⟨cb,hcb⟩:=nm_ ((bs.drop (at_+u)).take m);obtain⟨a,ha⟩:=nm_ (at_+u+m);simp only [<-hcb,<-ha]at HPT hR;clear hp hcb ha;go_wp2_with fail;refine HPT.mono ?_;rintro e w1 ⟨u1,K,rfl,hK,ck,cu⟩;have U1:=hd_ u1;have CU:=hd_ cu;have HK:=hd_ hK;clear HPT;go_upto_region 2 with fail;obtain⟨w2,hw2⟩:=nm_ (w1.alloc (.cells #[.pointer (some ⟨K,0,none⟩)] 46));obtain⟨Q,hQ⟩:=nm_ (w1.heap.size);simp only [<-hw2,<-hQ];(have f2:Q0 w1 w2:=by rw [hw2];exact(Upd.refl _ _).alloc _);(have bq:Blk w2 Q 46 #[.pointer (some ⟨K,0,none⟩)]:=by rw [hw2];exact Qb hQ _ _);(have hKQ:K<Q:=by have:=ck.lt;omega);have CK:=hd_ (ck.both.fresh f2);have HT:=hd_ (Q67 _ K Q cb w2 (ck.both.fresh f2) (λb hb=>hb.1.2) bq);have hHl:=B0.lt;have HN:=hd_ (show g<K/\pr<K/\H<K/\K<Q by have:=HX.2.2.2.2.2.2;have:=F0.size;omega);have BQ:=hd_ bq;have HQ:=hd_ hQ;have F2:=hd_ f2;clear hw2 hQ f2 bq hKQ ck cu u1 hK hHl
   cases ho:JS cb 0 with
   | inl er =>
     have hne:=Q19 ho;simp only [ho]at HT hR
     have HL:=hd_ (Q7l 128 #[.pointer (some ⟨Q,0,none⟩)] er w2 (λ_ _=>rfl) (λw'=>Upd (λb=>b=K) w2 w') hne
       (HT.mono λe w' h=>by obtain⟨h1,v,h2⟩:=h;exact⟨v,h2,h1⟩))
     clear HT ho hne;go_wp2_with fail;refine HL.mono ?_;rintro e w4 ⟨w3,rfl,u3,f4⟩;simp only [Qa];exact⟨rfl,hR _ _ ⟨HU _ (((U1.trans (F2.out) (λ_ _ h=>h.elim)).trans u3 (λb hb e=>by have:=HK.out;omega)).trans f4 (λ_ _ h=>h.elim)),rfl⟩⟩
   | inr q =>
     obtain⟨t,k⟩:=q;simp only [ho]at HT hR
     have HL:=hd_ (Q7k 128 #[.pointer (some ⟨Q,0,none⟩)] w2 (λ_ _=>rfl) (λv w'=>Upd (λb=>b=K) w2 w'/\Own w' 3 v (Q7 t)/\(∀b,v.ownBlock=some b->w2.heap.size<=b)/\Q4 w' _ K cb k)
       (HT.mono λe w' h=>by obtain⟨h1,v,h2,h3⟩:=h;exact⟨v,h2,h1,h3⟩))
     have HTL:=hd_ (Q2L ho);clear HT ho;go_wp2_with fail;refine HL.mono ?_;rintro e w4 ⟨v,w3,rfl,⟨u3,o3,n3,c3⟩,f4⟩;obtain⟨B,n,d,rfl,hn⟩:=o3.form';obtain⟨h4,h5,h6⟩:=o3.rd rfl;rw [<-h4]at h5 h6;have U4:=hd_ (((U1.trans (F2.out) (λ_ _ h=>h.elim)).trans u3 (λb hb e=>by have:=HK.out;omega)).trans f4 (λ_ _ h=>h.elim));have U34:=hd_ (u3.trans f4 (λ_ _ h=>h.elim));have br4:=BR.upd U4.out (HX.2.2.2.2.2.1);have R4:=hd_ ((h6.fresh f4).mono (G:=λb=>w2.heap.size<=b) λb hb=>n3 b hb);have H5:=hd_ h5;have HNL:=hd_ (show n=t.length by have:=h6.1;rw [Qz]at this;omega);have C4:=hd_ (c3.fresh f4);have x0:=br4.cell 0;have x1:=br4.cell 1;have z1:=br4.frozen 1;simp at x0 x1;have BR4:=hd_ br4;clear u3 o3 n3 c3 f4 hn h4 h5 h6 br4 HL;go_upto_region 3 with fail;obtain⟨w5,hw5⟩:=nm_ (w4.setCell ⟨pr,1,none⟩ (.slice B n d));simp only [<-hw5];(have u5:Upd (λb=>b=pr) w4 w5:=by rw [hw5];exact(Upd.refl (λb=>b=pr) w4).setCell (p:=⟨pr,1,none⟩) (λ_=>rfl) _);(have br5:Blk w5 pr 101 #[.pointer (some ⟨g,0,none⟩),.slice B n d]:=by rw [hw5];have:=BR4.set_ 1 (.slice B n d);simpa using this);have hN:=HN.out;have hsz4:=U4.size;have hsz1:=U1.size;have hsz0:=F0.size;have hsz2:=F2.size;have hK:=HK.out;have hQl:=BQ.lt;have hpw:=HX.2.2.2.2.2.2.2;have hgw:=HX.2.2.2.2.2.2.1;have r5:=R4.upd u5 (λb _ hb e=>by omega);have c5:=C4.upd u5 (by omega) (λb _ hb e=>by have:=hb.1.1;omega);have HTR:=hd_ (Xe _ _ g pr K s n d kd fo B t cb k (cb.drop k) rfl w5 c5 r5 H5.out (by have:=HTL.out;have:=HNL.out;omega) br5 HX.2.2.1);have U5:=hd_ (HU _ U4.out |>.trans' (u5.mono λ_ _ h=>.inr h));have b5:=(B0.upd U4.out HX.2.2.2.1).upd u5 HX.2.2.2.2.1;have q5:=(BQ.upd U34.out (by omega)).upd u5 (by omega);have cu5:=(((CU.fresh F2.out).upd U34.out (by omega) (λb _ hb e=>by have:=hb.2;omega)).upd u5 HX.2.2.2.2.2.1.symm (λb _ hb e=>HX.2.1 b hb.1 e)).mono (G:=F) λb hb=>hb.1;have y0:=b5.cell 0;have y1:=b5.cell 1;have y2:=b5.cell 2;have y3:=q5.cell 0;simp at y0 y1 y2 y3;have BR5:=hd_ br5;have CU5:=hd_ cu5;have R5:=hd_ r5;have HS:=hd_ (show w.heap.size<=w5.heap.size/\w.heap.size<=w2.heap.size by have:=u5.size;omega);clear hw5 u5 br5 hN hsz4 hsz1 hsz0 hsz2 hK hQl hpw hgw r5 c5 b5 q5 cu5 C4 x0 x1 z1 BR4 U34
     cases htd:YN fo t (cb.drop k) s with
     | inl er =>
       unfold ZI at HTR;simp only [htd]at HTR hR;clear htd;go_wp2_with fail;refine HTR.mono ?_;rintro e w6 ⟨f6,rfl⟩;simp only [Qa];exact⟨rfl,hR _ _ ⟨U5.trans f6 (λ_ _ h=>h.elim),rfl⟩⟩
     | inr x =>
       unfold ZI at HTR;simp only [htd]at HTR hR;clear htd;go_wp2_with fail;refine HTR.mono ?_;rintro e w6 ⟨f6,A6,n6,c6,rfl,hc6,r6⟩;have F6:=hd_ f6;have R6:=hd_ r6;have HC6:=hd_ hc6;clear f6 hc6 r6 HTR;go_wp2_with fail;(try go_ret);refine hR.out _ _ ⟨U5.trans F6.out (λ_ _ h=>h.elim),⟨A6,n6,c6,rfl,HC6.out,R6.mono λb hb=>by have:=HS.out;omega⟩,CU5.fresh F6.out,B,n,d,H5.out,BR5.fresh F6.out,(R5.fresh F6.out).mono λb hb=>.inr (by have:=HS.out;omega)⟩
theorem Q87 (f:Nat):∀(i n:Nat) (l:List Nat),(YM f i n l).2.2=0->(YM f i n l).2.1<=i+l.length:=by
 induction f with
 | zero=>intro i n l h;simp [YM]at h
 | succ f ih =>
   intro i n l h
   cases l with
   | nil=>simp [YM]at h
   | cons x xs =>
     unfold YM at h|-;split at h
     . next h1=>rw [if_pos h1];have:=ih _ _ _ h;rw [List.length_cons];omega
     next h1 =>
     rw [if_neg h1];split at h
     . simp at h
     next h2 =>
     rw [if_neg h2];split at h
     . simp at h
     next h3=>rw [if_neg h3,List.length_cons];simp only;omega
theorem VD {l:List Nat} (h:(Qt l).2.2=0):(Qt l).2.1<=l.length:=by
 have:=Q87 9 0 0 l h;unfold Qt;omega
theorem Q0k {most:Nat} {l:List Nat} (h:(Qn most l).2.2=0):(Qn most l).2.1<=l.length:=by
 unfold Qn at h|-;split
 . simp
 next h2=>rw [if_neg h2]at h;exact VD h
def Q3P (F:Nat->Prop) (a:Nat) (cs:List Nat) (w:World) (e:Ending):Prop :=
  match J7 (cs.drop a)with
  | .inl er=>e = .returned (.tuple #[.slice none 0 0,.int .i64 (a:Nat),.int .i64 er])
  | .inr (u,m)=>∃B c,e = .returned (.tuple #[.slice B m c,.int .i64 (a+u+m:Nat),.int .i64 0])/\m<=c/\Rd w F B m (Q2 ((cs.drop (a+u)).take m))
theorem Q68 (F:Nat->Prop) (A:Option Addr) (n c:Nat) (cs:List Nat) (a:Nat) (w:World) (hr:Rd w F A n (Q2 cs)) (hlt:∀b∈cs,b<256) (hc:n<=c) (hn:n<=100000) (ha:a<=n) :
   Calls prog 56 #[.slice A n c,.int .i64 (a:Nat)] w λe w'=>Q3P F a cs w e/\w=w':=by
 have HG:=hd_ (Q0h F A n c cs a w hr hlt hn ha);(have hcL:cs.length=n:=by have:=hr.1;simpa using this);have hsm:(Qt (cs.drop a)).1<=4611686018427387903:=Q24 _;(have hu:(Qt (cs.drop a)).2.2=0->a+(Qt (cs.drop a)).2.1<=n:=λh=>by have:=VD h;rw [List.length_drop]at this;omega);have HR:=hd_ (λx m (h:x+m<=n)=>hr.cutAt (a:=x) (m:=m) h hc);(have hnI:(n:Int)<=100000:=by omega);have HC:=hd_ hc;(have hcI:(n:Int)<=c:=by omega);unfold Zi at HG;unfold Q3P J7;rw [List.length_drop,hcL];clear hr hlt hc hn hcL;generalize Qt (cs.drop a)=V at *;obtain⟨x,u,er⟩:=V;simp only at HG hsm hu|-;(have ha0:(0:Int)<=a:=by omega);(have haI:(a:Int)<=n:=by omega);have HA:=hd_ ha;clear ha;refine Q8 λR hR=>?_;go_enter func56,ntmps56;by_cases h0:er=0
 . subst h0
   have h1:=hu rfl;simp only [if_true]at hR;obtain⟨s,hs⟩:=nm_ (a+u)
   have HG2:=hd_ (HG.mono λe w' h=>(show e = .returned (.tuple #[.int .u64 (x:Nat),.int .i64 (s:Nat),.int .i64 0])/\w=w' from by
     obtain⟨⟨y,q,h1,h2⟩,h3⟩:=h;obtain⟨rfl,rfl⟩:=h2 rfl;rw [hs]
     exact⟨h1,h3⟩))
   rw [<-hs]at h1;have HS:=hd_ (show n-a-u=n-s by omega);rw [HS.out]at hR;(have hsI:(s:Int)<=n:=by omega);(have hs0:(0:Int)<=s:=by omega);(have hwm:IntKind.u64.wrap ((n:Int)-s)=(n:Int)-s:=by unfold IntKind.wrap;simp [IntKind.bits];omega);have hwv:IntKind.i64.wrap (x:Int)=x:=IntWalk.i64_in _ (by omega);have H1:=hd_ h1;clear HG hsm hu HS haI ha0;by_cases hk:x<=n-s
   . simp only [if_pos hk,<-hs]at hR
     clear hs;(have hkI:(s:Int)+x<=n:=by omega);(have hkJ:(x:Int)<=n-s:=by omega);have HK:=hd_ hk;clear hk h1;go_wp2_with fail;refine HG2.mono ?_;rintro e w1 ⟨rfl,rfl⟩;go_wp2_with fail;(all_goals try go_ret3);(all_goals refine hR.out _ _ ⟨⟨_,_,rfl,?_,?_⟩,rfl⟩);(all_goals first|(have:=HC.out;have:=HK.out;have:=H1.out;omega)|(have h:=HR s x (by have:=HK.out;have:=H1.out;omega);split at h<;>first|exact h|omega))
   simp only [if_neg hk]at hR;clear hs;(have hkJ:(n:Int)-s<x:=by omega);clear hk h1;go_wp2_with fail;refine HG2.mono ?_;rintro e w1 ⟨rfl,rfl⟩;go_wp2_with fail;(try go_ret3);exact hR _ _ ⟨rfl,rfl⟩
 simp only [if_neg h0]at hR;(have hb:(er != 0)=true:=by simpa using h0);clear hsm hu h0;go_wp2_with fail;refine HG.mono ?_;rintro e w1 ⟨⟨y,q,rfl,h2⟩,rfl⟩;clear h2;go_wp2_with fail;(try go_ret3);exact hR _ _ ⟨rfl,rfl⟩
theorem Q88 (cl:Value) (w:World) :
   Calls prog 165 #[.pointer none,cl] w λe w'=>e = .returned (.tuple #[.int .u8 0,.int .i64 1])/\Q0 w w':=by
 obtain⟨H,hH⟩:=nm_ (w.heap.size);refine Q8 λR hR=>?_;go_enter_defers func165,ntmps165;go_wp2_with fail;have d1:=((Qb (w:=w.alloc (.cells #[.pointer none] 46)) rfl 5 #[.int .u8 0]).alloc (.cells #[.int .i64 1] 24)).cell 0;have d2:=(Qb (w:=(w.alloc (.cells #[.pointer none] 46)).alloc (.cells #[.int .u8 0] 5)) rfl 24 #[.int .i64 1]).cell 0;simp at d1 d2;change Leaves _ _ _ _ _ _ _;show Leaves _ _ _ _ [] .returning _;refine⟨.tuple #[.int .u8 0,.int .i64 1],?_,hR _ _ ⟨rfl,(((Upd.refl _ _).alloc _).alloc _).alloc _⟩⟩;simp [results,results165,go_sem,d1,d2]
theorem Q89 (w:World) :
   Calls prog 120 #[.pointer none] w λe w'=>e = .returned (.tuple #[.int .u8 0,.int .i64 1])/\Q0 w w':=by
 have hmf:∀(fn:Fn) (first cap:Array Value) (w:World),(Instr.makeFunc fn first cap).run prog w = .ok (.func fn first cap) w:=λ_ _ _ _=>rfl;refine Q8 λR hR=>?_;go_enter func120,ntmps120;go_wp2_with fail;refine(Q88 _ _).mono ?_;rintro e w1 ⟨rfl,f1⟩;go_wp2;(try go_ret2);exact hR _ _ ⟨rfl,((Upd.refl _ w).alloc _).trans' f1⟩
theorem Q26 (w:World) :
   Calls prog 119 #[.func (.func 120) #[.pointer none] #[]] w λe w'=>e=Qa 1/\Q0 w w':=by
 refine Q8 λR hR=>?_;go_enter func119,ntmps119;go_wp2_with fail;refine(Q89 w).mono ?_;rintro e w1 ⟨rfl,u1⟩;have U1:=hd_ u1;clear u1;go_wp2_with fail;refine(Je 1 _ _ _ (by simpa using(Blk.new w1 24 #[.int .i64 1]).cell 0) (by decide)).mono ?_;rintro e w2 ⟨rfl,rfl⟩;simp only [Qa];exact⟨rfl,hR _ _ ⟨rfl,U1.alloc _⟩⟩
theorem Q8a (pr:Nat) (tv:Value) (w:World) (br:Blk w pr 101 #[.pointer none,tv]) :
   Calls prog 65 #[.pointer (some ⟨pr,0,none⟩)] w λe w'=>e=Qa 1/\Q0 w w':=by
 have hmf:∀(fn:Fn) (first cap:Array Value) (w:World),(Instr.makeFunc fn first cap).run prog w = .ok (.func fn first cap) w:=λ_ _ _ _=>rfl;obtain⟨w0,H,hw0,hH,f0,-⟩:=al_ w 41 #[.int .i64 0,.bool false,.int .i64 0];have c0:=(br.fresh f0).cell 0;simp at c0;have F0:=hd_ f0;have HW:=hd_ hw0;have HH:=hd_ hH;clear hw0 hH f0 br;refine Q8 λR hR=>?_;go_enter func65,ntmps65;go_upto_region 1 with fail;simp only [<-HH.out,<-HW.out];go_wp2_with fail;refine(Q26 w0).mono ?_;rintro e w1 ⟨rfl,f1⟩;simp only [Qa];exact⟨rfl,hR _ _ ⟨rfl,F0.trans' f1⟩⟩
theorem Ji.view {w wr w2 w3:World} {Ls:Nat->List Nat} {i:Nat} {v v2:Value} {vs:List Value} {A:Option Addr} {n c:Nat} (hvl:vs.length=i) (ov:Own wr 22 v vs) (fv:Q0 w wr) (ob:∀b,v.ownBlock=some b->w.heap.size<=b)
   (one:∀u∈vs,u.oneCell'=true) (hp:∀j,j<i->∃A n c,vs[j]?=some (.slice A n c)/\Rd wr (λb=>v.ownBlock≠some b) A n (Q2 (Ls j))) (hr:Rd wr (λb=>b<w.heap.size) A n (Q2 (Ls i))) (f2:Q0 wr w2)
   (ho:Own w3 22 v2 (vs++[.slice A n c])) (hg:w2.grownBy w3 v.ownBlock) (ha:v2.ownBlock=v.ownBlock\/v2.ownBlock=some w2.heap.size):Ji w Ls (i+1) v2 w3:=by
 have hu:Upd (λb=>v.ownBlock=some b) w2 w3:=(Upd.refl _ w2).grown hg (λk e _=>e);have fw2:Q0 w w2:=fv.trans' f2
 have hne:∀(B:Option Addr) (k:Nat) (L:List Nat),Rd w2 (λb=>v.ownBlock≠some b) B k (Q2 L)->Rd w3 (λb=>v2.ownBlock≠some b) B k (Q2 L):=λB k L h =>
   (h.both.upd hu (λb _ hb e=>hb.1 e)).mono λb hb e=>by
     rcases ha with h2|h2
     . exact hb.1 (h2 ▸ e)
     rw [h2]at e;injection e with e;have:=hb.2;omega
 refine⟨vs++[.slice A n c],by simp [hvl],ho,fw2.grown hg (λk hk hlt=>by have:=ob k hk;omega),λb hb=>?_,λu hu=>?_,λj hj=>?_⟩
 . rcases ha with h2|h2
   . exact ob b (h2 ▸ hb)
   rw [h2]at hb;injection hb with hb;have:=fw2.size;omega
 . rcases List.mem_append.1 hu with h|h
   . exact one u h
   simp at h;subst h;rfl
 rcases Nat.lt_succ_iff_lt_or_eq.1 hj with h|rfl
 . obtain⟨B,k,d,hv,hr⟩:=hp j h
   exact⟨B,k,d,by rw [List.getElem?_append_left (by omega)];exact hv,hne B k _ (hr.fresh f2)⟩
 exact⟨A,n,c,by rw [<-hvl];simp,hne A n _ ((hr.mono λb hb e=>by have:=ob b e;omega).fresh f2)⟩
theorem Ji.up {w w0 W:World} {Ls:Nat->List Nat} {i:Nat} {v:Value} (h:Ji w0 Ls i v W) (f:Q0 w w0):Ji w Ls i v W:=by
 obtain⟨vs,hvl,ov,fv,ob,one,hp⟩:=h;exact⟨vs,hvl,ov,f.trans' fv,λb hb=>Nat.le_trans f.size (ob b hb),one,hp⟩
theorem Q27 {bs:List Nat} {a:Nat} (ha:a<=bs.length):∀ {i:Nat},(∀j,j<i->(QO bs a j).2.2=0)->Ju bs a i<=bs.length
 | 0,_=>ha
 | i+1,h=>by
   have ih:=Q27 ha (i:=i) λj hj=>h j (by omega)
   have h1:=Q0k (h i (by omega))
   rw [List.length_drop]at h1
   show Ju bs a i+(Qn 131072 (bs.drop (Ju bs a i))).2.1<=_
   omega
def Q69 (cb:List Nat) (w:World) (e:Ending) (w':World):Prop :=
  if YY cb 0=0 then if stF cb 0 3<=cb.length then ∃v,e = .returned (.tuple #[v,.int .i64 0])/\Ji w (YR cb 0) 4 v w' else e = .returned (.tuple #[.slice none 0 0,.int .i64 3])/\Q0 w w'
  else e = .returned (.tuple #[.slice none 0 0,.int .i64 (YY cb 0)])/\Q0 w w'
theorem Q6a (G:Nat->Prop) (B:Option Addr) (m d:Nat) (cb:List Nat) (w:World) (hbs:Rd w G B m (Q2 cb)) (hlt:∀b∈cb,b<256) (hm:m<=100000) (hd:m<=d) :
   Calls prog 164 #[.slice B m d] w (Q69 cb w):=by
 (have hL:cb.length=m:=by have:=hbs.1;simpa using this);obtain⟨w0,H,hw0,hH,f0,-⟩:=al_ w 266 #[.int .i64 0,.int .i64 0,.int .i64 0];(have b0:Blk w0 H 266 (Zt λ_=>0):=by rw [hw0];exact Qb hH _ _);have HB:=hd_ (hbs.both.fresh f0);have HB1:=hd_ (show Rd w0 (λb=>b<H) B m (Q2 cb)from(hbs.both.fresh f0).mono λb hb=>by rw [hH];exact hb.2);have HNU:=hd_ (λW (hW:Upd (λb=>b=H) w0 W) a (ha:a<=m)=>Q0i _ B m d cb a 131072 W (HB1.upd hW (λb _ hb e=>by omega)) hlt hm ha (by omega));have HBY:=hd_ (λW (hW:Upd (λb=>b=H) w0 W) a k (ha:a<=m) (hk:k<=2^40)=>Ko _ B m d cb a k W (HB1.upd hW (λb _ hb e=>by omega)) hd hm ha hk);have F0:=hd_ f0;have B0:=hd_ b0;have HW:=hd_ hw0;have HH:=hd_ hH;have HL:=hd_ hL;have HM:=hd_ hm;have HD:=hd_ hd;have HMD:=hd_ (show(m:Int)<=d by omega);(have hmI:(m:Int)<=100000:=by omega);clear hbs hlt hm hd hL hw0 hH f0 b0;refine Q8 λR hR=>?_;unfold Q69 at hR;go_enter func164,ntmps164;go_upto_region 2 with fail;simp only [<-HH.out,<-HW.out];go_wp2_with fail;go_loopg [5,6] 3 (λf va vi wr=>∃i:Nat,i+f=3/\vi = .int .i64 (i:Nat)/\va = .int .i64 (Ju cb 0 i:Nat)/\Blk wr H 266 (Zt λj=>if j<i then(QO cb 0 j).1 else 0)/\Upd (λb=>b=H) w0 wr/\∀j,j<i->(QO cb 0 j).2.2=0)
 case atStart=>exact⟨0,rfl,rfl,rfl,B0.out,Upd.refl _ _,λj hj=>absurd hj (Nat.not_lt_zero _)⟩
 case round =>
   obtain⟨i,hi,rfl,rfl,bw,ur,hall⟩:=hrel;obtain⟨w2,rfl⟩:=nm_ (wr);have hps:=Q27 (bs:=cb) (a:=0) (Nat.zero_le _) hall;rw [HL.out]at hps;have BW:=hd_ bw;have UR:=hd_ ur;have HALL:=hd_ hall;have HI:=hd_ hi;clear bw ur hall hi;by_cases hlt:i<3
   . have hlI:(i:Int)<3:=by omega
     have HN:=hd_ (HNU w2 UR.out (Ju cb 0 i) hps);have HPS:=hd_ (show Ju cb 0 (i+1)=Ju cb 0 i+(Qn 131072 (cb.drop (Ju cb 0 i))).2.1 from rfl);have HVI:=hd_ (show QO cb 0 i=Qn 131072 (cb.drop (Ju cb 0 i))from rfl);obtain⟨p,hp⟩:=nm_ (Ju cb 0 i);simp only [<-hp]at HN HPS HVI hps|-;obtain⟨V,hV⟩:=nm_ (Qn 131072 (cb.drop p));unfold Q1y at HN;rw [<-hV]at HN HPS HVI;(have hpI:(p:Int)<=m:=by omega);have HLI:=hd_ hlt;have hce:=(BW.cell i).trans (Q0Z _ hlt);have hfz:=BW.frozen i;have bset:=BW.set_ i (.int .i64 (V.1:Nat));rw [Q3B _ _ hlt]at bset;have BS:=hd_ bset;have US:=hd_ (show Upd (λb=>b=H) w0 (w2.setCell ⟨H,i,none⟩ (.int .i64 (V.1:Nat)))from UR.setCell (p:=⟨H,i,none⟩) (λ_=>rfl) _);clear hps hV hlt hp bset;by_cases h0:V.2.2=0
     . simp only [if_pos h0]at HN
       rw [h0]at HN;have H0:=hd_ h0;clear h0;go_wp2_with fail;refine HN.mono ?_;rintro e w3 ⟨rfl,rfl⟩;clear HN;go_wp2_with fail;go_roundg (gk-1)
       case measure=>have:=HI.out;have:=HLI.out;omega
       case rel =>
         refine⟨i+1,by have:=HI.out;have:=HLI.out;omega,by go_num,by rw [HPS.out];rfl,?_,US.out,λj hj=>?_⟩
         . have h:=BS.out
           rw [Xd (g:=λj=>if j<i+1 then(QO cb 0 j).1 else 0) (λj hj=>?_)]at h
           . exact h
           by_cases h1:j=i
           . subst h1;rw [if_pos rfl,if_pos (by omega),HVI.out]
           rw [if_neg h1];by_cases h2:j<i
           . rw [if_pos h2,if_pos (by omega)]
           rw [if_neg h2,if_neg (by omega)]
         rcases Nat.lt_succ_iff_lt_or_eq.1 hj with h|rfl
         . exact HALL j h
         rw [HVI.out];exact H0.out
     simp only [if_neg h0]at HN;(have hb:(V.2.2 != 0)=true:=by simpa using h0);have hE:=Q5c HLI.out HALL.out (by rw [HVI.out];exact h0);rw [HVI.out]at hE;simp only [hE,if_neg h0]at hR;clear h0 hE US BS;go_wp2_with fail;refine HN.mono ?_;rintro e w3 ⟨rfl,rfl⟩;clear HN;go_wp2_with fail;(try go_ret3);exact hR _ _ ⟨rfl,F0.trans UR.out (λb hb e=>by have:=HH.out;omega)⟩
   (have h3:i=3:=by have:=HI.out;omega);subst h3;have hE:=Q5d (bs:=cb) (at_:=0) HALL.out;simp only [if_pos hE]at hR;(have hnl:¬((3:Nat):Int)<3:=by omega)
   have HCE:=hd_ (show ∀W,Upd (λb=>H<b) w2 W->∀q,q<3->W.cell? ⟨H,q,none⟩=some (.int .i64 ((QO cb 0 q).1:Nat))from λW hW q hq=>by
     have h:=((BW.upd hW (by omega)).cell q).trans (Q0Z _ hq);rw [if_pos hq]at h
     exact h)
   have F2:=hd_ (show Q0 w w2 from F0.trans UR.out (λb hb e=>by have:=HH.out;omega));have HSZ:=hd_ (show H<w2.heap.size from BW.lt);clear hE hlt hnl hps;go_wp2_with fail;go_loopg [5,10,11] 3 (λf va vo vi wx=>∃i:Nat,i+f=3/\vi = .int .i64 (i:Nat)/\va = .int .i64 (stF cb 0 i:Nat)/\stF cb 0 i<=m/\Ji w2 (YR cb 0) i vo wx)
   case atStart=>exact⟨0,rfl,rfl,rfl,by have:=Q27 (bs:=cb) (a:=0) (Nat.zero_le _) HALL.out;rw [HL.out]at this;exact this,[],rfl,Own.nil _ _,Upd.refl _ _,by simp [Value.ownBlock],by simp,λj hj=>absurd hj (Nat.not_lt_zero _)⟩
   case round =>
     obtain⟨i,hi,rfl,rfl,hsm,hE⟩:=hrel;obtain⟨vs,hvl,ov,fv,ob,one,hp⟩:=hE;obtain⟨A9,n9,c9,rfl,hn9⟩:=ov.form';have HE:=hd_ (And.intro hvl (And.intro ov (And.intro fv (And.intro ob (And.intro one hp)))));have HI:=hd_ hi;have HSM:=hd_ hsm;clear hvl ov ob one hp hi hn9;obtain⟨s,hs⟩:=nm_ (stF cb 0 i);simp only [<-hs]at HSM hsm|-;(have hsI:(s:Int)<=m:=by omega);by_cases hlt:i<3
     . have hlI:(i:Int)<3:=by omega
       have hce:=HCE wr (fv.mono λ_ _ h=>h.elim) i hlt;have hk:=Vc (HALL i hlt);have HK:=hd_ (show(QO cb 0 i).1<=131072 from hk);have HBC:=hd_ (HBY wr (UR.trans' (fv.mono λ_ _ h=>h.elim)) s (QO cb 0 i).1 hsm (by have:=HK.out;omega));have HS1:=hd_ (show stF cb 0 (i+1)=s+(QO cb 0 i).1 by rw [hs];rfl);have HS3:=hd_ (Q3D cb 0 (i+1) (3-(i+1)));have HSR:=hd_ (show YR cb 0 i=(cb.drop s).take (QO cb 0 i).1 by unfold YR;rw [if_pos hlt,hs]);obtain⟨k,hkd⟩:=nm_ ((QO cb 0 i).1);rw [<-hkd]at hce HK HBC HS1 HSR;unfold Q25 at HBC;rw [HL.out]at HBC;have HLI:=hd_ hlt;have FV:=hd_ fv;clear hk hkd hlt hs hsm fv;by_cases hfit:s+k<=m
       . simp only [if_pos hfit]at HBC
         have HFIT:=hd_ hfit;clear hfit;go_wp2_with fail;refine HBC.mono ?_;rintro e w5 ⟨⟨B5,c5,rfl,hkc,rb⟩,rfl⟩;have RV:=hd_ (show Rd wr (λb=>b<w2.heap.size) B5 k (Q2 (YR cb 0 i))from by rw [HSR.out];exact rb.mono λb hb=>by have:=HSZ.out;omega);clear hkc rb HBC;obtain⟨w3,P,hw3,hP,f3,b3⟩:=al_ wr 22 #[.slice B5 k c5];have RB:=hd_ (show Rd w3 (λ_=>True) (some ⟨P,0,none⟩) 1 [.slice B5 k c5]from by simpa using Blk.rds b3);have O3:=hd_ (HE.2.1.fresh f3);have F3:=hd_ f3;have HW3:=hd_ hw3;have HP3:=hd_ hP;have HVL:=hd_ HE.1;clear f3 b3 hw3 hP;go_wp2_with (at_builtin;simp only [<-HP3.out,<-HW3.out];go_must (refine Qm _ rfl (.tmp 50) (.tmp 52) _ rfl 22 _ 24 underlying117 VX rfl (.slice A9 n9 c9) _ rfl O3.out _ _ _ _ rfl RB.out (by simp [Value.oneCell']) (by omega) (by have:=HVL.out;have:=HI.out;simp;omega) ?_));intro v4 w4 ho hg ha;have E4:=hd_ (Ji.view HVL.out HE.2.1 HE.2.2.1 HE.2.2.2.1 HE.2.2.2.2.1 HE.2.2.2.2.2 RV.out F3.out ho hg ha);clear ho hg ha hce O3 RB F3 HW3 HP3;go_wp2_with fail;go_roundg (gk-1)
         case measure=>have:=HI.out;have:=HLI.out;omega
         case rel=>exact⟨i+1,by have:=HI.out;have:=HLI.out;omega,by go_num,by rw [HS1.out];go_num,by rw [HS1.out];exact HFIT.out,E4.out⟩
       simp only [if_neg hfit]at HBC
       have hno:¬stF cb 0 3<=cb.length:=by
         have h1:=HS3.out;rw [show i+1+(3-(i+1))=3 by have:=HLI.out;omega,HS1.out]at h1;rw [HL.out];omega
       simp only [if_neg hno]at hR;clear hfit hno;go_wp2_with fail;refine HBC.mono ?_;rintro e w5 ⟨rfl,rfl⟩;clear HBC;go_wp2_with fail;(try go_ret3);exact hR _ _ ⟨rfl,F2.trans' FV.out⟩
     (have h3:i=3:=by have:=HI.out;omega);subst h3;(have hnl:¬((3:Nat):Int)<3:=by omega);rw [HL.out,<-hs]at hR;simp only [if_pos hsm]at hR;have HSR:=hd_ (show YR cb 0 3=cb.drop s by unfold YR;rw [if_neg (by omega),hs]);have hrc:=(HB1.upd (UR.trans' (fv.mono λ_ _ h=>h.elim)) (λb _ hb e=>by omega)).cut (k:=s) (cap:=d) hsm HD.out;rw [show(Q2 cb).drop s=Q2 (cb.drop s)from(List.map_drop ..).symm,<-HSR.out]at hrc;have RV:=hd_ (hrc.mono (G:=λb=>b<w2.heap.size) λb hb=>by have:=HSZ.out;omega);(have hsd:(s:Int)<=d:=by have:=HMD.out;omega);have HVL:=hd_ HE.1;clear hnl hlt hs fv RV;by_cases hcs:d=s
     . rw [if_pos hcs]at hrc
       have RV:=hd_ (hrc.mono (G:=λb=>b<w2.heap.size) λb hb=>by have:=HSZ.out;omega);subst hcs;clear hrc hsm;obtain⟨w3,P,hw3,hP,f3,b3⟩:=al_ wr 22 #[.slice B (m-d) 0];have RB:=hd_ (show Rd w3 (λ_=>True) (some ⟨P,0,none⟩) 1 [.slice B (m-d) 0]from by simpa using Blk.rds b3);have O3:=hd_ (HE.2.1.fresh f3);have F3:=hd_ f3;have HW3:=hd_ hw3;have HP3:=hd_ hP;clear f3 b3 hw3 hP;go_wp2_with (at_builtin;simp only [<-HP3.out,<-HW3.out];go_must (refine Qm _ rfl (.tmp 55) (.tmp 59) _ rfl 22 _ 24 underlying117 VX rfl (.slice A9 n9 c9) _ rfl O3.out _ _ _ _ rfl RB.out (by simp [Value.oneCell']) (by omega) (by have:=HVL.out;simp;omega) ?_));intro v4 w4 ho hg ha;have E4:=hd_ ((Ji.view HVL.out HE.2.1 HE.2.2.1 HE.2.2.2.1 HE.2.2.2.2.1 HE.2.2.2.2.2 RV.out F3.out ho hg ha).up F2.out);clear ho hg ha O3 RB F3 HW3 HP3;go_wp2_with fail;(try go_ret3);exact hR _ _ ⟨_,rfl,E4.out⟩
     rw [if_neg hcs]at hrc;have RV:=hd_ (hrc.mono (G:=λb=>b<w2.heap.size) λb hb=>by have:=HSZ.out;omega);clear hrc hsm;obtain⟨w3,P,hw3,hP,f3,b3⟩:=al_ wr 22 #[.slice (B.map (·.add s)) (m-s) (d-s)];have RB:=hd_ (show Rd w3 (λ_=>True) (some ⟨P,0,none⟩) 1 [.slice (B.map (·.add s)) (m-s) (d-s)]from by simpa using Blk.rds b3);have O3:=hd_ (HE.2.1.fresh f3);have F3:=hd_ f3;have HW3:=hd_ hw3;have HP3:=hd_ hP;clear f3 b3 hw3 hP;go_wp2_with (at_builtin;simp only [<-HP3.out,<-HW3.out];go_must (refine Qm _ rfl (.tmp 55) (.tmp 59) _ rfl 22 _ 24 underlying117 VX rfl (.slice A9 n9 c9) _ rfl O3.out _ _ _ _ rfl RB.out (by simp [Value.oneCell']) (by omega) (by have:=HVL.out;simp;omega) ?_));intro v4 w4 ho hg ha;have E4:=hd_ ((Ji.view HVL.out HE.2.1 HE.2.2.1 HE.2.2.2.1 HE.2.2.2.2.1 HE.2.2.2.2.2 RV.out F3.out ho hg ha).up F2.out);clear ho hg ha O3 RB F3 HW3 HP3;go_wp2_with fail;(try go_ret3);exact hR _ _ ⟨_,rfl,E4.out⟩
end Go.Proofs.YtckjdhaflokcgaaGreat
