/- Contracts and plain lemmas, part 24. Conditions: none beyond those of each. -/
import Derived.Test.YtckjdhaflokcgaaGreatR23
set_option maxHeartbeats 16000000
set_option linter.unusedVariables false
set_option linter.unusedSimpArgs false
set_option linter.unnecessarySimpa false
set_option maxRecDepth 100000
namespace Go.Proofs.YtckjdhaflokcgaaGreat
open Go.RowKit Go.Proofs.Tryz
theorem VO (w:World):Calls prog 12 #[] w λe w'=>e = .returned (.bool true)/\Q0 w w':=by
 have HIS:=hd_ Q9w;have HNO:=hd_ Vl;refine Q8 λR hR=>?_;go_enter func12,ntmps12;have HT:=hd_ (show Blk (w.alloc (.cells #[.int .i64 2,.int .i64 1,.int .i64 0,.int .i64 2] 3)) w.heap.size 3 #[.int .i64 2,.int .i64 1,.int .i64 0,.int .i64 2]from Blk.new w _ _);obtain⟨Q,hQ⟩:=nm_ (w.heap.size);obtain⟨w0,hw0⟩:=nm_ (w.alloc (.cells #[.int .i64 2,.int .i64 1,.int .i64 0,.int .i64 2] 3));rw [<-hQ,<-hw0]at HT;have F0:=hd_ (show Q0 w w0 by rw [hw0];exact(Upd.refl _ _).alloc _);have RT:=hd_ (show Rd w0 (λ_=>True) (some ⟨Q,0,none⟩) 4 (Q7 [2,1,0,2])from HT.rds);go_upto_region 2 with fail;simp only [<-hQ,<-hw0];clear hQ hw0;go_wp2_with fail;refine(show Calls prog 13 #[.slice (some ⟨w0.heap.size,0,none⟩) 2 2] (w0.alloc (.cells #[.int .u8 7,.int .u8 8] 5)) (Yy (some [0,2,7,8]) 2 (w0.alloc (.cells #[.int .u8 7,.int .u8 8] 5)))from Q3r (λ_=>True) (some ⟨w0.heap.size,0,none⟩) 2 2 [7,8] _ (show Rd (w0.alloc (.cells #[.int .u8 7,.int .u8 8] 5)) (λ_=>True) (some ⟨w0.heap.size,0,none⟩) 2 (Q2 [7,8])from(Blk.new w0 5 #[.int .u8 7,.int .u8 8]).rds) (by decide)).mono ?_;rintro e w1 ⟨v,rfl,nb⟩;obtain⟨Aa,ca,rfl,ra,fa⟩:=nb.rd;have Ra:=hd_ ra;have F1:=hd_ (show Q0 w w1 from F0.trans' (((Upd.refl (λ_=>False) w0).alloc (.cells #[.int .u8 7,.int .u8 8] 5)).trans' fa));have G1:=hd_ (show Q0 w0 w1 from((Upd.refl (λ_=>False) w0).alloc (.cells #[.int .u8 7,.int .u8 8] 5)).trans' fa);clear nb ra fa;go_wp2_with fail;refine(show Calls prog 16 #[.int .u8 7,.int .i64 3] w1 (Yy (some [1,3,7]) 2 w1)from Q3s 7 3 w1 (by decide)).mono ?_;rintro e w2 ⟨v,rfl,nb⟩;obtain⟨Ab,cb,rfl,rb,fb⟩:=nb.rd;have Rb:=hd_ rb;have F2:=hd_ (show Q0 w w2 from F1.trans' (fb));have G2:=hd_ (show Q0 w1 w2 from fb);clear nb rb fb;go_wp2_with fail;refine(show Calls prog 16 #[.int .u8 7,.int .i64 0] w2 (Yy none 2 w2)from Q3s 7 0 w2 (by decide)).mono ?_;rintro e w3 ⟨rfl,f⟩;have F3:=hd_ (show Q0 w w3 from F2.trans' (f));have G3:=hd_ (show Q0 w2 w3 from f);clear f;go_wp2_with fail;refine(show Calls prog 13 #[.slice none 0 0] w3 (Yy (some [0,0]) 2 w3)from Q3r (λ_=>True) none 0 0 [] w3 (Rd.nil _ _ _) (by decide)).mono ?_;rintro e w4 ⟨v,rfl,nb⟩;obtain⟨Az,cz,rfl,rz,fz⟩:=nb.rd;have Rz:=hd_ rz;have F4:=hd_ (show Q0 w w4 from F3.trans' (fz));have G4:=hd_ (show Q0 w3 w4 from fz);clear nb rz fz;go_wp2_with fail;refine(show Calls _ _ _ _ _ from HIS (λ_=>True) _ 4 _ [0,2,7,8] [0,2,7,8] 0 0 w4 ((Ra.fresh (G2.trans' (G3.trans' (G4.out))))) (by decide) (by decide)).mono ?_
 rintro e wx ⟨rfl,rfl⟩;go_wp2_with fail;refine(show Calls _ _ _ _ _ from HIS (λ_=>True) _ 3 _ [1,3,7] [1,3,7] 0 0 w4 ((Rb.fresh (G3.trans' (G4.out)))) (by decide) (by decide)).mono ?_;rintro e wx ⟨rfl,rfl⟩;go_wp2_with fail;refine(show Calls _ _ _ _ _ from HIS (λ_=>True) _ 0 _ [] [] 2 2 w4 (Rd.nil _ _ _) (by decide) (by decide)).mono ?_;rintro e wx ⟨rfl,rfl⟩;go_wp2_with fail;refine(show Calls _ _ _ _ _ from HIS (λ_=>True) _ 2 _ [0,0] [0,0] 0 0 w4 (Rz.out) (by decide) (by decide)).mono ?_;rintro e wx ⟨rfl,rfl⟩;go_wp2_with fail;refine(show Calls prog 18 #[.slice (some ⟨Q,0,none⟩) 4 4,.slice (some ⟨w4.heap.size,0,none⟩) 3 3,.bool false,.bool true] (w4.alloc (.cells #[.int .u8 1,.int .u8 0,.int .u8 3] 5)) (Yy (some [3,3,1,43]) 0 (w4.alloc (.cells #[.int .u8 1,.int .u8 0,.int .u8 3] 5)))from Qb5 _ _ _ _ _ _ ((RT.fresh (G1.trans' (G2.trans' (G3.trans' (G4.out))))).alloc _) (show Rd (w4.alloc (.cells #[.int .u8 1,.int .u8 0,.int .u8 3] 5)) (λ_=>True) (some ⟨w4.heap.size,0,none⟩) 3 (Q2 [1,0,3])from(Blk.new w4 5 #[.int .u8 1,.int .u8 0,.int .u8 3]).rds)).mono ?_;rintro e w5 ⟨v,rfl,nb⟩;obtain⟨Ax,cx,rfl,rx,fx⟩:=nb.rd;have Rx:=hd_ rx;have F5:=hd_ (show Q0 w w5 from F4.trans' (((Upd.refl (λ_=>False) w4).alloc (.cells #[.int .u8 1,.int .u8 0,.int .u8 3] 5)).trans' fx));have G5:=hd_ (show Q0 w4 w5 from((Upd.refl (λ_=>False) w4).alloc (.cells #[.int .u8 1,.int .u8 0,.int .u8 3] 5)).trans' fx);clear nb rx fx;go_wp2_with fail;refine(show Calls prog 18 #[.slice (some ⟨Q,0,none⟩) 4 4,.slice (some ⟨w5.heap.size,0,none⟩) 3 3,.bool true,.bool true] (w5.alloc (.cells #[.int .u8 1,.int .u8 0,.int .u8 3] 5)) (Yy none 11 (w5.alloc (.cells #[.int .u8 1,.int .u8 0,.int .u8 3] 5)))from Qb6 _ _ _ _ _ _ ((RT.fresh (G1.trans' (G2.trans' (G3.trans' (G4.trans' (G5.out)))))).alloc _) (show Rd (w5.alloc (.cells #[.int .u8 1,.int .u8 0,.int .u8 3] 5)) (λ_=>True) (some ⟨w5.heap.size,0,none⟩) 3 (Q2 [1,0,3])from(Blk.new w5 5 #[.int .u8 1,.int .u8 0,.int .u8 3]).rds)).mono ?_;rintro e w6 ⟨rfl,f⟩;have F6:=hd_ (show Q0 w w6 from F5.trans' (((Upd.refl (λ_=>False) w5).alloc (.cells #[.int .u8 1,.int .u8 0,.int .u8 3] 5)).trans' f));have G6:=hd_ (show Q0 w5 w6 from((Upd.refl (λ_=>False) w5).alloc (.cells #[.int .u8 1,.int .u8 0,.int .u8 3] 5)).trans' f);clear f;go_wp2_with fail;refine(show Calls prog 18 #[.slice (some ⟨Q,0,none⟩) 4 4,.slice (some ⟨w6.heap.size,0,none⟩) 1 1,.bool false,.bool true] (w6.alloc (.cells #[.int .u8 2] 5)) (Yy none 2 (w6.alloc (.cells #[.int .u8 2] 5)))from Qb7 _ _ _ _ _ _ ((RT.fresh (G1.trans' (G2.trans' (G3.trans' (G4.trans' (G5.trans' (G6.out))))))).alloc _) (show Rd (w6.alloc (.cells #[.int .u8 2] 5)) (λ_=>True) (some ⟨w6.heap.size,0,none⟩) 1 (Q2 [2])from(Blk.new w6 5 #[.int .u8 2]).rds)).mono ?_
 rintro e w7 ⟨rfl,f⟩;have F7:=hd_ (show Q0 w w7 from F6.trans' (((Upd.refl (λ_=>False) w6).alloc (.cells #[.int .u8 2] 5)).trans' f));have G7:=hd_ (show Q0 w6 w7 from((Upd.refl (λ_=>False) w6).alloc (.cells #[.int .u8 2] 5)).trans' f);clear f;go_wp2_with fail;refine(show Calls _ _ _ _ _ from HIS (λ_=>True) _ 4 _ [3,3,1,43] [3,3,1,43] 0 0 w7 ((Rx.fresh (G6.trans' (G7.out)))) (by decide) (by decide)).mono ?_;rintro e wx ⟨rfl,rfl⟩;go_wp2_with fail;refine(show Calls _ _ _ _ _ from HIS (λ_=>True) _ 0 _ [] [] 11 11 w7 (Rd.nil _ _ _) (by decide) (by decide)).mono ?_;rintro e wx ⟨rfl,rfl⟩;go_wp2_with fail;refine(show Calls _ _ _ _ _ from HIS (λ_=>True) _ 0 _ [] [] 2 2 w7 (Rd.nil _ _ _) (by decide) (by decide)).mono ?_;rintro e wx ⟨rfl,rfl⟩;go_wp2_with fail;refine(VY (λ_=>True) _ 2 2 [6,9] _ (show Rd (w7.alloc (.cells #[.int .u8 6,.int .u8 9] 5)) (λ_=>True) (some ⟨w7.heap.size,0,none⟩) 2 (Q2 [6,9])from(Blk.new w7 5 #[.int .u8 6,.int .u8 9]).rds) (by decide) (by decide)).mono ?_;rintro e w8 ⟨g,rfl,hg,f,cu⟩;have G8:=hd_ (show Q0 w7 w8 from((Upd.refl (λ_=>False) w7).alloc (.cells #[.int .u8 6,.int .u8 9] 5)).trans' f);have HG:=hd_ (show w7.heap.size<g from by simp at hg;omega);have CU:=hd_ cu;have F8:=hd_ (F7.trans' G8.out);clear hg f cu;go_wp2_with fail;refine(Qb8 _ _ _ CU.out (λb hb=>hb.2)).mono ?_;rintro e w9 ⟨rfl,u⟩;have FH:=hd_ (show Q0 w7 w9 from G8.trans u (λb hb h=>by have:=HG.out;omega));clear u;obtain⟨w10,hw10⟩:=nm_ (w9.alloc (.cells #[.int .i64 2,.bool true,.int .i64 9] 41));obtain⟨P,hP⟩:=nm_ (w9.heap.size);have BP:=hd_ (show Blk w10 P 41 #[.int .i64 2,.bool true,.int .i64 9] by rw [hw10];exact Qb hP _ _);have F10:=hd_ (show Q0 w w10 by rw [hw10];exact(F7.trans' FH.out).alloc _);have G10:=hd_ (show Q0 w7 w10 by rw [hw10];exact FH.alloc _);go_upto_region 14 with fail;simp only [<-hw10,<-hP];clear hw10 hP;go_wp2_with fail;refine(show Calls _ _ _ _ _ from Q1A (λ_=>True) (λ_=>True) _ none 3 _ 0 0 [1,3,7] [7,7,7] [] [] 3 w10 (Rb.fresh (G3.trans' (G4.trans' (G5.trans' (G6.trans' (G7.trans' (G10.out))))))) (by decide) (by decide) (Rd.nil _ _ _) (by decide) (λF G g W h1 h2 h3 h4 h5=>QaL F G g W h1 h2 h3 h4 h5)).mono ?_;rintro e w11 ⟨rfl,f⟩;have G11:=hd_ (show Q0 w10 w11 from f);clear f;go_wp2_with fail;refine(show Calls _ _ _ _ _ from Q1A (λ_=>True) (λ_=>True) _ (some ⟨Q,0,none⟩) 4 _ 4 4 [3,3,1,43] [1,0,3] [2,1,0,2] [2,1,0,2] 4 w11 ((Rx.fresh (G6.trans' (G7.trans' (G10.out)))).fresh G11.out) (by decide) (by decide) ((RT.fresh (G1.trans' (G2.trans' (G3.trans' (G4.trans' (G5.trans' (G6.trans' (G7.trans' (G10.out))))))))).fresh G11.out) (by decide) (λF G g W h1 h2 h3 h4 h5=>Qb4 _ 4 F G g W h1 h2 h3 h4 h5)).mono ?_
 rintro e w12 ⟨rfl,f⟩;have G12:=hd_ (show Q0 w11 w12 from f);clear f;go_wp2_with fail;refine(show Calls _ _ _ _ _ from KU (λ_=>True) (λ_=>True) _ none 4 _ 0 0 [3,3,1,43] [] 12 w12 (((Rx.fresh (G6.trans' (G7.trans' (G10.out)))).fresh G11.out).fresh G12.out) (by decide) (by decide) (Rd.nil _ _ _) (by decide) (λF G g W h1 h2 h3 h4 h5=>QaZ F G g W h1 h2 h3 h4 h5)).mono ?_;rintro e w13 ⟨rfl,f⟩;have G13:=hd_ (show Q0 w12 w13 from f);clear f;go_wp2_with fail;refine(show Calls _ _ _ _ _ from KU (λ_=>True) (λ_=>True) (some ⟨w13.heap.size,0,none⟩) none 3 3 0 0 [5,1,7] [] 11 _ (show Rd (w13.alloc (.cells #[.int .u8 5,.int .u8 1,.int .u8 7] 5)) (λ_=>True) (some ⟨w13.heap.size,0,none⟩) 3 (Q2 [5,1,7])from(Blk.new w13 5 #[.int .u8 5,.int .u8 1,.int .u8 7]).rds) (by decide) (by decide) (Rd.nil _ _ _) (by decide) (λF G g W h1 h2 h3 h4 h5=>QaM F G g W h1 h2 h3 h4 h5)).mono ?_;rintro e w14 ⟨rfl,f⟩;have G14:=hd_ (show Q0 w13 w14 from((Upd.refl (λ_=>False) w13).alloc (.cells #[.int .u8 5,.int .u8 1,.int .u8 7] 5)).trans' f);clear f;go_wp2_with fail;refine(show Calls _ _ _ _ _ from KU (λ_=>True) (λ_=>True) (some ⟨w14.heap.size,0,none⟩) none 2 2 0 0 [1,0] [] 11 _ (show Rd (w14.alloc (.cells #[.int .u8 1,.int .u8 0] 5)) (λ_=>True) (some ⟨w14.heap.size,0,none⟩) 2 (Q2 [1,0])from(Blk.new w14 5 #[.int .u8 1,.int .u8 0]).rds) (by decide) (by decide) (Rd.nil _ _ _) (by decide) (λF G g W h1 h2 h3 h4 h5=>Qb0 F G g W h1 h2 h3 h4 h5)).mono ?_;rintro e w15 ⟨rfl,f⟩;have G15:=hd_ (show Q0 w14 w15 from((Upd.refl (λ_=>False) w14).alloc (.cells #[.int .u8 1,.int .u8 0] 5)).trans' f);clear f;go_wp2_with fail;refine(show Calls _ _ _ _ _ from KU (λ_=>True) (λ_=>True) (some ⟨w15.heap.size,0,none⟩) none 3 3 0 0 [0,2,7] [] 3 _ (show Rd (w15.alloc (.cells #[.int .u8 0,.int .u8 2,.int .u8 7] 5)) (λ_=>True) (some ⟨w15.heap.size,0,none⟩) 3 (Q2 [0,2,7])from(Blk.new w15 5 #[.int .u8 0,.int .u8 2,.int .u8 7]).rds) (by decide) (by decide) (Rd.nil _ _ _) (by decide) (λF G g W h1 h2 h3 h4 h5=>QaN F G g W h1 h2 h3 h4 h5)).mono ?_;rintro e w16 ⟨rfl,f⟩;have G16:=hd_ (show Q0 w15 w16 from((Upd.refl (λ_=>False) w15).alloc (.cells #[.int .u8 0,.int .u8 2,.int .u8 7] 5)).trans' f);clear f;have FE:=hd_ (show Q0 w10 w16 from G11.trans' (G12.trans' (G13.trans' (G14.trans' (G15.trans' G16.out)))));have bp:=BP.fresh FE.out;obtain⟨p0,p1,p2⟩:=(bp).cells3;go_wp2_with fail;refine(HNO 0 w16).mono ?_;rintro e w17 ⟨rfl,rfl⟩;go_wp2_with fail;(try go_ret);exact hR _ _ ⟨by simp,F10.trans' FE.out⟩
def Yk (w:World) (F:Nat->Prop) (g:Nat) (L:List Bool) (fr:Nat):Prop :=
  ∃(A:Option Addr) (c:Nat),Blk w g 214 #[.slice A (L.length-fr) c,.int .i64 fr]/\Rd w F A (L.length-fr) (QU (L.drop fr))/\fr<=L.length/\L.length-fr<=c
theorem Yk.upd {w w':World} {F S:Nat->Prop} {g:Nat} {L:List Bool} {fr:Nat} (h:Yk w F g L fr) (hu:Upd S w w') (hg:¬S g) (hF:∀b,b<w.heap.size->F b->¬S b):Yk w' F g L fr:=by
 obtain⟨A,c,h1,h2,h3⟩:=h;exact⟨A,c,h1.upd hu hg,h2.upd hu hF,h3⟩
theorem Q3Q (F:Nat->Prop) (A:Option Addr) (n c:Nat) (bs:List Nat) (w:World) (hr:Rd w F A n (Q2 bs)) (hlt:∀b∈bs,b<256) (hn:n<=100000) :
   Calls prog 207 #[.slice A n c] w λe w'=>∃g,e = .returned (.pointer (some ⟨g,0,none⟩))/\Q0 w w'/\w.heap.size<=g /\
     Yk w' (λb=>w.heap.size<=b/\b≠g) g (Qf bs) 0:=by
 have h:=Q3M F A n c bs w hr hlt hn;have HH:=hd_ h;clear h hr hlt;refine Q8 λR hR=>?_;go_enter func207,ntmps207;go_wp2_with fail;refine HH.mono ?_;rintro e w1 ⟨s,rfl,o1,f1,k1⟩;obtain⟨A1,n1,c1,rfl,hn1⟩:=o1.form';obtain⟨_,hcap,hrd⟩:=o1.rd rfl;rw [<-hn1.out]at hrd hcap;(have hn1':n1=(Qf bs).length:=by have:=hn1.out;simpa using this);have HN:=hd_ hn1';have HRD:=hd_ hrd;have F1:=hd_ f1;have K1:=hd_ k1;have LT:=hd_ (λk hk=>o1.lt (k:=k) hk);clear hn1 hn1' hrd f1 k1 o1 HH;go_wp2_with fail;(try go_ret);refine hR.out _ _ ⟨w1.heap.size,rfl,F1.alloc _,F1.size,A1,c1,?_,?_,Nat.zero_le _,by have:=HN.out;omega⟩
 . have h:=Blk.new w1 214 #[.slice A1 n1 c1,.int .i64 0]
   rw [HN.out]at h;simpa using h
 have h:=(HRD.alloc (.cells #[.slice A1 n1 c1,.int .i64 0] 214)).mono (G:=λb=>w.heap.size<=b/\b≠w1.heap.size) (λb hb=>⟨K1 b hb,by have:=LT b hb;omega⟩);(have e:(Qf bs).length-0=n1:=by have:=HN.out;omega);rw [e,List.drop_zero];rw [show 8*bs.length=n1 by have:=HN.out;simp at this;omega];exact h
theorem Q3R (F:Nat->Prop) (g:Nat) (L:List Bool) (fr n:Nat) (w:World) (h:Yk w F g L fr) (hn:n<=64) (hs:L.length<fr+n) (hL:L.length<=2^40) :
   Calls prog 208 #[.pointer (some ⟨g,0,none⟩),.int .i64 n] w λe w'=>e = .returned (.tuple #[.int .u64 0,.int .i64 3])/\w=w':=by
 obtain⟨A,c,hb,hr,hf,hc⟩:=h;have c0:=hb.cell 0;simp at c0;(have hnI:(n:Int)<=64:=by omega);(have hlt:((L.length-fr:Nat):Int)<n:=by omega);generalize L.length-fr=m at *;clear hb hr hf hc hs;refine Q8 λR hR=>?_;go_enter func208,ntmps208;go_wp2_with fail;(try go_ret2);exact hR _ _ ⟨rfl,rfl⟩
theorem Q8f (F:Nat->Prop) (g:Nat) (L:List Bool) (fr n:Nat) (w:World) (h:Yk w F g L fr) (hn:n<=64) (hs:fr+n<=L.length) (hL:L.length<=2^40) (hFg:∀b,F b->b≠g) :
   Calls prog 208 #[.pointer (some ⟨g,0,none⟩),.int .i64 n] w λe w'=>e = .returned (.tuple #[.int .u64 (QI ((L.drop fr).take n):Nat),.int .i64 0]) /\
     Upd (λb=>b=g) w w'/\Yk w' F g L (fr+n):=by
 obtain⟨A,c,hb,hr,hf,hc⟩:=h;have c0:=hb.cell 0;have c1:=hb.cell 1;have z0:=hb.frozen 0;have z1:=hb.frozen 1;simp at c0 c1;(have hnI:(n:Int)<=64:=by omega);(have hmn:L.length-fr-n=L.length-(fr+n):=by omega);(have hle:(n:Int)<=((L.length-fr:Nat):Int):=by omega);(have hmI:((L.length-fr:Nat):Int)<=1099511627776:=by omega);(have hfI:(fr:Int)<=1099511627776:=by omega);(have hcI:((L.length-fr:Nat):Int)<=c:=by omega);(have hnc:(n:Int)<=c:=by omega);have hv:=Xt F A n c ((L.drop fr).take n) w (by have:=hr.take (k:=n) (by omega);simpa [QU,List.map_take]using this) hn;have hcut:=hr.cut (k:=n) (cap:=c) (by omega) hc;have HCUT:=hd_ hcut;have HV:=hd_ hv;have HB:=hd_ hb;have HMN:=hd_ hmn;have HC:=hd_ hc;(have hdr:(QU (L.drop fr)).drop n=QU (L.drop (fr+n)):=by simp [QU]);have HDR:=hd_ hdr;have HS:=hd_ hs;obtain⟨m,hm⟩:=nm_ (L.length-fr);rw [<-hm]at c0 hle hmI hcI HCUT HB HMN HC;have HM:=hd_ hm;clear hb hr hcut hv hmn hdr hm hc hf hs;refine Q8 λR hR=>?_;by_cases hcn:c=n
 . subst hcn
   go_enter func208,ntmps208;go_wp2_with fail;refine HV.mono ?_;rintro e w1 ⟨rfl,rfl⟩;go_wp2_with fail;(try go_ret2)
   have hu:Upd (λb=>b=g) w ((w.setCell ⟨g,0,none⟩ (.slice A (m-c) 0)).setCell ⟨g,1,none⟩ (.int .i64 ((fr:Int)+c))) :=
     ((Upd.refl (λb=>b=g) w).setCell (p:=⟨g,0,none⟩) (λ_=>rfl) _).setCell (p:=⟨g,1,none⟩) (λ_=>rfl) _
   have hbb:=(HB.set_ 0 (.slice A (m-c) 0)).set_ 1 (.int .i64 ((fr:Int)+c));have hcc:=HCUT.out;rw [if_pos trivial,HDR.out]at hcc;rw [HMN.out]at hcc;refine hR.out _ _ ⟨rfl,hu,_,0,?_,hcc.upd hu (λb _ hb e=>hFg b hb e),HS.out,?_⟩
   . rw [<-HMN.out]
     simpa using hbb
   rw [<-HMN.out];have:=HC.out;omega
 (have hcn':(n:Int)<c:=by omega);go_enter func208,ntmps208;go_wp2_with fail;refine HV.mono ?_;rintro e w1 ⟨rfl,rfl⟩;go_wp2_with fail;(try go_ret2)
 have hu:Upd (λb=>b=g) w ((w.setCell ⟨g,0,none⟩ (.slice (A.map (·.add n)) (m-n) (c-n))).setCell ⟨g,1,none⟩ (.int .i64 ((fr:Int)+n))) :=
   ((Upd.refl (λb=>b=g) w).setCell (p:=⟨g,0,none⟩) (λ_=>rfl) _).setCell (p:=⟨g,1,none⟩) (λ_=>rfl) _
 have hbb:=(HB.set_ 0 (.slice (A.map (·.add n)) (m-n) (c-n))).set_ 1 (.int .i64 ((fr:Int)+n));have hcc:=HCUT.out;rw [if_neg hcn,HDR.out]at hcc;rw [HMN.out]at hcc;refine hR.out _ _ ⟨rfl,hu,_,c-n,?_,hcc.upd hu (λb _ hb e=>hFg b hb e),HS.out,?_⟩
 . rw [<-HMN.out]
   simpa using hbb
 rw [<-HMN.out];have:=HC.out;omega
def VE (w:World) (F:Nat->Prop) (g:Nat) (L:List Bool) (fr:Nat):Prop :=
  ∃(A:Option Addr) (c:Nat),Blk w g 214 #[.slice A L.length c,.int .i64 fr]/\Rd w F A L.length (QU L)/\L.length<=c/\L.length+fr<=2^32
theorem VE.upd {w w':World} {F S:Nat->Prop} {g:Nat} {L:List Bool} {fr:Nat} (h:VE w F g L fr) (hu:Upd S w w') (hg:¬S g) (hF:∀b,b<w.heap.size->F b->¬S b):VE w' F g L fr:=by
 obtain⟨A,c,h1,h2,h3⟩:=h;exact⟨A,c,h1.upd hu hg,h2.upd hu hF,h3⟩
theorem Q4D (F:Nat->Prop) (g:Nat) (L:List Bool) (fr n:Nat) (w:World) (h:VE w F g L fr) (hn:n<=64) (hs:L.length<n) :
   Calls prog 213 #[.pointer (some ⟨g,0,none⟩),.int .i64 n] w λe w'=>e = .returned (.tuple #[.int .u64 0,.int .i64 14])/\w=w':=by
 obtain⟨A,c,hb,hr,hc,hf⟩:=h;have c0:=hb.cell 0;simp at c0;(have hnI:(n:Int)<=64:=by omega);(have hsI:((L.length:Nat):Int)<n:=by omega);clear hr hf hc hb;refine Q8 λR hR=>?_;go_enter func213,ntmps213;go_wp2_with fail;(try go_ret2);exact hR _ _ ⟨rfl,rfl⟩
theorem Q9A (F:Nat->Prop) (g:Nat) (L:List Bool) (fr n:Nat) (w:World) (h:VE w F g L fr) (hn:n<=64) (hs:n<=L.length) (hFg:∀b,F b->b≠g) :
   Calls prog 213 #[.pointer (some ⟨g,0,none⟩),.int .i64 n] w λe w'=>e = .returned (.tuple #[.int .u64 (QI (L.drop (L.length-n)):Nat),.int .i64 0]) /\
     Upd (λb=>b=g) w w'/\VE w' F g (L.take (L.length-n)) (fr+n):=by
 obtain⟨A,c,hb,hr,hc,hf⟩:=h;have c0:=hb.cell 0;have c1:=hb.cell 1;have z0:=hb.frozen 0;have z1:=hb.frozen 1;simp at c0 c1;(have hnI:(n:Int)<=64:=by omega);obtain⟨k,hk⟩:=nm_ (L.length-n);(have hkm:((L.length:Nat):Int)-n=k:=by omega);(have hmI:((L.length:Nat):Int)<=4294967296:=by omega);(have hle:(n:Int)<=((L.length:Nat):Int):=by omega);(have hkI:(k:Int)<=((L.length:Nat):Int):=by omega);(have hcI:((L.length:Nat):Int)<=c:=by omega);(have hkc:(k:Int)<=c:=by omega);(have hkn:L.length-k=n:=by omega);(have hkn2:((L.length:Nat):Int)-k=n:=by omega);(have hfI:(fr:Int)<=4294967296:=by omega);(have hdk:(L.take k).length=k:=by rw [List.length_take];omega);have htk:=hr.take (k:=k) (by omega);have hcut:=hr.cut (k:=k) (cap:=c) (by omega) hc;rw [hkn]at hcut;(have hdr:(QU L).drop k=QU (L.drop k):=by simp [QU]);(have htr:(QU L).take k=QU (L.take k):=by simp [QU]);rw [hdr]at hcut;rw [htr]at htk;have HTK:=hd_ htk;have HB:=hd_ hb;have HF:=hd_ (show k+(fr+n)<=2^32 by omega);have HC:=hd_ (show k<=c by omega);have HDK:=hd_ hdk;obtain⟨m,hm⟩:=nm_ (L.length);rw [<-hm]at c0 hkm hmI hle hkI hcI hkn2 HB;rw [<-hk];(have hkN:m-k=n:=by omega);clear hb hr htk hdr htr hc hf hs hkn hdk hk hm
 have HSS:=hd_ (show ∀W,Q0 w W->(Q0 w W/\W.cell? ⟨g,0,none⟩=some (.slice A m c)/\W.cell? ⟨g,1,none⟩=some (.int .i64 fr)/\W.frozen? ⟨g,0,none⟩=false/\W.frozen? ⟨g,1,none⟩=false)from λW h=>by
   have hB:=HB.fresh h;have y0:=hB.cell 0;have y1:=hB.cell 1;have y2:=hB.frozen 0;have y3:=hB.frozen 1;simp at y0 y1
   exact⟨h,y0,y1,y2,y3⟩)
 refine Q8 λR hR=>?_;by_cases hck:c=k
 . subst hck
   (obtain rfl:m=c:=by omega);(obtain rfl:n=0:=by omega);rw [if_pos rfl]at hcut;have hwr:IntKind.i64.wrap ((m:Int))=m:=IntWalk.i64_in _ (by omega);have HV:=hd_ (λW (h:Q0 w W)=>Xt F A 0 0 (L.drop m) W (hcut.fresh h) hn);clear hcut;go_enter func213,ntmps213;go_upto_region 5 with fail
   go_region_held3 (λW=>Q0 w W/\W.cell? ⟨g,0,none⟩=some (.slice A m m)/\W.cell? ⟨g,1,none⟩=some (.int .i64 fr)/\W.frozen? ⟨g,0,none⟩=false/\W.frozen? ⟨g,1,none⟩=false)
     (first|exact HSS _ (by assumption)|exact HSS _ (And.left (by assumption))|exact HSS _ (Upd.refl _ _)|exact HSS _ (Upd.refl _ _).drew)
     (first|(go_at_call 257;refine(HV _ (And.left (by assumption))).mono ?_;rintro e w' ⟨rfl,rfl⟩))
   go_upto_region 6 with fail;go_region;go_wp2_with fail;(try go_ret2)
   have hu:Upd (λb=>b=g) w ((w.setCell ⟨g,0,none⟩ (.slice A m m)).setCell ⟨g,1,none⟩ (.int .i64 ((fr:Int)))).drew.drew :=
     ((((Upd.refl (λb=>b=g) w).setCell (p:=⟨g,0,none⟩) (λ_=>rfl) _).setCell (p:=⟨g,1,none⟩) (λ_=>rfl) _).drew).drew
   have hbb:=((HB.out).set_ 0 (.slice A m m)).set_ 1 (.int .i64 ((fr:Int)));refine hR.out _ _ ⟨rfl,hu,A,m,?_,?_,?_,?_⟩
   . rw [HDK.out]
     refine Blk.drew (Blk.drew ?_);simpa using hbb
   . rw [HDK.out];exact HTK.upd hu (λb _ hb e=>hFg b hb e)
   . rw [HDK.out];exact HC.out
   rw [HDK.out];exact HF.out
 (have hcn':(k:Int)<c:=by omega);rw [if_neg hck]at hcut;have hwr:IntKind.i64.wrap ((k:Int))=k:=IntWalk.i64_in _ (by omega);have HV:=hd_ (λW (h:Q0 w W)=>Xt F (A.map (·.add k)) n (c-k) (L.drop k) W (hcut.fresh h) hn);clear hcut;go_enter func213,ntmps213;go_upto_region 5 with fail
 go_region_held3 (λW=>Q0 w W/\W.cell? ⟨g,0,none⟩=some (.slice A m c)/\W.cell? ⟨g,1,none⟩=some (.int .i64 fr)/\W.frozen? ⟨g,0,none⟩=false/\W.frozen? ⟨g,1,none⟩=false)
   (first|exact HSS _ (by assumption)|exact HSS _ (And.left (by assumption))|exact HSS _ (Upd.refl _ _)|exact HSS _ (Upd.refl _ _).drew)
   (first|(go_at_call 257;refine(HV _ (And.left (by assumption))).mono ?_;rintro e w' ⟨rfl,rfl⟩))
 go_upto_region 6 with fail;go_region;go_wp2_with fail;(try go_ret2)
 have hu:Upd (λb=>b=g) w ((w.setCell ⟨g,0,none⟩ (.slice A k c)).setCell ⟨g,1,none⟩ (.int .i64 ((fr:Int)+n))).drew.drew :=
   ((((Upd.refl (λb=>b=g) w).setCell (p:=⟨g,0,none⟩) (λ_=>rfl) _).setCell (p:=⟨g,1,none⟩) (λ_=>rfl) _).drew).drew
 have hbb:=((HB.out).set_ 0 (.slice A k c)).set_ 1 (.int .i64 ((fr:Int)+n));refine hR.out _ _ ⟨rfl,hu,A,c,?_,?_,?_,?_⟩
 . rw [HDK.out]
   refine Blk.drew (Blk.drew ?_);simpa using hbb
 . rw [HDK.out];exact HTK.upd hu (λb _ hb e=>hFg b hb e)
 . rw [HDK.out];exact HC.out
 rw [HDK.out];exact HF.out
theorem Qaz:∀z,z<256->z≠0->∀i,i<8->Lib.bitLen z-1<=i->(Qr 8 z)[i]?=some (decide (i=Lib.bitLen z-1)):=by decide +kernel
theorem QaA:∀z,z<256->z≠0->1<=Lib.bitLen z/\Lib.bitLen z<=8:=by decide +kernel
theorem Xv {bs:List Nat} (hlt:∀b∈bs,b<256) (hz:(bs.getLast?).getD 0≠0) :
   1<=bs.length/\Y0 bs<8*bs.length/\∀j,Y0 bs<=j->j<8*bs.length->(Qf bs)[j]?=some (decide (j=Y0 bs)):=by
 (have hne:bs≠[]:=by rintro rfl;exact hz rfl)
 have hlen:1<=bs.length:=by
   cases bs
   . exact absurd rfl hne
   simp
 have hd:=List.dropLast_concat_getLast hne;(have hg:(bs.getLast?).getD 0=bs.getLast hne:=by rw [List.getLast?_eq_some_getLast hne];rfl);rw [hg]at hz;have hz8:=hlt _ (List.getLast_mem hne);unfold Y0;rw [hg];generalize bs.getLast hne=z at *;obtain⟨t1,t2⟩:=QaA z hz8 hz;refine⟨hlen,by omega,λj h1 h2=>?_⟩;have hb:=Qaz z hz8 hz (j-8*(bs.length-1)) (by omega) (by omega)
 have hrow:Qf bs=Qf bs.dropLast++Qr 8 z:=by
   rw [<-hd,Kl];simp [Qf]
 (have hl:(Qf bs.dropLast).length=8*(bs.length-1):=by rw [Yb,List.length_dropLast]);rw [hrow,List.getElem?_append_right (by omega),hl,hb]
 congr 1
 rw [decide_eq_decide];omega
theorem XK (F:Nat->Prop) (A:Option Addr) (n c:Nat) (bs:List Nat) (w:World) (hr:Rd w F A n (Q2 bs)) (hlt:∀b∈bs,b<256) (hn:n<=100000) :
   Calls prog 162 #[.slice A n c] w λe w'=>Q0 w w'/\if(bs.getLast?).getD 0=0 then e = .returned (.tuple #[.pointer none,.int .i64 14])else
     ∃g,e = .returned (.tuple #[.pointer (some ⟨g,0,none⟩),.int .i64 0])/\w.heap.size<=g/\VE w' (λb=>w.heap.size<=b/\b≠g) g ((Qf bs).take (Y0 bs)) 0:=by
 (have hL:bs.length=n:=by have:=hr.1;simpa using this);have HH:=hd_ (Q3M F A n c bs w hr hlt hn);have HR:=hd_ hr;(have hnI:(n:Int)<=100000:=by omega);have HL:=hd_ hL;have HC:=hd_ (λhz=>Xv hlt hz);have HLT:=hd_ hlt;clear hr hlt hL;refine Q8 λR hR=>?_;go_enter func162,ntmps162;go_wp2_with fail;refine HH.mono ?_;rintro e w1 ⟨s,rfl,o1,f1,k1⟩;obtain⟨A1,n1,c1,rfl,hn1⟩:=o1.form';obtain⟨_,hcap,hrd⟩:=o1.rd rfl;rw [<-hn1.out]at hrd hcap;(have hn1':n1=8*n:=by have:=hn1.out;have h2:=HL.out;simp at this;omega);subst hn1';(have hcI:(8*(n:Int))<=c1:=by omega);have HRD:=hd_ hrd;have F1:=hd_ f1;have K1:=hd_ k1;have LT:=hd_ (λk hk=>o1.lt (k:=k) hk);have R1:=hd_ (HR.fresh f1);clear hn1 hrd f1 k1 o1 HH hcap;by_cases hn0:n=0
 . subst hn0
   have hbs:=hd_ (List.eq_nil_of_length_eq_zero HL.out);clear hnI hn hcI HRD LT K1 R1 HR;go_wp2_with fail;(try go_ret2);refine hR.out _ _ ⟨F1.out,?_⟩;rw [if_pos (by rw [hbs.out];rfl)];rfl
 obtain⟨k,rfl⟩:∃k,n=k+1:=⟨n-1,by omega⟩;obtain⟨b,o,rfl,_,_,hc⟩:=R1.at_ (k:=k) (by omega);(have hk:k<bs.length:=by have:=HL.out;omega)
 have hz:(Q2 bs)[k]?=some (.int .u8 ((bs[k]:Nat):Int)):=by
   simp only [Q2,List.getElem?_map];rw [List.getElem?_eq_getElem hk];rfl
 rw [hz]at hc;(try simp at hc)
 have hlast:(bs.getLast?).getD 0=bs[k]:=by
   rw [List.getLast?_eq_getElem?,HL.out,Nat.add_sub_cancel,List.getElem?_eq_getElem hk];rfl
 have hz8:=HLT _ (List.getElem_mem hk);rw [hlast]at HC hR;generalize bs[k]=z at *;(have hkJ:(k:Int)<=100000:=by omega);clear hz hlast hk hn0 hnI hn;by_cases hz0:z=0
 . subst hz0
   clear hcI HRD LT K1 HC hz8;go_wp2_with fail;(try go_ret2);refine hR.out _ _ ⟨F1.out,?_⟩;rw [if_pos (by first|trivial|rfl)];rfl
 have HC2:=hd_ (HC hz0);(have hzI:¬(z:Int)=0:=by omega);(have hzb:((z:Int) == 0)=false:=by simp;omega);go_wp2_with fail;have hlen:bs.length=k+1:=HL.out;obtain⟨C,hCd⟩:=nm_ (Y0 bs);rw [<-hCd,hlen]at HC2;rw [<-hCd]at hR;obtain⟨_,hC1,hC2⟩:=HC2.out;obtain⟨b1,o1,rfl,_,_,_⟩:=HRD.at_ (k:=0) (by omega);have HBIT:=hd_ hC2;have HC8:=hd_ hC1;(have hCI:(C:Int)<8*(k+1):=by omega);have HNZ:=hd_ hz0;clear hC1 hC2 HC2 HC hz0 hlen hCd;go_loopg [4] (8*(k+1)-C) (λmm s wr=>wr=w1/\1<=mm/\C+mm<=8*(k+1)/\s = .slice (some ⟨b1,o1,none⟩) (C+mm) c1)
 case atStart=>exact⟨rfl,by have:=HC8.out;omega,by have:=HC8.out;omega,by rw [show C+(8*(k+1)-C)=8*(k+1) by have:=HC8.out;omega,HL.out]⟩
 case round =>
   obtain⟨rfl,hm1,hm8,rfl⟩:=hrel;obtain⟨j,rfl⟩:∃j,gk=j+1:=⟨gk-1,by omega⟩;have hbit:=HBIT (C+j) (by omega) (by omega);obtain⟨b',o',he,_,_,hcj⟩:=HRD.at_ (k:=C+j) (by omega);cases he
   have hbb:(QU (Qf bs))[C+j]?=some (.bool (decide (C+j=C))):=by
     simp only [QU,List.getElem?_map,hbit];rfl
   rw [hbb]at hcj;(have hI:((C+(j+1):Nat):Int)=(C:Int)+j+1:=by omega);(have hJ:((C+j:Nat):Int)=(C:Int)+j:=by omega);(have hjI:(C:Int)+j<8*(k+1):=by omega);have HM8:=hd_ hm8;clear hbit hbb hm1 hm8;(have hCc:((C:Nat):Int)<=c1:=by omega);by_cases hj:j=0
   . subst hj
     simp only [Nat.add_zero,decide_true]at hcj;clear hI hJ HM8;go_wp2_with fail;(try go_ret2);(have hle:C<=8*bs.length:=by have:=HC8.out;have:=HL.out;omega);(have htl:((Qf bs).take C).length=C:=by rw [List.length_take,Yb];omega);have htk:=HRD.take (k:=C) (by have:=HC8.out;omega);(have htr:(QU (Qf bs)).take C=QU ((Qf bs).take C):=by simp [QU]);rw [htr]at htk;refine hR.out _ _ ⟨F1.alloc _,?_⟩;rw [if_neg HNZ.out];refine⟨wr.heap.size,rfl,F1.size,some ⟨b1,o1,none⟩,c1,?_,?_,by rw [htl];omega,by rw [htl];omega⟩
     . have h:=Blk.new wr 214 #[.slice (some ⟨b1,o1,none⟩) C c1,.int .i64 0]
       rw [htl];simpa using h
     have h:=(htk.alloc (.cells #[.slice (some ⟨b1,o1,none⟩) C c1,.int .i64 0] 214)).mono (G:=λb=>w.heap.size<=b/\b≠wr.heap.size) (λb hb=>⟨K1 b hb,by have:=LT b hb;omega⟩);rw [htl];exact h
   rw [show decide (C+j=C)=false by simp;omega]at hcj;(have hj1:(1:Int)<=j:=by omega);have HJ:=hd_ hj;(have hjc:(C:Int)+j<=c1:=by omega);clear hj;go_wp2_with fail;go_roundg j
   case measure=>omega
   case rel=>exact⟨rfl,by have:=HJ.out;omega,by have:=HM8.out;omega,rfl⟩
def Za (w:World) (F:Nat->Prop) (g:Nat) (bs:List Nat) (t:Nat):Prop:=t<=8*bs.length/\∃fr,VE w F g ((Qf bs).take t) fr
theorem Za.upd {w w':World} {F S:Nat->Prop} {g:Nat} {bs:List Nat} {t:Nat} (h:Za w F g bs t) (hu:Upd S w w') (hg:¬S g) (hF:∀b,b<w.heap.size->F b->¬S b):Za w' F g bs t :=
 ⟨h.1,h.2.elim λfr hr=>⟨fr,hr.upd hu hg hF⟩⟩
theorem Za.fresh {w w':World} {F:Nat->Prop} {g:Nat} {bs:List Nat} {t:Nat} (h:Za w F g bs t) (hu:Q0 w w'):Za w' F g bs t:=h.upd hu (λh=>h) (λ_ _ _ h=>h)
theorem Za.lt {w:World} {F:Nat->Prop} {g:Nat} {bs:List Nat} {t:Nat} (h:Za w F g bs t):g<w.heap.size:=by
 obtain⟨_,fr,A,c,hb,_⟩:=h;exact hb.lt
theorem Q3S {bs:List Nat} {t n:Nat} (ht:t<=8*bs.length) (hn:n<=t):QI (((Qf bs).take t).drop (t-n))=Qj bs / 2^(t-n)%2^n:=by
 rw [List.drop_take,<-Vr,show t-(t-n)=n by omega]
theorem Xw (F:Nat->Prop) (g:Nat) (bs:List Nat) (t n:Nat) (w:World) (h:Za w F g bs t) (hn:n<=64) (hFg:∀b,F b->b≠g) :
   Calls prog 213 #[.pointer (some ⟨g,0,none⟩),.int .i64 n] w λe w'=>e = .returned (.tuple #[.int .u64 ((Qp (Qj bs) (t,0) n).1:Nat),.int .i64 (Qp (Qj bs) (t,0) n).2.2]) /\
     Upd (λb=>b=g) w w'/\Za w' F g bs (Qp (Qj bs) (t,0) n).2.1:=by
 obtain⟨ht,fr,hr⟩:=h;(have hl:((Qf bs).take t).length=t:=by rw [List.length_take,Yb];omega);by_cases hs:n<=t
 . have e:Qp (Qj bs) (t,0) n=(Qj bs / 2^(t-n)%2^n,t-n,0):=by simp [Qp,hs]
   rw [e];refine(Q9A F g _ fr n w hr hn (by rw [hl];exact hs) hFg).mono ?_;rintro e w' ⟨rfl,hu,hb⟩;rw [hl,Q3S ht hs];rw [hl,List.take_take,show min (t-n) t=t-n by omega]at hb;exact⟨rfl,hu,by show t-n<=_;omega,_,hb⟩
 (have e:Qp (Qj bs) (t,0) n=(0,t,14):=by simp [Qp,hs]);rw [e];refine(Q4D F g _ fr n w hr hn (by rw [hl];omega)).mono ?_;rintro e w' ⟨rfl,rfl⟩;exact⟨rfl,Upd.refl _ _,ht,fr,hr⟩
theorem Own.apart {w:World} {e e':TypeId} {v v':Value} {xs ys:List Value} (h:Own w e v xs) (h':Own w e' v' ys) (hne:e≠e') {b:Nat} (hb:v.ownBlock=some b):v'.ownBlock≠some b:=by
 rcases h.2 with ⟨rfl,_⟩|⟨g,cap,cur,rfl,_,hg,_⟩
 . simp [Value.ownBlock]at hb
 (have:g=b:=by simpa [Value.ownBlock]using hb);subst this;exact h'.ne_blk (show Blk w g e cur from hg) (λq=>hne q.symm)
def Q3T (l:List Int) (bs:List Nat) (w:World) (e:Ending) (w':World):Prop :=
  ∃(ends:Bool) (v u:Value) (x:List Nat),e = .returned (.tuple #[v,u,.bool ends])/\Qu w w' v x/\x.length<=8*bs.length/\∀k,Jb l bs k=if ends=true/\x.length=k then some x else none
theorem Q4E (F G:Nat->Prop) (A B:Option Addr) (n c m d:Nat) (l:List Int) (bs:List Nat) (w:World) (hr:Rd w F A n (Q7 l)) (hbs:Rd w G B m (Q2 bs)) (hlt:∀b∈bs,b<256) (hm:m<=100000) (ht:Qc l) :
   Calls prog 116 #[.slice A n c,.slice B m d] w (Q3T l bs w):=by
 (have hL:bs.length=m:=by have:=hbs.1;simpa using this);have HBK:=hd_ (XK G B m d bs w hbs hlt hm);have HRE:=hd_ (λW (hW:Q0 w W) x k (hk:k<=11) (hx:x<2^k)=>Q4C F A n c l x k W (hr.fresh hW) ht hk hx);have HC:=hd_ (λhz=>Xv hlt hz);have HT:=hd_ ht;have HL:=hd_ hL;have HM:=hd_ hm;clear hr hbs hlt hm ht hL;refine Q8 λR hR=>?_;unfold Q3T at hR;go_enter func116,ntmps116;go_wp2_with fail;refine HBK.mono ?_;rintro e w1 ⟨f1,hp⟩;have F1:=hd_ f1;clear f1 HBK;by_cases hz:(bs.getLast?).getD 0=0
 . rw [if_pos hz]at hp
   subst hp;have HZ:=hd_ hz;clear hz;go_wp2_with fail;(try go_ret3);exact hR _ _ ⟨false,_,_,[],rfl,⟨Own.nil _ _,F1.out,by simp [Value.ownBlock]⟩,by simp,λk=>by rw [Q8d HZ.out];simp⟩
 rw [if_neg hz]at hp;obtain⟨g,rfl,hg,br⟩:=hp;obtain⟨LA,lc,hb,hrd,hlc,-⟩:=br;obtain⟨-,hC8,-⟩:=HC hz;obtain⟨C,hC⟩:=nm_ (Y0 bs);rw [<-hC]at hC8 hb hrd hlc;(have hlen:((Qf bs).take C).length=C:=by rw [List.length_take,Yb];omega);rw [hlen]at hb hrd hlc;have c0:=hb.cell 0;simp at c0;have HRD:=hd_ hrd;have HZ:=hd_ hz;have HC8:=hd_ hC8;have HCC:=hd_ hC;have HLC:=hd_ hlc;(have hlcI:(C:Int)<=lc:=by omega);(have hCI:(C:Int)<=800000:=by have:=HL.out;have:=HM.out;omega);clear hz hg hb hrd hlc hC8 hlen hC HC;go_wp2_with fail;go_loopg [9,10,11] C (λf vo vl vr wr=>∃(x:List Nat) (ys:List Int),vr = .slice LA f lc/\f<=C/\x.length+f<=C/\ys.length=x.length/\Qu w1 wr vo x/\Own wr 3 vl (Q7 ys)/\(∀b,vl.ownBlock=some b->w1.heap.size<=b)/\QG l (Qj bs) C x.length=some (x,f))
 case atStart=>exact⟨[],[],rfl,Nat.le_refl _,by simp,rfl,⟨Own.nil _ _,Upd.refl _ _,by simp [Value.ownBlock]⟩,by simpa [Q7]using Own.nil _ _,by simp [Value.ownBlock],by rw [List.length_nil,QG]⟩
 case round =>
   obtain⟨x,ys,rfl,hgC,hxg,hyl,nb,ol,kl,hrk⟩:=hrel;clear c0;obtain⟨gq,rfl⟩:∃q,q=gk:=⟨gk,rfl⟩;obtain⟨w3,rfl⟩:=nm_ (wr);obtain⟨A9,n9,c9,rfl,hn9⟩:=nb.1.form';obtain⟨A8,n8,c8,rfl,hn8⟩:=ol.form';have NB:=hd_ nb;have OL:=hd_ ol;have KL:=hd_ kl;have HRK:=hd_ hrk;have HX:=hd_ (And.intro hgC (And.intro hxg hyl));have HN9:=hd_ hn9.out;clear nb ol kl hrk hn9 hn8 hyl hxg;by_cases h0:gq=0
   . subst h0
     clear hgC;go_wp2_with fail;(try go_ret3);refine hR.out _ _ ⟨true,_,_,x,rfl,⟨NB.1,F1.trans' NB.2.1,λb hb=>by have:=NB.2.2 b hb;have:=F1.size;omega⟩,by have:=HX.2.1;have:=HC8.out;omega,λk=>?_⟩;rw [Q8e HT.out HZ.out (by rw [<-HCC.out];exact HRK.out)];simp
   (have hgI:(0:Int)<gq:=by omega);obtain⟨k,hk⟩:=nm_ (min gq 11);(have hk11:k<=11:=by omega);(have hkg:k<=gq:=by omega);(have hmin:min (gq:Int) 11=(k:Nat):=by omega);have HK:=hd_ hk;have HKB:=hd_ (And.intro hk11 hkg);(have hkI:(k:Int)<=11:=by omega);(have hgqI:(gq:Int)<=C:=by omega);have HG0:=hd_ h0;(have hlenT:((Qf bs).take gq).length=gq:=by rw [List.length_take,Yb];have:=HC8.out;omega)
   have HRT:=hd_ (show Rd w3 (λb=>w.heap.size<=b/\b≠g) LA gq (QU ((Qf bs).take gq))from by
     have h:=(HRD.fresh NB.2.1).take (k:=gq) hgC;(have e:(QU ((Qf bs).take C)).take gq=QU ((Qf bs).take gq):=by simp [QU,<-List.map_take,List.take_take,Nat.min_eq_left hgC])
     rwa [e]at h)
   have HLT:=hd_ hlenT;clear h0 hk hk11 hkg hgC hlenT;go_wp2_with fail;go_loopg [13,14] k (λf vb vi wx=>wx=w3/\∃i:Nat,i+f=k/\vi = .int .i64 (i:Nat)/\vb = .int .u64 (QI (((Qf bs).take gq).drop (gq-i)):Nat))
   case atStart=>exact⟨rfl,0,by omega,rfl,by rw [Nat.sub_zero,List.drop_of_length_le (by rw [HLT.out];omega)];rfl⟩
   case round =>
     obtain⟨rfl,i,hi,rfl,rfl⟩:=hrel;have HI:=hd_ hi;clear hi;by_cases hlt:i<k
     . have hlI:(i:Int)<k:=by omega
       obtain⟨j,hj⟩:=nm_ (gq-1-i);(have hjg:j<gq:=by have:=HKB.2;omega);(have hjI:(gq:Int)-1-i=(j:Nat):=by have:=HKB.2;omega);(have hjgI:(j:Int)<gq:=by omega);obtain⟨b,o,hjl,rfl,_,hc⟩:=HRT.bool (k:=j) hjg;have hstep:=VZ (L:=(Qf bs).take gq) hjl;rw [show j+1=gq-i by have:=HKB.2;omega]at hstep;(have hj2:j=gq-(i+1):=by omega);have hBlt:=Zk (((Qf bs).take gq).drop (gq-i));rw [List.length_drop,HLT.out,show gq-(gq-i)=i by have:=HKB.2;omega]at hBlt;have hB11:2^i<=2048:=Nat.pow_le_pow_right (n:=2) (by decide) (show i<=11 by have:=HKB.1;omega);obtain⟨bt,hbt⟩:=nm_ (((Qf bs).take gq)[j]);rw [<-hbt]at hc hstep;obtain⟨V,hV⟩:=nm_ (QI (((Qf bs).take gq).drop (gq-i)));rw [<-hV]at hstep hBlt|-;(have hVI:(V:Int)<=2048:=by omega);rw [hj2]at hstep;have HST:=hd_ hstep;have HLI:=hd_ hlt;clear hj hjg hjl hstep hj2 hBlt hB11 hbt hV hlt
       cases bt with
       | true =>
         go_wp2_with fail;go_roundg (gk-1)
         case measure=>have:=HI.out;have:=HLI.out;omega
         case rel=>exact⟨rfl,i+1,by have:=HI.out;have:=HLI.out;omega,by go_num,by rw [HST.out];first|go_num|(simp only [Bool.toNat_false,Bool.toNat_true];go_num)⟩
       | false =>
         go_wp2_with fail;go_roundg (gk-1)
         case measure=>have:=HI.out;have:=HLI.out;omega
         case rel=>exact⟨rfl,i+1,by have:=HI.out;have:=HLI.out;omega,by go_num,by rw [HST.out];first|go_num|(simp only [Bool.toNat_false,Bool.toNat_true];go_num)⟩
     (have hik:i=k:=by have:=HI.out;omega);subst hik;(have hnl:¬(i:Int)<i:=by omega);rw [Q3S (bs:=bs) (t:=gq) (n:=i) (by have:=HC8.out;have:=HX.1;omega) HKB.2];have hX:=Nat.mod_lt (Qj bs / 2^(gq-i)) (Nat.two_pow_pos i);obtain⟨X,hXd⟩:=nm_ (Qj bs / 2^(gq-i)%2^i);rw [<-hXd]at hX|-;have HRD2:=hd_ (HRE wr (F1.trans' NB.2.1) X i HKB.1 hX);have h1:=Q9y (l:=l) (v:=Qj bs) HK.out;have h2:=Q6f (l:=l) (v:=Qj bs) HK.out;rw [<-hXd]at h1 h2;have h3:=Qay HT.out hX;have h4:=Q9z l X i;obtain⟨q,hq⟩:=nm_ (Jl l X i);rw [<-hq]at h1 h2 h3 h4 HRD2;obtain⟨s,u,er⟩:=q;simp only at h1 h2 h3 h4 HRD2;clear hXd hX hq hnl hlt;rcases h4 with rfl|rfl
     . have h1:=h1 rfl
       obtain⟨h3,h5,h6⟩:=h3 rfl;have HSY:=hd_ (Q6c HRK.out h1);clear h1 h2;(have hsI:(s:Int)<=255:=by omega);(have hws:IntKind.u8.wrap (s:Int)=s:=by rw [IntKind.wrap_u8'];omega);obtain⟨t,htd⟩:=nm_ (gq-u);have hug:=HKB.2;(have htI:(gq:Int)-u=(t:Nat):=by omega);(have htg:(t:Int)<gq:=by omega);(have htc:(t:Int)<=lc:=by omega);(have huI:(u:Int)<=11:=by have:=HKB.1;omega);rw [<-htd]at HSY;have HTG:=hd_ (show t<gq by omega);clear h3 h5 h6 htd hug;go_wp2_with fail;refine HRD2.mono ?_;rintro e w4 ⟨f4,rfl⟩;obtain⟨w5,P5,hw5,hP5,f45,-⟩:=al_ w4 5 #[.int .u8 (s:Nat)];have f5:Q0 wr w5:=f4.trans' f45;(have b5:Blk w5 P5 5 #[.int .u8 (s:Nat)]:=by rw [hw5];exact Qb hP5 _ _);have RB:=hd_ (show Rd w5 (λ_=>True) (some ⟨P5,0,none⟩) 1 (Q2 [s])from by simpa [Q2]using Blk.rds b5);have N5:=hd_ (NB.frs f5);have L5:=hd_ (OL.fresh f5);have F5:=hd_ f5;have HP:=hd_ hP5;have HW:=hd_ hw5;clear f4 f45 f5 b5 hP5 hw5 HRD2;go_wp2_with (at_builtin;simp only [<-HP.out,<-HW.out];go_must (refine Qm _ rfl (.tmp 70) (.tmp 73) _ rfl 5 _ 1 underlying22 JX rfl (.slice A9 n9 c9) _ rfl N5.1 _ _ _ _ rfl RB.out (Jo _) (by omega) (by have:=HX.2.1;rw [QL];omega) ?_));intro v6 w6 ho hg6 ha6;have N6:=hd_ (N5.app ho hg6 ha6);have L6:=hd_ (L5.upd (S:=λb=>Value.ownBlock (.slice A9 n9 c9)=some b) ((Upd.refl _ w5).grown hg6 (λk e _=>e)) (λb hb=>L5.apart N5.1 (by decide) hb));have HK6:=hd_ (show w1.heap.size<=w6.heap.size from N6.2.1.size);obtain⟨A6,n6,c6,rfl,hn6⟩:=N6.1.form';clear ho hg6 ha6 N5 L5 RB HP HW hn6;obtain⟨w7,P7,hw7,hP7,f7,b7⟩:=al_ w6 3 #[.int .i64 (t:Nat)];have RB:=hd_ (show Rd w7 (λ_=>True) (some ⟨P7,0,none⟩) 1 (Q7 [(t:Int)])from by simpa [Q7]using Blk.rds b7);have N7:=hd_ (N6.frs f7);have L7:=hd_ (L6.fresh f7);have HP:=hd_ hP7;have HW:=hd_ hw7;clear f7 b7 hP7 hw7;go_wp2_with (at_builtin;simp only [<-HP.out,<-HW.out];go_must (refine Qm _ rfl (.tmp 75) (.tmp 78) _ rfl 3 _ 8 underlying33 QV rfl (.slice A8 n8 c8) _ rfl L7.out _ _ _ _ rfl RB.out (by simp [Q7,Value.oneCell']) (by omega) (by have:=HX.out;rw [Qz];omega) ?_));intro v8 w8 ho hg8 ha8;have L8:=hd_ (show Own w8 3 v8 (Q7 (ys++[(t:Int)]))from by simpa [Q7]using ho);have K8:=hd_ (Yj (S:=λk=>w1.heap.size<=k) ha8 (λk hk=>KL k hk) (N7.2.1.size));have N8:=hd_ (show Qu w1 w8 (.slice A6 n6 c6) (x++[s])from⟨N7.1.upd (S:=λb=>Value.ownBlock (.slice A8 n8 c8)=some b) ((Upd.refl _ w7).grown hg8 (λk e _=>e)) (λb hb=>N7.1.apart L7.out (by decide) hb),N7.2.1.grown hg8 (λk hk hlt=>by have:=KL k hk;omega),N7.2.2⟩);clear ho hg8 ha8 L7 RB HP HW
       go_wp2_with fail;go_roundg t
       case measure=>have:=HTG.out;omega
       case rel=>exact⟨x++[s],ys++[(t:Int)],rfl,by have:=HTG.out;have:=HX.1;omega,by rw [List.length_append];have:=HTG.out;have:=HX.2.1;simp;omega,by simp [HX.2.2],N8.out,L8.out,K8.out,by rw [List.length_append];exact HSY.out⟩
     have HNS:=hd_ (h2 (by decide));clear h1 h2 h3;go_wp2_with fail;refine HRD2.mono ?_;rintro e w4 ⟨f4,rfl⟩;have N5:=hd_ (NB.frs f4);clear f4 HRD2;go_wp2_with fail;(try go_ret3);refine hR.out _ _ ⟨false,_,_,x,rfl,⟨N5.1,F1.trans' N5.2.1,λb hb=>by have:=N5.2.2 b hb;have:=F1.size;omega⟩,by have:=HX.2.1;have:=HC8.out;omega,λk=>?_⟩;rw [Q6e HT.out HZ.out (by rw [<-HCC.out];exact HRK.out) HG0.out HNS.out];simp
theorem Q1C (F G:Nat->Prop) (A B:Option Addr) (n c m d k:Nat) (l:List Int) (bs:List Nat) (w:World) (hr:Rd w F A n (Q7 l)) (hbs:Rd w G B m (Q2 bs)) (hlt:∀b∈bs,b<256) (hn:n<=2^40) (hm:m<=100000) (hk:k<=131072) :
   Calls prog 58 #[.slice A n c,.slice B m d,.int .i64 (k:Nat)] w (YQ (if Qc l then Jb l bs k else none) (if Qc l then 14 else 12) w):=by
 have HRI:=hd_ (KW F A n c l w hr hn);by_cases ht:Qc l
 . simp only [if_pos ht]
   rw [decide_eq_true ht]at HRI;have HEA:=hd_ (Q4E F G A B n c m d l bs w hr hbs hlt hm ht);unfold Q3T at HEA;(have hkI:(k:Int)<=131072:=by omega);(have hk0:¬(k:Int)<0:=by omega);have HL:=hd_ (show bs.length<=100000 by have:=hbs.1;simp at this;omega);clear hr hbs hlt hn hm hk ht;refine Q8 λR hR=>?_;unfold YQ at hR;go_enter func58,ntmps58;go_wp2_with fail;refine HRI.mono ?_;rintro e w' ⟨rfl,rfl⟩;go_wp2_with fail;refine HEA.mono ?_;rintro e w1 ⟨ends,v,u,x,rfl,nb,hx8,hall⟩;have hk1:=hall k;obtain⟨A1,n1,c1,rfl,hn1⟩:=nb.1.form';have NB:=hd_ nb;(have hnx:n1=x.length:=by rw [hn1.out];simp);(have hn1I:(n1:Int)<=800000:=by have:=HL.out;omega);rw [hk1,<-hnx]at hR;clear hn1 hall hx8 HEA hk1 nb HRI
   cases ends with
   | false =>
     simp only [Bool.false_eq_true,false_and,if_false]at hR;clear hnx;go_wp2_with fail;(try go_ret3);exact hR _ _ ⟨rfl,NB.2.1⟩
   | true =>
     simp only [true_and]at hR;clear hnx;by_cases he:n1=k
     . subst he
       simp only [if_true]at hR;go_wp2_with fail;(try go_ret3);exact hR _ _ ⟨_,rfl,NB.out⟩
     simp only [if_neg he]at hR;(have heb:((n1:Int) != (k:Int))=true:=by simp;omega);(have heb2:((n1:Int) == (k:Int))=false:=by simp;omega);clear he;go_wp2_with fail;(try go_ret3);exact hR _ _ ⟨rfl,NB.2.1⟩
 simp only [if_neg ht];rw [decide_eq_false ht]at HRI;clear hr hbs hlt hn hm hk ht;refine Q8 λR hR=>?_;go_enter func58,ntmps58;go_wp2_with fail;refine HRI.mono ?_;rintro e w' ⟨rfl,rfl⟩;go_wp2_with fail;(try go_ret3);exact hR _ _ ⟨rfl,Upd.refl _ _⟩
def Ym (s j:Nat):Nat:=j*Yn s%s
theorem Q8g {s j:Nat} (h:j<s):(Y8 s)[j]?=some (Ym s j):=by
 unfold Y8 Ym;rw [List.getElem?_map,List.getElem?_range h];rfl
theorem Xx {s j:Nat} (h:0<s):Ym s j<s:=Nat.mod_lt _ h
theorem Q6g (s j:Nat):Ym s (j+1)=(Ym s j+Yn s)%s:=by
 unfold Ym;rw [Nat.add_mul,Nat.one_mul,Nat.mod_add_mod]
theorem VF {s j:Nat} (h:j<s):(Y8 s).take (j+1)=(Y8 s).take j++[Ym s j]:=by
 rw [List.take_add_one,Q8g h];rfl
def ZY (s:Nat) (rest rs:List Nat) (m j:Nat) (f:Int->Option Int):Prop :=
  j<s/\∃J,(J=j\/J=j+1)/\QC rest (Ql s rs) ((Y8 s).take J)=(f,m)
theorem Q4F {s:Nat} (rest rs:List Nat) (hs:0<s):ZY s rest rs 0 0 (Ql s rs):=⟨hs,0,.inl rfl,by simp [QC]⟩
theorem Q8h {p:Nat} {rest rs:List Nat} {m j:Nat} {f:Int->Option Int} (hp:p<=9) (hR:rs.length+rest.length=2^p) (h:ZY (2^p) rest rs m j f)
   (ho:(f (Ym (2^p) j:Nat)).isSome=true) (hm:m<rest.length):ZY (2^p) rest rs m (j+1) f:=by
 obtain⟨hj,J,hJ,hv⟩:=h
 have h1:QC rest (Ql (2^p) rs) ((Y8 (2^p)).take (j+1))=(f,m):=by
   rcases hJ with rfl|rfl
   . rw [VF hj,Jg,hv]
     unfold YZ;rw [if_pos ho]
   exact hv
 refine⟨?_,j+1,.inl rfl,h1⟩;rcases Nat.lt_or_ge (j+1) (2^p)with h|h
 . exact h
 exfalso;rw [List.take_of_length_le (by rw [Q0m];exact h)]at h1;have h2:=Q1D hR (Y8 (2^p)) λy hy=>Xf (Nat.two_pow_pos p) hy;rw [h1]at h2;simp only at h2;(have h3:0<(List.range (2^p)).countP (fun(x:Nat)=>(f x).isNone):=by omega);rw [List.countP_pos_iff]at h3;obtain⟨x,hx,hn⟩:=h3;have h4:=(VL rest (Ql (2^p) rs) (Y8 (2^p)) (Km p hp)).1 x;rw [h1,decide_eq_true (Q2w hp (List.mem_range.1 hx)),Bool.or_true]at h4;simp only at h4;rw [Option.isNone_iff_eq_none]at hn;rw [hn]at h4;cases h4
theorem Q6h {s:Nat} {rest rs:List Nat} {m j:Nat} {f:Int->Option Int} (h:ZY s rest rs m j f) (ho:(f (Ym s j:Nat)).isSome=false) {i:Nat} (hi:rest[m]?=some i) :
   ZY s rest rs (m+1) j (λx=>if x=(Ym s j:Int)then some (i:Int)else f x):=by
 obtain⟨hj,J,hJ,hv⟩:=h;refine⟨hj,j+1,.inr rfl,?_⟩
 have hJj:J=j:=by
   rcases hJ with rfl|rfl
   . rfl
   exfalso;rw [VF hj,Jg]at hv;unfold YZ at hv;split at hv
   . next h=>rw [hv]at h;rw [ho]at h;cases h
   injection hv with h1 h2;have h3:=congrFun h1 (Ym s j:Nat);simp only [if_true]at h3;rw [<-h3]at ho;cases ho
 subst hJj;rw [VF hj,Jg,hv];unfold YZ;rw [if_neg (by rw [ho];simp),hi];rfl
theorem Q6i {s:Nat} {rest rs:List Nat} {j:Nat} {f:Int->Option Int} (hR:rs.length+rest.length=s) (h:ZY s rest rs rest.length j f):(QC rest (Ql s rs) (Y8 s)).1=f:=by
 obtain⟨hj,J,hJ,hv⟩:=h
 have key:∀k,J+k<=s->QC rest (Ql s rs) ((Y8 s).take (J+k))=(f,rest.length):=by
   intro k
   induction k with
   | zero=>intro _;exact hv
   | succ k ih =>
     intro hk;have h1:=ih (by omega);rw [show J+(k+1)=J+k+1 by omega,VF (by omega),Jg,h1];unfold YZ;cases ho:((f,rest.length).1 (Ym s (J+k):Nat)).isSome
     . exfalso
       have h2:=Q0G (rest:=rest) (rs:=rs) (pre:=(Y8 s).take (J+k)) (x:=Ym s (J+k)) (λy hy=>Xf (by omega) (List.mem_of_mem_take hy)) (Xx (by omega)) hR (by rw [h1];exact ho);rw [h1]at h2;exact absurd h2 (Nat.lt_irrefl _)
     rw [if_pos rfl]
 have h2:=key (s-J) (by omega);rw [show J+(s-J)=s by omega,List.take_of_length_le (by rw [Q0m];exact Nat.le_refl _)]at h2;rw [h2]
def Zo (s:Nat) (f:Int->Option Int):List Int:=(List.range s).map fun(x:Nat)=>(f x).getD (-1)
@[simp] theorem Q3U (s:Nat) (f:Int->Option Int):(Zo s f).length=s:=by simp [Zo]
theorem KC {s:Nat} {f:Int->Option Int} {x:Nat} (h:x<s):(Zo s f)[x]?=some ((f x).getD (-1)):=by
 unfold Zo;rw [List.getElem?_map,List.getElem?_range h];rfl
theorem Q2N {s:Nat} {f:Int->Option Int} {y:Nat} (i:Int) (h:y<s):(Zo s f).set y i=Zo s (λx=>if x=(y:Int)then some i else f x):=by
 apply List.ext_getElem?;intro k;rw [List.getElem?_set,Q3U];by_cases hk:k<s
 . rw [KC hk,KC hk]
   by_cases hy:y=k
   . subst hy
     rw [if_pos rfl,if_pos hk,if_pos rfl];rfl
   rw [if_neg hy,if_neg (by omega)]
 rw [List.getElem?_eq_none (by simp;omega),List.getElem?_eq_none (by simp;omega),if_neg (by omega)]
theorem Q6j (s:Nat):Zo s (Ql s [])=List.replicate s (-1):=by
 apply List.ext_getElem?;intro k;by_cases hk:k<s
 . rw [KC hk,List.getElem?_replicate,if_pos hk]
   unfold Ql;(split<;>simp)
 rw [List.getElem?_eq_none (by simp;omega),List.getElem?_eq_none (by simp;omega)]
theorem Q8i {p:Nat} {N:List Int} (hv:Yc p N 256 9):Zo (2^p) (QC (Qo N) (Ql (2^p) (Qw N)) (Y8 (2^p))).1=Qi p N:=by
 unfold Zo Qi;apply List.map_congr_left;intro x hx;obtain⟨c,_,_,h⟩:=Xh hv (List.mem_range.1 hx);rw [h];rfl
def ZC (f:Int->Option Int):Prop:=∀x v,f x=some v->0<=v
theorem ZC.rare (s:Nat) (rs:List Nat):ZC (Ql s rs):=by
 intro x v hx;unfold Ql at hx;split at hx
 . rcases hi:rs[((s:Int)-1-x).toNat]? with _|c
   . rw [hi]at hx;cases hx
   rw [hi]at hx;injection hx with hx;have:((c:Nat):Int)=v:=hx;omega
 cases hx
theorem ZC.put {f:Int->Option Int} (h:ZC f) (y:Int) (i:Nat):ZC (λx=>if x=y then some (i:Int)else f x):=by
 intro x v hx;simp only at hx;split at hx
 . injection hx with hx;omega
 exact h x v hx
theorem ZC.some {f:Int->Option Int} (h:ZC f) (x:Int):(f x).isSome=decide (0<=(f x).getD (-1)):=by
 rcases hx:f x with _|v
 . simp
 have:=h x v hx;simp [this]
theorem Q9B {N:List Int} {k m:Nat} (h:k<N.length) (h1:(Qo (N.take k)).length<=m) (h2:m<(Qo (N.take (k+1))).length):(Qo N)[m]?=some k:=by
 have e:Qo N=Qo (N.take (k+1))++Yp (k+1) (N.drop (k+1)):=by
   have key:∀(l:List Int) (i q:Nat),Yp i l=Yp i (l.take q)++Yp (i+q) (l.drop q):=by
     intro l
     induction l with
     | nil=>intro i q;simp [Yp]
     | cons v l ih =>
       intro i q
       cases q with
       | zero=>simp [Yp]
       | succ q =>
         simp only [List.take_succ_cons,List.drop_succ_cons,Yp,List.append_assoc];rw [ih (i+1) q,show i+1+q=i+(q+1) by omega]
   have:=key N 0 (k+1);rw [Nat.zero_add]at this;exact this
 rw [e,List.getElem?_append_left h2,KX h,List.getElem?_append_right h1,List.getElem?_replicate,if_pos];rw [KX h,List.length_append,List.length_replicate]at h2;omega
theorem XL {l:List Bool} (h:QI l=0) {j:Nat} (hj:j<l.length):l[j]?=some false:=by
 have:=Vk h;rw [this];simp [hj]
theorem X1 {l:List Bool} (h:∀j,j<l.length->l[j]?=some false):QI l=0:=by
 have:l=List.replicate l.length false:=by
   apply List.ext_getElem?;intro j;by_cases hj:j<l.length
   . rw [h j hj];simp [hj]
   rw [List.getElem?_eq_none (by omega),List.getElem?_eq_none (by simp;omega)]
 rw [this,Q4y]
def Q6k (L:List Bool) (fr:Nat):Nat:=QI ((L.drop fr).take ((8-fr%8)%8))
theorem Q6l (F:Nat->Prop) (g:Nat) (L:List Bool) (fr:Nat) (w:World) (h:Yk w F g L fr) (h8:L.length%8=0) (hL:L.length<=2^40) :
   Calls prog 211 #[.pointer (some ⟨g,0,none⟩)] w λe w' =>
     e = .returned (if Q6k L fr=0 then .tuple #[.int .i64 ((fr+(8-fr%8)%8) / 8:Nat),.int .i64 0]else .tuple #[.int .i64 0,.int .i64 14])/\Upd (λb=>b=g) w w':=by
 obtain⟨A,c,hb,hr,hf,hc⟩:=h;have c0:=hb.cell 0;have c1:=hb.cell 1;have z0:=hb.frozen 0;have z1:=hb.frozen 1;simp at c0 c1;obtain⟨P,hP⟩:=nm_ ((8-fr%8)%8);(have hpv:Q6k L fr=QI ((L.drop fr).take P):=by rw [hP];rfl);rw [<-hP,hpv];(have hPm:P<=L.length-fr:=by omega);(have hP8:P<8:=by omega);(have hPI:(P:Int)<8:=by omega);(have hcI:(P:Int)<=c:=by omega);(have hmI:((L.length-fr:Nat):Int)<=1099511627776:=by omega);(have hPmI:(P:Int)<=((L.length-fr:Nat):Int):=by omega);(have hmc:((L.length-fr:Nat):Int)<=c:=by omega);(have hfI:(fr:Int)<=1099511627776:=by omega);(have hend:((fr:Int)+P)%8=0:=by omega);(have hgo:∀k:Nat,k<P->¬((fr:Int)+k)%8=0:=λk hk=>by omega);(have hvE:((fr:Int)+P) / 8=((fr+P) / 8:Nat):=by omega);have HE:=hd_ hend;have HGO:=hd_ hgo;have HR:=hd_ hr;have HVE:=hd_ hvE;(have hlen:((L.drop fr).take P).length=P:=by rw [List.length_take,List.length_drop];omega);have HLEN:=hd_ hlen;obtain⟨m,hm⟩:=nm_ (L.length-fr);rw [<-hm]at c0 hmI hPmI hmc HR;clear hb hr hend hgo hvE hpv hP hm hPm hf hc h8 hlen;obtain⟨V,hV⟩:=nm_ (QI ((L.drop fr).take P));rw [<-hV];have HV:=hd_ hV;clear hV;refine Q8 λR hR=>?_;by_cases hcP:c=P
 all_goals
   (have hcP':(c:Int)=P\/(P:Int)<c:=by omega);have HCP:=hd_ hcP;clear hcP
 . have hcPI:(c:Int)<=P:=by have:=HCP.out;omega
   clear hcP';go_enter func211,ntmps211;go_wp2_with fail;go_loopg [4] P (λmm i wr=>wr=w/\∃k:Nat,k+mm=P/\i = .int .i64 k/\∀j,j<k->(L.drop fr)[j]?=some false)
   case atStart=>exact⟨rfl,0,by omega,rfl,λj hj=>by omega⟩
   case round =>
     obtain⟨rfl,k,hk,rfl,hall⟩:=hrel;have HK:=hd_ hk;have HA:=hd_ hall;clear hk hall;by_cases hlt:k<P
     . have hgo:=HGO k hlt
       obtain⟨b,o,hkl,rfl,hb,hcell⟩:=HR.bool (k:=k) (by omega);have hget:(L.drop fr)[k]?=some (L.drop fr)[k]:=List.getElem?_eq_getElem hkl;(have hkm:(k:Int)<m:=by omega);generalize (L.drop fr)[k]=bb at *;have HG:=hd_ hget;clear hget hkl;cases bb
       . go_wp2_with fail
         go_roundg (gk-1)
         case measure=>have:=HK.out;omega
         case rel=>exact⟨rfl,k+1,by have:=HK.out;omega,by go_num,λj hj=>by
           rcases Nat.lt_or_ge j k with h|h
           . exact HA j h
           (obtain rfl:j=k:=by omega)
           exact HG.out⟩
       go_wp2_with fail;(try go_ret2)
       have hne:¬V=0:=by
         intro h0;rw [HV.out]at h0;have h1:=XL h0 (j:=k) (by rw [HLEN.out];exact hlt);rw [List.getElem?_take,if_pos hlt,HG.out]at h1;cases h1
       exact hR _ _ ⟨by rw [if_neg hne];rfl,Upd.refl _ _⟩
     (obtain rfl:k=P:=by have:=HK.out;omega);have hend:=HE.out;go_wp2_with fail;(try go_ret2)
     have hz:V=0:=by
       rw [HV.out];refine X1 λj hj=>?_;(have hj':j<k:=by have:=HLEN.out;omega);rw [List.getElem?_take,if_pos hj'];exact HA j hj'
     refine hR.out _ _ ⟨?_,?_⟩
     . rw [if_pos hz,<-HVE.out];rfl
     exact((Upd.refl (λb=>b=g) wr).setCell (p:=⟨g,0,none⟩) (λ_=>rfl) _).setCell (p:=⟨g,1,none⟩) (λ_=>rfl) _
 (have hcPI:(P:Int)<c:=by have:=HCP.out;omega);clear hcP';go_enter func211,ntmps211;go_wp2_with fail;go_loopg [4] P (λmm i wr=>wr=w/\∃k:Nat,k+mm=P/\i = .int .i64 k/\∀j,j<k->(L.drop fr)[j]?=some false)
 case atStart=>exact⟨rfl,0,by omega,rfl,λj hj=>by omega⟩
 case round =>
   obtain⟨rfl,k,hk,rfl,hall⟩:=hrel;have HK:=hd_ hk;have HA:=hd_ hall;clear hk hall;by_cases hlt:k<P
   . have hgo:=HGO k hlt
     obtain⟨b,o,hkl,rfl,hb,hcell⟩:=HR.bool (k:=k) (by omega);have hget:(L.drop fr)[k]?=some (L.drop fr)[k]:=List.getElem?_eq_getElem hkl;(have hkm:(k:Int)<m:=by omega);generalize (L.drop fr)[k]=bb at *;have HG:=hd_ hget;clear hget hkl;cases bb
     . go_wp2_with fail
       go_roundg (gk-1)
       case measure=>have:=HK.out;omega
       case rel=>exact⟨rfl,k+1,by have:=HK.out;omega,by go_num,λj hj=>by
         rcases Nat.lt_or_ge j k with h|h
         . exact HA j h
         (obtain rfl:j=k:=by omega)
         exact HG.out⟩
     go_wp2_with fail;(try go_ret2)
     have hne:¬V=0:=by
       intro h0;rw [HV.out]at h0;have h1:=XL h0 (j:=k) (by rw [HLEN.out];exact hlt);rw [List.getElem?_take,if_pos hlt,HG.out]at h1;cases h1
     exact hR _ _ ⟨by rw [if_neg hne];rfl,Upd.refl _ _⟩
   (obtain rfl:k=P:=by have:=HK.out;omega);have hend:=HE.out;go_wp2_with fail;(try go_ret2)
   have hz:V=0:=by
     rw [HV.out];refine X1 λj hj=>?_;(have hj':j<k:=by have:=HLEN.out;omega);rw [List.getElem?_take,if_pos hj'];exact HA j hj'
   refine hR.out _ _ ⟨?_,?_⟩
   . rw [if_pos hz,<-HVE.out];rfl
   exact((Upd.refl (λb=>b=g) wr).setCell (p:=⟨g,0,none⟩) (λ_=>rfl) _).setCell (p:=⟨g,1,none⟩) (λ_=>rfl) _
end Go.Proofs.YtckjdhaflokcgaaGreat
