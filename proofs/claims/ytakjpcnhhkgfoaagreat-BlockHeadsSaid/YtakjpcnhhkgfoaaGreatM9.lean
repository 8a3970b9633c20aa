/-
  Joined texts, part 9: contracts and plain lemmas.
  Conditions: none beyond those of each theorem.
-/
import Derived.Lib.EndianBits
import Derived.Test.YtakjpcnhhkgfoaaGreatM8
set_option maxHeartbeats 1000000
set_option linter.unusedVariables false
set_option linter.unusedSimpArgs false
set_option maxRecDepth 100000
universe u
namespace Go.Proofs.YtakjpcnhhkgfoaaGreat
open Go.RowKit
theorem Y7 (k:Nat) (m n:Int) (hm:(BitVec.ofInt 64 m).toNat=2^k-1) (hr:IntKind.i64.wrap (((n%((2^64:Nat):Int)).toNat%2^k:Nat):Int)=n%2^k):bits .and .i64 n m=n%2^k:=by
 have key:(BitVec.ofInt 64 n &&& BitVec.ofInt 64 m).toNat=(n%((2^64:Nat):Int)).toNat%2^k:=by
   rw [BitVec.toNat_and,BitVec.toNat_ofInt,hm,Nat.and_two_pow_sub_one_eq_mod]
 show IntKind.i64.wrap ((BitVec.ofInt 64 n &&& BitVec.ofInt 64 m).toNat:Nat)=n%2^k;rw [key,hr]
theorem Y8 (n:Int):bits .and .i64 n 1=n%2:=Y7 1 1 n (by decide) (by rw [IntKind.wrap_i64];omega)
theorem Y9 (n:Int):bits .and .i64 n 3=n%4:=Y7 2 3 n (by decide) (by rw [IntKind.wrap_i64];omega)
theorem J4 (n:Int) (h0:0<=n) (h1:n<4294967296):bits .and .u32 n 3=n%4:=by
 (have hm:(BitVec.ofInt 32 3).toNat=2^2-1:=by decide)
 have key:(BitVec.ofInt 32 n &&& BitVec.ofInt 32 3).toNat=(n%((2^32:Nat):Int)).toNat%2^2:=by
   rw [BitVec.toNat_and,BitVec.toNat_ofInt,hm,Nat.and_two_pow_sub_one_eq_mod]
 show IntKind.u32.wrap ((BitVec.ofInt 32 n &&& BitVec.ofInt 32 3).toNat:Nat)=n%4;rw [key,IntKind.wrap_u32];omega
theorem YI (x y:Int) (hx0:0<=x) (hx:x<8) (hy0:0<=y) (hy:y%8=0) (hy1:y<4294967296):bits .or .u32 x y=x+y :=
 bits_join_low .u32 32 (by decide) wraps_u32 3 x y hx0 hx (by omega) hy0 hy hy1
theorem YJ (y:Int) (hy0:0<=y) (hy:y%2=0) (hy1:y<4294967296):bits .or .u32 y 1=y+1:=by
 (have hc:bits .or .u32 y 1=bits .or .u32 1 y:=by simp only [bits,BitVec.or_comm]);rw [hc,bits_join_low .u32 32 (by decide) wraps_u32 1 1 y (by decide) (by decide) (by decide) hy0 hy hy1];omega
theorem QM (n:Int) (h₀:0<=n) (h₁:n<2^63):IntKind.i64.wrap n=n:=by rw [IntKind.wrap_i64];omega
theorem QQ (x y:Int) (hx0:0<=x) (hx:x<256) (hy0:0<=y) (hy:y%256=0) (hy1:y<16777216):bits .or .i64 x y=x+y :=
 bits_join_low .i64 63 (by decide) QM 8 x y hx0 hx (by omega) hy0 hy (by omega)
theorem QN (x y:Int) (hx0:0<=x) (hx:x<65536) (hy0:0<=y) (hy:y%65536=0) (hy1:y<4294967296):bits .or .i64 x y=x+y :=
 bits_join_low .i64 63 (by decide) QM 16 x y hx0 hx (by omega) hy0 hy (by omega)
def Qb (k s:Nat) (l:Bool):Nat:=k*2+s*8+(if l then 1 else 0)
def Qo (k s:Nat) (l:Bool):List Nat:=[Qb k s l%256,Qb k s l / 256%256,Qb k s l / 65536]
theorem Yk {k s:Nat} {l:Bool} (hk:k<4) (hs:s<2097152):Qb k s l<16777216:=by
 unfold Qb;(split<;>omega)
theorem Jb {k s:Nat} {l:Bool} (hk:k<4) (hs:s<2097152):∀b∈Qo k s l,b<256:=by
 have:=Yk (l:=l) hk hs;intro b hb;simp [Qo]at hb;omega
def Qf (m:Nat) (x:Int):Nat:=(x%m).toNat
def Q4 (w:World) (G:Nat->Prop) (g:Nat) (L:List Nat) (size total:Nat):Prop :=
  ∃v,Blk w g 62 #[v,.int .i64 size,.int .i64 total]/\Own w 5 v (Q1 L)/\∀k,v.ownBlock=some k->G k
theorem Q4.upd {w w':World} {G S:Nat->Prop} {g:Nat} {L:List Nat} {s t:Nat} (h:Q4 w G g L s t) (hu:Upd S w w') (hg:¬S g) (hG:∀b,b<w.heap.size->G b->¬S b):Q4 w' G g L s t:=by
 obtain⟨v,h1,h2,h3⟩:=h;exact⟨v,h1.upd hu hg,h2.upd hu (fun b hb=>hG b (h2.lt hb) (h3 b hb)),h3⟩
theorem Q4.fresh {w w':World} {G:Nat->Prop} {g:Nat} {L:List Nat} {s t:Nat} (h:Q4 w G g L s t) (hu:Q0 w w'):Q4 w' G g L s t:=h.upd hu (fun h=>h) (fun _ _ _ h=>h)
theorem Q4.mono {w:World} {G G':Nat->Prop} {g:Nat} {L:List Nat} {s t:Nat} (h:Q4 w G g L s t) (hG:∀b,G b->G' b):Q4 w G' g L s t:=by
 obtain⟨v,h1,h2,h3⟩:=h;exact⟨v,h1,h2,fun k hk=>hG k (h3 k hk)⟩
theorem Q4.lt {w:World} {G:Nat->Prop} {g:Nat} {L:List Nat} {s t:Nat} (h:Q4 w G g L s t):g<w.heap.size:=by
 obtain⟨v,h1,_⟩:=h;exact h1.lt
theorem YK (w:World):Calls Tryz.prog 37 #[.pointer none] w fun e w'=>e = .returned (.bool true)/\w=w':=by
 go_enter Tryz.func37,Tryz.ntmps37;go_wp2_with fail;(try go_ret);exact⟨rfl,rfl⟩
theorem QR (G:Nat->Prop) (g:Nat) (L:List Nat) (s t:Nat) (w:World) (h:Q4 w G g L s t) (hs:0<s) :
   Calls Tryz.prog 37 #[.pointer (some ⟨g,0,none⟩)] w fun e w'=>e = .returned (.bool false)/\w=w':=by
 obtain⟨v,hb,-,-⟩:=h;have c1:=hb.cell 1;simp at c1;(have hs0:((s:Int) == 0)=false:=by simp;omega);clear hb hs;go_enter Tryz.func37,Tryz.ntmps37;go_wp2_with fail;(try go_ret);exact⟨rfl,rfl⟩
theorem Yz (w:World):Calls Tryz.prog 24 #[.pointer none] w fun e w'=>e = .returned (.int .i64 0)/\w=w':=by
 go_enter Tryz.func24,Tryz.ntmps24;go_wp2_with fail;refine(YK w).mono ?_;rintro e w1 ⟨rfl,rfl⟩;go_wp2_with fail;(try go_ret);exact⟨rfl,rfl⟩
theorem Qk (G:Nat->Prop) (g:Nat) (L:List Nat) (s t:Nat) (w:World) (h:Q4 w G g L s t) (hs:0<s) :
   Calls Tryz.prog 24 #[.pointer (some ⟨g,0,none⟩)] w fun e w'=>e = .returned (.int .i64 s)/\w=w':=by
 have HN:=hd_ (QR G g L s t w h hs);obtain⟨v,hb,-,-⟩:=h;have c1:=hb.cell 1;simp at c1;clear hb hs;go_enter Tryz.func24,Tryz.ntmps24;go_wp2_with fail;refine HN.out.mono ?_;rintro e w1 ⟨rfl,rfl⟩;go_wp2_with fail;(try go_ret);exact⟨rfl,rfl⟩
theorem J5 (G:Nat->Prop) (g:Nat) (L:List Nat) (s t:Nat) (w:World) (h:Q4 w G g L s t) (hs:L.length<=2*s) (hs2:s<=2^40) :
   Calls Tryz.prog 35 #[.pointer (some ⟨g,0,none⟩),.int .i64 s] w fun e w'=>e = .returned (.tuple #[])/\w=w':=by
 obtain⟨v,hb,ho,-⟩:=h;obtain⟨A,n,c,rfl,hn⟩:=ho.form';(have hn':n=L.length:=by have:=hn.out;rwa [Q7]at this);have c0:=hb.cell 0;simp at c0;(have hle:¬(2*(s:Int))<n:=by omega);(have hsI:(s:Int)<=1099511627776:=by omega);have h2:IntKind.i64.wrap (2*(s:Int))=2*s:=IntWalk.i64_in _ (by omega);clear hb ho hn hn' hs hs2;go_enter Tryz.func35,Tryz.ntmps35;go_wp2_with fail;(try go_end0);exact⟨rfl,rfl⟩
theorem Ya (F G:Nat->Prop) (g:Nat) (L xs:List Nat) (s t n c:Nat) (A:Option Addr) (w:World) (h:Q4 w G g L s t) (hr:Rd w F A n (Q1 xs)) (hs:L.length+n<=2*s) (hs2:s<=2^38) :
   Calls Tryz.prog 22 #[.pointer (some ⟨g,0,none⟩),.slice A n c] w fun e w'=>e = .returned (.tuple #[])/\Upd (fun b=>b=g\/G b) w w'/\Q4 w' (fun b=>G b\/w.heap.size<=b) g (L++xs) s t:=by
 (have hxn:xs.length=n:=by have:=hr.1;rwa [Q7]at this);(have hLs:(L++xs).length<=2*s:=by rw [List.length_append];omega);have HKE:=hd_ (fun W (h:Q4 W (fun b=>G b\/w.heap.size<=b) g (L++xs) s t)=>J5 _ g (L++xs) s t W h hLs (by omega));obtain⟨v,hb,ho,hk⟩:=h;have c0:=hb.cell 0;have c1:=hb.cell 1;have z0:=hb.frozen 0;simp at c0 c1;have HB:=hd_ hb;have HO:=hd_ ho;have HK:=hd_ hk;have HR:=hd_ hr;have HLE:=hd_ (show(Q1 L).length+n<=2^40 by rw [Q7];omega);have HX1:=hd_ (show ∀u∈Q1 xs,u.oneCell'=true from fun u hu=>by obtain⟨b,_,rfl⟩:=List.mem_map.1 hu;rfl);clear hb ho hk hr hxn hLs hs hs2;refine Q6 fun R hR=>?_;go_enter Tryz.func22,Tryz.ntmps22;go_wp2_with (at_builtin;go_must (refine QL _ rfl (.tmp 9) (.tmp 10) _ rfl 5 _ 1 Tryz.underlying22 QK rfl v (Q1 L) rfl HO.out A n c (Q1 xs) rfl HR.out HX1.out (by omega) HLE.out ?_));intro v1 w1 o1 g1 a1;have hne:v.ownBlock≠some g:=HO.out.ne_blk HB.out (by decide);have b1:=HB.out.grown g1 hne;have u1:Upd (fun b=>b=g\/G b) w w1:=(Upd.refl _ w).grown g1 (fun k hk _=>.inr (HK.out k hk));have d0:=b1.cell 0;have d1:=b1.cell 1;have y0:=b1.frozen 0;simp at d0 d1;have hne1:v1.ownBlock≠some g:=o1.ne_blk b1 (by decide);have hk1:∀k,v1.ownBlock=some k->G k\/w.heap.size<=k:=Yr (S:=fun k=>G k\/w.heap.size<=k) a1 (fun k hk=>.inl (HK.out k hk)) (.inr (Nat.le_refl _))
 have HR2:=hd_ (show Q4 (w1.setCell ⟨g,0,none⟩ v1) (fun b=>G b\/w.heap.size<=b) g (L++xs) s t from
   ⟨v1,by simpa using b1.set_ 0 v1,by have:=o1.far (p:=⟨g,0,none⟩) hne1 v1;simpa [Q1]using this,hk1⟩)
 have HU2:=hd_ (u1.setCell (p:=⟨g,0,none⟩) (fun _=>.inl rfl) v1);have HV:=hd_ o1.form';clear c0 c1 z0 b1 u1 g1 a1 o1 hne hne1 hk1;obtain⟨A2,n2,c2,rfl,-⟩:=HV.out;clear HV;go_upto_region 1 with fail;obtain⟨w2,hw2⟩:=nm_ (w1.setCell ⟨g,0,none⟩ (.slice A2 n2 c2));rw [<-hw2]at HR2 HU2;simp only [<-hw2]
 have e1:w2.cell? ⟨g,1,none⟩=some (.int .i64 s):=by
   obtain⟨v3,hb3,_⟩:=HR2.out;simpa using hb3.cell 1
 clear hw2 d0 d1 y0;go_still_tail 7,(by kernel_rfl);change wpList _ _ _ _ _ w2.drew;go_wp2_with fail;refine(HKE.out _ (by obtain⟨v3,a,b,c⟩:=HR2.out;exact⟨v3,a.drew,b.drew,c⟩)).mono ?_;rintro e w3 ⟨rfl,rfl⟩;go_wp2_with fail;(try go_end0);exact hR.out _ _ ⟨rfl,HU2.out.drew,by obtain⟨v3,a,b,c⟩:=HR2.out;exact⟨v3,a.drew,b.drew,c⟩⟩
theorem Yg (w:World):Calls Tryz.prog 21 #[] w fun e w'=>e = .returned (.agg #[.int .i64 1,.int .i64 134217728])/\Q0 w w':=by
 refine Q6 fun R hR=>?_;go_enter Tryz.func21,Tryz.ntmps21;go_wp2_with fail;refine bodyPost_ret (v:=.agg #[.int .i64 1,.int .i64 134217728]) (results_cell_row rfl _ _ w.heap.size 57 _ _ _ rfl (Blk.new w _ _) Tryz.underlying57 rfl (by kernel_rfl)) rfl (hR.out _ _ ⟨rfl,(Upd.refl _ _).alloc _⟩)
theorem QF (s:Nat) (w:World) (h1:1<=s) (h2:s<=134217728) :
   Calls Tryz.prog 9 #[.int .i64 (s:Nat),.slice none 0 0] w fun e w'=>∃g,e = .returned (.tuple #[.pointer (some ⟨g,0,none⟩),.int .i64 0])/\Q0 w w'/\w.heap.size<=g/\Q4 w' (fun b=>w.heap.size<=b) g [] s 0:=by
 have HBD:=hd_ Yg;have HPU:=hd_ (fun(g:Nat) (W:World) (h:Q4 W (fun b=>w.heap.size<=b) g [] s 0)=>Ya (fun _=>False) _ g [] [] s 0 0 0 none W h (Rd.nil _ _ _) (by simp) (by omega));(have hn1:¬(s:Int)<1:=by omega);(have hn2:¬(134217728:Int)<s:=by omega);clear h1 h2;refine Q6 fun R hR=>?_;go_enter Tryz.func9,Tryz.ntmps9;go_wp2_with fail;refine(HBD.out _).mono ?_;rintro e w1 ⟨rfl,f1⟩;have F1:=hd_ f1;clear f1;go_wp2_with fail;obtain⟨B,hB⟩:=nm_ (w1.heap.size);obtain⟨w2,hw2⟩:=nm_ ((w1.alloc (.cells #[.int .i64 1,.int .i64 134217728] 57)).alloc (.cells #[.slice none 0 0,.int .i64 (s:Nat),.int .i64 0] 62));simp only [<-hB,<-hw2];have F2:=hd_ (F1.out.trans' (show Q0 w1 w2 by rw [hw2];exact((Upd.refl _ _).alloc _).alloc _));(have hbk:Blk w2 (B+1) 62 #[.slice none 0 0,.int .i64 (s:Nat),.int .i64 0]:=by rw [hw2];exact Q2 (by simp [hB]) _ _);have HBK:=hd_ hbk;have HG:=hd_ (show w.heap.size<=B+1 by rw [hB];have:=F1.out.size;omega);have HRA:=hd_ (show Q4 w2 (fun b=>w.heap.size<=b) (B+1) [] s 0 from⟨_,HBK.out,Own.nil _ _,fun k hk=>by cases hk⟩);clear hw2 hB hbk;refine(HPU.out _ _ HRA.out).mono ?_;rintro e w3 ⟨rfl,u3,r3⟩;have F3:=hd_ (F2.out.trans u3 (fun b hb h=>by have:=HG.out;rcases h with h|h<;>omega));have R3:=hd_ (show Q4 w3 (fun b=>w.heap.size<=b) (B+1) [] s 0 from r3.mono fun b hb=>by have:=F2.out.size;rcases hb with h|h<;>omega);clear u3 r3;go_wp2_with fail;(try go_ret2);exact hR.out _ _ ⟨_,rfl,F3.out,HG.out,R3.out⟩
theorem QX (F G:Nat->Prop) (g:Nat) (L xs:List Nat) (s t n c:Nat) (A:Option Addr) (w:World) (h:Q4 w G g L s t) (hr:Rd w F A n (Q1 xs)) (hF:∀b,F b->b≠g) (hs:L.length+n<=2*s) (h0:0<s) (hs2:s<=2^38) (ht:t+n<=2^60) :
   Calls Tryz.prog 42 #[.pointer (some ⟨g,0,none⟩),.slice A n c] w fun e w'=>e = .returned (.int .i64 0)/\Upd (fun b=>b=g\/G b) w w'/\Q4 w' (fun b=>G b\/w.heap.size<=b) g (L++xs) s (t+n):=by
 have HN:=hd_ (QR G g L s t w h h0);have HPU:=hd_ (fun W (h:Q4 W G g L s (t+n)) (hr:Rd W F A n (Q1 xs))=>Ya F G g L xs s (t+n) n c A W h hr hs hs2);obtain⟨v,hb,ho,hk⟩:=h;have c2:=hb.cell 2;have z2:=hb.frozen 2;simp at c2;have hw1:IntKind.i64.wrap ((t:Int)+n)=t+n:=IntWalk.i64_in _ (by omega);(have htn:(t:Int)+n<=2^60:=by omega);have hne:v.ownBlock≠some g:=ho.ne_blk hb (by decide);have HRA:=hd_ (show Q4 (w.setCell ⟨g,2,none⟩ (.int .i64 ((t:Int)+n))) G g L s (t+n)from⟨v,by have:=hb.set_ 2 (.int .i64 ((t:Int)+n));simpa using this,ho.far (p:=⟨g,2,none⟩) hne _,hk⟩);have us:Upd (fun b=>b=g) w (w.setCell ⟨g,2,none⟩ (.int .i64 ((t:Int)+n))):=(Upd.refl (fun b=>b=g) w).setCell (p:=⟨g,2,none⟩) (fun _=>rfl) _;have HRD:=hd_ (hr.upd us (fun b _ hb e=>hF b hb e));have US:=hd_ us;clear hb ho hk hr hs h0 hs2 ht us hne;refine Q6 fun R hR=>?_;go_enter Tryz.func42,Tryz.ntmps42;go_wp2_with fail;refine HN.out.mono ?_;rintro e w1 ⟨rfl,rfl⟩;go_wp2_with fail;refine(HPU.out _ HRA.out HRD.out).mono ?_;rintro e w2 ⟨rfl,u2,r2⟩;have U2:=hd_ ((US.out.mono (T:=fun b=>b=g\/G b) fun b _ h=>.inl h).trans' u2);have R2:=hd_ r2;clear u2 r2 c2 z2;go_wp2_with fail;(try go_ret);exact hR.out _ _ ⟨rfl,U2.out,by have:=R2.out;simpa using this⟩
def Q5 (bs:List Nat):Nat:=bs[0]?.getD 0+256*bs[1]?.getD 0+65536*bs[2]?.getD 0
theorem YZ (w:World):Calls Tryz.prog 10 #[.pointer none] w fun e w'=>e = .returned (.tuple #[.int .i64 0,.int .i64 0,.bool false,.int .i64 1])/\w=w':=by
 go_enter Tryz.func10,Tryz.ntmps10;go_wp2_with fail;refine bodyPost_ret (v:=.tuple #[.int .i64 0,.int .i64 0,.bool false,.int .i64 1]) (by simp [results,Tryz.results10,go_sem]) rfl ⟨rfl,rfl⟩
theorem Yn (F:Nat->Prop) (g:Nat) (bs:List Nat) (at_:Nat) (w:World) (h:Q3 w F g bs at_) (hs:(bs.drop at_).length<3) :
   Calls Tryz.prog 10 #[.pointer (some ⟨g,0,none⟩)] w fun e w'=>e = .returned (.tuple #[.int .i64 0,.int .i64 0,.bool false,.int .i64 3])/\Q0 w w':=by
 have HP:=hd_ (Y6 F g bs at_ 3 w h (by omega));(have hl:((bs.drop at_).take 3).length<3:=by rw [List.length_take];omega);clear h hs;generalize (bs.drop at_).take 3=L at *;refine Q6 fun R hR=>?_;go_enter Tryz.func10,Tryz.ntmps10;go_wp2_with fail;refine HP.out.mono ?_;rintro e w1 ⟨v,rfl,o1,f1,k1⟩;obtain⟨A,n,c,rfl,hn⟩:=o1.form';(have hlt:(n:Int)<3:=by have:=hn.out;rw [List.length_map]at this;omega);have F1:=hd_ f1;clear o1 f1 k1 hn hl;go_wp2_with fail;refine bodyPost_ret (v:=.tuple #[.int .i64 0,.int .i64 0,.bool false,.int .i64 3]) (by simp [results,Tryz.results10,go_sem]) rfl (hR.out _ _ ⟨rfl,F1.out⟩)
theorem QE (F:Nat->Prop) (g:Nat) (bs:List Nat) (at_:Nat) (w:World) (h:Q3 w F g bs at_) (hs:3<=(bs.drop at_).length) :
   Calls Tryz.prog 10 #[.pointer (some ⟨g,0,none⟩)] w fun e w'=>e = .returned (.tuple #[.int .i64 ((Q5 (bs.drop at_) / 2%4:Nat):Int),.int .i64 ((Q5 (bs.drop at_) / 8:Nat):Int),.bool (decide (Q5 (bs.drop at_)%2=1)),.int .i64 0])/\Q0 w w':=by
 have HP:=hd_ (Y6 F g bs at_ 3 w h (by omega));(have hlt:∀b∈bs.drop at_,b<256:=by obtain⟨_,_,_,_,h,_⟩:=h;exact fun b hb=>h b (List.mem_of_mem_drop hb));clear h;generalize bs.drop at_=D at *
 obtain⟨x0,x1,x2,r,rfl⟩:∃x0 x1 x2 r,D=x0::x1::x2::r:=by
   rcases D with _|⟨a,_|⟨b,_|⟨c,r⟩⟩⟩
   . simp at hs
   . simp at hs
   . simp at hs
   exact⟨_,_,_,_,rfl⟩
 (have h0:(x0:Int)<256:=by have:=hlt x0 (by simp);omega);(have h1:(x1:Int)<256:=by have:=hlt x1 (by simp);omega);(have h2:(x2:Int)<256:=by have:=hlt x2 (by simp);omega);obtain⟨N,hN⟩:=nm_ (Q5 (x0::x1::x2::r));(have eN:(N:Int)=x0+x1*256+x2*65536:=by rw [hN];simp [Q5];omega);rw [<-hN];have b1:bits .or .i64 (x0:Int) ((x1:Int)*256)=x0+x1*256:=QQ _ _ (by omega) (by omega) (by omega) (by omega) (by omega);(have b2:bits .or .i64 ((x0:Int)+x1*256) ((x2:Int)*65536)=N:=by rw [QN _ _ (by omega) (by omega) (by omega) (by omega) (by omega)];omega);(have q0:bits .and .i64 ((N:Int) / 2) 3=((N / 2%4:Nat):Int):=by rw [Y9];omega);(have q1:bits .and .i64 (N:Int) 1=((N%2:Nat):Int):=by rw [Y8];omega);(have q2:(N:Int) / 8=((N / 8:Nat):Int):=by omega);(have t1:wrap64 ((x1:Int)*256)=x1*256:=by unfold wrap64;omega);(have t2:wrap64 ((x2:Int)*65536)=x2*65536:=by unfold wrap64;omega)
 have q3:((((N%2:Nat):Int)) == 1)=decide (N%2=1):=by
   by_cases h:N%2=1
   . rw [h];rfl
   rw [decide_eq_false h,beq_eq_false_iff_ne];omega
 have HB:=hd_ (And.intro b1 b2);have HT:=hd_ (And.intro t1 t2);have HQ:=hd_ (And.intro q0 (And.intro q1 (And.intro q2 q3)));clear hlt hs hN eN b1 b2 q0 q1 q2 q3 t1 t2;refine Q6 fun R hR=>?_;go_enter Tryz.func10,Tryz.ntmps10;go_wp2_with fail;refine HP.out.mono ?_;rintro e w1 ⟨v,rfl,o1,f1,k1⟩;have F1:=hd_ f1;simp only [List.take_succ_cons,List.take_zero,List.map_cons,List.map_nil]at o1;obtain⟨A,c,rfl,hc,hr⟩:=o1.form;obtain⟨g1,p1,rfl,-,-,hcell⟩:=hr.2 (by simp);have c0:=hcell 0 (by simp);have c1:=hcell 1 (by simp);have c2:=hcell 2 (by simp);simp at c0 c1 c2;clear o1 f1 k1 hc hr hcell;simp only [List.length_cons,List.length_nil,Nat.zero_add,Nat.reduceAdd];go_wp2_with fail;go_still_tail 16,(by kernel_rfl);change wpList _ _ _ _ _ w1.drew;obtain⟨t1,t2⟩:=HT.out;obtain⟨b1,b2⟩:=HB.out;go_wp2_with fail;obtain⟨q0,q1,q2,q3⟩:=HQ.out;refine bodyPost_ret (v:=.tuple #[.int .i64 (bits .and .i64 ((N:Int) / 2) 3),.int .i64 (bits .or .i64 (bits .or .i64 (x0:Int) ((x1:Int)*256)) ((x2:Int)*65536) / 8),.bool (bits .and .i64 (N:Int) 1 == 1),.int .i64 0]) (by simp [results,Tryz.results10,go_sem]) rfl (hR.out _ _ ⟨?_,F1.out.drew⟩);rw [b1,b2,q0,q1,q2,q3]
theorem Yf (A:Option Addr) (n c:Nat) (w:World) (hs:n<3) :
   Calls Tryz.prog 18 #[.slice A n c,.int .i64 0] w fun e w'=>e = .returned (.tuple #[.int .i64 0,.int .i64 0,.bool false,.bool false])/\w=w':=by
 (have h1:(n:Int)<3:=by omega);clear hs;go_enter Tryz.func18,Tryz.ntmps18;go_wp2_with fail;refine bodyPost_ret (v:=.tuple #[.int .i64 0,.int .i64 0,.bool false,.bool false]) (by simp [results,Tryz.results18,go_sem]) rfl ⟨rfl,rfl⟩
theorem YE (F:Nat->Prop) (A:Option Addr) (n c:Nat) (D:List Nat) (w:World) (hr:Rd w F A n (Q1 D)) (hlt:∀b∈D,b<256) (hs:3<=n) (hb:n<=2^47) :
   Calls Tryz.prog 18 #[.slice A n c,.int .i64 0] w fun e w'=>e = .returned (.tuple #[.int .i64 ((Q5 D / 2%4:Nat):Int),.int .i64 ((Q5 D / 8:Nat):Int),.bool (decide (Q5 D%2=1)),.bool true])/\Q0 w w':=by
 (have hDn:D.length=n:=by have:=hr.1;rwa [Q7]at this)
 obtain⟨x0,x1,x2,r,rfl⟩:∃x0 x1 x2 r,D=x0::x1::x2::r:=by
   rcases D with _|⟨a,_|⟨b,_|⟨c,r⟩⟩⟩
   . simp at hDn;omega
   . simp at hDn;omega
   . simp at hDn;omega
   exact⟨_,_,_,_,rfl⟩
 (have h0:(x0:Int)<256:=by have:=hlt x0 (by simp);omega);(have h1:(x1:Int)<256:=by have:=hlt x1 (by simp);omega);(have h2:(x2:Int)<256:=by have:=hlt x2 (by simp);omega);obtain⟨N,hN⟩:=nm_ (Q5 (x0::x1::x2::r));(have eN:(N:Int)=x0+x1*256+x2*65536:=by rw [hN];simp [Q5];omega);rw [<-hN];obtain⟨g1,p1,rfl,-,-,hcell⟩:=hr.2 (by omega);have c0:=hcell 0 (by omega);have c1:=hcell 1 (by omega);have c2:=hcell 2 (by omega);simp [Q1]at c0 c1 c2;(have hn3:¬(n:Int)<3:=by omega);(have hbI:(n:Int)<=140737488355328:=by omega);clear hb;(have i1:(1:Int)<n:=by omega);(have i2:(2:Int)<n:=by omega);(have i0:0<n:=by omega);(have j1:1<n:=by omega);(have j2:2<n:=by omega);(have v1:IntKind.i64.wrap 1=1:=by decide);(have v2:IntKind.i64.wrap 2=2:=by decide);have v3:IntKind.i64.wrap (x0:Int)=x0:=IntWalk.i64_in _ (by omega);have v4:IntKind.i64.wrap (x1:Int)=x1:=IntWalk.i64_in _ (by omega);have v5:IntKind.i64.wrap (x2:Int)=x2:=IntWalk.i64_in _ (by omega);have v6:IntKind.i64.wrap (256*(x1:Int))=256*x1:=IntWalk.i64_in _ (by omega);have v7:IntKind.i64.wrap (65536*(x2:Int))=65536*x2:=IntWalk.i64_in _ (by omega);have v8:IntKind.i64.wrap ((x0:Int)+256*x1)=x0+256*x1:=IntWalk.i64_in _ (by omega);(have v9:IntKind.i64.wrap ((x0:Int)+256*x1+65536*x2)=N:=by rw [IntWalk.i64_in _ (by omega)];omega);(have q0:(N:Int) / 2%4=((N / 2%4:Nat):Int):=by omega);(have q2:(N:Int) / 8=((N / 8:Nat):Int):=by omega)
 have q3:(((N:Int)%2) == 1)=decide (N%2=1):=by
   by_cases h:N%2=1
   . rw [decide_eq_true h,beq_iff_eq];omega
   rw [decide_eq_false h,beq_eq_false_iff_ne];omega
 have HQ:=hd_ (And.intro q0 (And.intro q2 q3));(have hN0:(N:Int)<16777216:=by omega);clear hlt hs hr hcell hDn q0 q2 q3 hN eN;refine Q6 fun R hR=>?_;go_enter Tryz.func18,Tryz.ntmps18;go_wp2_with fail;go_still_tail 21,(by kernel_rfl);change wpList _ _ _ _ _ w.drew;go_wp2_with fail;obtain⟨q0,q2,q3⟩:=HQ.out;refine bodyPost_ret (v:=.tuple #[.int .i64 ((N:Int) / 2%4),.int .i64 ((N:Int) / 8),.bool ((N:Int)%2 == 1),.bool true]) (by simp [results,Tryz.results18,go_sem]) rfl (hR.out _ _ ⟨?_,(Upd.refl _ _).drew⟩);rw [q0,q2,q3]
theorem YL (w:World) (e:TypeId) (a b c:Value):Own (w.alloc (.cells #[a,b,c] e)) e (.slice (some ⟨w.heap.size,0,none⟩) 3 3) [a,b,c] :=
 ⟨rfl,.inr ⟨w.heap.size,3,#[a,b,c],rfl,Nat.zero_le _,heap_alloc_new w _,Nat.le_refl _,by simp [maxLen],rfl,rfl⟩⟩
theorem QS (w:World) (a b c:Nat):Qa w (w.alloc (.cells #[.int .u8 (a:Nat),.int .u8 (b:Nat),.int .u8 (c:Nat)] 5)) (.slice (some ⟨w.heap.size,0,none⟩) 3 3) [a,b,c] :=
 ⟨YL w _ _ _ _,(Upd.refl _ _).alloc _,fun k hk=>by simp [Value.ownBlock]at hk;omega⟩
theorem QI (kind size:Int) (l:Bool) (w:World) :
   Calls Tryz.prog 6 #[.int .i64 kind,.int .i64 size,.bool l] w fun e w'=>∃v,e = .returned v/\Qa w w' v (Qo (Qf 4 kind) (Qf 2097152 size) l):=by
 obtain⟨K,hK⟩:=nm_ (kind%4294967296);obtain⟨S,hS⟩:=nm_ (size%4294967296);obtain⟨k,hk⟩:=nm_ (Qf 4 kind);obtain⟨s,hs⟩:=nm_ (Qf 2097152 size);obtain⟨T,hT⟩:=nm_ ((S*8)%4294967296);obtain⟨N,hN⟩:=nm_ ((k:Int)*2+T);(have ek:(k:Int)=kind%4:=by unfold Qf at hk;omega);(have es:(s:Int)=size%2097152:=by unfold Qf at hs;omega);(have w1:IntKind.u32.wrap kind=K:=by rw [IntKind.wrap_u32,hK]);(have w2:IntKind.u32.wrap size=S:=by rw [IntKind.wrap_u32,hS]);(have a1:bits .and .u32 K 3=k:=by rw [J4 K (by omega) (by omega)];omega);(have s1:(k:Int)*2%4294967296=k*2:=by omega);have s2:S*8%4294967296=T:=hT.symm;(have o1:bits .or .u32 ((k:Int)*2) T=N:=by rw [YI _ _ (by omega) (by omega) (by omega) (by omega) (by omega),hN]);have hb:Qo k s l=[Qb k s l%256,Qb k s l / 256%256,Qb k s l / 65536]:=rfl;rw [<-hk,<-hs,hb];generalize hH:Qb k s l=H at *;unfold Qb at hH;obtain⟨M,hM⟩:=nm_ (N+(if l then 1 else 0));(have c0:M%256=(H:Int)%256:=by cases l<;>simp at hH hM<;>omega);(have c1:M / 256%256=(H:Int) / 256%256:=by cases l<;>simp at hH hM<;>omega);(have c2:M / 65536%256=(H:Int) / 65536:=by cases l<;>simp at hH hM<;>omega);have o2:bits .or .u32 N 1=N+1:=YJ N (by omega) (by omega) (by omega);have NT:=hd_ (show Qa w (w.alloc (.cells #[.int .u8 ((H:Int)%256),.int .u8 ((H:Int) / 256%256),.int .u8 ((H:Int) / 65536)] 5)) (.slice (some ⟨w.heap.size,0,none⟩) 3 3) [H%256,H / 256%256,H / 65536]from QS w (H%256) (H / 256%256) (H / 65536));clear hK hS hk hs hT hN ek es hb hH;refine Q6 fun R hR=>?_
 cases l with
 | false =>
   (obtain rfl:M=N:=by simpa using hM);clear o2 hM;go_enter Tryz.func6,Tryz.ntmps6;go_wp2_with fail;(try go_ret);exact hR.out _ _ ⟨_,rfl,NT.out⟩
 | true =>
   (have hM':N+1=M:=by simpa using hM.symm);rw [hM']at o2;clear hM hM';go_enter Tryz.func6,Tryz.ntmps6;go_wp2_with fail;(try go_ret);exact hR.out _ _ ⟨_,rfl,NT.out⟩
theorem Yd (k s:Nat) (l:Bool) (w:World) (hk:k<4) (hs:s<2097152) :
   Calls Tryz.prog 14 #[.int .i64 (k:Nat),.int .i64 (s:Nat),.bool l] w fun e w'=>∃v,e = .returned v/\Qa w w' v (Qo k s l):=by
 have hb:Qo k s l=[Qb k s l%256,Qb k s l / 256%256,Qb k s l / 65536]:=rfl;rw [hb];have hlt:=Yk (l:=l) hk hs;generalize hH:Qb k s l=H at *;unfold Qb at hH;(have m1:(k:Int)%4=k:=by omega);(have m2:(s:Int)%2097152=s:=by omega);have q1:IntKind.i64.wrap ((k:Int)*2)=k*2:=IntWalk.i64_in _ (by omega);have q2:IntKind.i64.wrap ((s:Int)*8)=s*8:=IntWalk.i64_in _ (by omega);have q3:IntKind.i64.wrap ((k:Int)*2+s*8)=k*2+s*8:=IntWalk.i64_in _ (by omega);have q4:IntKind.i64.wrap ((k:Int)*2+s*8+1)=k*2+s*8+1:=IntWalk.i64_in _ (by omega);(have b0:0<=(k:Int)*2+s*8:=by omega);(have b1:(k:Int)*2+s*8<=16777216:=by omega);have NT:=hd_ (show Qa w (w.alloc (.cells #[.int .u8 ((H:Int)%256),.int .u8 ((H:Int) / 256%256),.int .u8 ((H:Int) / 65536)] 5)) (.slice (some ⟨w.heap.size,0,none⟩) 3 3) [H%256,H / 256%256,H / 65536]from QS w (H%256) (H / 256%256) (H / 65536));(have hkI:(k:Int)<=4:=by omega);(have hsI:(s:Int)<=2097152:=by omega);refine Q6 fun R hR=>?_
 cases l with
 | false =>
   (have e:(k:Int)*2+s*8=H:=by simp at hH;omega);(have c0:IntKind.u8.wrap (((k:Int)*2+s*8)%256)=(H:Int)%256:=by rw [IntKind.wrap_u8'];omega);(have c1:IntKind.u8.wrap (((k:Int)*2+s*8) / 256%256)=(H:Int) / 256%256:=by rw [IntKind.wrap_u8'];omega);(have c2:IntKind.u8.wrap (((k:Int)*2+s*8) / 65536)=(H:Int) / 65536:=by rw [IntKind.wrap_u8'];omega);clear hH hk hs hb hlt e;go_enter Tryz.func14,Tryz.ntmps14;go_wp2_with fail;(try go_ret);exact hR.out _ _ ⟨_,rfl,NT.out⟩
 | true =>
   (have e:(k:Int)*2+s*8+1=H:=by simp at hH;omega);(have c0:IntKind.u8.wrap (((k:Int)*2+s*8+1)%256)=(H:Int)%256:=by rw [IntKind.wrap_u8'];omega);(have c1:IntKind.u8.wrap (((k:Int)*2+s*8+1) / 256%256)=(H:Int) / 256%256:=by rw [IntKind.wrap_u8'];omega);(have c2:IntKind.u8.wrap (((k:Int)*2+s*8+1) / 65536)=(H:Int) / 65536:=by rw [IntKind.wrap_u8'];omega);clear hH hk hs hb hlt e;go_enter Tryz.func14,Tryz.ntmps14;go_wp2_with fail;(try go_ret);exact hR.out _ _ ⟨_,rfl,NT.out⟩
def Y2 (x:Int):Int:=min (max x 0) 131072
theorem Qm (x:Int) (w:World):Calls Tryz.prog 15 #[.int .i64 x] w fun e w'=>e = .returned (.int .i64 (Y2 x))/\w=w':=by
 unfold Y2;go_enter Tryz.func15,Tryz.ntmps15;go_wp2_with fail;(try go_ret);exact⟨rfl,rfl⟩
theorem YC (x:Int) (w:World):Calls Tryz.prog 16 #[.int .i64 x] w fun e w'=>e = .returned (.int .i64 (Y2 x))/\w=w':=by
 unfold Y2;by_cases h:x<0
 . have e:max x 0=0:=by omega
   rw [e];go_enter Tryz.func16,Tryz.ntmps16;go_wp2_with fail;(try go_ret);exact⟨rfl,rfl⟩
 (have e:max x 0=x:=by omega);rw [e];go_enter Tryz.func16,Tryz.ntmps16;go_wp2_with fail;(try go_ret);exact⟨rfl,rfl⟩
theorem Ql (x:Int) (w:World) (h1:1024<=x) (h2:x<=134217728):Calls Tryz.prog 27 #[.int .i64 x] w fun e w'=>e = .returned (.int .i64 0)/\w=w':=by
 (have h3:¬x<1024:=by omega);(have h4:¬134217728<x:=by omega);go_enter Tryz.func27,Tryz.ntmps27;go_wp2_with fail;(try go_ret);exact⟨rfl,rfl⟩
theorem Ye (F:Nat->Prop) (g:Nat) (bs:List Nat) (at_:Nat) (w:World) (h:Qg w F g bs at_) (hs:(bs.drop at_).length<3) :
   Calls Tryz.prog 10 #[.pointer (some ⟨g,0,none⟩)] w fun e w'=>e = .returned (.tuple #[.int .i64 0,.int .i64 0,.bool false,.int .i64 3])/\Q0 w w':=by
 have HP:=hd_ (QP F g bs at_ 3 w h (by omega));(have hl:((bs.drop at_).take 3).length<3:=by rw [List.length_take];omega);clear h hs;generalize (bs.drop at_).take 3=L at *;refine Q6 fun R hR=>?_;go_enter Tryz.func10,Tryz.ntmps10;go_wp2_with fail;refine HP.out.mono ?_;rintro e w1 ⟨v,rfl,o1,f1,k1⟩;obtain⟨A,n,c,rfl,hn⟩:=o1.form';(have hlt:(n:Int)<3:=by have:=hn.out;rw [List.length_map]at this;omega);have F1:=hd_ f1;clear o1 f1 k1 hn hl;go_wp2_with fail;refine bodyPost_ret (v:=.tuple #[.int .i64 0,.int .i64 0,.bool false,.int .i64 3]) (by simp [results,Tryz.results10,go_sem]) rfl (hR.out _ _ ⟨rfl,F1.out⟩)
theorem YD (F:Nat->Prop) (g:Nat) (bs:List Nat) (at_:Nat) (w:World) (h:Qg w F g bs at_) (hs:3<=(bs.drop at_).length) :
   Calls Tryz.prog 10 #[.pointer (some ⟨g,0,none⟩)] w fun e w'=>e = .returned (.tuple #[.int .i64 ((Q5 (bs.drop at_) / 2%4:Nat):Int),.int .i64 ((Q5 (bs.drop at_) / 8:Nat):Int),.bool (decide (Q5 (bs.drop at_)%2=1)),.int .i64 0])/\Q0 w w':=by
 have HP:=hd_ (QP F g bs at_ 3 w h (by omega));(have hlt:∀b∈bs.drop at_,b<256:=by obtain⟨_,_,_,_,h,_⟩:=h;exact fun b hb=>h b (List.mem_of_mem_drop hb));clear h;generalize bs.drop at_=D at *
 obtain⟨x0,x1,x2,r,rfl⟩:∃x0 x1 x2 r,D=x0::x1::x2::r:=by
   rcases D with _|⟨a,_|⟨b,_|⟨c,r⟩⟩⟩
   . simp at hs
   . simp at hs
   . simp at hs
   exact⟨_,_,_,_,rfl⟩
 (have h0:(x0:Int)<256:=by have:=hlt x0 (by simp);omega);(have h1:(x1:Int)<256:=by have:=hlt x1 (by simp);omega);(have h2:(x2:Int)<256:=by have:=hlt x2 (by simp);omega);obtain⟨N,hN⟩:=nm_ (Q5 (x0::x1::x2::r));(have eN:(N:Int)=x0+x1*256+x2*65536:=by rw [hN];simp [Q5];omega);rw [<-hN];have b1:bits .or .i64 (x0:Int) ((x1:Int)*256)=x0+x1*256:=QQ _ _ (by omega) (by omega) (by omega) (by omega) (by omega);(have b2:bits .or .i64 ((x0:Int)+x1*256) ((x2:Int)*65536)=N:=by rw [QN _ _ (by omega) (by omega) (by omega) (by omega) (by omega)];omega);(have q0:bits .and .i64 ((N:Int) / 2) 3=((N / 2%4:Nat):Int):=by rw [Y9];omega);(have q1:bits .and .i64 (N:Int) 1=((N%2:Nat):Int):=by rw [Y8];omega);(have q2:(N:Int) / 8=((N / 8:Nat):Int):=by omega);(have t1:wrap64 ((x1:Int)*256)=x1*256:=by unfold wrap64;omega);(have t2:wrap64 ((x2:Int)*65536)=x2*65536:=by unfold wrap64;omega)
 have q3:((((N%2:Nat):Int)) == 1)=decide (N%2=1):=by
   by_cases h:N%2=1
   . rw [h];rfl
   rw [decide_eq_false h,beq_eq_false_iff_ne];omega
 have HB:=hd_ (And.intro b1 b2);have HT:=hd_ (And.intro t1 t2);have HQ:=hd_ (And.intro q0 (And.intro q1 (And.intro q2 q3)));clear hlt hs hN eN b1 b2 q0 q1 q2 q3 t1 t2;refine Q6 fun R hR=>?_;go_enter Tryz.func10,Tryz.ntmps10;go_wp2_with fail;refine HP.out.mono ?_;rintro e w1 ⟨v,rfl,o1,f1,k1⟩;have F1:=hd_ f1;simp only [List.take_succ_cons,List.take_zero,List.map_cons,List.map_nil]at o1;obtain⟨A,c,rfl,hc,hr⟩:=o1.form;obtain⟨g1,p1,rfl,-,-,hcell⟩:=hr.2 (by simp);have c0:=hcell 0 (by simp);have c1:=hcell 1 (by simp);have c2:=hcell 2 (by simp);simp at c0 c1 c2;clear o1 f1 k1 hc hr hcell;simp only [List.length_cons,List.length_nil,Nat.zero_add,Nat.reduceAdd];go_wp2_with fail;go_still_tail 16,(by kernel_rfl);change wpList _ _ _ _ _ w1.drew;obtain⟨t1,t2⟩:=HT.out;obtain⟨b1,b2⟩:=HB.out;go_wp2_with fail;obtain⟨q0,q1,q2,q3⟩:=HQ.out;refine bodyPost_ret (v:=.tuple #[.int .i64 (bits .and .i64 ((N:Int) / 2) 3),.int .i64 (bits .or .i64 (bits .or .i64 (x0:Int) ((x1:Int)*256)) ((x2:Int)*65536) / 8),.bool (bits .and .i64 (N:Int) 1 == 1),.int .i64 0]) (by simp [results,Tryz.results10,go_sem]) rfl (hR.out _ _ ⟨?_,F1.out.drew⟩);rw [b1,b2,q0,q1,q2,q3]
end Go.Proofs.YtakjpcnhhkgfoaaGreat
