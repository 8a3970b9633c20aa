/-
  Joined texts, part 36: contracts and plain lemmas.
  Conditions: none beyond those of each theorem.
-/
import Derived.Test.YtjfdaphjijfieaaGreatN19
import Derived.Test.YtjfdaphjijfieaaGreatN30
set_option linter.unusedVariables false
set_option linter.unusedSimpArgs false
set_option maxRecDepth 100000
universe u
namespace Go.Proofs.YtjfdaphjijfieaaGreat
open Go.ChangeShapes Go.WideShapes Go.ChangeAt Go.RowKit Go.Joins Go.Deep
section
variable {H:Type} {enc:TypeId × Value->H} {P:Program} {w:World} {base:Nat} {spare:Nat->Bool} {held:Bool}
theorem Q13 {t:TypeId} {f0 f1 f2 f3 f4:Field} {fuel:Nat} {cs:List Value} {x:DataW H × List MemPlace} (ht:P.underlying t=some (.struct #[f0,f1,f2,f3,f4])) (h:DataW.trod enc P w base spare held fuel t cs=some x) :
   ∃y0 y1 y2 y3 y4 n,x=(.agg [y0.1,y1.1,y2.1,y3.1,y4.1],y0.2++(y1.2++(y2.2++(y3.2++y4.2))))/\cs.length=P.cellsOf t/\DataW.trod enc P w base spare held n f0.type ((cs.drop f0.offset).take (P.cellsOf f0.type))=some y0 /\
     DataW.trod enc P w base spare held n f1.type ((cs.drop f1.offset).take (P.cellsOf f1.type))=some y1/\DataW.trod enc P w base spare held n f2.type ((cs.drop f2.offset).take (P.cellsOf f2.type))=some y2 /\
     DataW.trod enc P w base spare held n f3.type ((cs.drop f3.offset).take (P.cellsOf f3.type))=some y3/\DataW.trod enc P w base spare held n f4.type ((cs.drop f4.offset).take (P.cellsOf f4.type))=some y4:=by
 obtain⟨xs,n,_,rfl,hl,hlen,hf⟩:=DataW.trod_struct ht h
 match xs,hlen with
 | [y0,y1,y2,y3,y4],_=>exact⟨y0,y1,y2,y3,y4,n,by simp,hl,by simpa using hf 0 f0 rfl,by simpa using hf 1 f1 rfl,by simpa using hf 2 f2 rfl,by simpa using hf 3 f3 rfl,by simpa using hf 4 f4 rfl⟩
end
theorem Q6u {α:Type} {cs:List α} (h:cs.length=10):∃c0 c1 c2 c3 c4 c5 c6 c7 c8 c9,cs=[c0,c1,c2,c3,c4,c5,c6,c7,c8,c9]:=by
 match cs,h with
 | [c0,c1,c2,c3,c4,c5,c6,c7,c8,c9],_=>exact⟨c0,c1,c2,c3,c4,c5,c6,c7,c8,c9,rfl⟩
theorem Q53:Tryz.prog.cellsOf 32=10:=by kernel_rfl
theorem Xb {H:Type} {enc:TypeId × Value->H} {W:World} {base n:Nat} {held:Bool} {u:Value} {y:DataW H × List MemPlace}
   (h:DataW.trod enc Tryz.prog W base (fun _=>true) held n 27 [u]=some y):∃(A:Option Addr) (m c:Nat) (N:List Int),u = .slice A m c/\Rd W (fun _=>True) A m (Q1 N)/\Fit N/\m<=c:=by
 rcases open_ints Tryz.underlying27 Tryz.underlying3 (by kernel_rfl) h with ⟨hcs,_⟩|⟨x,l,c,zs,hcs,_,hl,hm,hz,_,hcell,hwz⟩
 . simp at hcs
   subst hcs;exact⟨none,0,0,[],rfl,Rd.nil _ _ _,fun x hx=>by simp at hx,Nat.le_refl _⟩
 simp at hcs;subst hcs;simp at hz;exact⟨some x,l,c,zs.take l,rfl,Q2c (by omega) hcell,fun x hx=>Q6b (hwz x (List.mem_of_mem_take hx)),hl⟩
theorem Vb {H:Type} {enc:TypeId × Value->H} {W:World} {base n:Nat} {held:Bool} {u v:Value} {y:DataW H × List MemPlace}
   (h:DataW.trod enc Tryz.prog W base (fun _=>true) held n 29 [u,v]=some y):∃(lg:Int) (A:Option Addr) (m c:Nat) (N:List Int),u = .int .i64 lg/\v = .slice A m c/\Rd W (fun _=>True) A m (Q1 N)/\Fit N/\m<=c:=by
 obtain⟨y0,y1,n',hx',hl',h0,h1⟩:=trod_struct2 Tryz.underlying29 h;(have e0:(([u,v]:List Value).drop 0).take (Tryz.prog.cellsOf 3)=[u]:=by rw [show Tryz.prog.cellsOf 3=1 by kernel_rfl];rfl);(have e1:(([u,v]:List Value).drop 1).take (Tryz.prog.cellsOf 27)=[v]:=by rw [show Tryz.prog.cellsOf 27=1 by kernel_rfl];rfl);(have h0':DataW.trod enc Tryz.prog W base (fun _=>true) held n' 3 [u]=some y0:=by rw [<-e0];exact h0);(have h1':DataW.trod enc Tryz.prog W base (fun _=>true) held n' 27 [v]=some y1:=by rw [<-e1];exact h1);obtain⟨q,q0,_,wq⟩:=DataW.trod_int Tryz.underlying3 h0';simp at q0;obtain⟨A,m,c,N,e,h2,h3,h4⟩:=Xb h1';exact⟨q,A,m,c,N,q0,e,h2,h3,h4⟩
theorem Q54 {H:Type} {enc:TypeId × Value->H} {W:World} {r:Reach} {b0:Nat} {v:Value} {d:DataW H} {p:List MemPlace}
   (hv:Value.okWide Tryz.prog W r b0 32 v) (h:DataW.Trod enc Tryz.prog W 0 (fun _=>true) true 32 v d p) :
   ∃(D A B C:Option Addr) (h i n c m d k e:Nat) (T:Qb) (Tr:List Int) (r0 r1 r2:Int),v = .agg #[.slice D h i,.int .i64 T.lL,.slice A n c,.int .i64 T.lO,.slice B m d,.int .i64 T.lM,.slice C k e,.int .i64 r0,.int .i64 r1,.int .i64 r2] /\
     Rd W (fun _=>True) D h (Q1 Tr)/\Rd W (fun _=>True) A n (Q1 T.NL)/\Rd W (fun _=>True) B m (Q1 T.NO)/\Rd W (fun _=>True) C k (Q1 T.NM)/\Fit Tr/\Fit T.NL/\Fit T.NO/\Fit T.NM/\(h<=i/\n<=c/\m<=d/\k<=e):=by
 obtain⟨cs,rfl,hsz⟩:=okWide_struct Tryz.underlying32 hv;obtain⟨c0,c1,c2,c3,c4,c5,c6,c7,c8,c9,hcs⟩:=Q6u (cs:=cs.toList) (by simpa using hsz.trans Q53);(obtain rfl:cs=#[c0,c1,c2,c3,c4,c5,c6,c7,c8,c9]:=by rw [<-hcs]);obtain⟨fuel,hf⟩:=h;obtain⟨y0,y1,y2,y3,y4,n,hx,_,h0,h1,h2,h3,h4⟩:=Q13 Tryz.underlying32 hf;(have l1:Tryz.prog.cellsOf 27=1:=by kernel_rfl);(have l2:Tryz.prog.cellsOf 29=2:=by kernel_rfl);(have l3:Tryz.prog.cellsOf 30=3:=by kernel_rfl);simp only [l1,l2,l3]at h0 h1 h2 h3 h4;obtain⟨D,a1,a2,Tr,e0,r0,ft0,b0⟩:=Xb h0;obtain⟨lL,A,n1,c,NL,e1,e2,r1,ft1,b1⟩:=Vb h1;obtain⟨lO,B,m,d,NO,e3,e4,r2,ft2,b2⟩:=Vb h2;obtain⟨lM,C,k,e,NM,e5,e6,r3,ft3,b3⟩:=Vb h3;obtain⟨z0,z1,z2,n',_,t0,t1,t2⟩:=trod_array3 Tryz.underlying30 (by kernel_rfl) h4;obtain⟨q0,u0,_,_⟩:=DataW.trod_int Tryz.underlying3 t0;obtain⟨q1,u1,_,_⟩:=DataW.trod_int Tryz.underlying3 t1;obtain⟨q2,u2,_,_⟩:=DataW.trod_int Tryz.underlying3 t2;simp at u0 u1 u2;subst e0 e1 e2 e3 e4 e5 e6 u0 u1 u2;exact⟨D,A,B,C,a1,a2,n1,c,m,d,k,e,⟨lL,NL,lO,NO,lM,NM⟩,Tr,q0,q1,q2,rfl,r0,r1,r2,r3,ft0,ft1,ft2,ft3,b0,b1,b2,b3⟩
end Go.Proofs.YtjfdaphjijfieaaGreat
