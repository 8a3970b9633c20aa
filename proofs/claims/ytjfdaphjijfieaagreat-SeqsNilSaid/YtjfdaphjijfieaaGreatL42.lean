/-
  Joined texts, part 42: contracts and plain lemmas.
  Conditions: none beyond those of each theorem.
-/
import Derived.Test.YtjfdaphjijfieaaGreatL21
import Derived.Test.YtjfdaphjijfieaaGreatL35
import Derived.Test.YtjfdaphjijfieaaGreatL7
set_option linter.unusedVariables false
set_option linter.unusedSimpArgs false
set_option maxRecDepth 100000
universe u
namespace Go.Proofs.YtjfdaphjijfieaaGreat
open Go.ChangeShapes Go.WideShapes Go.ChangeAt Go.RowKit Go.Joins Go.Deep
section
variable {H:Type} {enc:TypeId × Value->H} {P:Program} {w:World} {base:Nat} {spare:Nat->Bool} {held:Bool}
theorem Q3D {t:TypeId} {f0 f1 f2 f3 f4:Field} {fuel:Nat} {cs:List Value} {x:DataW H × List MemPlace} (ht:P.underlying t=some (.struct #[f0,f1,f2,f3,f4])) (h:DataW.trod enc P w base spare held fuel t cs=some x) :
   ∃y0 y1 y2 y3 y4 n,x=(.agg [y0.1,y1.1,y2.1,y3.1,y4.1],y0.2++(y1.2++(y2.2++(y3.2++y4.2))))/\cs.length=P.cellsOf t/\DataW.trod enc P w base spare held n f0.type ((cs.drop f0.offset).take (P.cellsOf f0.type))=some y0 /\
     DataW.trod enc P w base spare held n f1.type ((cs.drop f1.offset).take (P.cellsOf f1.type))=some y1/\DataW.trod enc P w base spare held n f2.type ((cs.drop f2.offset).take (P.cellsOf f2.type))=some y2 /\
     DataW.trod enc P w base spare held n f3.type ((cs.drop f3.offset).take (P.cellsOf f3.type))=some y3/\DataW.trod enc P w base spare held n f4.type ((cs.drop f4.offset).take (P.cellsOf f4.type))=some y4:=by
 obtain⟨xs,n,_,rfl,hl,hlen,hf⟩:=DataW.trod_struct ht h
 match xs,hlen with
 | [y0,y1,y2,y3,y4],_=>exact⟨y0,y1,y2,y3,y4,n,by simp,hl,by simpa using hf 0 f0 rfl,by simpa using hf 1 f1 rfl,by simpa using hf 2 f2 rfl,by simpa using hf 3 f3 rfl,by simpa using hf 4 f4 rfl⟩
end
theorem Qa7 {α:Type} {cs:List α} (h:cs.length=10):∃c0 c1 c2 c3 c4 c5 c6 c7 c8 c9,cs=[c0,c1,c2,c3,c4,c5,c6,c7,c8,c9]:=by
 match cs,h with
 | [c0,c1,c2,c3,c4,c5,c6,c7,c8,c9],_=>exact⟨c0,c1,c2,c3,c4,c5,c6,c7,c8,c9,rfl⟩
theorem Q8Q:Tryz.prog.cellsOf 32=10:=by kernel_rfl
theorem Q1C {H:Type} {enc:TypeId × Value->H} {W:World} {base n:Nat} {held:Bool} {u:Value} {y:DataW H × List MemPlace}
   (h:DataW.trod enc Tryz.prog W base (fun _=>true) held n 27 [u]=some y):∃(A:Option Addr) (m c:Nat) (N:List Int),u = .slice A m c/\Rd W (fun _=>True) A m (Q2 N)/\Fit N/\m<=c:=by
 rcases open_ints Tryz.underlying27 Tryz.underlying3 (by kernel_rfl) h with ⟨hcs,_⟩|⟨x,l,c,zs,hcs,_,hl,hm,hz,_,hcell,hwz⟩
 . simp at hcs
   subst hcs;exact⟨none,0,0,[],rfl,Rd.nil _ _ _,fun x hx=>by simp at hx,Nat.le_refl _⟩
 simp at hcs;subst hcs;simp at hz;exact⟨some x,l,c,zs.take l,rfl,Q51 (by omega) hcell,fun x hx=>Q68 (hwz x (List.mem_of_mem_take hx)),hl⟩
theorem Q0j {H:Type} {enc:TypeId × Value->H} {W:World} {base n:Nat} {held:Bool} {u v:Value} {y:DataW H × List MemPlace}
   (h:DataW.trod enc Tryz.prog W base (fun _=>true) held n 29 [u,v]=some y):∃(lg:Int) (A:Option Addr) (m c:Nat) (N:List Int),u = .int .i64 lg/\v = .slice A m c/\Rd W (fun _=>True) A m (Q2 N)/\Fit N/\m<=c:=by
 obtain⟨y0,y1,n',hx',hl',h0,h1⟩:=trod_struct2 Tryz.underlying29 h;(have e0:(([u,v]:List Value).drop 0).take (Tryz.prog.cellsOf 3)=[u]:=by rw [show Tryz.prog.cellsOf 3=1 by kernel_rfl];rfl);(have e1:(([u,v]:List Value).drop 1).take (Tryz.prog.cellsOf 27)=[v]:=by rw [show Tryz.prog.cellsOf 27=1 by kernel_rfl];rfl);(have h0':DataW.trod enc Tryz.prog W base (fun _=>true) held n' 3 [u]=some y0:=by rw [<-e0];exact h0);(have h1':DataW.trod enc Tryz.prog W base (fun _=>true) held n' 27 [v]=some y1:=by rw [<-e1];exact h1);obtain⟨q,q0,_,wq⟩:=DataW.trod_int Tryz.underlying3 h0';simp at q0;obtain⟨A,m,c,N,e,h2,h3,h4⟩:=Q1C h1';exact⟨q,A,m,c,N,q0,e,h2,h3,h4⟩
theorem Q8R {H:Type} {enc:TypeId × Value->H} {W:World} {r:Reach} {b0:Nat} {v:Value} {d:DataW H} {p:List MemPlace}
   (hv:Value.okWide Tryz.prog W r b0 32 v) (h:DataW.Trod enc Tryz.prog W 0 (fun _=>true) true 32 v d p) :
   ∃(D A B C:Option Addr) (h i n c m d k e:Nat) (T:Qa) (Tr:List Int) (r0 r1 r2:Int),v = .agg #[.slice D h i,.int .i64 T.lL,.slice A n c,.int .i64 T.lO,.slice B m d,.int .i64 T.lM,.slice C k e,.int .i64 r0,.int .i64 r1,.int .i64 r2] /\
     Rd W (fun _=>True) D h (Q2 Tr)/\Rd W (fun _=>True) A n (Q2 T.NL)/\Rd W (fun _=>True) B m (Q2 T.NO)/\Rd W (fun _=>True) C k (Q2 T.NM)/\Fit Tr/\Fit T.NL/\Fit T.NO/\Fit T.NM/\(h<=i/\n<=c/\m<=d/\k<=e):=by
 obtain⟨cs,rfl,hsz⟩:=okWide_struct Tryz.underlying32 hv;obtain⟨c0,c1,c2,c3,c4,c5,c6,c7,c8,c9,hcs⟩:=Qa7 (cs:=cs.toList) (by simpa using hsz.trans Q8Q);(obtain rfl:cs=#[c0,c1,c2,c3,c4,c5,c6,c7,c8,c9]:=by rw [<-hcs]);obtain⟨fuel,hf⟩:=h;obtain⟨y0,y1,y2,y3,y4,n,hx,_,h0,h1,h2,h3,h4⟩:=Q3D Tryz.underlying32 hf;(have l1:Tryz.prog.cellsOf 27=1:=by kernel_rfl);(have l2:Tryz.prog.cellsOf 29=2:=by kernel_rfl);(have l3:Tryz.prog.cellsOf 30=3:=by kernel_rfl);simp only [l1,l2,l3]at h0 h1 h2 h3 h4;obtain⟨D,a1,a2,Tr,e0,r0,ft0,b0⟩:=Q1C h0;obtain⟨lL,A,n1,c,NL,e1,e2,r1,ft1,b1⟩:=Q0j h1;obtain⟨lO,B,m,d,NO,e3,e4,r2,ft2,b2⟩:=Q0j h2;obtain⟨lM,C,k,e,NM,e5,e6,r3,ft3,b3⟩:=Q0j h3;obtain⟨z0,z1,z2,n',_,t0,t1,t2⟩:=trod_array3 Tryz.underlying30 (by kernel_rfl) h4;obtain⟨q0,u0,_,_⟩:=DataW.trod_int Tryz.underlying3 t0;obtain⟨q1,u1,_,_⟩:=DataW.trod_int Tryz.underlying3 t1;obtain⟨q2,u2,_,_⟩:=DataW.trod_int Tryz.underlying3 t2;simp at u0 u1 u2;subst e0 e1 e2 e3 e4 e5 e6 u0 u1 u2;exact⟨D,A,B,C,a1,a2,n1,c,m,d,k,e,⟨lL,NL,lO,NO,lM,NM⟩,Tr,q0,q1,q2,rfl,r0,r1,r2,r3,ft0,ft1,ft2,ft3,b0,b1,b2,b3⟩
theorem Q78 {H:Type} {enc:TypeId × Value->H} {W:World} {r:Reach} {b0:Nat} {v:Value} {d:DataW H} {p:List MemPlace}
   (hv:Value.okWide Tryz.prog W r b0 37 v) (h:DataW.Trod enc Tryz.prog W 0 (fun _=>true) true 37 v d p) :
   ∃(A:Option Addr) (n c:Nat) (l:List (Int × Int × Int)),v = .slice A n c/\RdK W (fun _=>True) 3 A n (l.map tri)/\(∀s∈l,-(2^63)<=s.2.1/\s.2.1<2^63)/\n<=c:=by
 obtain⟨a1,len,cap,rfl⟩:=okWide_slice Tryz.underlying37 hv;obtain⟨fuel,hf⟩:=h;rcases open_slice Tryz.underlying37 hf with ⟨hcs,_⟩|⟨a,l,c,m,k,D,Pl,hcs,_,hl,hm,hmm,hx,hi⟩
 . simp [Value.cells]at hcs
   obtain⟨rfl,rfl,rfl⟩:=hcs;exact⟨none,0,0,[],rfl,RdK.nil _ _ _ _,fun s hs=>by simp at hs,Nat.le_refl _⟩
 simp [Value.cells]at hcs;obtain⟨rfl,rfl,rfl⟩:=hcs;simp at hmm;subst hmm
 have hsp:0<len->a.spot=none:=by
   intro h0;obtain⟨cs',hc,_⟩:=hi 0 (by omega);rw [Q34]at hc;obtain⟨_,hcl,hat⟩:=World.cells?_some hc;have hg0:=hat 0 (by omega);obtain⟨u,hu⟩:∃u,cs'[0]?=some u:=⟨_,List.getElem?_eq_getElem (by omega)⟩;rw [hu]at hg0;simpa [Addr.add]using World.cell?_spot hg0
 have each:∀i,i<len->∃t:Int × Int × Int,(-(2^63)<=t.2.1/\t.2.1<2^63)/\∀j,j<3->W.cell? (a.add (i*3+j))=(tri t)[j]?:=by
   intro i hil;obtain⟨cs',hc,ht'⟩:=hi i (by omega);rw [Q34]at hc;obtain⟨y0,y1,y2,n',hx',hl',h0,h1,h2⟩:=trod_struct3 Tryz.underlying23 ht';obtain⟨_,hcl,hat⟩:=World.cells?_some hc
   obtain⟨c0,c1,c2,rfl⟩:∃c0 c1 c2,cs'=[c0,c1,c2]:=by
     match cs',hcl with
     | [c0,c1,c2],_=>exact⟨c0,c1,c2,rfl⟩
   (have l1:Tryz.prog.cellsOf 3=1:=by kernel_rfl);simp only [l1]at h0 h1 h2;obtain⟨q0,u0,_,w0⟩:=DataW.trod_int Tryz.underlying3 h0;obtain⟨q1,u1,_,w1⟩:=DataW.trod_int Tryz.underlying3 h1;obtain⟨q2,u2,_,w2⟩:=DataW.trod_int Tryz.underlying3 h2;simp at u0 u1 u2;subst u0 u1 u2;have hw:=Q68 w1;refine⟨(q0,q1,q2),⟨by simp only;omega,by simp only;omega⟩,fun j hj=>?_⟩;have:=hat j hj;rw [Addr.add_add]at this;rw [this]
   match j,hj with
   | 0,_=>rfl
   | 1,_=>rfl
   | 2,_=>rfl
 obtain⟨f,hfn⟩:=choose_lt (α:=Int × Int × Int) each;refine⟨some a,len,_,(List.range len).map f,rfl,⟨by simp,fun h0=>?_⟩,fun s hs=>?_,hl⟩
 . obtain⟨ab,ao,spot⟩:=a
   have hspot:spot=none:=hsp h0;subst hspot;have hc0:=(hfn 0 h0).2 0 (by omega);rw [Addr.add_lit]at hc0;refine⟨ab,ao,rfl,trivial,World.block_lt_of_cell? _ _ (hc0.trans rfl),fun j r hj hr=>?_⟩;(have hj':j<len:=by simpa using hj);have:=(hfn j hj').2 r hr;rw [Addr.add_lit,<-Nat.add_assoc]at this;rw [this];simp
 obtain⟨i,hi1,rfl⟩:=List.mem_map.1 hs;exact(hfn i (by simpa using hi1)).1
end Go.Proofs.YtjfdaphjijfieaaGreat
