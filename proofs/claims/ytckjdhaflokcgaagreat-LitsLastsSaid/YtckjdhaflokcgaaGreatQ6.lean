/-
  Joined texts, part 6: contracts and plain lemmas.
  Conditions: none beyond those of each theorem.
-/
import Derived.Test.YtckjdhaflokcgaaGreatQ4
set_option linter.unusedVariables false
set_option linter.unusedSimpArgs false
set_option linter.unnecessarySimpa false
set_option maxRecDepth 100000
universe u
namespace Go.Proofs.YtckjdhaflokcgaaGreat
open Go.RowKit
section
variable {P:Program} {ops:Array Oper} {Q:Exit->Act->World->Prop} {PP:List PanicEntry->World->Prop} {C:World->Prop} {die:Nat->List Nat} {Y:Nat->(Nat->Value)->World->Prop} {a0:Act}
def Qd (a:Act) (xs:Nat->Value):List (Nat × Option Tmp)->Act
  | []=>a
  | p::ds=>Qd (a.put p.2 (xs p.1)) xs ds
def Ql (Y:Nat->(Nat->Value)->World->Prop) (xs:Nat->Value) (w:World):List (Nat × Option Tmp)->Prop
  | []=>True
  | p::ds=>Y p.1 xs w/\Ql Y xs w ds
theorem XS {xs:Nat->Value} {w:World}:∀ {ds:List (Nat × Option Tmp)},(∀p∈ds,Y p.1 xs w)->Ql Y xs w ds
 | [],_=>trivial
 | p::ds,h=>⟨h p (by simp),XS fun q hq=>h q (List.mem_cons_of_mem _ hq)⟩
def Yd (die:Nat->List Nat) (Y:Nat->(Nat->Value)->World->Prop) (xs:Nat->Value) (w:World):List (Nat × Option Tmp)->Prop
  | []=>True
  | p::ds=>(die p.1=[]->Y p.1 xs w)/\Yd die Y xs w ds
theorem Xf {xs:Nat->Value} {w:World}:∀ {ds:List (Nat × Option Tmp)},(∀p∈ds,die p.1=[]->Y p.1 xs w)->Yd die Y xs w ds
 | [],_=>trivial
 | p::ds,h=>⟨h p (by simp),Xf fun q hq=>h q (List.mem_cons_of_mem _ hq)⟩
def ZO (o:Oper) (k:Nat):Bool:=o.after.any fun e=>Region.binds .any e&&e.on == k
def bef (ops:Array Oper):Nat->Nat->Nat->Bool
  | 0,j,k=>match ops[j]? with|some oj=>ZO oj k|none=>false
  | f+1,j,k=>match ops[j]? with|some oj=>ZO oj k||oj.after.any (fun e=>Region.binds .any e&&bef ops f e.on k)|none=>false
def JN (ops:Array Oper) (die:Nat->List Nat) (j k:Nat):Bool:=j != k && !(die j).contains k && !bef ops 3 j k
def Q3p (ops:Array Oper) (die:Nat->List Nat) (Y:Nat->(Nat->Value)->World->Prop) (k:Nat) (xs:Nat->Value) (w:World) (lst:Nat->Bool):Prop :=
  lst k=false/\(∀m,bef ops 3 m k=true->lst m=false)/\(∀j,lst j=false->xs j=undef)/\∀j,lst j=true->(∀m∈die j,lst m=false)->Y j xs w
def PQ (PP:List PanicEntry->World->Prop):Exit->Act->World->Prop
  | .panic ch,_,w=>PP ch w
  | _,_,_=>False
def Obl (PP:List PanicEntry->World->Prop) (P:Program) (ops:Array Oper) (C:World->Prop) (die:Nat->List Nat) (Y:Nat->(Nat->Value)->World->Prop) (a0:Act) (k:Nat) (o:Oper) (ds:List (Nat × Option Tmp)):Prop :=
  ∀(xs:Nat->Value) (w:World),C w->Ql Y xs w ds->∀lst:Nat->Bool,Hid (Q3p ops die Y k xs w lst)->∀K:Act->World->Prop,
    Hid (∀v w',C w'->(∀j,JN ops die j k=true->Y j xs w->Y j (fun i=>if i=k then v else xs i) w')->Y k (fun i=>if i=k then v else xs i) w'->K ((Qd a0 xs ds).put o.dst v) w') ->
    if Region.wanted o (yielded ops (Qd a0 xs ds).tmps)=true then Oper.wp P o (Qd a0 xs ds) w K (PQ PP)else K ((Qd a0 xs ds).put o.dst undef) w
def dsB (ops:Array Oper) (die:Nat->List Nat) (k:Nat) (o:Oper) (ds:List (Nat × Option Tmp)):Bool :=
  (ds.all fun p=>p.1 != k&&(match ops[p.1]? with|some oj=>oj.dst == p.2&&ZO o p.1|none=>p.2 == none)&&(die p.1).all (fun m=>m == k||bef ops 3 m k)) &&
  ((List.range ops.size).all fun j=>j == k||match ops[j]? with
    | none=>true
    | some oj=>match oj.dst with
      | none=>true
      | some d=>!(o.looksAt ops).contains d||(ds.any fun p=>p.1 == j)||ZO oj k)
def rgB (ops:Array Oper) (n:Nat):Bool :=
  Region.noSelect ops&&((List.range ops.size).all fun i=>match ops[i]? with
    | none=>true
    | some oi=>(match oi.dst with|none=>true|some d=>decide (d<n)&&((List.range ops.size).all fun j=>j == i||match ops[j]? with|none=>true|some oj=>oj.dst != some d)) &&
      (oi.after.all fun e=>!Region.binds .any e||decide (e.on<i)))
def Xg (ops:Array Oper) (all:List (Nat × Option Tmp)):Bool :=
  (all.all fun p=>match ops[p.1]? with|some oj=>oj.dst == p.2|none=>false)&&((List.range ops.size).all fun j=>all.any fun p=>p.1 == j)
theorem Ju:∀ {ds:List (Nat × Option Tmp)} {a:Act} {xs:Nat->Value} {k:Nat},(∀p∈ds,p.2≠some k)->(Qd a xs ds).tmps[k]?=a.tmps[k]?
 | [],_,_,_,_=>rfl
 | p::ds,a,xs,k,h=>by
   rw [Qd,Ju (fun q hq=>h q (List.mem_cons_of_mem _ hq))]
   have:=h p (by simp)
   obtain⟨j,d⟩:=p
   cases d with
   | none=>rfl
   | some d=>exact Array.getElem?_setIfInBounds_ne (fun e=>this (by rw [e]))
theorem Vv:∀ {ds:List (Nat × Option Tmp)} {a:Act} {xs:Nat->Value},(Qd a xs ds).tmps.size=a.tmps.size
 | [],_,_=>rfl
 | p::ds,a,xs=>by
   rw [Qd,Vv]
   obtain⟨j,d⟩:=p
   cases d with
   | none=>rfl
   | some d=>simp [Act.put]
theorem K1:∀ {ds:List (Nat × Option Tmp)} {a:Act} {xs:Nat->Value},(Qd a xs ds).defers=a.defers
 | [],_,_=>rfl
 | p::ds,a,xs=>by
   rw [Qd,K1]
   obtain⟨j,d⟩:=p
   cases d<;>rfl
theorem V6:∀ {ds:List (Nat × Option Tmp)} {a:Act} {xs:Nat->Value} {k j:Nat},(j,some k)∈ds->k<a.tmps.size->(∀q∈ds,q.2=some k->q.1=j)->(Qd a xs ds).tmps[k]?=some (xs j)
 | [],_,_,_,_,h,_,_=>by cases h
 | p::ds,a,xs,k,j,h,hk,hu=>by
   rw [Qd]
   by_cases hl:(j,some k)∈ds
   . refine V6 hl ?_ (fun q hq=>hu q (List.mem_cons_of_mem _ hq))
     obtain⟨i,d⟩:=p
     cases d<;>simpa [Act.put]using hk
   rcases List.mem_cons.1 h with rfl|h
   . rw [Ju (fun q hq he=>hl (by have:=hu q (List.mem_cons_of_mem _ hq) he;obtain⟨q1,q2⟩:=q;simp only at he this;subst he this;exact hq))]
     simp [Act.put,hk]
   exact absurd h hl
theorem Q0L {o:Oper} {a b:Act} (hs:∀cs b,o.op≠.select cs b) (h:∀d∈o.looksAt ops,a.tmps[d]?=b.tmps[d]?) :
   execOp a.eval o=execOp b.eval o/\Region.wanted o (yielded ops a.tmps)=Region.wanted o (yielded ops b.tmps):=by
 refine⟨execOp_congr o hs fun x hx=>?_,?_⟩
 . cases x with
   | tmp t =>
     have:=h t (List.mem_append_left _ (List.mem_filterMap.2 ⟨.tmp t,by simpa using hx,rfl⟩));simp [Act.eval,this]
   | _=>rfl
 unfold Region.wanted
 cases hg:o.guard with
 | none=>rfl
 | some gw =>
   obtain⟨g,want⟩:=gw
   have hy:yielded ops a.tmps g=yielded ops b.tmps g:=by
     unfold yielded
     cases ht:(ops[g]?).bind (·.dst)with
     | none=>rfl
     | some t =>
       have:=h t (by simp [Oper.looksAt,hg,ht]);simp [this]
   simp only [hy]
theorem Jv {o:Oper} {k:Nat}:ZO o k=true ↔ ∃e∈o.after,Region.binds .any e=true/\e.on=k:=by
 unfold ZO;rw [Array.any_eq_true'];simp
theorem Jw {listed:Array Bool} (hcl:∀(j:Nat) (oj:Oper),ops[j]?=some oj->listed.getD j true=true->∀e∈oj.after,Region.binds .any e=true->listed.getD e.on false=true) :
   ∀ {f j k:Nat},bef ops f j k=true->listed.getD j true=true->listed.getD k false=true
 | 0,j,k,h,hl=>by
   cases ho:ops[j]? with
   | none=>simp [bef,ho]at h
   | some oj =>
     simp only [bef,ho]at h
     obtain⟨e,he,hb,rfl⟩:=Jv.1 h
     exact hcl j oj ho hl e he hb
 | f+1,j,k,h,hl=>by
   cases ho:ops[j]? with
   | none=>simp [bef,ho]at h
   | some oj =>
     simp only [bef,ho,Bool.or_eq_true]at h
     rcases h with h|h
     . obtain⟨e,he,hb,rfl⟩:=Jv.1 h
       exact hcl j oj ho hl e he hb
     obtain⟨e,he,h2⟩:=Array.any_eq_true'.1 h
     simp only [Bool.and_eq_true]at h2
     have h3:=hcl j oj ho hl e he h2.1
     refine Jw hcl h2.2 ?_
     have h4:e.on<listed.size:=by
       rcases Nat.lt_or_ge e.on listed.size with h'|h'
       . exact h'
       simp [Array.getElem?_eq_none h']at h3
     simp [h4]at h3 ⊢;exact h3
theorem Z2 {l:Array Bool} {i:Nat} (h:l.getD i true=false):(l.setIfInBounds i true).toList.count false+1=l.toList.count false:=by
 have hlt:i<l.size:=by
   rcases Nat.lt_or_ge i l.size with h'|h'
   . exact h'
   simp [Array.getElem?_eq_none h']at h
 (have h0:l.toList[i]'(by simpa using hlt)=false:=by simpa [hlt]using h);rw [Array.toList_setIfInBounds];have:=List.count_set (a:=true) (b:=false) (l:=l.toList) (i:=i) (by simpa using hlt);rw [this,h0,if_pos (by rfl),if_neg (by decide)];have hp:0<l.toList.count false:=List.count_pos_iff.2 (by rw [<-h0];exact List.getElem_mem _);omega
def Q3q (ops:Array Oper) (C:World->Prop) (die:Nat->List Nat) (Y:Nat->(Nat->Value)->World->Prop) (a0:Act) (listed:Array Bool) (a:Act) (w:World):Prop :=
  listed.size=ops.size/\(∀(j:Nat) (oj:Oper),ops[j]?=some oj->listed.getD j true=true->∀e∈oj.after,Region.binds .any e=true->listed.getD e.on false=true) /\
  a.defers=a0.defers/\a.tmps.size=a0.tmps.size/\C w/\∃xs:Nat->Value,(∀(j:Nat) (oj:Oper),ops[j]?=some oj->listed.getD j true=true->((∀m∈die j,listed.getD m true=false)->Y j xs w)/\∀d,oj.dst=some d->a.tmps[d]?=some (xs j)) /\
    (∀k,(∀(j:Nat) (oj:Oper),ops[j]?=some oj->listed.getD j true=true->oj.dst≠some k)->a.tmps[k]?=a0.tmps[k]?) /\
    (∀j,ops.size<=j->(∀m∈die j,listed.getD m true=false)->Y j xs w)/\∀j,listed.getD j true=false->xs j=undef
theorem Q4c (hb:rgB ops a0.tmps.size=true) (hO:∀i o,ops[i]?=some o->∃ds,dsB ops die i o ds=true/\Obl PP P ops C die Y a0 i o ds)
   (all:List (Nat × Option Tmp)) (hall:Xg ops all=true) (hend:∀xs w,C w->Yd die Y xs w all->Q .normal (Qd a0 xs all) w) (hpan:∀ch a w,a.defers=a0.defers->PP ch w->Q (.panic ch) a w) :
   ∀(fuel:Nat) (listed:Array Bool) (a:Act) (w:World),listed.toList.count false=fuel->Q3q ops C die Y a0 listed a w->wpAny P .any ops Q fuel listed a w:=by
 simp only [rgB,Bool.and_eq_true,List.all_eq_true,List.mem_range]at hb;obtain⟨hsel,hb⟩:=hb;have hsel':=Region.noSelect_spec hsel
 have hbd:∀(i:Nat) (oi:Oper) (d:Tmp),ops[i]?=some oi->oi.dst=some d->d<a0.tmps.size:=by
   intro i oi d ho hd;have:=hb i (Array.getElem?_eq_some_iff.1 ho).1;simp only [ho,hd,Bool.and_eq_true,decide_eq_true_eq]at this;exact this.1.1
 have hdis:∀(i j:Nat) (oi oj:Oper) (d:Tmp),ops[i]?=some oi->ops[j]?=some oj->oi.dst=some d->oj.dst=some d->j=i:=by
   intro i j oi oj d ho hj hd hd2;have:=hb i (Array.getElem?_eq_some_iff.1 ho).1;simp only [ho,hd,Bool.and_eq_true,List.all_eq_true,List.mem_range]at this;have:=this.1.2 j (Array.getElem?_eq_some_iff.1 hj).1;simp only [hj,hd2,bne_self_eq_false,Bool.or_false,beq_iff_eq]at this;exact this
 have hac:∀(i:Nat) (oi:Oper),ops[i]?=some oi->∀e∈oi.after,Region.binds .any e=true->e.on<i:=by
   intro i oi ho e he hbi;have:=hb i (Array.getElem?_eq_some_iff.1 ho).1;simp only [ho,Bool.and_eq_true]at this;have:=Array.all_eq_true_iff_forall_mem.1 this.2 e he;simpa [hbi]using this
 have hallm:∀p∈all,∃oj:Oper,ops[p.1]?=some oj/\oj.dst=p.2:=by
   intro p hp;simp only [Xg,Bool.and_eq_true,List.all_eq_true]at hall;have:=hall.1 p hp
   cases h:ops[p.1]? with
   | none=>simp [h]at this
   | some oj=>exact⟨oj,rfl,by simpa [h]using this⟩
 have halls:∀(j:Nat) (oj:Oper),ops[j]?=some oj->(j,oj.dst)∈all:=by
   intro j oj ho;have h2:=hall;simp only [Xg,Bool.and_eq_true,List.all_eq_true,List.mem_range,List.any_eq_true,beq_iff_eq]at h2;obtain⟨p,hp,e⟩:=h2.2 j (Array.getElem?_eq_some_iff.1 ho).1;obtain⟨oj',h3,h4⟩:=hallm p hp;rw [e,ho]at h3;injection h3 with h3;subst h3;obtain⟨p1,p2⟩:=p;simp only at e h4;subst e h4;exact hp
 have key:∀(listed:Array Bool) (a:Act) (w:World),Q3q ops C die Y a0 listed a w->(∀j,j<ops.size->listed.getD j true=true)->Q .normal a w:=by
   rintro listed a w ⟨_,_,hdf,hsz,hC,xs,hx,hout,_,_⟩ hl
   have hh:=hend xs w hC (Xf fun p hp hdie=>by
     obtain⟨oj,h1,h2⟩:=hallm p hp
     exact(hx p.1 oj h1 (hl _ (Array.getElem?_eq_some_iff.1 h1).1)).1 fun m hm=>by rw [hdie]at hm;cases hm)
   have ha:a=Qd a0 xs all:=by
     have ht:a.tmps=(Qd a0 xs all).tmps:=by
       refine Array.ext_getElem? fun k=>?_;by_cases hk:∃(j:Nat) (oj:Oper),ops[j]?=some oj/\oj.dst=some k
       . obtain⟨j,oj,h1,h2⟩:=hk
         have h3:=(hx j oj h1 (hl _ (Array.getElem?_eq_some_iff.1 h1).1)).2 k h2;have h4:=halls j oj h1;rw [h2]at h4
         rw [h3,V6 h4 (hbd j oj k h1 h2) (fun q hq he=>by
           obtain⟨oq,h5,h6⟩:=hallm q hq
           exact hdis j q.1 oj oq k h1 h5 h2 (h6.trans he))]
       rw [hout k (fun j oj h1 _ h2=>hk ⟨j,oj,h1,h2⟩),Ju (fun q hq he=>by
         obtain⟨oq,h5,h6⟩:=hallm q hq
         exact hk ⟨q.1,oq,h5,h6.trans he⟩)]
     have hd:a.defers=(Qd a0 xs all).defers:=hdf.trans K1.symm;cases a;cases h:Qd a0 xs all;rw [h]at ht hd;simp only at ht hd;rw [ht,hd]
   rw [ha];exact hh
 intro fuel
 induction fuel with
 | zero =>
   intro listed a w hc inv
   have hl:∀j,j<ops.size->listed.getD j true=true:=by
     intro j hj
     cases h:listed.getD j true with
     | true=>rfl
     | false =>
       exfalso;have:=Z2 h;omega
   refine⟨?_,key _ _ _ inv hl⟩;refine List.eq_nil_iff_forall_not_mem.2 fun j hj=>?_;obtain⟨h1,o,ho,_⟩:=mem_ready.1 hj;rw [hl j (Array.getElem?_eq_some_iff.1 ho).1]at h1;cases h1
 | succ fuel ih =>
   intro listed a w hc inv;refine⟨fun hr=>?_,fun i hi=>?_⟩
   . refine key _ _ _ inv ?_
     intro j
     induction j using Nat.strongRecOn with
     | _ j ihj =>
       intro hj
       cases h:listed.getD j true with
       | true=>rfl
       | false =>
         exfalso
         have hm:j∈Region.ready .any ops listed:=by
           refine mem_ready.2 ⟨h,ops[j],Array.getElem?_eq_getElem hj,fun e he hbi=>?_⟩;have h1:=hac j _ (Array.getElem?_eq_getElem hj) e he hbi;have h2:=ihj e.on h1 (by omega);(have h3:e.on<listed.size:=by rw [inv.1];omega);simp [h3]at h2 ⊢;exact h2
         rw [hr]at hm;cases hm
   obtain⟨hun,o,ho,hdeps⟩:=mem_ready.1 hi;have hin:i<ops.size:=(Array.getElem?_eq_some_iff.1 ho).1;obtain⟨ds,hds,hob⟩:=hO i o ho;obtain⟨hls,hcl,hdf,hsz,hC,xs,hx,hout,hres,hund⟩:=inv;simp only [dsB,Bool.and_eq_true,List.all_eq_true,List.mem_range]at hds;obtain⟨hd1,hd2⟩:=hds
   have hd1':∀p∈ds,p.1≠i/\((∃oj:Oper,ops[p.1]?=some oj/\oj.dst=p.2/\listed.getD p.1 true=true)\/(ops.size<=p.1/\p.2=none))/\∀m∈die p.1,listed.getD m true=false:=by
     intro p hp;obtain⟨⟨h1,h2⟩,h9⟩:=hd1 p hp;refine⟨by simpa using h1,?_,?_⟩
     . cases h:ops[p.1]? with
       | none=>exact .inr ⟨Array.getElem?_eq_none_iff.1 h,by simpa [h]using h2⟩
       | some oj =>
         simp only [h,Bool.and_eq_true,beq_iff_eq]at h2;obtain⟨h2,h3⟩:=h2;refine .inl ⟨oj,rfl,h2,?_⟩;obtain⟨e,he,hbi,hon⟩:=Jv.1 h3;have h4:=hdeps e he hbi;rw [hon]at h4
         have h5:p.1<listed.size:=by
           rcases Nat.lt_or_ge p.1 listed.size with h'|h'
           . exact h'
           simp [Array.getElem?_eq_none h']at h4
         simp [h5]at h4 ⊢;exact h4
     intro m hm;have h9:=h9 m hm;simp only [Bool.or_eq_true,beq_iff_eq]at h9;rcases h9 with rfl|h9
     . exact hun
     cases hlm:listed.getD m true with
     | false=>rfl
     | true =>
       exfalso;have h5:=Jw hcl h9 hlm;(have h6:i<listed.size:=by rw [hls];exact hin);simp [h6]at h5 hun;rw [hun]at h5;cases h5
   have hsl:∀d∈o.looksAt ops,a.tmps[d]?=(Qd a0 xs ds).tmps[d]?:=by
     intro d hd;by_cases hk:∃p∈ds,p.2=some d
     . obtain⟨p,hp,he⟩:=hk
       obtain⟨_,⟨oj,h1,h2,h3⟩|⟨_,h3⟩,_⟩:=hd1' p hp
       . have h4:=(hx p.1 oj h1 h3).2 d (h2.trans he)
         (have h5:(p.1,some d)∈ds:=by obtain⟨p1,p2⟩:=p;simp only at he;subst he;exact hp)
         rw [h4,V6 h5 (hbd p.1 oj d h1 (h2.trans he)) (fun q hq hqe=>by
           obtain⟨_,⟨oq,h6,h7,_⟩|⟨_,h7⟩,_⟩:=hd1' q hq
           . exact hdis p.1 q.1 oj oq d h1 h6 (h2.trans he) (h7.trans hqe)
           rw [h7]at hqe;cases hqe)]
       rw [h3]at he;cases he
     rw [Ju (fun q hq he=>hk ⟨q,hq,he⟩)];refine hout d fun j oj h1 h2 h3=>?_;(have hji:j≠i:=by intro e;subst e;rw [hun]at h2;cases h2);have h4:=hd2 j (Array.getElem?_eq_some_iff.1 h1).1;simp only [h1,h3,Bool.or_eq_true,beq_iff_eq,hji,false_or]at h4;rcases h4 with (h4|h4)|h4
     . simp [hd]at h4
     . obtain⟨p,hp,he⟩:=List.any_eq_true.1 h4
       simp only [beq_iff_eq]at he;obtain⟨_,⟨oq,h6,h7,_⟩|⟨h6,_⟩,_⟩:=hd1' p hp
       . rw [he,h1]at h6
         injection h6 with h6;subst h6;exact hk ⟨p,hp,h7.symm.trans h3⟩
       have:=(Array.getElem?_eq_some_iff.1 h1).1;omega
     obtain⟨e,he,hbi,hon⟩:=Jv.1 h4;have h5:=hcl j oj h1 h2 e he hbi;rw [hon]at h5;(have h6:i<listed.size:=by rw [hls];exact hin);simp [h6]at h5 hun;rw [hun]at h5;cases h5
   obtain⟨he1,he2⟩:=Q0L (hsel' i o · · ho) hsl
   have hH:Ql Y xs w ds:=XS fun p hp=>by
     obtain⟨_,⟨oj,h1,h2,h3⟩|⟨h1,_⟩,h9⟩:=hd1' p hp
     . exact(hx p.1 oj h1 h3).1 h9
     exact hres _ h1 h9
   have hsof:Q3p ops die Y i xs w (fun j=>listed.getD j true):=by
     refine⟨hun,fun m hm=>?_,hund,fun j hj hdie=>?_⟩
     . cases hlm:listed.getD m true with
       | false=>exact hlm
       | true =>
         exfalso;have h5:=Jw hcl hm hlm;(have h6:i<listed.size:=by rw [hls];exact hin);simp [h6]at h5 hun;rw [hun]at h5;cases h5
     rcases Nat.lt_or_ge j ops.size with hjs|hjs
     . exact(hx j _ (Array.getElem?_eq_getElem hjs) hj).1 hdie
     exact hres j hjs hdie
   have hob':=hob xs w hC hH _ hsof (fun a' w'=>∃v,a'=(Qd a0 xs ds).put o.dst v/\C w'/\(∀j,JN ops die j i=true->Y j xs w->Y j (fun q=>if q=i then v else xs q) w')/\Y i (fun q=>if q=i then v else xs q) w') (fun v w' h1 h2 h3=>⟨v,rfl,h1,h2,h3⟩)
   have step:∀u w',(∃v,(Qd a0 xs ds).put o.dst u=(Qd a0 xs ds).put o.dst v/\C w'/\(∀j,JN ops die j i=true->Y j xs w->Y j (fun q=>if q=i then v else xs q) w')/\Y i (fun q=>if q=i then v else xs q) w')->wpAny P .any ops Q fuel (listed.setIfInBounds i true) (a.put o.dst u) w':=by
     rintro u w' ⟨v,hv,hC',hst,hyv⟩;(have hlt:i<listed.size:=by rw [hls];exact hin);refine ih _ _ _ (by have:=Z2 hun;omega) ⟨by simpa using hls,?_,?_,?_,hC',fun j=>if j=i then v else xs j,?_,?_,?_,?_⟩
     . intro j oj h1 h2 e he hbi
       by_cases hji:j=i
       . subst hji
         rw [ho]at h1;injection h1 with h1;subst h1;exact getD_set_true (hdeps e he hbi)
       rw [getD_set_ne true (Ne.symm hji)]at h2;exact getD_set_true (hcl j oj h1 h2 e he hbi)
     . cases o.dst<;>exact hdf
     . cases o.dst<;>simpa [Act.put]using hsz
     . intro j oj h1 h2
       by_cases hji:j=i
       . subst hji
         rw [ho]at h1;injection h1 with h1;subst h1;simp only [if_true];refine⟨fun _=>hyv,fun d hd=>?_⟩;have hb2:=hbd j o d ho hd;rw [hd]at hv ⊢;(have h5:((Qd a0 xs ds).put (some d) u).tmps[d]?=((Qd a0 xs ds).put (some d) v).tmps[d]?:=by rw [hv]);(have h6:d<(Qd a0 xs ds).tmps.size:=by rw [Vv];exact hb2);simp [Act.put,h6]at h5;subst h5;simp [Act.put,hsz,hb2]
       rw [getD_set_ne true (Ne.symm hji)]at h2;simp only [if_neg hji];refine⟨fun hdie=>hst _ ?_ ((hx j oj h1 h2).1 fun m hm=>?_),fun d hd=>?_⟩
       . simp only [JN,Bool.and_eq_true,Bool.not_eq_true',bne_iff_ne,ne_eq]
         refine⟨⟨hji,?_⟩,?_⟩
         . cases hc2:(die j).contains i with
           | false=>rfl
           | true =>
             have h11:=hdie i (by simpa using hc2);simp [hlt]at h11
         cases hc2:bef ops 3 j i with
         | false=>rfl
         | true =>
           have h11:=Jw hcl hc2 h2;(have h6:i<listed.size:=by rw [hls];exact hin);simp [h6]at h11 hun;rw [hun]at h11;cases h11
       . have h11:=hdie m hm
         by_cases hmi:m=i
         . subst hmi;exact hun
         rwa [getD_set_ne true (Ne.symm hmi)]at h11
       rw [<-(hx j oj h1 h2).2 d hd]
       cases hdo:o.dst with
       | none=>rfl
       | some d' =>
         refine Array.getElem?_setIfInBounds_ne fun e=>?_;subst e;exact hji (hdis i j o oj d' ho h1 hdo hd)
     . intro k hk
       have h7:a.tmps[k]?=a0.tmps[k]?:=hout k fun j oj h1 h2=>by
         refine hk j oj h1 ?_;by_cases hji:j=i
         . subst hji;rw [hun]at h2;cases h2
         rw [getD_set_ne true (Ne.symm hji)];exact h2
       rw [<-h7]
       cases hdo:o.dst with
       | none=>rfl
       | some d' =>
         refine Array.getElem?_setIfInBounds_ne fun e=>?_;subst e
         exact hk i o ho (by simp [hlt]) hdo
     . intro j h1 hdie
       refine hst _ ?_ (hres j h1 fun m hm=>?_)
       . have hno:∀f,bef ops f j i=false:=fun f=>by cases f<;>simp [bef,Array.getElem?_eq_none h1]
         simp only [JN,Bool.and_eq_true,Bool.not_eq_true',bne_iff_ne,ne_eq];refine⟨⟨by omega,?_⟩,hno 3⟩
         cases hc2:(die j).contains i with
         | false=>rfl
         | true =>
           have h11:=hdie i (by simpa using hc2);simp [hlt]at h11
       have h11:=hdie m hm;by_cases hmi:m=i
       . subst hmi;exact hun
       rwa [getD_set_ne true (Ne.symm hmi)]at h11
     intro j h1;by_cases hji:j=i
     . subst hji
       simp [hlt]at h1
     rw [getD_set_ne true (Ne.symm hji)]at h1;simp only [if_neg hji];exact hund j h1
   unfold wpOp;simp only [ho];rw [<-he2]at hob';by_cases hwt:Region.wanted o (yielded ops a.tmps)=true
   . rw [if_pos hwt]at hob' ⊢
     refine .inl ?_;unfold Oper.wp at hob' ⊢;rw [<-he1]at hob';generalize (execOp a.eval o).run P w=r at *
     cases r with
     | ok n w' =>
       (cases n<;>simp only [Oper.upon]at hob' ⊢)
       case value u=>exact step _ _ hob'
       case skip=>exact step _ _ hob'
       case defer d =>
         exfalso;obtain⟨v,hv,_⟩:=hob';have h8:=congrArg (fun a:Act=>a.defers.length) hv;(cases hdo:o.dst<;>simp [hdo,Act.put]at h8)
       case enter f args =>
         refine Calls.mono hob' fun e w'' he=>?_
         cases e with
         | returned u=>exact step _ _ he
         | panicked c=>exact hpan _ _ _ hdf he
         | outgrown=>obtain⟨_,_,h9⟩:=he;exact h9.elim
       case row row args=>exact Rows.mono hob' fun u w'' he=>step _ _ he
     | halt x w' =>
       (cases x<;>simp only [Oper.upon]at hob' ⊢);(all_goals first|exact hpan _ _ _ hdf hob'|exact hob'.elim)
   rw [if_neg hwt]at hob' ⊢;exact step _ _ hob'
def Qf (PP:List PanicEntry->World->Prop) (P:Program) (ops:Array Oper) (C:World->Prop) (die:Nat->List Nat) (Y:Nat->(Nat->Value)->World->Prop) (a0:Act):Nat->List Oper->Prop
  | _,[]=>True
  | k,o::os=>(∃ds,dsB ops die k o ds=true/\Obl PP P ops C die Y a0 k o ds)/\Qf PP P ops C die Y a0 (k+1) os
theorem Qf.nil {k:Nat}:Qf PP P ops C die Y a0 k []:=trivial
theorem Qf.cons {k:Nat} {o:Oper} {os:List Oper} (ds:List (Nat × Option Tmp)) (hds:dsB ops die k o ds=true)
   (h:Obl PP P ops C die Y a0 k o ds) (hs:Qf PP P ops C die Y a0 (k+1) os):Qf PP P ops C die Y a0 k (o::os):=⟨⟨ds,hds,h⟩,hs⟩
theorem Qf.get:∀ {os:List Oper} {k j:Nat} {o:Oper},Qf PP P ops C die Y a0 k os->os[j]?=some o->∃ds,dsB ops die (k+j) o ds=true/\Obl PP P ops C die Y a0 (k+j) o ds
 | [],_,_,_,_,h=>by simp at h
 | o::os,k,0,o',h,e=>by simp at e;subst e;exact h.1
 | o::os,k,j+1,o',h,e=>by have:=Qf.get (j:=j) h.2 (by simpa using e);rwa [Nat.add_right_comm,Nat.add_assoc]at this
theorem YN {id:Nat} {os:List Oper} {w:World} (C:World->Prop) (die:Nat->List Nat) (Y:Nat->(Nat->Value)->World->Prop) (all:List (Nat × Option Tmp)) (hm:P.follows .mixedOrders=true)
   (hb:rgB os.toArray a0.tmps.size=true) (hall:Xg os.toArray all=true) (hC:C w.drew) (h0:∀j,os.length<=j->Y j (fun _=>undef) w.drew) (hO:Qf PP P os.toArray C die Y a0 0 os)
   (hend:∀xs w,C w->Yd die Y xs w all->Q .normal (Qd a0 xs all) w) (hpan:∀ch a w,a.defers=a0.defers->PP ch w->Q (.panic ch) a w):(Code.region id os.toArray true).wp P Q a0 w:=by
 refine wp_region_any hm ?_;refine Q4c hb (fun i o ho=>?_) all hall hend hpan _ _ _ _ ?_ ?_
 . have:=hO.get (j:=i) (o:=o) (by simpa using ho)
   rwa [Nat.zero_add]at this
 . simp
 refine⟨by simp,fun j oj ho hl=>?_,rfl,rfl,hC,fun _=>undef,fun j oj ho hl=>?_,fun k _=>rfl,fun j hj _=>h0 j (by simpa using hj),fun _ _=>rfl⟩
 all_goals
   (have hj:j<os.length:=by simpa using(Array.getElem?_eq_some_iff.1 ho).1);simp [hj]at hl
theorem QK {id:Nat} {os:List Oper} {w:World} (C:World->Prop) (die:Nat->List Nat) (Y:Nat->(Nat->Value)->World->Prop) (all:List (Nat × Option Tmp)) (hm:P.follows .mixedOrders=true)
   (hb:rgB os.toArray a0.tmps.size=true) (hall:Xg os.toArray all=true) (hC:C w.drew) (h0:∀j,os.length<=j->Y j (fun _=>undef) w.drew) (hO:Qf (fun _ _=>False) P os.toArray C die Y a0 0 os)
   (hend:∀xs w,C w->Yd die Y xs w all->Q .normal (Qd a0 xs all) w):(Code.region id os.toArray true).wp P Q a0 w :=
 YN C die Y all hm hb hall hC h0 hO hend (fun _ _ _ _ h=>h.elim)
def YA (L:List (List Nat)) (Y:Nat->(Nat->Value)->World->Prop):Prop:=∀(j:Nat) (xs xs':Nat->Value) (w:World),(∀i∈L.getD j [],xs i=xs' i)->Y j xs w->Y j xs' w
def Q3b (L:List (List Nat)) (k:Nat):Bool:=(List.range L.length).all fun j=>j == k || !(L.getD j []).contains k
theorem Qb {L:List (List Nat)} (h:YA L Y) (k:Nat) (hm:Q3b L k=true) (xs:Nat->Value) (w:World) (v:Value) :
   ∀j,JN ops die j k=true->Y j xs w->Y j (fun i=>if i=k then v else xs i) w:=by
 intro j hs hy;refine h j xs _ w (fun i hi=>(if_neg ?_).symm) hy;rintro rfl;simp only [JN,Bool.and_eq_true,bne_iff_ne,ne_eq]at hs;have hji:=hs.1.1;rcases Nat.lt_or_ge j L.length with hj|hj
 . simp only [Q3b,List.all_eq_true,List.mem_range]at hm
   have:=hm j hj;simp only [Bool.or_eq_true,beq_iff_eq,hji,false_or,Bool.not_eq_true']at this;rw [List.contains_eq_mem]at this;simp only [decide_eq_false_iff_not]at this;exact this hi
 rw [List.getD_eq_getElem?_getD,List.getElem?_eq_none hj]at hi;cases hi
theorem QG {L:List (List Nat)} (h:YA L Y) (k:Nat) (hm:Q3b L k=true) {xs:Nat->Value} {w w':World} (v:Value) (hk:∀j,JN ops die j k=true->Y j xs w->Y j xs w') :
   ∀j,JN ops die j k=true->Y j xs w->Y j (fun i=>if i=k then v else xs i) w':=fun j hs hy=>Qb h k hm xs w' v j hs (hk j hs hy)
theorem Qn {j k:Nat} (h:JN ops die j k=true) (e:JN ops die j k=false):False:=by rw [e]at h;cases h
theorem exY (L:List ((Nat->Value)->World->Prop)):∃Y:Nat->(Nat->Value)->World->Prop,∀j xs W,Y j xs W=(L.getD j (fun _ _=>True)) xs W:=⟨fun j xs W=>(L.getD j (fun _ _=>True)) xs W,fun _ _ _=>rfl⟩
theorem exC (C:World->Prop):∃D:World->Prop,∀W,D W=C W:=⟨C,fun _=>rfl⟩
theorem QR {α:Type} (L:List α) (d:α) (j:Nat) (h:L.length<=j):L.getD j d=d:=by rw [List.getD_eq_getElem?_getD,List.getElem?_eq_none h];rfl
def Q4M (x:Value) (b:Nat):Prop:=x≠.pointer (some ⟨b,0,none⟩)
end
end Go.Proofs.YtckjdhaflokcgaaGreat
