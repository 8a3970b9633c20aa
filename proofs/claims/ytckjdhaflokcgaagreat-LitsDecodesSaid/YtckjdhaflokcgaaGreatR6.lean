/- Contracts and plain lemmas, part 6. Conditions: none beyond those of each. -/
import Derived.Test.YtckjdhaflokcgaaGreatR5
import Derived.Test.YtckjdhaflokcgaaGreatR4
set_option maxHeartbeats 2000000
set_option linter.unusedVariables false
set_option linter.unusedSimpArgs false
set_option linter.unnecessarySimpa false
set_option maxRecDepth 100000
namespace Go.Proofs.YtckjdhaflokcgaaGreat
open Go.RowKit Go.Proofs.Tryz
section
variable {P:Program} {ops:Array Oper} {Q:Exit->Act->World->Prop} {PP:List PanicEntry->World->Prop} {C:World->Prop} {die:Nat->List Nat} {Y:Nat->(Nat->Value)->World->Prop} {a0:Act}
def Q5 (a:Act) (xs:Nat->Value):List (Nat × Option Tmp)->Act
  | []=>a
  | p::ds=>Q5 (a.put p.2 (xs p.1)) xs ds
def Qd (Y:Nat->(Nat->Value)->World->Prop) (xs:Nat->Value) (w:World):List (Nat × Option Tmp)->Prop
  | []=>True
  | p::ds=>Y p.1 xs w/\Qd Y xs w ds
theorem Q5m {xs:Nat->Value} {w:World}:∀ {ds:List (Nat × Option Tmp)},(∀p∈ds,Y p.1 xs w)->Qd Y xs w ds
 | [],_=>trivial
 | p::ds,h=>⟨h p (by simp),Q5m λq hq=>h q (List.mem_cons_of_mem _ hq)⟩
def YD (die:Nat->List Nat) (Y:Nat->(Nat->Value)->World->Prop) (xs:Nat->Value) (w:World):List (Nat × Option Tmp)->Prop
  | []=>True
  | p::ds=>(die p.1=[]->Y p.1 xs w)/\YD die Y xs w ds
theorem Q4g {xs:Nat->Value} {w:World}:∀ {ds:List (Nat × Option Tmp)},(∀p∈ds,die p.1=[]->Y p.1 xs w)->YD die Y xs w ds
 | [],_=>trivial
 | p::ds,h=>⟨h p (by simp),Q4g λq hq=>h q (List.mem_cons_of_mem _ hq)⟩
def Q0v (o:Oper) (k:Nat):Bool:=o.after.any λe=>Region.binds .any e&&e.on == k
def bef (ops:Array Oper):Nat->Nat->Nat->Bool
  | 0,j,k=>match ops[j]? with|some oj=>Q0v oj k|none=>false
  | f+1,j,k=>match ops[j]? with|some oj=>Q0v oj k||oj.after.any (λe=>Region.binds .any e&&bef ops f e.on k)|none=>false
def KJ (ops:Array Oper) (die:Nat->List Nat) (j k:Nat):Bool:=j != k && !(die j).contains k && !bef ops 3 j k
def Qa9 (ops:Array Oper) (die:Nat->List Nat) (Y:Nat->(Nat->Value)->World->Prop) (k:Nat) (xs:Nat->Value) (w:World) (lst:Nat->Bool):Prop :=
  lst k=false/\(∀m,bef ops 3 m k=true->lst m=false)/\(∀j,lst j=false->xs j=undef)/\∀j,lst j=true->(∀m∈die j,lst m=false)->Y j xs w
def PQ (PP:List PanicEntry->World->Prop):Exit->Act->World->Prop
  | .panic ch,_,w=>PP ch w
  | _,_,_=>False
def Obl (PP:List PanicEntry->World->Prop) (P:Program) (ops:Array Oper) (C:World->Prop) (die:Nat->List Nat) (Y:Nat->(Nat->Value)->World->Prop) (a0:Act) (k:Nat) (o:Oper) (ds:List (Nat × Option Tmp)):Prop :=
  ∀(xs:Nat->Value) (w:World),C w->Qd Y xs w ds->∀lst:Nat->Bool,Hid (Qa9 ops die Y k xs w lst)->∀K:Act->World->Prop,
    Hid (∀v w',C w'->(∀j,KJ ops die j k=true->Y j xs w->Y j (λi=>if i=k then v else xs i) w')->Y k (λi=>if i=k then v else xs i) w'->K ((Q5 a0 xs ds).put o.dst v) w') ->
    if Region.wanted o (yielded ops (Q5 a0 xs ds).tmps)=true then Oper.wp P o (Q5 a0 xs ds) w K (PQ PP)else K ((Q5 a0 xs ds).put o.dst undef) w
def dsB (ops:Array Oper) (die:Nat->List Nat) (k:Nat) (o:Oper) (ds:List (Nat × Option Tmp)):Bool :=
  (ds.all λp=>p.1 != k&&(match ops[p.1]? with|some oj=>oj.dst == p.2&&Q0v o p.1|none=>p.2 == none)&&(die p.1).all (λm=>m == k||bef ops 3 m k)) &&
  ((List.range ops.size).all λj=>j == k||match ops[j]? with
    | none=>true
    | some oj=>match oj.dst with
      | none=>true
      | some d=>!(o.looksAt ops).contains d||(ds.any λp=>p.1 == j)||Q0v oj k)
def rgB (ops:Array Oper) (n:Nat):Bool :=
  Region.noSelect ops&&((List.range ops.size).all λi=>match ops[i]? with
    | none=>true
    | some oi=>(match oi.dst with|none=>true|some d=>decide (d<n)&&((List.range ops.size).all λj=>j == i||match ops[j]? with|none=>true|some oj=>oj.dst != some d)) &&
      (oi.after.all λe=>!Region.binds .any e||decide (e.on<i)))
def Q4h (ops:Array Oper) (all:List (Nat × Option Tmp)):Bool :=
  (all.all λp=>match ops[p.1]? with|some oj=>oj.dst == p.2|none=>false)&&((List.range ops.size).all λj=>all.any λp=>p.1 == j)
theorem V0:∀ {ds:List (Nat × Option Tmp)} {a:Act} {xs:Nat->Value} {k:Nat},(∀p∈ds,p.2≠some k)->(Q5 a xs ds).tmps[k]?=a.tmps[k]?
 | [],_,_,_,_=>rfl
 | p::ds,a,xs,k,h=>by
   rw [Q5,V0 (λq hq=>h q (List.mem_cons_of_mem _ hq))]
   have:=h p (by simp)
   obtain⟨j,d⟩:=p
   cases d with
   | none=>rfl
   | some d=>exact Array.getElem?_setIfInBounds_ne (λe=>this (by rw [e]))
theorem Q2U:∀ {ds:List (Nat × Option Tmp)} {a:Act} {xs:Nat->Value},(Q5 a xs ds).tmps.size=a.tmps.size
 | [],_,_=>rfl
 | p::ds,a,xs=>by
   rw [Q5,Q2U]
   obtain⟨j,d⟩:=p
   cases d with
   | none=>rfl
   | some d=>simp [Act.put]
theorem Q0M:∀ {ds:List (Nat × Option Tmp)} {a:Act} {xs:Nat->Value},(Q5 a xs ds).defers=a.defers
 | [],_,_=>rfl
 | p::ds,a,xs=>by
   rw [Q5,Q0M]
   obtain⟨j,d⟩:=p
   cases d<;>rfl
theorem Q29:∀ {ds:List (Nat × Option Tmp)} {a:Act} {xs:Nat->Value} {k j:Nat},(j,some k)∈ds->k<a.tmps.size->(∀q∈ds,q.2=some k->q.1=j)->(Q5 a xs ds).tmps[k]?=some (xs j)
 | [],_,_,_,_,h,_,_=>by cases h
 | p::ds,a,xs,k,j,h,hk,hu=>by
   rw [Q5]
   by_cases hl:(j,some k)∈ds
   . refine Q29 hl ?_ (λq hq=>hu q (List.mem_cons_of_mem _ hq))
     obtain⟨i,d⟩:=p
     cases d<;>simpa [Act.put]using hk
   rcases List.mem_cons.1 h with rfl|h
   . rw [V0 (λq hq he=>hl (by have:=hu q (List.mem_cons_of_mem _ hq) he;obtain⟨q1,q2⟩:=q;simp only at he this;subst he this;exact hq))]
     simp [Act.put,hk]
   exact absurd h hl
theorem Q6G {o:Oper} {a b:Act} (hs:∀cs b,o.op≠.select cs b) (h:∀d∈o.looksAt ops,a.tmps[d]?=b.tmps[d]?) :
   execOp a.eval o=execOp b.eval o/\Region.wanted o (yielded ops a.tmps)=Region.wanted o (yielded ops b.tmps):=by
 refine⟨execOp_congr o hs λx hx=>?_,?_⟩
 . cases x with
   | tmp t =>
     have:=h t (List.mem_append_left _ (List.mem_filterMap.2 ⟨.tmp t,by simpa using hx,rfl⟩));simp [Act.eval,this]
   | _=>rfl
 unfold Region.wanted
 cases hg:o.guard with
 | none=>rfl
 | some gw =>
   obtain⟨g,want⟩:=gw
   have hy:yielded ops a.tmps g=yielded ops b.tmps g:=by
     unfold yielded
     cases ht:(ops[g]?).bind (·.dst)with
     | none=>rfl
     | some t =>
       have:=h t (by simp [Oper.looksAt,hg,ht]);simp [this]
   simp only [hy]
theorem V6 {o:Oper} {k:Nat}:Q0v o k=true ↔ ∃e∈o.after,Region.binds .any e=true/\e.on=k:=by
 unfold Q0v;rw [Array.any_eq_true'];simp
theorem V7 {listed:Array Bool} (hcl:∀(j:Nat) (oj:Oper),ops[j]?=some oj->listed.getD j true=true->∀e∈oj.after,Region.binds .any e=true->listed.getD e.on false=true) :
   ∀ {f j k:Nat},bef ops f j k=true->listed.getD j true=true->listed.getD k false=true
 | 0,j,k,h,hl=>by
   cases ho:ops[j]? with
   | none=>simp [bef,ho]at h
   | some oj =>
     simp only [bef,ho]at h
     obtain⟨e,he,hb,rfl⟩:=V6.1 h
     exact hcl j oj ho hl e he hb
 | f+1,j,k,h,hl=>by
   cases ho:ops[j]? with
   | none=>simp [bef,ho]at h
   | some oj =>
     simp only [bef,ho,Bool.or_eq_true]at h
     rcases h with h|h
     . obtain⟨e,he,hb,rfl⟩:=V6.1 h
       exact hcl j oj ho hl e he hb
     obtain⟨e,he,h2⟩:=Array.any_eq_true'.1 h
     simp only [Bool.and_eq_true]at h2
     have h3:=hcl j oj ho hl e he h2.1
     refine V7 hcl h2.2 ?_
     have h4:e.on<listed.size:=by
       rcases Nat.lt_or_ge e.on listed.size with h'|h'
       . exact h'
       simp [Array.getElem?_eq_none h']at h3
     simp [h4]at h3|-;exact h3
theorem X5 {l:Array Bool} {i:Nat} (h:l.getD i true=false):(l.setIfInBounds i true).toList.count false+1=l.toList.count false:=by
 have hlt:i<l.size:=by
   rcases Nat.lt_or_ge i l.size with h'|h'
   . exact h'
   simp [Array.getElem?_eq_none h']at h
 (have h0:l.toList[i]'(by simpa using hlt)=false:=by simpa [hlt]using h);rw [Array.toList_setIfInBounds];have:=List.count_set (a:=true) (b:=false) (l:=l.toList) (i:=i) (by simpa using hlt);rw [this,h0,if_pos (by rfl),if_neg (by decide)];have hp:0<l.toList.count false:=List.count_pos_iff.2 (by rw [<-h0];exact List.getElem_mem _);omega
def Qaa (ops:Array Oper) (C:World->Prop) (die:Nat->List Nat) (Y:Nat->(Nat->Value)->World->Prop) (a0:Act) (listed:Array Bool) (a:Act) (w:World):Prop :=
  listed.size=ops.size/\(∀(j:Nat) (oj:Oper),ops[j]?=some oj->listed.getD j true=true->∀e∈oj.after,Region.binds .any e=true->listed.getD e.on false=true) /\
  a.defers=a0.defers/\a.tmps.size=a0.tmps.size/\C w/\∃xs:Nat->Value,(∀(j:Nat) (oj:Oper),ops[j]?=some oj->listed.getD j true=true->((∀m∈die j,listed.getD m true=false)->Y j xs w)/\∀d,oj.dst=some d->a.tmps[d]?=some (xs j)) /\
    (∀k,(∀(j:Nat) (oj:Oper),ops[j]?=some oj->listed.getD j true=true->oj.dst≠some k)->a.tmps[k]?=a0.tmps[k]?) /\
    (∀j,ops.size<=j->(∀m∈die j,listed.getD m true=false)->Y j xs w)/\∀j,listed.getD j true=false->xs j=undef
theorem QaQ (hb:rgB ops a0.tmps.size=true) (hO:∀i o,ops[i]?=some o->∃ds,dsB ops die i o ds=true/\Obl PP P ops C die Y a0 i o ds)
   (all:List (Nat × Option Tmp)) (hall:Q4h ops all=true) (hend:∀xs w,C w->YD die Y xs w all->Q .normal (Q5 a0 xs all) w) (hpan:∀ch a w,a.defers=a0.defers->PP ch w->Q (.panic ch) a w) :
   ∀(fuel:Nat) (listed:Array Bool) (a:Act) (w:World),listed.toList.count false=fuel->Qaa ops C die Y a0 listed a w->wpAny P .any ops Q fuel listed a w:=by
 simp only [rgB,Bool.and_eq_true,List.all_eq_true,List.mem_range]at hb;obtain⟨hsel,hb⟩:=hb;have hsel':=Region.noSelect_spec hsel
 have hbd:∀(i:Nat) (oi:Oper) (d:Tmp),ops[i]?=some oi->oi.dst=some d->d<a0.tmps.size:=by
   intro i oi d ho hd;have:=hb i (Array.getElem?_eq_some_iff.1 ho).1;simp only [ho,hd,Bool.and_eq_true,decide_eq_true_eq]at this;exact this.1.1
 have hdis:∀(i j:Nat) (oi oj:Oper) (d:Tmp),ops[i]?=some oi->ops[j]?=some oj->oi.dst=some d->oj.dst=some d->j=i:=by
   intro i j oi oj d ho hj hd hd2;have:=hb i (Array.getElem?_eq_some_iff.1 ho).1;simp only [ho,hd,Bool.and_eq_true,List.all_eq_true,List.mem_range]at this;have:=this.1.2 j (Array.getElem?_eq_some_iff.1 hj).1;simp only [hj,hd2,bne_self_eq_false,Bool.or_false,beq_iff_eq]at this;exact this
 have hac:∀(i:Nat) (oi:Oper),ops[i]?=some oi->∀e∈oi.after,Region.binds .any e=true->e.on<i:=by
   intro i oi ho e he hbi;have:=hb i (Array.getElem?_eq_some_iff.1 ho).1;simp only [ho,Bool.and_eq_true]at this;have:=Array.all_eq_true_iff_forall_mem.1 this.2 e he;simpa [hbi]using this
 have hallm:∀p∈all,∃oj:Oper,ops[p.1]?=some oj/\oj.dst=p.2:=by
   intro p hp;simp only [Q4h,Bool.and_eq_true,List.all_eq_true]at hall;have:=hall.1 p hp
   cases h:ops[p.1]? with
   | none=>simp [h]at this
   | some oj=>exact⟨oj,rfl,by simpa [h]using this⟩
 have halls:∀(j:Nat) (oj:Oper),ops[j]?=some oj->(j,oj.dst)∈all:=by
   intro j oj ho;have h2:=hall;simp only [Q4h,Bool.and_eq_true,List.all_eq_true,List.mem_range,List.any_eq_true,beq_iff_eq]at h2;obtain⟨p,hp,e⟩:=h2.2 j (Array.getElem?_eq_some_iff.1 ho).1;obtain⟨oj',h3,h4⟩:=hallm p hp;rw [e,ho]at h3;injection h3 with h3;subst h3;obtain⟨p1,p2⟩:=p;simp only at e h4;subst e h4;exact hp
 have key:∀(listed:Array Bool) (a:Act) (w:World),Qaa ops C die Y a0 listed a w->(∀j,j<ops.size->listed.getD j true=true)->Q .normal a w:=by
   rintro listed a w ⟨_,_,hdf,hsz,hC,xs,hx,hout,_,_⟩ hl
   have hh:=hend xs w hC (Q4g λp hp hdie=>by
     obtain⟨oj,h1,h2⟩:=hallm p hp
     exact(hx p.1 oj h1 (hl _ (Array.getElem?_eq_some_iff.1 h1).1)).1 λm hm=>by rw [hdie]at hm;cases hm)
   have ha:a=Q5 a0 xs all:=by
     have ht:a.tmps=(Q5 a0 xs all).tmps:=by
       refine Array.ext_getElem? λk=>?_;by_cases hk:∃(j:Nat) (oj:Oper),ops[j]?=some oj/\oj.dst=some k
       . obtain⟨j,oj,h1,h2⟩:=hk
         have h3:=(hx j oj h1 (hl _ (Array.getElem?_eq_some_iff.1 h1).1)).2 k h2;have h4:=halls j oj h1;rw [h2]at h4
         rw [h3,Q29 h4 (hbd j oj k h1 h2) (λq hq he=>by
           obtain⟨oq,h5,h6⟩:=hallm q hq
           exact hdis j q.1 oj oq k h1 h5 h2 (h6.trans he))]
       rw [hout k (λj oj h1 _ h2=>hk ⟨j,oj,h1,h2⟩),V0 (λq hq he=>by
         obtain⟨oq,h5,h6⟩:=hallm q hq
         exact hk ⟨q.1,oq,h5,h6.trans he⟩)]
     have hd:a.defers=(Q5 a0 xs all).defers:=hdf.trans Q0M.symm;cases a;cases h:Q5 a0 xs all;rw [h]at ht hd;simp only at ht hd;rw [ht,hd]
   rw [ha];exact hh
 intro fuel
 induction fuel with
 | zero =>
   intro listed a w hc inv
   have hl:∀j,j<ops.size->listed.getD j true=true:=by
     intro j hj
     cases h:listed.getD j true with
     | true=>rfl
     | false =>
       exfalso;have:=X5 h;omega
   refine⟨?_,key _ _ _ inv hl⟩;refine List.eq_nil_iff_forall_not_mem.2 λj hj=>?_;obtain⟨h1,o,ho,_⟩:=mem_ready.1 hj;rw [hl j (Array.getElem?_eq_some_iff.1 ho).1]at h1;cases h1
 | succ fuel ih =>
   intro listed a w hc inv;refine⟨λhr=>?_,λi hi=>?_⟩
   . refine key _ _ _ inv ?_
     intro j
     induction j using Nat.strongRecOn with
     | _ j ihj =>
       intro hj
       cases h:listed.getD j true with
       | true=>rfl
       | false =>
         exfalso
         have hm:j∈Region.ready .any ops listed:=by
           refine mem_ready.2 ⟨h,ops[j],Array.getElem?_eq_getElem hj,λe he hbi=>?_⟩;have h1:=hac j _ (Array.getElem?_eq_getElem hj) e he hbi;have h2:=ihj e.on h1 (by omega);(have h3:e.on<listed.size:=by rw [inv.1];omega);simp [h3]at h2|-;exact h2
         rw [hr]at hm;cases hm
   obtain⟨hun,o,ho,hdeps⟩:=mem_ready.1 hi;have hin:i<ops.size:=(Array.getElem?_eq_some_iff.1 ho).1;obtain⟨ds,hds,hob⟩:=hO i o ho;obtain⟨hls,hcl,hdf,hsz,hC,xs,hx,hout,hres,hund⟩:=inv;simp only [dsB,Bool.and_eq_true,List.all_eq_true,List.mem_range]at hds;obtain⟨hd1,hd2⟩:=hds
   have hd1':∀p∈ds,p.1≠i/\((∃oj:Oper,ops[p.1]?=some oj/\oj.dst=p.2/\listed.getD p.1 true=true)\/(ops.size<=p.1/\p.2=none))/\∀m∈die p.1,listed.getD m true=false:=by
     intro p hp;obtain⟨⟨h1,h2⟩,h9⟩:=hd1 p hp;refine⟨by simpa using h1,?_,?_⟩
     . cases h:ops[p.1]? with
       | none=>exact .inr ⟨Array.getElem?_eq_none_iff.1 h,by simpa [h]using h2⟩
       | some oj =>
         simp only [h,Bool.and_eq_true,beq_iff_eq]at h2;obtain⟨h2,h3⟩:=h2;refine .inl ⟨oj,rfl,h2,?_⟩;obtain⟨e,he,hbi,hon⟩:=V6.1 h3;have h4:=hdeps e he hbi;rw [hon]at h4
         have h5:p.1<listed.size:=by
           rcases Nat.lt_or_ge p.1 listed.size with h'|h'
           . exact h'
           simp [Array.getElem?_eq_none h']at h4
         simp [h5]at h4|-;exact h4
     intro m hm;have h9:=h9 m hm;simp only [Bool.or_eq_true,beq_iff_eq]at h9;rcases h9 with rfl|h9
     . exact hun
     cases hlm:listed.getD m true with
     | false=>rfl
     | true =>
       exfalso;have h5:=V7 hcl h9 hlm;(have h6:i<listed.size:=by rw [hls];exact hin);simp [h6]at h5 hun;rw [hun]at h5;cases h5
   have hsl:∀d∈o.looksAt ops,a.tmps[d]?=(Q5 a0 xs ds).tmps[d]?:=by
     intro d hd;by_cases hk:∃p∈ds,p.2=some d
     . obtain⟨p,hp,he⟩:=hk
       obtain⟨_,⟨oj,h1,h2,h3⟩|⟨_,h3⟩,_⟩:=hd1' p hp
       . have h4:=(hx p.1 oj h1 h3).2 d (h2.trans he)
         (have h5:(p.1,some d)∈ds:=by obtain⟨p1,p2⟩:=p;simp only at he;subst he;exact hp)
         rw [h4,Q29 h5 (hbd p.1 oj d h1 (h2.trans he)) (λq hq hqe=>by
           obtain⟨_,⟨oq,h6,h7,_⟩|⟨_,h7⟩,_⟩:=hd1' q hq
           . exact hdis p.1 q.1 oj oq d h1 h6 (h2.trans he) (h7.trans hqe)
           rw [h7]at hqe;cases hqe)]
       rw [h3]at he;cases he
     rw [V0 (λq hq he=>hk ⟨q,hq,he⟩)];refine hout d λj oj h1 h2 h3=>?_;(have hji:j≠i:=by intro e;subst e;rw [hun]at h2;cases h2);have h4:=hd2 j (Array.getElem?_eq_some_iff.1 h1).1;simp only [h1,h3,Bool.or_eq_true,beq_iff_eq,hji,false_or]at h4;rcases h4 with (h4|h4)|h4
     . simp [hd]at h4
     . obtain⟨p,hp,he⟩:=List.any_eq_true.1 h4
       simp only [beq_iff_eq]at he;obtain⟨_,⟨oq,h6,h7,_⟩|⟨h6,_⟩,_⟩:=hd1' p hp
       . rw [he,h1]at h6
         injection h6 with h6;subst h6;exact hk ⟨p,hp,h7.symm.trans h3⟩
       have:=(Array.getElem?_eq_some_iff.1 h1).1;omega
     obtain⟨e,he,hbi,hon⟩:=V6.1 h4;have h5:=hcl j oj h1 h2 e he hbi;rw [hon]at h5;(have h6:i<listed.size:=by rw [hls];exact hin);simp [h6]at h5 hun;rw [hun]at h5;cases h5
   obtain⟨he1,he2⟩:=Q6G (hsel' i o · · ho) hsl
   have hH:Qd Y xs w ds:=Q5m λp hp=>by
     obtain⟨_,⟨oj,h1,h2,h3⟩|⟨h1,_⟩,h9⟩:=hd1' p hp
     . exact(hx p.1 oj h1 h3).1 h9
     exact hres _ h1 h9
   have hsof:Qa9 ops die Y i xs w (λj=>listed.getD j true):=by
     refine⟨hun,λm hm=>?_,hund,λj hj hdie=>?_⟩
     . cases hlm:listed.getD m true with
       | false=>exact hlm
       | true =>
         exfalso;have h5:=V7 hcl hm hlm;(have h6:i<listed.size:=by rw [hls];exact hin);simp [h6]at h5 hun;rw [hun]at h5;cases h5
     rcases Nat.lt_or_ge j ops.size with hjs|hjs
     . exact(hx j _ (Array.getElem?_eq_getElem hjs) hj).1 hdie
     exact hres j hjs hdie
   have hob':=hob xs w hC hH _ hsof (λa' w'=>∃v,a'=(Q5 a0 xs ds).put o.dst v/\C w'/\(∀j,KJ ops die j i=true->Y j xs w->Y j (λq=>if q=i then v else xs q) w')/\Y i (λq=>if q=i then v else xs q) w') (λv w' h1 h2 h3=>⟨v,rfl,h1,h2,h3⟩)
   have step:∀u w',(∃v,(Q5 a0 xs ds).put o.dst u=(Q5 a0 xs ds).put o.dst v/\C w'/\(∀j,KJ ops die j i=true->Y j xs w->Y j (λq=>if q=i then v else xs q) w')/\Y i (λq=>if q=i then v else xs q) w')->wpAny P .any ops Q fuel (listed.setIfInBounds i true) (a.put o.dst u) w':=by
     rintro u w' ⟨v,hv,hC',hst,hyv⟩;(have hlt:i<listed.size:=by rw [hls];exact hin);refine ih _ _ _ (by have:=X5 hun;omega) ⟨by simpa using hls,?_,?_,?_,hC',λj=>if j=i then v else xs j,?_,?_,?_,?_⟩
     . intro j oj h1 h2 e he hbi
       by_cases hji:j=i
       . subst hji
         rw [ho]at h1;injection h1 with h1;subst h1;exact getD_set_true (hdeps e he hbi)
       rw [getD_set_ne true (Ne.symm hji)]at h2;exact getD_set_true (hcl j oj h1 h2 e he hbi)
     . cases o.dst<;>exact hdf
     . cases o.dst<;>simpa [Act.put]using hsz
     . intro j oj h1 h2
       by_cases hji:j=i
       . subst hji
         rw [ho]at h1;injection h1 with h1;subst h1;simp only [if_true];refine⟨λ_=>hyv,λd hd=>?_⟩;have hb2:=hbd j o d ho hd;rw [hd]at hv|-;(have h5:((Q5 a0 xs ds).put (some d) u).tmps[d]?=((Q5 a0 xs ds).put (some d) v).tmps[d]?:=by rw [hv]);(have h6:d<(Q5 a0 xs ds).tmps.size:=by rw [Q2U];exact hb2);simp [Act.put,h6]at h5;subst h5;simp [Act.put,hsz,hb2]
       rw [getD_set_ne true (Ne.symm hji)]at h2;simp only [if_neg hji];refine⟨λhdie=>hst _ ?_ ((hx j oj h1 h2).1 λm hm=>?_),λd hd=>?_⟩
       . simp only [KJ,Bool.and_eq_true,Bool.not_eq_true',bne_iff_ne,ne_eq]
         refine⟨⟨hji,?_⟩,?_⟩
         . cases hc2:(die j).contains i with
           | false=>rfl
           | true =>
             have h11:=hdie i (by simpa using hc2);simp [hlt]at h11
         cases hc2:bef ops 3 j i with
         | false=>rfl
         | true =>
           have h11:=V7 hcl hc2 h2;(have h6:i<listed.size:=by rw [hls];exact hin);simp [h6]at h11 hun;rw [hun]at h11;cases h11
       . have h11:=hdie m hm
         by_cases hmi:m=i
         . subst hmi;exact hun
         rwa [getD_set_ne true (Ne.symm hmi)]at h11
       rw [<-(hx j oj h1 h2).2 d hd]
       cases hdo:o.dst with
       | none=>rfl
       | some d' =>
         refine Array.getElem?_setIfInBounds_ne λe=>?_;subst e;exact hji (hdis i j o oj d' ho h1 hdo hd)
     . intro k hk
       have h7:a.tmps[k]?=a0.tmps[k]?:=hout k λj oj h1 h2=>by
         refine hk j oj h1 ?_;by_cases hji:j=i
         . subst hji;rw [hun]at h2;cases h2
         rw [getD_set_ne true (Ne.symm hji)];exact h2
       rw [<-h7]
       cases hdo:o.dst with
       | none=>rfl
       | some d' =>
         refine Array.getElem?_setIfInBounds_ne λe=>?_;subst e
         exact hk i o ho (by simp [hlt]) hdo
     . intro j h1 hdie
       refine hst _ ?_ (hres j h1 λm hm=>?_)
       . have hno:∀f,bef ops f j i=false:=λf=>by cases f<;>simp [bef,Array.getElem?_eq_none h1]
         simp only [KJ,Bool.and_eq_true,Bool.not_eq_true',bne_iff_ne,ne_eq];refine⟨⟨by omega,?_⟩,hno 3⟩
         cases hc2:(die j).contains i with
         | false=>rfl
         | true =>
           have h11:=hdie i (by simpa using hc2);simp [hlt]at h11
       have h11:=hdie m hm;by_cases hmi:m=i
       . subst hmi;exact hun
       rwa [getD_set_ne true (Ne.symm hmi)]at h11
     intro j h1;by_cases hji:j=i
     . subst hji
       simp [hlt]at h1
     rw [getD_set_ne true (Ne.symm hji)]at h1;simp only [if_neg hji];exact hund j h1
   unfold wpOp;simp only [ho];rw [<-he2]at hob';by_cases hwt:Region.wanted o (yielded ops a.tmps)=true
   . rw [if_pos hwt]at hob'|-
     refine .inl ?_;unfold Oper.wp at hob'|-;rw [<-he1]at hob';generalize (execOp a.eval o).run P w=r at *
     cases r with
     | ok n w' =>
       (cases n<;>simp only [Oper.upon]at hob'|-)
       case value u=>exact step _ _ hob'
       case skip=>exact step _ _ hob'
       case defer d =>
         exfalso;obtain⟨v,hv,_⟩:=hob';have h8:=congrArg (λa:Act=>a.defers.length) hv;(cases hdo:o.dst<;>simp [hdo,Act.put]at h8)
       case enter f args =>
         refine Calls.mono hob' λe w'' he=>?_
         cases e with
         | returned u=>exact step _ _ he
         | panicked c=>exact hpan _ _ _ hdf he
         | outgrown=>obtain⟨_,_,h9⟩:=he;exact h9.elim
       case row row args=>exact Rows.mono hob' λu w'' he=>step _ _ he
     | halt x w' =>
       (cases x<;>simp only [Oper.upon]at hob'|-);(all_goals first|exact hpan _ _ _ hdf hob'|exact hob'.elim)
   rw [if_neg hwt]at hob'|-;exact step _ _ hob'
def Q9 (PP:List PanicEntry->World->Prop) (P:Program) (ops:Array Oper) (C:World->Prop) (die:Nat->List Nat) (Y:Nat->(Nat->Value)->World->Prop) (a0:Act):Nat->List Oper->Prop
  | _,[]=>True
  | k,o::os=>(∃ds,dsB ops die k o ds=true/\Obl PP P ops C die Y a0 k o ds)/\Q9 PP P ops C die Y a0 (k+1) os
theorem Q9.nil {k:Nat}:Q9 PP P ops C die Y a0 k []:=trivial
theorem Q9.cons {k:Nat} {o:Oper} {os:List Oper} (ds:List (Nat × Option Tmp)) (hds:dsB ops die k o ds=true)
   (h:Obl PP P ops C die Y a0 k o ds) (hs:Q9 PP P ops C die Y a0 (k+1) os):Q9 PP P ops C die Y a0 k (o::os):=⟨⟨ds,hds,h⟩,hs⟩
theorem Q9.get:∀ {os:List Oper} {k j:Nat} {o:Oper},Q9 PP P ops C die Y a0 k os->os[j]?=some o->∃ds,dsB ops die (k+j) o ds=true/\Obl PP P ops C die Y a0 (k+j) o ds
 | [],_,_,_,_,h=>by simp at h
 | o::os,k,0,o',h,e=>by simp at e;subst e;exact h.1
 | o::os,k,j+1,o',h,e=>by have:=Q9.get (j:=j) h.2 (by simpa using e);rwa [Nat.add_right_comm,Nat.add_assoc]at this
theorem Jm {id:Nat} {os:List Oper} {w:World} (C:World->Prop) (die:Nat->List Nat) (Y:Nat->(Nat->Value)->World->Prop) (all:List (Nat × Option Tmp)) (hm:P.follows .mixedOrders=true)
   (hb:rgB os.toArray a0.tmps.size=true) (hall:Q4h os.toArray all=true) (hC:C w.drew) (h0:∀j,os.length<=j->Y j (λ_=>undef) w.drew) (hO:Q9 PP P os.toArray C die Y a0 0 os)
   (hend:∀xs w,C w->YD die Y xs w all->Q .normal (Q5 a0 xs all) w) (hpan:∀ch a w,a.defers=a0.defers->PP ch w->Q (.panic ch) a w):(Code.region id os.toArray true).wp P Q a0 w:=by
 refine wp_region_any hm ?_;refine QaQ hb (λi o ho=>?_) all hall hend hpan _ _ _ _ ?_ ?_
 . have:=hO.get (j:=i) (o:=o) (by simpa using ho)
   rwa [Nat.zero_add]at this
 . simp
 refine⟨by simp,λj oj ho hl=>?_,rfl,rfl,hC,λ_=>undef,λj oj ho hl=>?_,λk _=>rfl,λj hj _=>h0 j (by simpa using hj),λ_ _=>rfl⟩
 all_goals
   (have hj:j<os.length:=by simpa using(Array.getElem?_eq_some_iff.1 ho).1);simp [hj]at hl
theorem Ya {id:Nat} {os:List Oper} {w:World} (C:World->Prop) (die:Nat->List Nat) (Y:Nat->(Nat->Value)->World->Prop) (all:List (Nat × Option Tmp)) (hm:P.follows .mixedOrders=true)
   (hb:rgB os.toArray a0.tmps.size=true) (hall:Q4h os.toArray all=true) (hC:C w.drew) (h0:∀j,os.length<=j->Y j (λ_=>undef) w.drew) (hO:Q9 (λ_ _=>False) P os.toArray C die Y a0 0 os)
   (hend:∀xs w,C w->YD die Y xs w all->Q .normal (Q5 a0 xs all) w):(Code.region id os.toArray true).wp P Q a0 w :=
 Jm C die Y all hm hb hall hC h0 hO hend (λ_ _ _ _ h=>h.elim)
def Jt (L:List (List Nat)) (Y:Nat->(Nat->Value)->World->Prop):Prop:=∀(j:Nat) (xs xs':Nat->Value) (w:World),(∀i∈L.getD j [],xs i=xs' i)->Y j xs w->Y j xs' w
def Q6H (L:List (List Nat)) (k:Nat):Bool:=(List.range L.length).all λj=>j == k || !(L.getD j []).contains k
theorem Q2V {L:List (List Nat)} (h:Jt L Y) (k:Nat) (hm:Q6H L k=true) (xs:Nat->Value) (w:World) (v:Value) :
   ∀j,KJ ops die j k=true->Y j xs w->Y j (λi=>if i=k then v else xs i) w:=by
 intro j hs hy;refine h j xs _ w (λi hi=>(if_neg ?_).symm) hy;rintro rfl;simp only [KJ,Bool.and_eq_true,bne_iff_ne,ne_eq]at hs;have hji:=hs.1.1;rcases Nat.lt_or_ge j L.length with hj|hj
 . simp only [Q6H,List.all_eq_true,List.mem_range]at hm
   have:=hm j hj;simp only [Bool.or_eq_true,beq_iff_eq,hji,false_or,Bool.not_eq_true']at this;rw [List.contains_eq_mem]at this;simp only [decide_eq_false_iff_not]at this;exact this hi
 rw [List.getD_eq_getElem?_getD,List.getElem?_eq_none hj]at hi;cases hi
theorem QW {L:List (List Nat)} (h:Jt L Y) (k:Nat) (hm:Q6H L k=true) {xs:Nat->Value} {w w':World} (v:Value) (hk:∀j,KJ ops die j k=true->Y j xs w->Y j xs w') :
   ∀j,KJ ops die j k=true->Y j xs w->Y j (λi=>if i=k then v else xs i) w':=λj hs hy=>Q2V h k hm xs w' v j hs (hk j hs hy)
theorem Q9.c {C0 : World -> Prop} (cEq : ∀W, C W = C0 W) {k : Nat} {o : Oper} {os : List Oper} (ds : List (Nat × Option Tmp)) (hds : dsB ops die k o ds = true)
  (h : ∀(xs : Nat -> Value) (w : World), C0 w -> Qd Y xs w ds -> ∀K : Act -> World -> Prop, (∀v w', C0 w' -> (∀j, KJ ops die j k = true -> Y j xs w -> Y j (λi => if i = k then v else xs i) w') -> Y k (λi => if i = k then v else xs i) w' -> K ((Q5 a0 xs ds).put o.dst v) w') ->
    if Region.wanted o (yielded ops (Q5 a0 xs ds).tmps) = true then Oper.wp P o (Q5 a0 xs ds) w K (PQ PP)else K ((Q5 a0 xs ds).put o.dst undef) w)
  (hs : Q9 PP P ops C die Y a0 (k+1) os) : Q9 PP P ops C die Y a0 k (o::os) :=
 Q9.cons ds hds (λxs w hw hd _ _ K hK => h xs w (cEq w ▸ hw) hd K λv w' hw' => hK.out v w' ((cEq w').symm ▸ hw')) hs
theorem Q9.p {C0 : World -> Prop} (cEq : ∀W, C W = C0 W) {L : List (List Nat)} (yM : Jt L Y) {k : Nat} {o : Oper} {os : List Oper} (ds : List (Nat × Option Tmp)) (hds : dsB ops die k o ds = true) (hm : Q6H L k = true)
  (h : ∀(xs : Nat -> Value) (w : World), C0 w -> Qd Y xs w ds -> ∀K : Act -> World -> Prop, (∀v, Y k (λi => if i = k then v else xs i) w -> K ((Q5 a0 xs ds).put o.dst v) w) ->
    if Region.wanted o (yielded ops (Q5 a0 xs ds).tmps) = true then Oper.wp P o (Q5 a0 xs ds) w K (PQ PP)else K ((Q5 a0 xs ds).put o.dst undef) w)
  (hs : Q9 PP P ops C die Y a0 (k+1) os) : Q9 PP P ops C die Y a0 k (o::os) :=
 Q9.c cEq ds hds (λxs w hw hd K hK => h xs w hw hd K λv hy => hK v w hw (Q2V yM k hm xs w v) hy) hs
theorem Qg {j k:Nat} (h:KJ ops die j k=true) (e:KJ ops die j k=false):False:=by rw [e]at h;cases h
theorem exY (L:List ((Nat->Value)->World->Prop)):∃Y:Nat->(Nat->Value)->World->Prop,∀j xs W,Y j xs W=(L.getD j (λ_ _=>True)) xs W:=⟨λj xs W=>(L.getD j (λ_ _=>True)) xs W,λ_ _ _=>rfl⟩
theorem exC (C:World->Prop):∃D:World->Prop,∀W,D W=C W:=⟨C,λ_=>rfl⟩
theorem Y6 {α:Type} (L:List α) (d:α) (j:Nat) (h:L.length<=j):L.getD j d=d:=by rw [List.getD_eq_getElem?_getD,List.getElem?_eq_none h];rfl
def Qbd (x:Value) (b:Nat):Prop:=x≠.pointer (some ⟨b,0,none⟩)
end
theorem Q7w (F:Nat->Prop) (g:Nat) (bs:List Nat) (t n:Nat) (w:World) (hf:Y3 w F g bs t) (hn:n<=11) (h:n<=t) :
   Calls prog 310 #[.pointer (some ⟨g,0,none⟩),.int .i64 (n:Nat)] w λe w'=>e = .returned (.int .u64 (Qj bs / 2^(t-n)%2^n:Nat))/\Q0 w w':=by
 obtain⟨A,c,hb,hr,hlt,hfr,hlen⟩:=hf;obtain⟨hc0,hc1,hc2⟩:=(hb).cells3;have HL:=hd_ (Xq g 0 t w hc1 hc2 (by omega) (by omega));obtain⟨V,hV⟩:=nm_ (Qj bs / 2^(t-n)%2^n);obtain⟨d,hd⟩:=nm_ (t-n);have HV0:=hd_ (λW (hW:Q0 w W)=>VC F g A bs.length c bs (t-n) n W (by simpa using(hb.fresh hW).cell 0) (hr.fresh hW) hlt (by omega) (by omega) hlen);rw [<-hV,<-hd]at HV0
 have hVl:V<2048:=by
   (have h1:V<2^n:=by rw [hV];exact Nat.mod_lt _ (Nat.two_pow_pos _));have h2:2^n<=2^11:=Nat.pow_le_pow_right (by decide) hn;omega
 rw [<-hV];have HB:=hd_ hb;(have hnI:(n:Int)<=11:=by omega);(have hn0:(0:Int)<=n:=by omega);(have hnt:(n:Int)<=t:=by omega);(have hm1:max (n:Int) 0=n:=by omega);(have hm2:min (n:Int) 64=n:=by omega);(have hm3:min (n:Int) (t:Int)=n:=by omega);(have hs1:IntKind.i64.wrap ((t:Int)-n)=(d:Nat):=by rw [IntWalk.i64_in _ (by omega)];omega);(have hw1:IntKind.u64.wrap (V:Int)=(V:Nat):=by unfold IntKind.wrap;simp [IntKind.bits];omega);clear hV hd hb hr hlt hfr hlen hVl hn h;refine Q8 λR hR=>?_;go_enter func310,ntmps310;go_wp2_with fail;refine HL.mono ?_;rintro e w1 ⟨rfl,k,rfl⟩;simp only [Nat.sub_zero];obtain⟨w1,hw1'⟩:∃w1,w1=w.drewN k:=⟨_,rfl⟩;rw [<-hw1'];have F1:=hd_ (show Q0 w w1 by rw [hw1'];exact(Upd.refl _ _).drewN k);have HV:=hd_ (λW (hW:Q0 w1 W)=>HV0 W (F1.trans' hW));have HC2:=hd_ (show ∀W,Q0 w1 W->W.cell? ⟨g,2,none⟩=some (.int .i64 (t:Nat))from λW hW=>by simpa using(HB.fresh (F1.trans' hW)).cell 2);clear hw1' HL HV0 hc0 hc1 hc2;go_upto_region 5 with fail;obtain⟨Cw,cEq⟩:=exC (λW=>Q0 w1 W);obtain⟨Y,yA⟩:=exY [λxs W=>(xs 0) = .pointer (some ⟨g,0,none⟩),λxs W=>(xs 1) = .pointer (some ⟨g,0,none⟩),λxs W=>(xs 2) = .pointer (some ⟨g,0,none⟩),λxs W=>(xs 3) = .pointer (some ⟨g,0,none⟩),λxs W=>(xs 4) = .pointer (some ⟨g,0,none⟩),λxs W=>(xs 5) = .pointer (some ⟨g,0,none⟩),λxs W=>(xs 6) = .pointer (some ⟨g,2,none⟩),λxs W=>(xs 7) = .int .i64 (t:Nat),λxs W=>(xs 8) = .int .i64 (n:Nat),λxs W=>(xs 9) = .int .i64 (d:Nat),λxs W=>(xs 10) = .int .i64 (n:Nat),λxs W=>(xs 11) = .int .u64 (V:Nat),λxs W=>(xs 12) = .int .i64 (n:Nat),λxs W=>(xs 13) = .int .i64 (n:Nat),λxs W=>(xs 14) = .int .i64 0,λxs W=>(xs 15) = .int .u64 (V:Nat),λxs W=>(xs 16) = .int .u64 (V:Nat)];have yf0:=yA 0;have yf1:=yA 1;have yf2:=yA 2;have yf3:=yA 3;have yf4:=yA 4;have yf5:=yA 5;have yf6:=yA 6;have yf7:=yA 7;have yf8:=yA 8;have yf9:=yA 9;have yf10:=yA 10;have yf11:=yA 11;have yf12:=yA 12;have yf13:=yA 13;have yf14:=yA 14;have yf15:=yA 15;have yf16:=yA 16;simp only [List.getD_cons_zero,List.getD_cons_succ]at yf0 yf1 yf2 yf3 yf4 yf5 yf6 yf7 yf8 yf9 yf10 yf11 yf12 yf13 yf14 yf15 yf16;(have yN:∀j xs W,17<=j->Y j xs W=True:=λj xs W hj=>by rw [yA,Y6 _ _ _ hj])
 have yP:∀j xs W W',j∈[0,1,2,3,4,5,6,7,8,9,10,11,12,13,14,15,16]->Y j xs W->Y j xs W':=by
   intro j xs W W' hj hy;simp only [List.mem_cons,List.not_mem_nil,or_false]at hj;(rcases hj with rfl|rfl|rfl|rfl|rfl|rfl|rfl|rfl|rfl|rfl|rfl|rfl|rfl|rfl|rfl|rfl|rfl<;>(rw [yA]at hy|-;exact hy))
 have yM:Jt [[0],[1],[2],[3],[4],[5],[6],[7],[8],[9],[10],[11],[12],[13],[14],[15],[16]] Y:=by
   intro j xs xs' W hh hy;by_cases hj:17<=j
   . rw [yN j _ _ hj];trivial
   (have hj':j=0\/j=1\/j=2\/j=3\/j=4\/j=5\/j=6\/j=7\/j=8\/j=9\/j=10\/j=11\/j=12\/j=13\/j=14\/j=15\/j=16:=by omega);rcases hj' with rfl|rfl|rfl|rfl|rfl|rfl|rfl|rfl|rfl|rfl|rfl|rfl|rfl|rfl|rfl|rfl|rfl;(all_goals(rw [yA]at hy|-;(try simp only [List.getD_cons_zero,List.getD_cons_succ]at hy|-);repeat rw [<-hh]));(all_goals first|exact hy|decide)
 clear yA
 have yR:∀j xs,17<=j->Y j xs (w1.drew):=by
   intro j xs hj;rcases(show 17<=j by omega)with hj;rw [yN _ _ _ hj];trivial
 refine Ya Cw (λj=>[]) Y [(0,some 17),(1,some 18),(2,some 19),(3,some 20),(4,some 21),(5,some 22),(6,some 23),(7,some 24),(8,some 25),(9,some 26),(10,some 27),(11,some 28),(12,some 29),(13,some 30),(14,some 31),(15,some 32),(16,some 4)] (by kernel_rfl) (by kernel_rfl) (by kernel_rfl) (by rw [cEq];exact(Upd.refl _ _).drew) (λj hj=>yR j _ hj) ?_ ?_
 . refine Q9.p cEq yM [] (by kernel_rfl) (by kernel_rfl) (λxs W hw hd K hK'=>?_) ?_
   . simp only [Q5,Act.put,sb_,sz_,ss_]at hK'|-
     go_simp;exact hK' _ (by rw [yf0];exact if_pos rfl)
   refine Q9.p cEq yM [(0,some 17)] (by kernel_rfl) (by kernel_rfl) (λxs W hw hd K hK'=>?_) ?_
   . simp only [Qd]at hd
     obtain⟨hf0,_⟩:=hd;simp only [Q5,Act.put,sb_,sz_,ss_]at hK'|-;rw [yf0]at hf0;simp only [hf0]at hK'|-;go_simp;exact hK' _ (by rw [yf1];exact if_pos rfl)
   refine Q9.p cEq yM [(1,some 18)] (by kernel_rfl) (by kernel_rfl) (λxs W hw hd K hK'=>?_) ?_
   . simp only [Qd]at hd
     obtain⟨hf1,_⟩:=hd;simp only [Q5,Act.put,sb_,sz_,ss_]at hK'|-;rw [yf1]at hf1;simp only [hf1]at hK'|-;go_simp;exact hK' _ (by rw [yf2];exact if_pos rfl)
   refine Q9.p cEq yM [] (by kernel_rfl) (by kernel_rfl) (λxs W hw hd K hK'=>?_) ?_
   . simp only [Q5,Act.put,sb_,sz_,ss_]at hK'|-
     go_simp;exact hK' _ (by rw [yf3];exact if_pos rfl)
   refine Q9.p cEq yM [(3,some 20)] (by kernel_rfl) (by kernel_rfl) (λxs W hw hd K hK'=>?_) ?_
   . simp only [Qd]at hd
     obtain⟨hf3,_⟩:=hd;simp only [Q5,Act.put,sb_,sz_,ss_]at hK'|-;rw [yf3]at hf3;simp only [hf3]at hK'|-;go_simp;exact hK' _ (by rw [yf4];exact if_pos rfl)
   refine Q9.p cEq yM [(4,some 21)] (by kernel_rfl) (by kernel_rfl) (λxs W hw hd K hK'=>?_) ?_
   . simp only [Qd]at hd
     obtain⟨hf4,_⟩:=hd;simp only [Q5,Act.put,sb_,sz_,ss_]at hK'|-;rw [yf4]at hf4;simp only [hf4]at hK'|-;go_simp;exact hK' _ (by rw [yf5];exact if_pos rfl)
   refine Q9.p cEq yM [(5,some 22)] (by kernel_rfl) (by kernel_rfl) (λxs W hw hd K hK'=>?_) ?_
   . simp only [Qd]at hd
     obtain⟨hf5,_⟩:=hd;simp only [Q5,Act.put,sb_,sz_,ss_]at hK'|-;rw [yf5]at hf5;simp only [hf5]at hK'|-;go_simp;exact hK' _ (by rw [yf6];exact if_pos rfl)
   refine Q9.p cEq yM [(6,some 23)] (by kernel_rfl) (by kernel_rfl) (λxs W hw hd K hK'=>?_) ?_
   . simp only [Qd]at hd
     obtain⟨hf6,_⟩:=hd;simp only [Q5,Act.put,sb_,sz_,ss_]at hK'|-;rw [yf6]at hf6;simp only [hf6]at hK'|-;have cl:=HC2 W hw;go_simp;exact hK' _ (by rw [yf7];exact if_pos rfl)
   refine Q9.p cEq yM [] (by kernel_rfl) (by kernel_rfl) (λxs W hw hd K hK'=>?_) ?_
   . simp only [Q5,Act.put,sb_,sz_,ss_]at hK'|-
     go_simp;exact hK' _ (by rw [yf8];exact if_pos rfl)
   refine Q9.p cEq yM [(7,some 24),(8,some 25)] (by kernel_rfl) (by kernel_rfl) (λxs W hw hd K hK'=>?_) ?_
   . simp only [Qd]at hd
     obtain⟨hf7,hf8,_⟩:=hd;simp only [Q5,Act.put,sb_,sz_,ss_]at hK'|-;rw [yf7]at hf7;rw [yf8]at hf8;simp only [hf7,hf8]at hK'|-;go_simp;exact hK' _ (by rw [yf9];exact if_pos rfl)
   refine Q9.p cEq yM [] (by kernel_rfl) (by kernel_rfl) (λxs W hw hd K hK'=>?_) ?_
   . simp only [Q5,Act.put,sb_,sz_,ss_]at hK'|-
     go_simp;exact hK' _ (by rw [yf10];exact if_pos rfl)
   refine Q9.c cEq [(2,some 19),(9,some 26),(10,some 27)] (by kernel_rfl) (λxs W hw hd K hK'=>?_) ?_
   . simp only [Qd]at hd
     obtain⟨hf2,hf9,hf10,_⟩:=hd;simp only [Q5,Act.put,sb_,sz_,ss_]at hK'|-;rw [yf2]at hf2;rw [yf9]at hf9;rw [yf10]at hf10;simp only [hf2,hf9,hf10]at hK'|-;go_simp;refine(HV W hw).mono ?_;rintro e9 w9 ⟨rfl,f9⟩;have hR:=trivial;refine hK' (_) (w9) (hw.trans' f9) (QW yM 11 (by kernel_rfl) _ λj hs hy=>?_) (by rw [yf11];(try simp only [↓reduceIte]);try exact rfl);by_cases hp:j∈[0,1,2,3,4,5,6,7,8,9,10,11,12,13,14,15,16]
     . exact yP j _ _ _ hp hy
     by_cases hj:17<=j
     . rw [yN j _ _ hj];trivial
     simp only [List.mem_cons,List.not_mem_nil,or_false]at hp;exfalso;omega
   refine Q9.p cEq yM [] (by kernel_rfl) (by kernel_rfl) (λxs W hw hd K hK'=>?_) ?_
   . simp only [Q5,Act.put,sb_,sz_,ss_]at hK'|-
     go_simp;exact hK' _ (by rw [yf12];exact if_pos rfl)
   refine Q9.p cEq yM [] (by kernel_rfl) (by kernel_rfl) (λxs W hw hd K hK'=>?_) ?_
   . simp only [Q5,Act.put,sb_,sz_,ss_]at hK'|-
     go_simp;exact hK' _ (by rw [yf13];exact if_pos rfl)
   refine Q9.p cEq yM [(12,some 29),(13,some 30)] (by kernel_rfl) (by kernel_rfl) (λxs W hw hd K hK'=>?_) ?_
   . simp only [Qd]at hd
     obtain⟨hf12,hf13,_⟩:=hd;simp only [Q5,Act.put,sb_,sz_,ss_]at hK'|-;rw [yf12]at hf12;rw [yf13]at hf13;simp only [hf12,hf13]at hK'|-;go_simp;exact hK' _ (by rw [yf14];exact if_pos rfl)
   refine Q9.p cEq yM [(11,some 28),(14,some 31)] (by kernel_rfl) (by kernel_rfl) (λxs W hw hd K hK'=>?_) ?_
   . simp only [Qd]at hd
     obtain⟨hf11,hf14,_⟩:=hd;simp only [Q5,Act.put,sb_,sz_,ss_]at hK'|-;rw [yf11]at hf11;rw [yf14]at hf14;simp only [hf11,hf14]at hK'|-;go_simp;exact hK' _ (by rw [yf15];exact if_pos rfl)
   refine Q9.p cEq yM [(15,some 32)] (by kernel_rfl) (by kernel_rfl) (λxs W hw hd K hK'=>?_) ?_
   . simp only [Qd]at hd
     obtain⟨hf15,_⟩:=hd;simp only [Q5,Act.put,sb_,sz_,ss_]at hK'|-;rw [yf15]at hf15;simp only [hf15]at hK'|-;go_simp;exact hK' _ (by rw [yf16];exact if_pos rfl)
   exact Q9.nil
 intro xs W hw hd;rw [cEq]at hw;simp only [YD]at hd;obtain⟨fe0,fe1,fe2,fe3,fe4,fe5,fe6,fe7,fe8,fe9,fe10,fe11,fe12,fe13,fe14,fe15,fe16,_⟩:=hd;have fe0:=fe0 (by first|kernel_rfl|trivial);rw [yf0]at fe0;have fe1:=fe1 (by first|kernel_rfl|trivial);rw [yf1]at fe1;have fe2:=fe2 (by first|kernel_rfl|trivial);rw [yf2]at fe2;have fe3:=fe3 (by first|kernel_rfl|trivial);rw [yf3]at fe3;have fe4:=fe4 (by first|kernel_rfl|trivial);rw [yf4]at fe4;have fe5:=fe5 (by first|kernel_rfl|trivial);rw [yf5]at fe5;have fe6:=fe6 (by first|kernel_rfl|trivial);rw [yf6]at fe6;have fe7:=fe7 (by first|kernel_rfl|trivial);rw [yf7]at fe7;have fe8:=fe8 (by first|kernel_rfl|trivial);rw [yf8]at fe8;have fe9:=fe9 (by first|kernel_rfl|trivial);rw [yf9]at fe9;have fe10:=fe10 (by first|kernel_rfl|trivial);rw [yf10]at fe10;have fe11:=fe11 (by first|kernel_rfl|trivial);rw [yf11]at fe11;have fe12:=fe12 (by first|kernel_rfl|trivial);rw [yf12]at fe12;have fe13:=fe13 (by first|kernel_rfl|trivial);rw [yf13]at fe13;have fe14:=fe14 (by first|kernel_rfl|trivial);rw [yf14]at fe14;have fe15:=fe15 (by first|kernel_rfl|trivial);rw [yf15]at fe15;have fe16:=fe16 (by first|kernel_rfl|trivial);rw [yf16]at fe16;simp only [Q5,Act.put,sb_,sz_,ss_];generalize xs 0=xv0 at *;generalize xs 1=xv1 at *;generalize xs 2=xv2 at *;generalize xs 3=xv3 at *;generalize xs 4=xv4 at *;generalize xs 5=xv5 at *;generalize xs 6=xv6 at *;generalize xs 7=xv7 at *;generalize xs 8=xv8 at *;generalize xs 9=xv9 at *;generalize xs 10=xv10 at *;generalize xs 11=xv11 at *;generalize xs 12=xv12 at *;generalize xs 13=xv13 at *;generalize xs 14=xv14 at *;generalize xs 15=xv15 at *;generalize xs 16=xv16 at *;subst fe0;subst fe1;subst fe2;subst fe3;subst fe4;subst fe5;subst fe6;subst fe7;subst fe8;subst fe9;subst fe10;subst fe11;subst fe12;subst fe13;subst fe14;subst fe15;subst fe16;clear yf0 yf1 yf2 yf3 yf4 yf5 yf6 yf7 yf8 yf9 yf10 yf11 yf12 yf13 yf14 yf15 yf16 yN yR yM yP cEq;go_wp2_with fail;(try go_ret);exact hR _ _ ⟨rfl,F1.trans' hw⟩
def cd2 (x:Nat × Nat):List Value:=[.int .i64 (x.1:Nat),.int .u32 (x.2:Nat)]
def Y5 (L:List (Nat × Nat)):List Value:=(L.map cd2).flatten
theorem Q2a (L:List (Nat × Nat)):∀r∈L.map cd2,r.length=2:=by
 intro r hr;obtain⟨x,_,rfl⟩:=List.mem_map.1 hr;rfl
theorem Vo (L:List (Nat × Nat)):(Y5 L).length=2*L.length:=by
 unfold Y5;rw [Kt (Q2a L),List.length_map];omega
theorem Vp (A B:List (Nat × Nat)):Y5 (A++B)=Y5 A++Y5 B:=by simp [Y5]
theorem XE (x:Nat × Nat) (B:List (Nat × Nat)):Y5 (x::B) = .int .i64 (x.1:Nat) :: .int .u32 (x.2:Nat)::Y5 B:=rfl
theorem Q1L {A B:List (Nat × Nat)} {x:Nat × Nat} {k:Nat} (h:A.length=k):(Y5 (A++x::B))[k*2]?=some (.int .i64 (x.1:Nat))/\(Y5 (A++x::B))[k*2+1]?=some (.int .u32 (x.2:Nat)):=by
 have hl:=Vo A;rw [Vp,XE];refine⟨?_,?_⟩
 . rw [List.getElem?_append_right (by omega),show k*2-(Y5 A).length=0 by omega];rfl
 rw [List.getElem?_append_right (by omega),show k*2+1-(Y5 A).length=1 by omega];rfl
theorem Q2W {A B:List (Nat × Nat)} {x:Nat × Nat} (y:Nat × Nat) {k:Nat} (h:A.length=k) :
   ((Y5 (A++x::B)).toArray.setIfInBounds (k*2) (.int .i64 (y.1:Nat))).setIfInBounds (k*2+1) (.int .u32 (y.2:Nat))=(Y5 (A++y::B)).toArray:=by
 have hl:=Vo A;apply Array.toList_inj.1;simp only [Array.toList_setIfInBounds];rw [Vp,Vp,XE,XE];rw [List.set_append_right _ _ (by omega),show k*2-(Y5 A).length=0 by omega,sz_];rw [List.set_append_right _ _ (by omega),show k*2+1-(Y5 A).length=1 by omega];rfl
theorem Blk.rdk2 {w:World} {g:Nat} {t:TypeId} {L:List (Nat × Nat)} {n:Nat} (h:Blk w g t (Y5 L).toArray) (hn:L.length=n):RdK w (λb=>b=g) 2 (some ⟨g,0,none⟩) n (L.map cd2) :=
 ⟨by simpa using hn,λ_=>⟨g,0,rfl,rfl,h.lt,λj r hj hr=>by
   rw [Nat.zero_add,h.cell]
   have:=Vn (rows:=L.map cd2) j r (Q2a L) hr hj
   simpa [Y5]using this⟩⟩
theorem Qb1 (n:Nat):(madeCells #[Value.int .i64 0,.int .u32 0] (n*2))=(Y5 (List.replicate n (0,0))).toArray:=by
 apply Array.toList_inj.1;apply List.ext_getElem?;intro i
 have hr:(Y5 (List.replicate n (0,0)))[i / 2*2+i%2]?=if i<n*2 then(cd2 (0,0))[i%2]? else none:=by
   by_cases h:i<n*2
   . rw [if_pos h]
     have:=Vn (rows:=(List.replicate n ((0,0):Nat × Nat)).map cd2) (i / 2) (i%2) (Q2a _) (Nat.mod_lt _ (by decide)) (by simp;omega);unfold Y5;rw [this];simp
   rw [if_neg h,List.getElem?_eq_none];rw [Vo,List.length_replicate];omega
 rw [show i / 2*2+i%2=i by omega]at hr;show(madeCells _ _).toList[i]?=(Y5 (List.replicate n (0,0)))[i]?;rw [hr];by_cases h:i<n*2
 . rw [if_pos h]
   rcases(show i%2=0\/i%2=1 by omega)with h2|h2
   . simp [madeCells,h,h2,cd2]
   simp [madeCells,h,h2,cd2]
 rw [if_neg h,List.getElem?_eq_none];simp [madeCells];omega
def en2 (x:Nat × Nat):List Value:=[.int .i64 (x.1:Nat),.int .i64 (x.2:Nat)]
def Qy (L:List (Nat × Nat)):List Value:=(L.map en2).flatten
theorem Q2b (L:List (Nat × Nat)):∀r∈L.map en2,r.length=2:=by
 intro r hr;obtain⟨x,_,rfl⟩:=List.mem_map.1 hr;rfl
theorem YI (L:List (Nat × Nat)):(Qy L).length=2*L.length:=by
 unfold Qy;rw [Kt (Q2b L),List.length_map];omega
theorem JE (A B:List (Nat × Nat)):Qy (A++B)=Qy A++Qy B:=by simp [Qy]
theorem Qb2 (n:Nat):(madeCells #[Value.int .i64 0,.int .i64 0] (n*2))=(Qy (List.replicate n (0,0))).toArray:=by
 apply Array.toList_inj.1;apply List.ext_getElem?;intro i
 have hr:(Qy (List.replicate n (0,0)))[i / 2*2+i%2]?=if i<n*2 then(en2 (0,0))[i%2]? else none:=by
   by_cases h:i<n*2
   . rw [if_pos h]
     have:=Vn (rows:=(List.replicate n ((0,0):Nat × Nat)).map en2) (i / 2) (i%2) (Q2b _) (Nat.mod_lt _ (by decide)) (by simp;omega);unfold Qy;rw [this];simp
   rw [if_neg h,List.getElem?_eq_none];rw [YI,List.length_replicate];omega
 rw [show i / 2*2+i%2=i by omega]at hr;show(madeCells _ _).toList[i]?=(Qy (List.replicate n (0,0)))[i]?;rw [hr];by_cases h:i<n*2
 . rw [if_pos h]
   rcases(show i%2=0\/i%2=1 by omega)with h2|h2
   . simp [madeCells,h,h2,en2]
   simp [madeCells,h,h2,en2]
 rw [if_neg h,List.getElem?_eq_none];simp [madeCells];omega
def Yq (x:Nat × Nat) (k n:Nat):List Value:=Qy (List.replicate k x++List.replicate (n-k) (0,0))
theorem Q4i (x:Nat × Nat) {k n:Nat} (h:k<=n):(Yq x k n).length=2*n:=by
 unfold Yq;rw [YI];simp;omega
theorem Q2X (x:Nat × Nat) {k m n:Nat} (h:k+m<=n):(Yq x k n).take (k*2)++(Qy (List.replicate m x)++(Yq x k n).drop (k*2+(Qy (List.replicate m x)).length))=Yq x (k+m) n:=by
 (have h1:(Qy (List.replicate k x)).length=k*2:=by rw [YI];simp;omega);(have h2:(Qy (List.replicate m x)).length=m*2:=by rw [YI];simp;omega);(have h3:(Qy (List.replicate m ((0,0):Nat × Nat))).length=m*2:=by rw [YI];simp;omega)
 have e1:Yq x k n=Qy (List.replicate k x)++(Qy (List.replicate m (0,0))++Qy (List.replicate (n-(k+m)) (0,0))):=by
   unfold Yq;rw [JE,show n-k=m+(n-(k+m)) by omega,<-List.replicate_append_replicate,JE]
 have e2:Yq x (k+m) n=Qy (List.replicate k x)++(Qy (List.replicate m x)++Qy (List.replicate (n-(k+m)) (0,0))):=by
   unfold Yq;rw [JE,<-List.replicate_append_replicate,JE,List.append_assoc]
 rw [e1,e2,<-h1,List.take_left,h2,<-h3,<-List.drop_drop,List.drop_left,List.drop_left]
theorem Q9V (x:Nat × Nat) {k n i:Nat} {v:Value} {m:Nat} (hm:m<=k) (h:(Qy (List.replicate m x))[i]?=some v):(Yq x k n)[i]?=some v:=by
 unfold Yq;(have e:List.replicate k x=List.replicate m x++List.replicate (k-m) x:=by rw [List.replicate_append_replicate];congr 1;omega);rw [JE,e,JE,List.append_assoc,List.getElem?_append_left (List.getElem?_eq_some_iff.1 h).1];exact h
theorem Q2c (m:Nat) (x:Nat × Nat):∀v∈Qy (List.replicate m x),v.oneCell'=true:=by
 intro v hv;unfold Qy at hv;simp only [List.mem_flatten,List.mem_map]at hv;obtain⟨r,⟨y,_,rfl⟩,hv⟩:=hv;simp [en2]at hv;(rcases hv with rfl|rfl<;>rfl)
theorem XV:(prog.info? 379).map (λi=>(i.zero,i.size,i.bytes))=some (some (.agg #[.int .i64 0,.int .i64 0]),2,16):=by kernel_rfl
theorem Q6I (n:Nat) (hn:n<=2048) (W:World):(Instr.makeSlice 371 (.int .i64 (n:Int)) (.int .i64 (n:Int))).run prog W = .ok (.slice (some ⟨W.heap.size,0,none⟩) n n) (W.alloc (.cells (Qy (List.replicate n (0,0))).toArray 379)):=by
 obtain⟨i,hi,hz,hs,hb⟩:=info_parts XV;have h:=run_make (P:=prog) W 371 379 i _ underlying371 hi hz .i64 .i64 n n (by omega) (by omega) (by rw [hb];omega) (by omega);rw [Int.toNat_natCast,hs,show madeCells (Value.agg #[.int .i64 0,.int .i64 0]).cells (n*2)=(Qy (List.replicate n (0,0))).toArray from Qb2 n]at h;exact h
theorem Q1M (l:List Int) (n:Nat):QD (l.filter λx=>decide (x<=((n+1:Nat):Int)))=QD (l.filter λx=>decide (x<=(n:Int)))+(l.count ((n+1:Nat):Int):Nat)*2^(11-(n+1)):=by
 induction l with
 | nil=>simp [QD]
 | cons x l ih =>
   rw [List.filter_cons,List.filter_cons,List.count_cons];by_cases h1:x<=(n:Int)
   . have h2:x<=((n+1:Nat):Int):=by omega
     (have h3:(x == ((n+1:Nat):Int))=false:=by simp;omega);simp only [h1,h2,h3,decide_true,if_true,QD,ih,Bool.false_eq_true,if_false,Nat.add_zero];exact(Int.add_assoc _ _ _).symm
   by_cases h2:x=((n+1:Nat):Int)
   . subst h2
     have h4:Zb ((n+1:Nat):Int)=2^(11-(n+1)):=by
       unfold Zb;rw [if_pos (by omega)];simp
     simp only [h1,decide_false,Bool.false_eq_true,if_false,Int.le_refl,decide_true,if_true,QD,ih,beq_self_eq_true,h4]
     have e:(((l.count ((n+1:Nat):Int)+1:Nat):Int))*2^(11-(n+1))=(l.count ((n+1:Nat):Int):Nat)*2^(11-(n+1))+2^(11-(n+1)):=by
       rw [Int.natCast_add,Int.add_mul];simp
     rw [e];generalize (2:Int)^(11-(n+1))=q;generalize ((l.count ((n+1:Nat):Int):Nat):Int)*q=r;omega
   (have h3:(x == ((n+1:Nat):Int))=false:=by simpa using h2);(have h5:¬x<=((n+1:Nat):Int):=by omega);simp only [h1,h5,h3,decide_false,Bool.false_eq_true,if_false,ih];simp
theorem Q1N (l:List Int):QD (l.filter λx=>decide (x<=((0:Nat):Int)))=0:=by
 induction l with
 | nil=>simp [QD]
 | cons x l ih =>
   rw [List.filter_cons];split
   . next h=>simp at h;simp only [QD,ih,Zb];rw [if_neg (by omega)];rfl
   exact ih
theorem VT (l:List Int):∀n,n<=11->(((Qs l n+Qx l n)*2^(11-n):Nat):Int)=QD (l.filter λx=>decide (x<=(n:Int)))
 | 0,_=>by rw [Q1N];simp [Qs,Qx]
 | n+1,h=>by
   have ih:=VT l n (by omega)
   rw [Q1M,<-ih,Qs]
   have e:2^(11-n)=2*2^(11-(n+1)):=by rw [show 11-n=(11-(n+1))+1 by omega,Nat.pow_succ];omega
   have hm:Qx l (n+1)=l.count ((n+1:Nat):Int):=by unfold Qx;rw [if_neg (by omega)]
   rw [e,hm]
   have p:(2:Int)^(11-(n+1))=((2^(11-(n+1)):Nat):Int):=by simp
   rw [p]
   generalize 2^(11-(n+1))=q
   generalize Qs l n+Qx l n=a
   generalize l.count ((n+1:Nat):Int)=b
   rw [<-Int.natCast_mul,<-Int.natCast_add]
   congr 1
   rw [Nat.add_mul,Nat.mul_assoc]
theorem Q4j (l:List Int) (p:Int->Bool):QD (l.filter p)<=QD l:=by
 induction l with
 | nil=>simp
 | cons x l ih =>
   have:=Q4f x;rw [List.filter_cons];split
   . simp only [QD];omega
   simp only [QD];omega
theorem Kc {l:List Int} (ht:Qc l) (s:Nat):(Q6 l s).1<=11/\(Q6 l s).2<2^(Q6 l s).1:=by
 unfold Q6;split
 . next h =>
   have hs:s<l.length:=by
     apply Classical.byContradiction;intro hn;rw [List.getElem?_eq_none (by omega)]at h;simp at h
   rw [List.getElem?_eq_getElem hs]at h|-;simp only [Option.getD_some]at h|-;have hm:=ht.1 _ (List.getElem_mem hs);obtain⟨n,hn⟩:∃n:Nat,l[s]=(n:Int):=⟨l[s].toNat,by omega⟩;rw [hn]at h hm|-;simp only [Int.toNat_natCast];have h1:=VT l n (by omega);have h2:=Q4j l λx=>decide (x<=(n:Int));rw [ht.2.2.2]at h2
   have h3:(l.take s).count (n:Int)+1<=Qx l n:=by
     unfold Qx;rw [if_neg (by omega)];have e:l=l.take s++l.drop s:=(List.take_append_drop s l).symm;(have e2:l.drop s=(n:Int)::l.drop (s+1):=by rw [List.drop_eq_getElem_cons hs,hn])
     have e3:l.count (n:Int)=(l.take s).count (n:Int)+(l.drop s).count (n:Int):=by
       conv=>lhs;rw [e,List.count_append]
     rw [e3,e2,List.count_cons];simp
   refine⟨by omega,?_⟩;(have h4:(Qs l n+Qx l n)*2^(11-n)<=2048:=by omega);(have h5:2^n*2^(11-n)=2048:=by rw [<-Nat.pow_add,show n+(11-n)=11 by omega])
   have h6:Qs l n+Qx l n<=2^n:=by
     have hp:0<2^(11-n):=Nat.two_pow_pos _;rw [<-h5]at h4;exact Nat.le_of_mul_le_mul_right h4 hp
   omega
 exact⟨by simp,by simp⟩
def Qq (l:List Int):List Nat:=(List.range 11).flatMap λi=>(List.range l.length).filter λs=>decide ((Q6 l s).1=i+1)
def Z3 (l:List Int):List (Nat × Nat):=(Qq l).flatMap λs=>List.replicate (2^(Qe l-(Q6 l s).1)) (s,(Q6 l s).1)
theorem Q2d:∀(l:List Int) (a:Int),a<=l.foldl max a/\∀x∈l,x<=l.foldl max a
 | [],a=>by simp
 | y::l,a=>by
   have h:=Q2d l (max a y)
   simp only [List.foldl_cons,List.mem_cons]
   refine⟨by have:=h.1;omega,?_⟩
   rintro x (rfl|hx)
   . have:=h.1;omega
   exact h.2 x hx
theorem Q5n:∀(l:List Int) (a b:Int),a<=b->(∀x∈l,x<=b)->l.foldl max a<=b
 | [],a,b,h,_=>by simpa using h
 | y::l,a,b,h,k=>by
   simp only [List.foldl_cons]
   refine Q5n l (max a y) b ?_ λx hx=>k x (by simp [hx])
   have:=k y (by simp)
   omega
theorem JK {l:List Int} (ht:Qc l):Qe l<=11:=by
 have:=Q5n l 0 11 (by decide) λx hx=>(ht.1 x hx).2;unfold Qe;omega
theorem Zc {l:List Int} (_ht:Qc l) (s:Nat):(Q6 l s).1=((l[s]?).getD 0).toNat:=by
 unfold Q6;split
 . rfl
 next h=>simp only;omega
theorem Q9W (l:List Int) (s:Nat):((l[s]?).getD 0).toNat<=Qe l:=by
 unfold Qe;have h:=Q2d l 0;by_cases hs:s<l.length
 . rw [List.getElem?_eq_getElem hs]
   have:=h.2 _ (List.getElem_mem hs);simp only [Option.getD_some];omega
 rw [List.getElem?_eq_none (by omega)];simp
theorem Zr {l:List Int} (ht:Qc l) (s:Nat):(Q6 l s).1<=Qe l:=by rw [Zc ht];exact Q9W l s
theorem Q0N (l:List Int) (p:Int->Bool):((List.range l.length).filter λs=>p ((l[s]?).getD 0)).length=l.countP p:=by
 have e:(List.range l.length).map (λs=>(l[s]?).getD 0)=l:=by
   apply List.ext_getElem
   . simp
   intro i h1 h2;simp at h1;simp [h1]
 conv=>rhs;rw [<-e]
 rw [List.countP_map,List.countP_eq_length_filter];rfl
theorem Q6J {l:List Int} (ht:Qc l) (i:Nat):((List.range l.length).filter λs=>decide ((Q6 l s).1=i+1)).length=l.count ((i+1:Nat):Int):=by
 have e:(λs=>decide ((Q6 l s).1=i+1))=λs=>(λx:Int=>x == ((i+1:Nat):Int)) ((l[s]?).getD 0):=by
   funext s
   rw [Zc ht,Bool.eq_iff_iff];simp only [decide_eq_true_eq,beq_iff_eq];omega
 rw [e];exact Q0N l λx=>x == ((i+1:Nat):Int)
theorem Q1b {l:List Int} (ht:Qc l):∀k,k<=11->2^(11-Qe l)*(((List.range k).flatMap λi=>(List.range l.length).filter λs=>decide ((Q6 l s).1=i+1)).flatMap λs=>List.replicate (2^(Qe l-(Q6 l s).1)) (s,(Q6 l s).1)).length=(QD (l.filter λx=>decide (x<=(k:Int)))).toNat
 | 0,_=>by rw [Q1N];simp
 | k+1,h=>by
   have ih:=Q1b ht k (by omega)
   rw [Q1M,List.range_succ,List.flatMap_append,List.flatMap_append,List.length_append,Nat.mul_add,ih]
   have h0:0<=QD (l.filter λx=>decide (x<=(k:Int))):=(VI _).1
   have e:(2:Int)^(11-(k+1))=((2^(11-(k+1)):Nat):Int):=by simp
   rw [e,<-Int.natCast_mul]
   have h2:2^(11-Qe l)*(([k].flatMap λi=>(List.range l.length).filter λs=>decide ((Q6 l s).1=i+1)).flatMap λs=>List.replicate (2^(Qe l-(Q6 l s).1)) (s,(Q6 l s).1)).length=l.count ((k+1:Nat):Int)*2^(11-(k+1)):=by
     rw [<-Q6J ht k];simp only [List.flatMap_cons,List.flatMap_nil,List.append_nil]
     have key:∀q:List Nat,(∀s∈q,(Q6 l s).1=k+1)->2^(11-Qe l)*(q.flatMap λs=>List.replicate (2^(Qe l-(Q6 l s).1)) (s,(Q6 l s).1)).length=q.length*2^(11-(k+1)):=by
       intro q
       induction q with
       | nil=>intro _;simp
       | cons s q ihq =>
         intro hq;have hs:=hq s (by simp);have hle:=Zr ht s;have hm:=JK ht;rw [List.flatMap_cons,List.length_append,Nat.mul_add,ihq λs hs=>hq s (by simp [hs]),List.length_replicate,List.length_cons,Nat.add_mul,<-Nat.pow_add,hs];rw [show 11-Qe l+(Qe l-(k+1))=11-(k+1) by omega];omega
     (exact key _ λs hs=>by simpa using(List.mem_filter.1 hs).2)
   rw [h2];generalize l.count ((k+1:Nat):Int)*2^(11-(k+1))=q;omega
theorem JZ {l:List Int} (ht:Qc l):(Z3 l).length=2^Qe l:=by
 have h:=Q1b ht 11 (Nat.le_refl _);(have e:l.filter (λx=>decide (x<=((11:Nat):Int)))=l:=List.filter_eq_self.2 λx hx=>by simpa using(ht.1 x hx).2);rw [e,ht.2.2.2]at h;have hm:=JK ht;(have h5:2^(11-Qe l)*2^Qe l=2048:=by rw [<-Nat.pow_add,show 11-Qe l+Qe l=11 by omega]);(have h6:2^(11-Qe l)*(Z3 l).length=2^(11-Qe l)*2^Qe l:=by rw [h5];exact h);exact Nat.eq_of_mul_eq_mul_left (Nat.two_pow_pos _) h6
def Yf (l:List Int) (x n:Nat):Nat × Nat:=((Z3 l)[x*2^(Qe l-n) / 2^(n-Qe l)]?).getD (0,0)
def Jz (l:List Int) (v t:Nat):Option (Nat × Nat) :=
  if(Yf l (v / 2^(t-min t 11)%2^min t 11) (min t 11)).2<=min t 11 then some ((Yf l (v / 2^(t-min t 11)%2^min t 11) (min t 11)).1,t-(Yf l (v / 2^(t-min t 11)%2^min t 11) (min t 11)).2)else none
def QG (l:List Int) (v:Nat):Nat->Nat->Option (List Nat × Nat)
  | t,0=>some ([],t)
  | t,k+1=>match Jz l v t with
    | none=>none
    | some (s,t')=>match QG l v t' k with
      | none=>none
      | some (r,t'')=>some (s::r,t'')
theorem Q1W {l:List Int} (ht:Qc l) {x n:Nat} (hx:x<2^n):x*2^(Qe l-n) / 2^(n-Qe l)<(Z3 l).length:=by
 rw [JZ ht];rcases Nat.le_total n (Qe l)with h|h
 . rw [show n-Qe l=0 by omega,Nat.pow_zero,Nat.div_one]
   calc x*2^(Qe l-n)<2^n*2^(Qe l-n):=Nat.mul_lt_mul_of_pos_right hx (Nat.two_pow_pos _)
     _=2^Qe l:=by rw [<-Nat.pow_add,show n+(Qe l-n)=Qe l by omega]
 rw [show Qe l-n=0 by omega,Nat.pow_zero,Nat.mul_one];refine Nat.div_lt_of_lt_mul ?_;rw [<-Nat.pow_add,show n-Qe l+Qe l=n by omega];exact hx
theorem Q0s {l:List Int} {e:Nat × Nat} (h:e∈Z3 l):e.1<l.length/\e.2=(Q6 l e.1).1/\0<e.2:=by
 unfold Z3 Qq at h;simp only [List.mem_flatMap,List.mem_replicate,List.mem_filter,List.mem_range,decide_eq_true_eq]at h;obtain⟨s,⟨i,hi,hs,he⟩,hn,rfl⟩:=h;exact⟨hs,rfl,by show 0<(Q6 l s).1;omega⟩
theorem Xc {l:List Int} (ht:Qc l) {x n:Nat} (hx:x<2^n):Yf l x n∈Z3 l:=by
 unfold Yf;rw [List.getElem?_eq_getElem (Q1W ht hx)];exact List.getElem_mem _
theorem Q2t {l:List Int} (ht:Qc l):0<Qe l:=by
 have h:=Xc ht (x:=0) (n:=0) (by simp);have h1:=Q0s h;have h2:=Zr ht (Yf l 0 0).1;omega
theorem QaP {l:List Int} (ht:Qc l) {v t s t':Nat} (h:Jz l v t=some (s,t')):s<l.length/\t'<t:=by
 unfold Jz at h;split at h
 . next h1 =>
   injection h with h;injection h with ha hb;have hm:=Xc ht (x:=v / 2^(t-min t 11)%2^min t 11) (n:=min t 11) (Nat.mod_lt _ (Nat.two_pow_pos _));have h2:=Q0s hm;subst ha hb;exact⟨h2.1,by omega⟩
 cases h
end Go.Proofs.YtckjdhaflokcgaaGreat
namespace Go.Proofs.YtckjdhaflokcgaaGreat
open Go.RowKit Go.Sort Go.Proofs.Tryz
def Qbi (ops:Array Oper) (m e:Nat):Array Oper:=ops.modify m λo=>{ o with after:=o.after.push ⟨e,.data⟩ }
section
variable {F:Fence} {n:Nat} {P:Program} {ops:Array Oper} {Q:Exit->Act->World->Prop} {m e:Nat}
def QaR (ops:Array Oper) (e:Nat):Bool :=
  match ops[e]? with
  | none=>false
  | some oe=>(List.range ops.size).all λj=>j == e||Region.waitsFor .any ops e j||Region.waitsFor .any ops j e||(match ops[j]? with|some oj=>oe.apart ops oj|none=>true)
def Qbe (ops:Array Oper) (m e:Nat):Bool :=
  (match ops[e]? with|some oe=>(match oe.op with | .extract _ _=>true|_=>false)&&oe.after.all (λd=>!Region.binds .any d||Region.waitsFor .any ops m d.on)|none=>false) &&
  decide (m≠e)&&decide (m<ops.size)&&Region.noSelect ops&&QaR ops e
end
section
variable {F:Fence} {n:Nat} {P:Program}
end
end Go.Proofs.YtckjdhaflokcgaaGreat
