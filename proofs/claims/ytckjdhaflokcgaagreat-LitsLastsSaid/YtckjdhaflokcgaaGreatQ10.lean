/-
  Joined texts, part 10: contracts and plain lemmas.
  Conditions: none beyond those of each theorem.
-/
import Derived.Test.YtckjdhaflokcgaaGreatQ4
import Derived.Lib.AppendZerosOnto
set_option linter.unusedVariables false
set_option linter.unusedSimpArgs false
set_option linter.unnecessarySimpa false
set_option maxRecDepth 100000
universe u
namespace Go.Proofs.YtckjdhaflokcgaaGreat
open Go.RowKit
theorem Jo (z:Value) (k:Nat) (hz:z.cells=#[z]):Builtin.zeroCells z.cells k=(List.replicate k z).toArray:=by
 rw [hz];apply Array.ext
 . simp [Builtin.zeroCells]
 intro i h1 h2;simp [Builtin.zeroCells,Nat.mod_one]
theorem Vx {P:Program} (w:World) (t tn ty e:TypeId) (z:Value) (Qa:Nat) (kq kn:IntKind) (ht:P.underlying t=some (.slice e)) (htn:P.underlying tn=some (.int kn))
   (hi:(P.info? e).map (fun i=>(i.zero,i.size,i.bytes))=some (some z,1,Qa)) (hz1:z.cells=#[z]) (ho1:z.oneCell'=true)
   (v:Value) (xs:List Value) (hown:Own w e v xs) (k:Nat) (hb:Qa<=64) (hlen:xs.length+k<=2^40) :
   ∃v' w',(Builtin.append_ #[t,tn] ty #[v,.int kq k]).run P w = .ok v' w'/\Own w' e v' (xs++List.replicate k z)/\w.grownBy w' v.ownBlock /\
     (v'.ownBlock=v.ownBlock\/v'.ownBlock=some w.heap.size):=by
 obtain⟨i,hi0,hz,hsize,hby⟩:=info_parts hi;(have hw:IntKind.i64.wrap (k:Int)=k:=by rw [IntKind.wrap_i64];omega)
 have hkb:k*Qa<=281474976710656:=by
   calc k*Qa<=2^40*64:=Nat.mul_le_mul (by omega) hb
     _<=281474976710656:=by decide
 have hkb':¬(281474976710656<(k:Int)*(Qa:Int)):=by
   rw [<-Int.natCast_mul];omega
 have fit:∀cap,cap<xs.length+k->Builtin.nextslicecap (xs.length+k) cap*Qa<=281474976710656:=fun cap hc=>by
   calc Builtin.nextslicecap (xs.length+k) cap*Qa<=(2*2^40)*64:=Nat.mul_le_mul (Nat.le_trans (nextslicecap_le hc) (Nat.mul_le_mul_left 2 hlen)) hb
     _<=281474976710656:=by decide
 (have hzl:(xs++List.replicate k z).length=xs.length+k:=by simp);rcases Nat.eq_zero_or_pos k with h0|h0
 . subst h0
   (have hw0:IntKind.i64.wrap 0=0:=by rw [IntKind.wrap_i64];omega);refine⟨v,w,?_,by simpa using hown,World.grownBy.refl w _,.inl rfl⟩;rcases hown.2 with ⟨rfl,h00⟩|⟨g,cap,cur,rfl,_,_,hnc,_⟩
   . simp [Builtin.append_,run_underlying ht,run_underlying htn,sizeOf,typeInfo,hi0,asInt,asIntOf,hw0]
   simp [Builtin.append_,run_underlying ht,run_underlying htn,sizeOf,typeInfo,hi0,asInt,asIntOf,hw0,hnc,storeCells]
 have grown:∀(old:Nat),old<xs.length+k->∀row,
     Own (w.drew.alloc (.cells (xs.toArray++Builtin.zeroCells z.cells k++Builtin.zeroCells z.cells (grownCap w (xs.length+k) old e-(xs.length+k))) e)) e
       (.slice (some ⟨w.heap.size,0,none⟩) (xs.length+k) (grownCap w (xs.length+k) old e)) (xs++List.replicate k z) /\
     w.grownBy (w.drew.alloc (.cells (xs.toArray++Builtin.zeroCells z.cells k++Builtin.zeroCells z.cells (grownCap w (xs.length+k) old e-(xs.length+k))) e)) row:=by
   intro old ho row;have hge:=grownCap_ge w (xs.length+k) old e;have hcm:grownCap w (xs.length+k) old e<=maxLen:=grownCap_le_maxLen w (xs.length+k) old e (by simp only [maxLen];omega);refine⟨⟨by simp,.inr ⟨w.heap.size,_,_,by rw [hzl],Nat.zero_le _,heap_alloc_new w.drew _,by rw [hzl];exact hge,hcm,?_,?_⟩⟩,⟨rfl,rfl,rfl,by simp,fun j hj _=>Below.heap_alloc w.drew _ j hj⟩⟩
   . simp only [Jo z _ hz1,Array.size_append,List.size_toArray,List.length_replicate]
     omega
   simp only [Jo z _ hz1,Array.toList_append];rw [List.take_append_of_le_length (by simp)];apply List.take_of_length_le;simp
 rcases hown.2 with ⟨rfl,h00⟩|⟨g,cap,cur,rfl,hbg,hg,hnc,hcm,hcs,htake⟩
 . have hx:xs=[]:=List.eq_nil_of_length_eq_zero h00
   subst hx
   have hr:=Lib.run_append_grow_zeros (P:=P) w t tn ty e i z kq kn ht htn hi0 hz none 0 0 [] (by simp [Builtin.firstCells]) k h0 (by omega) (by omega) (by omega) (by rw [hby];exact hkb)
     (by rw [hby];simpa using fit 0 (by simpa using h0))
   have hgr:=grown 0 (by simpa using h0) (Value.ownBlock (.slice none 0 0));simp only [List.length_nil,Nat.zero_add]at hgr hr;exact⟨_,_,hr,hgr.1,hgr.2,.inr rfl⟩
 by_cases hroom:xs.length+k<=cap
 . have hst:=run_storeCells_at P g (xs.length*1) e (List.replicate k z) 0 cur w hg (by simp;omega) (by intro u hu;rw [(List.mem_replicate.1 hu).2];exact ho1)
   simp only [Nat.add_zero]at hst;(have hk0:k≠0:=by omega);(have hneg:¬((k:Int)<0):=by omega);(have hkb2:¬(281474976710656<(k:Int)*(i.bytes:Int)):=by rw [hby];exact hkb');refine⟨.slice (some ⟨g,0,none⟩) (xs.length+k) cap,w.setRow g (cur.toList.take (xs.length*1)++List.replicate k z++cur.toList.drop (xs.length*1+(List.replicate k z).length)).toArray,?_,?_,?_,.inl rfl⟩
   . simp only [Nat.mul_one]at hst
     simp [Builtin.append_,run_underlying ht,run_underlying htn,sizeOf,typeInfo,zeroValue,hi0,hz,asInt,asIntOf,hw,hneg,hkb2,hroom,Jo z _ hz1,Addr.add_lit,hsize,hst,hk0]
   . refine⟨by simp,.inr ⟨g,cap,_,by rw [hzl],Nat.zero_le _,setRow_heap w g cur _ e _ hg,by rw [hzl];exact hroom,hcm,?_,?_⟩⟩
     . simp;omega
     have ht1:cur.toList.take (xs.length*1)=xs:=htake;rw [ht1,hzl,Nat.mul_one];rw [<-hzl];exact List.take_left
   exact⟨rfl,rfl,rfl,by simp,fun j _ hj=>setRow_other w g j _ (fun e=>hj (by simp [Value.ownBlock,e]))⟩
 have hfc:(Builtin.firstCells i.size xs.length (.slice (some ⟨g,0,none⟩) xs.length cap)).run P w.drew = .ok xs.toArray w.drew:=by
   have:=run_firstCells_some (P:=P) w.drew i.size xs.length ⟨g,0,none⟩ xs.length cap xs (by rw [hsize];simp) (fun j u hu=>by
     rw [Addr.add_lit,Nat.zero_add,World.cell?_drew,cell_of_row w g j cur e (0,0) hg];have hj:=(List.getElem?_eq_some_iff.1 hu).1;have h2:=congrArg (fun l=>l[j]?) htake;simp only [List.getElem?_take,Nat.mul_one,if_pos hj]at h2
     rw [<-hu,<-h2];simp)
   exact this
 have hr:=Lib.run_append_grow_zeros (P:=P) w t tn ty e i z kq kn ht htn hi0 hz (some ⟨g,0,none⟩) xs.length cap xs hfc k h0 (by omega) (by omega) (by omega) (by rw [hby];exact hkb)
   (by rw [hby];exact fit cap (by omega))
 have hgr:=grown cap (by omega) (Value.ownBlock (.slice (some ⟨g,0,none⟩) xs.length cap));exact⟨_,_,hr,hgr.1,hgr.2,.inr rfl⟩
theorem K5 {P:Program} (w:World) {ops:Array Oper} {rest:List Oper} {o:Oper} {a:Act} {Q:Exit->Act->World->Prop} (hgd:o.guard=none) (s x:Operand) (t tn:TypeId)
   (ho:o.op = .call { callee:=.builtin .append,args:=#[s,x],argTypes:=#[t,tn] })
   (e:TypeId) (z:Value) (Qa:Nat) (kq kn:IntKind) (ht:P.underlying t=some (.slice e)) (htn:P.underlying tn=some (.int kn))
   (hi:(P.info? e).map (fun i=>(i.zero,i.size,i.bytes))=some (some z,1,Qa)) (hz1:z.cells=#[z]) (ho1:z.oneCell'=true)
   (v:Value) (xs:List Value) (hs:a.eval s=v) (hown:Own w e v xs) (k:Nat) (hx:a.eval x = .int kq k) (hb:Qa<=64) (hlen:xs.length+k<=2^40)
   (h:∀v' w',Own w' e v' (xs++List.replicate k z)->w.grownBy w' v.ownBlock->(v'.ownBlock=v.ownBlock\/v'.ownBlock=some w.heap.size)->wpList P ops Q rest (a.put o.dst v') w') :
   wpList P ops Q (o::rest) a w:=by
 obtain⟨v',w',hrun,h2,h3,h4⟩:=Vx (P:=P) w t tn o.type e z Qa kq kn ht htn hi hz1 ho1 v xs hown k hb hlen;exact Lib.wpList_append_run w hgd s x t tn ho v (.int kq k) hs hx v' w' hrun (h v' w' h2 h3 h4)
end Go.Proofs.YtckjdhaflokcgaaGreat
