/- Contracts and plain lemmas, part 9. Conditions: none beyond those of each. -/
import Derived.Test.YtckjdhaflokcgaaGreatR8
import Derived.Lib.SmallJoins
set_option maxHeartbeats 2000000
set_option linter.unusedVariables false
set_option linter.unusedSimpArgs false
set_option linter.unnecessarySimpa false
set_option maxRecDepth 100000
namespace Go.Proofs.YtckjdhaflokcgaaGreat
open Go.RowKit Go.Proofs.Tryz
theorem KW (F:Nat->Prop) (A:Option Addr) (n c:Nat) (l:List Int) (w:World) (hr:Rd w F A n (Q7 l)) (hn:n<=2^40) :
   Calls prog 35 #[.slice A n c] w λe w'=>e = .returned (.bool (decide (Qc l)))/\w=w':=by
 (have hL:l.length=n:=by have:=hr.1;simpa using this);(have hnI:(n:Int)<=1099511627776:=by(have:(2:Nat)^40=1099511627776:=by decide);omega);have HR:=hd_ hr;have HL:=hd_ hL;clear hr hn;refine Q8 λR hR=>?_;by_cases hbig:256<n
 . have hbI:256<(n:Int):=by omega
   rw [decide_eq_false (show ¬Qc l from λh=>by have:=h.2.1;omega)]at hR;clear hL hbig;go_enter func35,ntmps35;go_wp2_with fail;(try go_ret);exact hR _ _ ⟨rfl,rfl⟩
 (have hbI:¬256<(n:Int):=by omega);have HBG:=hd_ hbig;clear hL hbig;go_enter func35,ntmps35;go_wp2_with fail;go_loopg [3,4,5] n (λf vs vm vi wr=>wr=w/\∃k:Nat,k+f=n/\vi = .int .i64 k/\vs = .int .i64 (QD (l.take k))/\vm = .int .i64 (YH (l.take k):Nat)/\∀x∈l.take k,0<=x/\x<=11)
 case atStart=>exact⟨rfl,0,by omega,rfl,by simp [QD],by simp [YH],by simp⟩
 case round =>
   obtain⟨rfl,k,hk,rfl,rfl,rfl,hall⟩:=hrel;have HK:=hd_ hk;have HA:=hd_ hall;have hk1:=VI (l.take k);have hk2:=ZE (l.take k);have hk3:=List.length_take_le k l;(have hkI:(k:Int)<=1099511627776:=by omega);by_cases hlt:k<n
   . have hlI:(k:Int)<n:=by omega
     obtain⟨b,o,hkl,rfl,_,hc⟩:=HR.int (k:=k) hlt;have HKT:=hd_ (Q0L hkl);have HUT:=hd_ (Q1I hkl);have HNO:=hd_ (Q2Y hkl);have HTK:=hd_ (show l.take (k+1)=l.take k++[l[k]]from List.take_succ_eq_append_getElem hkl);obtain⟨z,hz⟩:=nm_ (l[k]);simp only [<-hz]at hc HKT HUT HNO HTK;obtain⟨S,hS⟩:=nm_ (QD (l.take k));obtain⟨M,hM⟩:=nm_ (YH (l.take k));simp only [<-hS,<-hM]at HKT HUT hk1 hk2|-;(have hSI:0<=S/\S<=2251799813685248:=by omega);(have hMI:(M:Int)<=1099511627776:=by omega);clear hz hS hM hk hall hk1 hk2 hk3;by_cases h0:z<0
     . have hd:decide (Qc l)=false:=decide_eq_false (HNO (by omega))
       rw [hd]at hR;clear hd;go_wp2_with fail;(try go_ret);exact hR _ _ ⟨rfl,rfl⟩
     by_cases h11:11<z
     . have hd:decide (Qc l)=false:=decide_eq_false (HNO (by omega))
       rw [hd]at hR;clear hd;go_wp2_with fail;(try go_ret);exact hR _ _ ⟨rfl,rfl⟩
     have HZ:=hd_ (And.intro h0 h11);by_cases hp:0<z
     . obtain⟨q,rfl⟩:∃q:Nat,z=q:=⟨z.toNat,by omega⟩
       (have hpk:Zb (q:Int)=((2^(11-q):Nat):Int):=by unfold Zb;rw [if_pos hp,Int.toNat_natCast];simp);(have hq11:q<=11:=by omega);have hP:2^(11-q)<=2048:=Nat.pow_le_pow_right (n:=2) (by decide) (show 11-q<=11 by omega);rw [hpk]at HKT;rw [if_pos hp]at HUT
       have hd:(2048:Int) / 2^q=((2^(11-q):Nat):Int):=by
         (have:(2048:Nat)=2^(11-q)*2^q:=by rw [<-Nat.pow_add,show 11-q+q=11 by omega])
         have h2:(2048:Nat) / 2^q=2^(11-q):=by
           rw [this];exact Nat.mul_div_cancel _ (Nat.two_pow_pos q)
         rw [<-h2];simp
       obtain⟨P,hPd⟩:=nm_ (2^(11-q));rw [<-hPd]at hd hP HKT;(have hPI:(P:Int)<=2048:=by omega);clear hpk hP hPd;go_wp2_with fail;go_roundg (gk-1)
       case measure=>have:=HK.out;omega
       case rel=>exact⟨rfl,k+1,by have:=HK.out;omega,by go_num,by rw [HKT.out],by rw [HUT.out];simp,by rw [HTK.out];intro x hx;rcases List.mem_append.1 hx with h|h;exact HA x h;rw [List.mem_singleton.1 h];omega⟩
     (have hz0:z=0:=by omega);subst hz0;rw [show Zb 0=0 from rfl,Int.add_zero]at HKT;rw [if_neg (by omega),Nat.add_zero]at HUT;clear h0 h11 hp;go_wp2_with fail;go_roundg (gk-1)
     case measure=>have:=HK.out;omega
     case rel=>exact⟨rfl,k+1,by have:=HK.out;omega,by go_num,by rw [HKT.out],by rw [HUT.out];simp,by rw [HTK.out];intro x hx;rcases List.mem_append.1 hx with h|h;exact HA x h;rw [List.mem_singleton.1 h];omega⟩
   (obtain rfl:k=n:=by omega);have htl:l.take k=l:=List.take_of_length_le (by have:=HL.out;omega);rw [htl]at hall|-
   have hdt:decide (Qc l)=(decide (1<YH l)&&decide (QD l=2048)):=by
     rw [Bool.eq_iff_iff];simp only [decide_eq_true_eq,Bool.and_eq_true];have:=HL.out;have:=HBG.out;unfold Qc;constructor
     . rintro⟨-,h2,h3,h4⟩;exact⟨h3,h4⟩
     rintro⟨h3,h4⟩;exact⟨hall,by omega,h3,h4⟩
   rw [hdt]at hR;obtain⟨S,hS⟩:=nm_ (QD l);obtain⟨M,hM⟩:=nm_ (YH l);simp only [<-hS,<-hM]at hR|-;clear hk1 hk2 hk3 hall HA hdt hS hM htl hk hlt HK;by_cases h2:1<M
   . rw [decide_eq_true h2]at hR
     (have h2I:2<=(M:Int):=by omega);by_cases h3:S=2048
     . rw [decide_eq_true h3]at hR
       subst h3;go_wp2_with fail;(try go_ret);exact hR _ _ ⟨rfl,rfl⟩
     rw [decide_eq_false h3]at hR;(have h3b:(S == 2048)=false:=by simpa using h3);go_wp2_with fail;(try go_ret);exact hR _ _ ⟨rfl,rfl⟩
   rw [decide_eq_false h2]at hR;(have h2I:¬2<=(M:Int):=by omega);go_wp2_with fail;(try go_ret);exact hR _ _ ⟨rfl,rfl⟩
theorem KB (pe:Addr) (fv:Value) (w:World) :
   CallsD prog 100 #[.pointer (some pe),fv] .returning w λe u' w'=>e = .returned (.tuple #[])/\u' = .returning/\w'=w:=by
 refine callsD_of_wpS func100 rfl λc₀ cs hu=>?_;apply wpS_seq;apply wpS_region;simp [wpOpsS,go_sem,recoverD,hu,ntmps100,Exit.thenS];apply wpS_seq;apply wpS_region;simp [wpOpsS,go_sem,Exit.thenS];refine wpS_cond (t:=false) (by simp [Act.eval,Array.replicate]) ?_;simp only [Bool.false_eq_true,if_false];refine wpS_of_wp (wp_skip ?_);cases c₀
 simp_all [bodyPostS,results,results100,Exit.thenS]
theorem Y7 (cf:Nat) (caps:Array Value) (S:Nat->Prop) (Q:World->Prop) (pe:Nat) (er:Int) (u:Value) (w:World) (he:Blk w pe 24 #[u]) (hpe:¬S pe) (hcf:∀args W,(callFunc cf args).run prog W = .ok (.enter cf args) W)
   (HC:Calls prog cf caps w λe w'=>e = .returned (.tuple #[])/\Upd S w w'/\Q w') :
   CallsD prog 100 #[.pointer (some ⟨pe,0,none⟩),.func (.func cf) #[] caps]
     (.panicking [{ v:=.iface 24 (.int .i64 er),recovered:=false }]) w λe u' w'=>e = .returned (.tuple #[])/\u' = .panicking [{ v:=.iface 24 (.int .i64 er),recovered:=true }] /\
       ∃w1,Upd S w w1/\Q w1/\w'=w1.setCell ⟨pe,0,none⟩ (.int .i64 er):=by
 (have hta:∀W,(Instr.typeAssert (.iface 24 (.int .i64 er)) 20 24 true).run prog W = .ok (.tuple #[.int .i64 er,.bool true]) W:=λ_=>by kernel_rfl);have HCL:=hd_ HC;have HE:=hd_ he;have HN:=hd_ hpe;clear he HC hpe;refine callsD_of_wpS func100 rfl λc₀ cs hu=>?_;apply wpS_seq;apply wpS_region;simp [wpOpsS,go_sem,recoverD,hu,ntmps100,Exit.thenS];apply wpS_seq;apply wpS_region;simp [wpOpsS,go_sem,Exit.thenS];refine wpS_cond (t:=true) (by simp [Act.eval,Array.replicate]) ?_;simp only [if_true];apply wpS_seq;apply wpS_region;simp [wpOpsS,go_sem,hta,Exit.thenS];apply wpS_seq;apply wpS_seq;apply wpS_region;simp [wpOpsS,go_sem,Exit.thenS];refine wpS_cond (t:=false) (by simp [Act.eval,Array.replicate]) ?_;simp only [Bool.false_eq_true,if_false];refine wpS_of_wp (wp_skip ?_);simp only [Exit.thenS];apply wpS_seq;apply wpS_region;simp [wpOpsS,go_sem,hcf,Exit.thenS];refine HCL.mono ?_;rintro e w1 ⟨rfl,u1,q1⟩;have e1:=HE.upd u1 HN.out;have c0:=e1.cell 0;have z0:=e1.frozen 0;simp at c0;have HU:=hd_ u1;have HQ:=hd_ q1;clear u1 q1 e1;apply wpS_region;simp [wpOpsS,go_sem,c0,z0,Exit.thenS,bodyPostS,results,results100];exact⟨w1,HU.out,HQ.out,rfl⟩
def Kh (bs:List Nat):ByteArray:=⟨(bs.map UInt8.ofNat).toArray⟩
theorem Q9v {a b:List Nat} (ha:∀x∈a,x<256) (hb:∀x∈b,x<256):Kh a=Kh b ↔ a=b:=by
 constructor
 . intro h
   have h1:a.map UInt8.ofNat=b.map UInt8.ofNat:=by
     have:=congrArg (λs:ByteArray=>s.data.toList) h;simpa [Kh]using this
   have h2:=congrArg (List.map UInt8.toNat) h1
   have h3:∀l:List Nat,(∀x∈l,x<256)->(l.map UInt8.ofNat).map UInt8.toNat=l:=by
     intro l
     induction l with
     | nil=>intro _;rfl
     | cons x l ih=>intro h;simp only [List.map_cons];rw [ih (λy hy=>h y (by simp [hy]))];congr 1;have:=h x (by simp);simp;omega
   rwa [h3 a ha,h3 b hb]at h2
 intro h;rw [h]
theorem Q0F (bs:List Nat):(Kh bs).toList=bs.map UInt8.ofNat:=by
 rw [ByteArray.toList_eq];simp [Kh]
theorem Vd {F:Nat->Prop} {A:Option Addr} {n c:Nat} {bs:List Nat} {w:World} (h:Rd w F A n (bs.map λb=>.int .u8 (b:Nat))) (hb:∀b∈bs,b<256) :
   (convert 22 9 (.slice A n c)).run prog w = .ok (.string (Kh bs)) w:=by
 (have hl':n=bs.length:=by have:=h.1;simp at this;exact this.symm);subst hl';rw [run_convert_bytes_string w _ _ 5 A _ c underlying22 underlying5 underlying9];by_cases hz:bs.length=0
 . have hbs:bs=[]:=List.eq_nil_of_length_eq_zero hz
   subst hbs
   cases A with
   | none=>simp [Conv.bytesToString];rfl
   | some a =>
     have:=run_bytesToString (P:=prog) w a 0 c [] (run_loadCells_list w a [] (by simp));exact this
 obtain⟨g,o,rfl,hF,hg,hc⟩:=h.2 (by omega)
 have:=run_convert_bytes_back (P:=prog) w 22 9 5 ⟨g,o,none⟩ c (bs.map UInt8.ofNat) underlying22 underlying5 underlying9 (λj hj=>by
   (have hj':j<bs.length:=by simpa using hj);have:=hc j hj';rw [Addr.add_lit,this];have:=hb bs[j] (List.getElem_mem hj');simp [List.getElem?_eq_getElem hj']
   omega)
 rw [run_convert_bytes_string w _ _ 5 _ _ c underlying22 underlying5 underlying9]at this;simpa [Kh]using this
def QM:Nat->List Nat->Nat
  | 0,_=>0
  | _+1,[]=>0
  | f+1,x::xs=>if 128<=x then QM f xs+1 else 0
def JR:List Nat->Nat
  | []=>0
  | x::xs=>x%128+128*JR xs
theorem Q3N:∀(f:Nat) (bs:List Nat),QM f bs<=f
 | 0,_=>Nat.le_refl _
 | _+1,[]=>Nat.zero_le _
 | f+1,x::xs=>by
   unfold QM
   split
   . exact Nat.succ_le_succ (Q3N f xs)
   exact Nat.zero_le _
theorem Q2H:∀(f:Nat) (bs:List Nat),QM f bs<=bs.length
 | 0,_=>Nat.zero_le _
 | _+1,[]=>Nat.zero_le _
 | f+1,x::xs=>by
   unfold QM
   split
   . exact Nat.succ_le_succ (Q2H f xs)
   exact Nat.zero_le _
theorem Q2I:∀(f:Nat) (bs:List Nat) (j:Nat),j<QM f bs->128<=bs[j]?.getD 0
 | 0,_,_,h=>absurd h (Nat.not_lt_zero _)
 | _+1,[],_,h=>absurd h (Nat.not_lt_zero _)
 | f+1,x::xs,j,h=>by
   unfold QM at h
   split at h
   . rename_i hx
     cases j with
     | zero=>simpa using hx
     | succ j=>simpa using Q2I f xs j (by omega)
   exact absurd h (Nat.not_lt_zero _)
theorem Q2J:∀(f:Nat) (bs:List Nat),QM f bs<f->bs[QM f bs]?.getD 0<128
 | 0,_,h=>absurd h (Nat.not_lt_zero _)
 | _+1,[],_=>by simp
 | f+1,x::xs,h=>by
   unfold QM at h|-
   split
   . rename_i hx
     rw [if_pos hx]at h
     simpa using Q2J f xs (by omega)
   rename_i hx
   simp
   omega
theorem Q2G:∀(f i n:Nat) (bs:List Nat),
   (QM f bs=f->(YM f i n bs).2.2=18) /\
   (QM f bs<f->bs.length<=QM f bs->(YM f i n bs).2.2=3) /\
   (QM f bs<f->QM f bs<bs.length->bs[QM f bs]?.getD 0=0/\0<i+QM f bs->(YM f i n bs).2.2=5) /\
   (QM f bs<f->QM f bs<bs.length->¬(bs[QM f bs]?.getD 0=0/\0<i+QM f bs)->4611686018427387903<n+2^(7*i)*JR (bs.take (QM f bs+1))->(YM f i n bs).2.2=18) /\
   (QM f bs<f->QM f bs<bs.length->¬(bs[QM f bs]?.getD 0=0/\0<i+QM f bs)->n+2^(7*i)*JR (bs.take (QM f bs+1))<=4611686018427387903->YM f i n bs=(n+2^(7*i)*JR (bs.take (QM f bs+1)),i+QM f bs+1,0))
 | 0,i,n,bs=>⟨λ_=>rfl,λh=>absurd h (Nat.not_lt_zero _),λh=>absurd h (Nat.not_lt_zero _),λh=>absurd h (Nat.not_lt_zero _),λh=>absurd h (Nat.not_lt_zero _)⟩
 | f+1,i,n,[]=>⟨λh=>absurd h (by simp [QM]),λ_ _=>rfl,λ_ h=>absurd h (by simp),λ_ h=>absurd h (by simp),λ_ h=>absurd h (by simp)⟩
 | f+1,i,n,x::xs=>by
   by_cases hx:128<=x
   . have hl:QM (f+1) (x::xs)=QM f xs+1:=by simp [QM,hx]
     have hv:YM (f+1) i n (x::xs)=YM f (i+1) (n+x%128*2^(7*i)) xs:=by simp [YM,hx]
     have hp:2^(7*(i+1))=2^(7*i)*128:=by rw [show 7*(i+1)=7*i+7 by omega,Nat.pow_add]
     have hs:n+2^(7*i)*JR ((x::xs).take (QM f xs+1+1))=n+x%128*2^(7*i)+2^(7*(i+1))*JR (xs.take (QM f xs+1)):=by
       rw [List.take_succ_cons,JR,hp,Nat.mul_add,Nat.mul_comm (2^(7*i)) (x%128),Nat.mul_assoc];omega
     (have hg:(x::xs)[QM f xs+1]?.getD 0=xs[QM f xs]?.getD 0:=by simp);(have he:i+(QM f xs+1)=i+1+QM f xs:=by omega);obtain⟨a,b,c,d,e⟩:=Q2G f (i+1) (n+x%128*2^(7*i)) xs;rw [hl,hv,hs,hg,he];simp only [List.length_cons];exact⟨λh=>a (by omega),λh h2=>b (by omega) (by omega),λh h2 h3=>c (by omega) (by omega) h3,λh h2 h3 h4=>d (by omega) (by omega) h3 h4,λh h2 h3 h4=>e (by omega) (by omega) h3 h4⟩
   (have hl:QM (f+1) (x::xs)=0:=by simp [QM,hx])
   have hs:n+2^(7*i)*JR ((x::xs).take (0+1))=n+x%128*2^(7*i):=by
     simp [JR,Nat.mul_comm]
   (have hg:(x::xs)[0]?.getD 0=x:=by simp);rw [hl,hs,hg];simp only [List.length_cons,Nat.add_zero];unfold YM;rw [if_neg hx];refine⟨λh=>absurd h (by omega),λh h2=>absurd h2 (by omega),λh h2 h3=>by rw [if_pos h3],λh h2 h3 h4=>by rw [if_neg h3,if_pos h4],λh h2 h3 h4=>by rw [if_neg h3,if_neg (by omega)]⟩
theorem Q23:∀l:List Nat,JR l<2^(7*l.length)
 | []=>by simp [JR]
 | x::xs=>by
   have h:=Q23 xs
   have hp:2^(7*(xs.length+1))=2^(7*xs.length)*128:=by rw [show 7*(xs.length+1)=7*xs.length+7 by omega,Nat.pow_add]
   have:=Nat.mod_lt x (show 0<128 by omega)
   simp only [JR,List.length_cons,hp]
   omega
theorem Q84 {l:List Nat} {i:Nat} (h:i<l.length):JR (l.drop i)=l[i]?.getD 0%128+128*JR (l.drop (i+1)):=by
 rw [List.drop_eq_getElem_cons h,JR,List.getElem?_eq_getElem h];rfl
theorem Q1Q {s:Nat}:∀ {p p' q q':List Nat},(p++s::q).Nodup->p++s::q=p'++s::q'->p=p'
 | [],[],_,_,_,_=>rfl
 | [],x::p',q,q',h,e=>by
   simp only [List.nil_append,List.cons_append,List.cons.injEq]at e
   obtain⟨rfl,rfl⟩:=e
   simp only [List.nil_append,List.nodup_cons]at h
   exact absurd (by simp) h.1
 | x::p,[],q,q',h,e=>by
   simp only [List.nil_append,List.cons_append,List.cons.injEq]at e
   obtain⟨rfl,rfl⟩:=e
   simp only [List.cons_append,List.nodup_cons]at h
   exact absurd (by simp) h.1
 | x::p,y::p',q,q',h,e=>by
   simp only [List.cons_append,List.cons.injEq]at e
   obtain⟨rfl,e⟩:=e
   simp only [List.cons_append,List.nodup_cons]at h
   rw [Q1Q h.2 e]
theorem Q5o {l:List Int} {s:Nat} (h:s∈Qq l):s<l.length/\0<(Q6 l s).1:=by
 unfold Qq at h;simp only [List.mem_flatMap,List.mem_filter,List.mem_range,decide_eq_true_eq]at h;obtain⟨i,hi,hs,he⟩:=h;exact⟨hs,by omega⟩
theorem Q8I (l:List Int):(Qq l).Pairwise λs t=>(Q6 l s).1<=(Q6 l t).1/\s≠t:=by
 unfold Qq;rw [List.pairwise_flatMap];refine⟨λi hi=>?_,?_⟩
 . refine List.Pairwise.imp_of_mem (R:=λs t=>s<t) (fun {a b} ha hb hab=>?_) (List.Pairwise.filter _ List.pairwise_lt_range)
   have h1:=(List.mem_filter.1 ha).2;have h2:=(List.mem_filter.1 hb).2;simp only [decide_eq_true_eq]at h1 h2;exact⟨by omega,by omega⟩
 refine List.Pairwise.imp (fun {i j} hij x hx y hy=>?_) List.pairwise_lt_range;have h1:=(List.mem_filter.1 hx).2;have h2:=(List.mem_filter.1 hy).2;simp only [decide_eq_true_eq]at h1 h2;exact⟨by omega,λe=>by subst e;omega⟩
theorem Q8J (l:List Int):(Qq l).Nodup:=(Q8I l).imp λh=>h.2
theorem Q1R {l:List Int} (ht:Qc l) {s:Nat} {p q:List Nat} (h:Qq l=p++s::q):(QH l p).length=(Q6 l s).2*2^(Qe l-(Q6 l s).1):=by
 obtain⟨hs,h0⟩:=Q5o (l:=l) (s:=s) (by rw [h];simp);obtain⟨n,hn⟩:∃n,(Q6 l s).1=n+1:=⟨(Q6 l s).1-1,by omega⟩;have hle:=Zr ht s;have hm:=JK ht
 have e1:Qq l=(List.range n).flatMap (Y9 l)++(Y9 l n++((List.range (11-n-1)).map (·+(n+1))).flatMap (Y9 l)):=by
   show(List.range 11).flatMap (Y9 l)=_;rw [Ku (show n<11 by omega),List.flatMap_append,List.flatMap_cons]
 obtain⟨Q,hQ⟩:∃Q,Y9 l n=((List.range s).filter λs=>decide ((Q6 l s).1=n+1))++s::Q:=by
   refine⟨((List.range (l.length-s-1)).map (·+(s+1))).filter λs=>decide ((Q6 l s).1=n+1),?_⟩;unfold Y9;rw [Ku hs,List.filter_append,List.filter_cons,if_pos (by simpa using hn)]
 rw [hQ]at e1
 have hp:p=(List.range n).flatMap (Y9 l)++((List.range s).filter λs=>decide ((Q6 l s).1=n+1)):=by
   refine Q1Q (s:=s) (q:=q) (q':=Q++((List.range (11-n-1)).map (·+(n+1))).flatMap (Y9 l)) (by rw [<-h];exact Q8J l) ?_;rw [<-h,e1];simp only [List.append_assoc,List.cons_append]
 rw [hp,Zj,List.length_append,Q1O ht (by omega),XF (n:=n+1) (λs hs=>by simpa using(List.mem_filter.1 hs).2),Q0p ht s n (by omega),hn,<-Nat.add_mul]
 congr 1
 have hc:=Zc ht s;rw [hn]at hc;(have hpos:0<(l[s]?).getD 0:=by omega);unfold Q6;rw [if_pos hpos];simp only;rw [show(l[s]?).getD 0=((n+1:Nat):Int) by omega];rfl
theorem Q8K {l:List Int} (ht:Qc l) {s:Nat} {q:List Nat} (h:Qq l=s::q):(Q6 l s).2=0:=by
 have:=Q1R ht (p:=[]) h;have hp:=Nat.two_pow_pos (Qe l-(Q6 l s).1);rw [show(QH l []).length=0 from rfl]at this;rcases Nat.mul_eq_zero.1 this.symm with h|h
 . exact h
 omega
theorem Qa3 {l:List Int} (ht:Qc l) {s t:Nat} {p q:List Nat} (h:Qq l=p++s::t::q) :
   (Q6 l s).1<=(Q6 l t).1/\(Q6 l t).2=((Q6 l s).2+1)*2^((Q6 l t).1-(Q6 l s).1):=by
 have h1:=Q1R ht h;have h2:=Q1R ht (p:=p++[s]) (s:=t) (q:=q) (by rw [h];simp)
 have hl:(Q6 l s).1<=(Q6 l t).1:=by
   have:=Q8I l;rw [h,List.pairwise_append]at this;exact((List.pairwise_cons.1 this.2.1).1 t (by simp)).1
 refine⟨hl,?_⟩;have hle:=Zr ht t
 have h3:(QH l (p++[s])).length=(QH l p).length+2^(Qe l-(Q6 l s).1):=by
   rw [Zj,List.length_append]
   congr 1
   simp [QH]
 rw [h3,h1,show Qe l-(Q6 l s).1=((Q6 l t).1-(Q6 l s).1)+(Qe l-(Q6 l t).1) by omega,Nat.pow_add,<-Nat.mul_assoc]at h2;have hp:=Nat.two_pow_pos (Qe l-(Q6 l t).1);refine(Nat.eq_of_mul_eq_mul_right hp ?_).symm;rw [<-h2,Nat.add_mul,Nat.add_mul,Nat.one_mul]
theorem Q4n {l:List Int}:∀ {q:List Nat} {i:Nat},i<(QH l q).length->∃p s r j,q=p++s::r/\i=(QH l p).length+j/\j<2^(Qe l-(Q6 l s).1)/\(QH l q)[i]?=some (s,(Q6 l s).1)
 | [],i,h=>absurd h (by simp [QH])
 | s::q,i,h=>by
   have e:∀q',QH l (s::q')=List.replicate (2^(Qe l-(Q6 l s).1)) (s,(Q6 l s).1)++QH l q':=λ_=>rfl
   have hp:=Nat.two_pow_pos (Qe l-(Q6 l s).1)
   by_cases hi:i<2^(Qe l-(Q6 l s).1)
   . refine⟨[],s,q,i,rfl,by simp [QH],hi,?_⟩
     rw [e,List.getElem?_append_left (by simpa using hi),List.getElem?_replicate,if_pos hi]
   rw [e,List.length_append,List.length_replicate]at h
   obtain⟨p,t,r,j,h1,h2,h3,h4⟩:=Q4n (l:=l) (q:=q) (i:=i-2^(Qe l-(Q6 l s).1)) (by omega)
   refine⟨s::p,t,r,j,by rw [h1];rfl,?_,h3,?_⟩
   . rw [e,List.length_append,List.length_replicate];omega
   rw [e,List.getElem?_append_right (by simpa using hi),List.length_replicate];exact h4
theorem QaG {l:List Int} (ht:Qc l) {x n c:Nat} (hc:c<l.length) (h0:0<(Q6 l c).1) (hcn:(Q6 l c).1<=n) (hxd:x / 2^(n-(Q6 l c).1)=(Q6 l c).2):Yf l x n=(c,(Q6 l c).1):=by
 have hB:=Zr ht c;(have hxe:x=(Q6 l c).2*2^(n-(Q6 l c).1)+x%2^(n-(Q6 l c).1):=by rw [<-hxd];exact(Nat.div_add_mod' _ _).symm);unfold Yf;have hm:=Nat.mod_lt x (Nat.two_pow_pos (n-(Q6 l c).1));generalize x%2^(n-(Q6 l c).1)=j at *;rcases Nat.le_total n (Qe l)with h|h
 . rw [show n-Qe l=0 by omega,Nat.pow_zero,Nat.div_one,hxe,Nat.add_mul,Nat.mul_assoc,<-Nat.pow_add,show n-(Q6 l c).1+(Qe l-n)=Qe l-(Q6 l c).1 by omega,Q8C ht hc h0]
   . rfl
   calc j*2^(Qe l-n)<2^(n-(Q6 l c).1)*2^(Qe l-n):=Nat.mul_lt_mul_of_pos_right hm (Nat.two_pow_pos _)
     _=2^(Qe l-(Q6 l c).1):=by rw [<-Nat.pow_add];congr 1;omega
 rw [show Qe l-n=0 by omega,Nat.pow_zero,Nat.mul_one,hxe]
 have e:(Q6 l c).2*2^(n-(Q6 l c).1)=((Q6 l c).2*2^(Qe l-(Q6 l c).1))*2^(n-Qe l):=by
   rw [Nat.mul_assoc,<-Nat.pow_add];congr 2;omega
 rw [e,Nat.add_comm,Nat.add_mul_div_right _ _ (Nat.two_pow_pos _),Nat.add_comm,Q8C ht hc h0]
 . rfl
 refine Nat.div_lt_of_lt_mul ?_;rw [<-Nat.pow_add,show n-Qe l+(Qe l-(Q6 l c).1)=n-(Q6 l c).1 by omega];exact hm
theorem Q0l {l:List Int} (ht:Qc l) {x n:Nat} (hx:x<2^n):(Yf l x n).1<l.length/\0<(Yf l x n).2/\(Q6 l (Yf l x n).1).1=(Yf l x n).2/\((Yf l x n).2<=n->x / 2^(n-(Yf l x n).2)=(Q6 l (Yf l x n).1).2):=by
 have hm:=Q0s (Xc ht hx);refine⟨hm.1,hm.2.2,hm.2.1.symm,λhk=>?_⟩;have hlt:=Q1W ht hx;obtain⟨p,s,r,j,h1,h2,h3,h4⟩:=Q4n (l:=l) (q:=Qq l) hlt
 have hf:Yf l x n=(s,(Q6 l s).1):=by
   unfold Yf;show((QH l (Qq l))[_]?).getD (0,0)=_;rw [h4];rfl
 rw [hf]at hk|-;simp only at hk|-;have h5:=Q1R ht h1;rw [h5]at h2;have hle:=Zr ht s
 have h6:x*2^(Qe l-n) / 2^(n-Qe l) / 2^(Qe l-(Q6 l s).1)=(Q6 l s).2:=by
   rw [h2,Nat.add_comm,Nat.add_mul_div_right _ _ (Nat.two_pow_pos _),Nat.div_eq_of_lt h3,Nat.zero_add]
 rw [<-h6];rcases Nat.le_total n (Qe l)with h|h
 . rw [show n-Qe l=0 by omega,Nat.pow_zero,Nat.div_one,show Qe l-(Q6 l s).1=(n-(Q6 l s).1)+(Qe l-n) by omega,Nat.pow_add,Nat.mul_div_mul_right _ _ (Nat.two_pow_pos _)]
 rw [show Qe l-n=0 by omega,Nat.pow_zero,Nat.mul_one,Nat.div_div_eq_div_mul,<-Nat.pow_add]
 congr 2;omega
def Jl (l:List Int) (x n:Nat):Nat × Nat × Int:=if(Yf l x n).2<=n then((Yf l x n).1,(Yf l x n).2,0)else(0,0,3)
theorem Qaw {l:List Int} (ht:Qc l) {x n c:Nat} (hc:c<l.length) (h0:0<(Q6 l c).1) (hcn:(Q6 l c).1<=n) (hxd:x / 2^(n-(Q6 l c).1)=(Q6 l c).2):Jl l x n=(c,(Q6 l c).1,0):=by
 unfold Jl;rw [QaG ht hc h0 hcn hxd,if_pos hcn]
theorem Qax {l:List Int} (ht:Qc l) {x n:Nat} (hx:x<2^n) (h:∀c,c<l.length->0<(Q6 l c).1->(Q6 l c).1<=n->x / 2^(n-(Q6 l c).1)≠(Q6 l c).2):Jl l x n=(0,0,3):=by
 unfold Jl;obtain⟨h1,h2,h3,h4⟩:=Q0l ht hx;rw [if_neg];intro hk;refine h _ h1 (by omega) (by omega) ?_;rw [h3];exact h4 hk
def VJ (L:List Nat):List Value:=L.map λx=>.int .i64 (x:Nat)
theorem Q6T (L:List Nat) (x:Nat):VJ (L++[x])=VJ L++[.int .i64 (x:Nat)]:=by simp [VJ]
@[simp] theorem Q0r (L:List Nat):(VJ L).length=L.length:=by simp [VJ]
def Q2f (w W:World) (v:Value) (L:List Nat):Prop:=Own W 3 v (VJ L)/\Q0 w W/\∀b,v.ownBlock=some b->w.heap.size<=b
theorem Q2f.snoc {w w1 w2 w3:World} {v v':Value} {L:List Nat} {x:Nat} (h:Q2f w w1 v L) (f:Q0 w1 w2) (ho:Own w3 3 v' (VJ L++[.int .i64 (x:Nat)])) (hg:w2.grownBy w3 v.ownBlock) (ha:v'.ownBlock=v.ownBlock\/v'.ownBlock=some w2.heap.size):Q2f w w3 v' (L++[x]) :=
 ⟨by rw [Q6T];exact ho,(h.2.1.trans' f).grown hg (λk hk hlt=>by have:=h.2.2 k hk;omega),Yj (S:=λk=>w.heap.size<=k) ha (λk hk=>h.2.2 k hk) (h.2.1.trans' f).size⟩
theorem Q5p {l:List Int} {n q i:Nat} (hl:l.length=n) (hq:q<=11) (hi:i<=n):((List.range q).flatMap (Y9 l)++(List.range i).filter λs=>decide ((Q6 l s).1=q+1)).length<=11*n+n:=by
 have h1:∀q,((List.range q).flatMap (Y9 l)).length<=q*n:=by
   intro q
   induction q with
   | zero=>simp
   | succ q ih =>
     rw [List.range_succ,List.flatMap_append,List.length_append]
     have:([q].flatMap (Y9 l)).length<=n:=by
       simp only [List.flatMap_cons,List.flatMap_nil,List.append_nil,Y9];have:=List.length_filter_le (λs=>decide ((Q6 l s).1=q+1)) (List.range l.length);rw [List.length_range]at this;omega
     rw [Nat.add_mul];omega
 have h2:=List.length_filter_le (λs=>decide ((Q6 l s).1=q+1)) (List.range i);rw [List.length_range]at h2;have h3:=h1 q;have h4:q*n<=11*n:=Nat.mul_le_mul_right _ hq;rw [List.length_append];omega
theorem Q6U (F:Nat->Prop) (A:Option Addr) (n c:Nat) (l:List Int) (w:World) (hr:Rd w F A n (Q7 l)) (ht:Qc l) :
   Calls prog 157 #[.slice A n c] w λe w'=>∃v,e = .returned v/\Q2f w w' v (Qq l):=by
 (have hL:l.length=n:=by have:=hr.1;simpa using this);(have hn:n<=256:=by have:=ht.2.1;omega);have HRD:=hd_ hr;have HL:=hd_ hL;have HN:=hd_ hn;(have hnI:(n:Int)<=256:=by omega);have HCL:=hd_ (λs=>Zc ht s);have HOR:=hd_ (show Qq l=(List.range 11).flatMap (Y9 l)from rfl);obtain⟨O,hO⟩:=nm_ (Qq l);rw [<-hO]at HOR|-;clear hr hL hn ht hO;refine Q8 λR hR=>?_;go_enter func157,ntmps157;go_wp2_with fail;go_loopg [3,4] 11 (λf vo vn wr=>∃q,q+f=11/\vn = .int .i64 ((q+1:Nat):Int)/\Q2f w wr vo ((List.range q).flatMap (Y9 l)))
 case atStart=>exact⟨0,rfl,rfl,Own.nil _ _,Upd.refl _ _,by simp [Value.ownBlock]⟩
 case round =>
   obtain⟨q,hq,rfl,hO⟩:=hrel;by_cases hlt:q<11
   . have hqI:((q+1:Nat):Int)<=11:=by omega
     have HO:=hd_ hO;have HQ:=hd_ (And.intro hq hlt);obtain⟨N,hN⟩:=nm_ (q+1);rw [<-hN]at hqI|-;have HN2:=hd_ hN;clear hO hq hlt hN;go_wp2_with fail;go_loopg [3,5] n (λf vo vi wx=>∃i,i+f=n/\vi = .int .i64 (i:Nat)/\Q2f w wx vo ((List.range q).flatMap (Y9 l)++(List.range i).filter λs=>decide ((Q6 l s).1=q+1)))
     case atStart=>exact⟨0,by omega,rfl,by simpa using HO.out⟩
     case round =>
       obtain⟨i,hi,rfl,hO2⟩:=hrel;by_cases hlt:i<n
       . have hiI:(i:Int)<n:=by omega
         obtain⟨b,o,hkl,rfl,_,hc⟩:=(HRD.fresh hO2.2.1).int (k:=i) hlt;have HO2:=hd_ hO2;have HI:=hd_ (And.intro hi hlt);obtain⟨z,hz⟩:=nm_ (l[i]);rw [<-hz]at hc
         have HZ:=hd_ (show((Q6 l i).1:Int)=if 0<z then z else 0 by
           have:=HCL i;rw [List.getElem?_eq_getElem hkl,<-hz]at this;simp only [Option.getD_some]at this
           rw [this];split<;>omega)
         have HOL:=hd_ (show((List.range q).flatMap (Y9 l)++(List.range i).filter λs=>decide ((Q6 l s).1=q+1)).length<=11*n+n from Q5p HL.out (by have:=HQ.out;omega) (by omega));have HRG:=hd_ (show List.range (i+1)=List.range i++[i]from List.range_succ);clear hO2 hi hlt hz;by_cases he:z=N
         . subst he
           obtain⟨A3,n3,c3,rfl,hn3⟩:=HO2.1.form';have HOE:=hd_ HO2.out;clear hn3;obtain⟨w2,P,hw2,hP,f2,b2⟩:=al_ wr 3 #[.int .i64 (i:Nat)];have RB:=hd_ (show Rd w2 (λ_=>True) (some ⟨P,0,none⟩) 1 [.int .i64 (i:Nat)]from by simpa using Blk.rds b2);have F2:=hd_ f2;have HW2:=hd_ hw2;have HP2:=hd_ hP;clear f2 b2 hw2 hP;go_wp2_with (at_builtin;simp only [<-HP2.out,<-HW2.out];go_must (refine Qm _ rfl (.tmp 22) (.tmp 24) _ rfl 3 _ 8 underlying33 QV rfl (.slice A3 n3 c3) _ rfl (HO2.1.fresh F2.out) _ _ _ _ rfl RB.out (by simp [Value.oneCell']) (by omega) ?_ ?_))
           . rw [Q0r]
             have:=HOL.out;omega
           intro v3 w3 ho hg ha;have E3:=hd_ (HO2.snoc F2.out ho hg ha);clear ho hg ha HOE RB F2 HW2 HP2;go_wp2_with fail;go_roundg (gk-1)
           case measure=>have:=HI.out;omega
           case rel =>
             refine⟨i+1,by have:=HI.out;omega,by go_num,?_⟩;have hz:=HZ.out;rw [HRG.out,List.filter_append,<-List.append_assoc,List.filter_cons,if_pos (by rw [if_pos (by have:=HN2.out;omega)]at hz;have:=HN2.out;simp;omega)];exact E3.out
         (have he2:(z == N)=false:=by simpa using he);have HE:=hd_ he;clear he;go_wp2_with fail;go_roundg (gk-1)
         case measure=>have:=HI.out;omega
         case rel =>
           refine⟨i+1,by have:=HI.out;omega,by go_num,?_⟩;have hz:=HZ.out;rw [HRG.out,List.filter_append,<-List.append_assoc,List.filter_cons,if_neg (by have:=HN2.out;have:=HE.out;split at hz<;>simp<;>omega)];simpa using HO2.out
       (have hin:i=n:=by omega);subst hin;have HO2:=hd_ hO2;clear hO2 hi hlt;go_wp2_with fail;go_roundg (10-q)
       case measure=>have:=HQ.out;omega
       case rel =>
         refine⟨q+1,by have:=HQ.out;omega,by rw [HN2.out];go_num,?_⟩;have h:=HO2.out;rw [List.range_succ,List.flatMap_append];(have e:[q].flatMap (Y9 l)=(List.range i).filter λs=>decide ((Q6 l s).1=q+1):=by simp [Y9,HL.out]);rw [e];exact h
   (have h11:q=11:=by omega);subst h11;have HO:=hd_ hO;clear hO hq hlt;go_wp2_with fail;(try go_ret);exact hR _ _ ⟨_,rfl,by rw [HOR.out];exact HO.out⟩
theorem Q51 {L:List (Nat × Nat)} {k:Nat} (h:k<L.length) (y:Nat × Nat) :
   ((Y5 L).toArray.setIfInBounds (k*2) (.int .i64 (y.1:Nat))).setIfInBounds (k*2+1) (.int .u32 (y.2:Nat))=(Y5 (L.set k y)).toArray:=by
 (have e1:L=L.take k++L[k]::L.drop (k+1):=by simp);(have e2:L.set k y=L.take k++y::L.drop (k+1):=by rw [List.set_eq_take_append_cons_drop,if_pos h]);rw [e2]
 conv=>lhs;rw [e1]
 exact Q2W y (by rw [List.length_take];omega)
theorem Q6V {L:List (Nat × Nat)} {k:Nat} (h:k<L.length):(Y5 L)[k*2]?=some (.int .i64 (L[k].1:Nat))/\(Y5 L)[k*2+1]?=some (.int .u32 (L[k].2:Nat)):=by
 (have e1:L=L.take k++L[k]::L.drop (k+1):=by simp);have:=Q1L (A:=L.take k) (B:=L.drop (k+1)) (x:=L[k]) (k:=k) (by rw [List.length_take];omega);rw [<-e1]at this;exact this
def Vq (l:List Int) (i:Nat):List (Nat × Nat):=(List.range l.length).map λs=>if s∈(Qq l).take i then Q6 l s else(0,0)
@[simp] theorem Q52 (l:List Int) (i:Nat):(Vq l i).length=l.length:=by simp [Vq]
theorem Q8L (l:List Int):Vq l 0=List.replicate l.length (0,0):=by
 apply List.ext_getElem
 . simp
 intro i h1 h2;simp [Vq]
theorem Qa4 {l:List Int} {i s:Nat} (h:(Qq l)[i]?=some s):(Vq l i).set s (Q6 l s)=Vq l (i+1):=by
 have hi:i<(Qq l).length:=(List.getElem?_eq_some_iff.1 h).1;have hs:(Qq l)[i]=s:=(List.getElem?_eq_some_iff.1 h).2;apply List.ext_getElem
 . simp
 intro j h1 h2;simp only [List.getElem_set];simp only [Vq,List.getElem_map,List.getElem_range,List.take_succ_eq_append_getElem hi,hs,List.mem_append,List.mem_singleton];by_cases hj:s=j
 . subst hj;simp
 rw [if_neg hj];have e:(j∈(Qq l).take i\/j=s)=(j∈(Qq l).take i):=propext ⟨λh=>h.elim id λe=>absurd e.symm hj,.inl⟩;simp only [e]
theorem QaH {l:List Int} (ht:Qc l) {s:Nat} (hs:s<l.length) (h:0<(Q6 l s).1):s∈Qq l:=by
 have h1:=Zr ht s;have h2:=JK ht;unfold Qq;simp only [List.mem_flatMap,List.mem_filter,List.mem_range,decide_eq_true_eq];exact⟨(Q6 l s).1-1,by omega,hs,by omega⟩
theorem Qa5 {l:List Int} (ht:Qc l):Vq l (Qq l).length=QE l:=by
 unfold Vq QE;rw [List.take_length];refine List.map_congr_left λs hs=>?_;by_cases h:s∈Qq l
 . rw [if_pos h]
 rw [if_neg h];have h0:¬0<(Q6 l s).1:=λh1=>h (QaH ht (List.mem_range.1 hs) h1);unfold Q6 at h0|-;split
 . next h2=>rw [if_pos h2]at h0;simp only at h0;omega
 rfl
theorem QaI {l:List Int} (ht:Qc l):0<(Qq l).length:=by
 have h:=Q2t ht;rcases Nat.eq_zero_or_pos (Qq l).length with h0|h0
 . have e:Qq l=[]:=List.eq_nil_of_length_eq_zero h0
   have h1:=JZ ht;unfold Z3 at h1;rw [e]at h1;have:=Nat.two_pow_pos (Qe l);simp at h1;omega
 exact h0
def XG (l:List Int) (i q X:Nat):Prop:=∀s,(Qq l)[i]?=some s->q<=(Q6 l s).1/\X*2^((Q6 l s).1-q)=(Q6 l s).2
theorem XG.first {l:List Int} (ht:Qc l) {s:Nat} (h:(Qq l)[0]?=some s):XG l 0 (Q6 l s).1 0:=λt hs=>by
 rw [h]at hs;injection hs with hs;subst hs
 obtain⟨q,hq⟩:∃q,Qq l=s::q:=by
   cases e:Qq l with
   | nil=>rw [e]at h;cases h
   | cons x q=>rw [e]at h;injection h with h;subst h;exact⟨q,rfl⟩
 rw [Q8K ht hq];exact⟨Nat.le_refl _,Nat.zero_mul _⟩
theorem XG.step {l:List Int} (ht:Qc l) {i s:Nat} (h:(Qq l)[i]?=some s):XG l (i+1) (Q6 l s).1 ((Q6 l s).2+1):=λt hs=>by
 have hi:=(List.getElem?_eq_some_iff.1 h)
 have hj:=(List.getElem?_eq_some_iff.1 hs)
 obtain⟨h1,h2⟩:=hi
 obtain⟨h3,h4⟩:=hj
 have e:Qq l=(Qq l).take i++s::t::(Qq l).drop (i+2):=by
   conv=>lhs;rw [<-List.take_append_drop i (Qq l),List.drop_eq_getElem_cons h1,List.drop_eq_getElem_cons h3,h2,h4]
 obtain⟨h5,h6⟩:=Qa3 ht e;exact⟨h5,h6.symm⟩
theorem Q6b (F:Nat->Prop) (A:Option Addr) (n c:Nat) (l:List Int) (w:World) (hr:Rd w F A n (Q7 l)) (ht:Qc l) :
   Calls prog 106 #[.slice A n c] w λe w'=>Q0 w w'/\∃g,e = .returned (.tuple #[.slice (some ⟨g,0,none⟩) n n,.int .i64 0])/\RdK w' (λb=>b=g) 2 (some ⟨g,0,none⟩) n ((QE l).map cd2)/\w.heap.size<=g:=by
 (have hL:l.length=n:=by have:=hr.1;simpa using this);(have hn:n<=256:=by have:=ht.2.1;omega);have hmk:=Q4k n hn w;obtain⟨w1,hw1⟩:=nm_ (w.alloc (.cells (Y5 (List.replicate n (0,0))).toArray 133));obtain⟨G,hG⟩:=nm_ (w.heap.size);rw [<-hw1,<-hG]at hmk;(have f1:Q0 w w1:=by rw [hw1];exact(Upd.refl _ _).alloc _);(have bg:Blk w1 G 133 (Y5 (List.replicate n (0,0))).toArray:=by rw [hw1];exact Qb hG _ _);(have hs1:w1.heap.size=G+1:=by rw [hw1,hG];simp);have HRI:=hd_ (KW F A n c l w hr (by omega));rw [decide_eq_true ht]at HRI;have HOR:=hd_ (Q6U F A n c l w1 (hr.fresh f1) ht);have HRD:=hd_ (hr.both.fresh f1);have HT:=hd_ ht;have HL:=hd_ hL;have HN:=hd_ hn;have BG:=hd_ bg;have F1:=hd_ f1;have HG:=hd_ hG;have HS1:=hd_ hs1;(have hnI:(n:Int)<=256:=by omega);clear hr ht hL hn bg f1 hG hs1 hw1;refine Q8 λR hR=>?_;go_enter func106,ntmps106;go_wp2_with fail;refine HRI.mono ?_;rintro e w' ⟨rfl,rfl⟩;go_wp2_with fail;refine HOR.mono ?_;rintro e w2 ⟨v,rfl,ho⟩;obtain⟨OA,m,oc,rfl,hm⟩:=ho.1.form';obtain⟨hm2,hoc,hrd⟩:=ho.1.rd rfl;rw [<-hm2]at hrd hoc;(have hml:m=(Qq l).length:=by rw [hm2,Q0r]);have HLT:=hd_ (λi s (h:(Qq l)[i]?=some s)=>Q5o (l:=l) (s:=s) (List.mem_of_getElem? h));have HCK:=hd_ (λs=>And.intro (Kc HT.out s) (Zc HT.out s))
 have HOA:=hd_ (λW (hu:Upd (λb=>b=G) w2 W) i (hi:i<m)=>show ∃B o s,OA=some ⟨B,o,none⟩/\(Qq l)[i]?=some s/\W.cell? ⟨B,o+i,none⟩=some (.int .i64 (s:Nat))from by
   obtain⟨B,o,hOA,hB,_,hc⟩:=(hrd.upd hu (λb _ hb e=>by have:=ho.2.2 b hb;have:=HS1.out;omega)).at_ (k:=i) hi;(have h2:i<(Qq l).length:=by omega);refine⟨B,o,(Qq l)[i],hOA,List.getElem?_eq_getElem h2,?_⟩
   rw [hc];simp [VJ,h2])
 have HLC:=hd_ (λW (hu:Upd (λb=>b=G) w2 W) s (hs:s<n)=>show ∃B o z,A=some ⟨B,o,none⟩/\W.cell? ⟨B,o+s,none⟩=some (.int .i64 z)/\z=((Q6 l s).1:Nat)from by
   obtain⟨B,o,hk,hA,_,hc⟩:=((HRD.fresh ho.2.1).upd hu (λb _ hb e=>by have:=hb.2;have:=HG.out;omega)).int (k:=s) hs;refine⟨B,o,l[s],hA,hc,?_⟩;have h1:=(HCK s).2;rw [List.getElem?_eq_getElem hk]at h1;have h2:=HT.1 _ (List.getElem_mem hk);simp only [Option.getD_some]at h1
   omega)
 have BG2:=hd_ (BG.fresh ho.2.1);have F2:=hd_ (F1.trans' ho.2.1);(have hmp:0<m:=by rw [hml];exact QaI HT.out);have HML:=hd_ hml;(have hmI:(0:Int)<m:=by omega)
 have HMB:=hd_ (show m<=4000 from by
   have:=Q5p (l:=l) (q:=11) (i:=0) HL.out (by omega) (by omega);rw [hml];simp only [List.range_zero,List.filter_nil,List.append_nil]at this;have h:(Qq l).length<=11*n+n:=this
   have:=HN.out;omega)
 clear ho hm hm2 hoc hrd hml HOR HRI hmk BG F1;obtain⟨B,o,s0,rfl,hs0,hc0⟩:=HOA w2 (Upd.refl _ _) 0 hmp;(have hs0n:s0<n:=by have:=(HLT 0 s0 hs0).1;have:=HL.out;omega);obtain⟨B2,o2,z0,rfl,hcz,hz0⟩:=HLC w2 (Upd.refl _ _) s0 hs0n;(have hs0I:(s0:Int)<n:=by omega);rw [hz0]at hcz;have HS0:=hd_ hs0;clear hs0 hz0 hs0n;rw [Nat.add_zero]at hc0;go_wp2_with fail;go_quiet (fail);go_wp2;go_loopg [6,7,8] m (λf vx vq vi wr=>∃i q X:Nat,i+f=m/\vi = .int .i64 (i:Nat)/\vq = .int .i64 (q:Nat)/\vx = .int .u32 (X:Nat)/\q<=11/\X<=2048/\XG l i q X/\Blk wr G 133 (Y5 (Vq l i)).toArray/\Upd (λb=>b=G) w2 wr)
 case atStart=>exact⟨0,_,0,by omega,rfl,rfl,rfl,(HCK s0).1.1,by omega,XG.first HT.out HS0.out,by rw [Q8L,HL.out];exact BG2.drewN _,(Upd.refl _ _).drewN _⟩
 case round =>
   obtain⟨i,q,X,hi,rfl,rfl,rfl,hq,hX,hnx,bg,ur⟩:=hrel;clear hc0 hcz hs0I;by_cases hlt:i<m
   . have hiI:(i:Int)<m:=by omega
     obtain⟨B3,o3,s,hB3,hs,hc⟩:=HOA wr ur i hlt;injection hB3 with hB3;injection hB3 with hb3 ho3;subst hb3 ho3;(have hsn:s<n:=by have:=(HLT i s hs).1;have:=HL.out;omega);obtain⟨B4,o4,z,hB4,hcz,hz⟩:=HLC wr ur s hsn;injection hB4 with hB4;injection hB4 with hb4 ho4;subst hb4 ho4;subst hz;(have hsI:(s:Int)<n:=by omega);obtain⟨hnx1,hnx2⟩:=hnx s hs;obtain⟨T,hT⟩:=nm_ ((Q6 l s).1);obtain⟨V,hV⟩:=nm_ ((Q6 l s).2);have hTV:=(HCK s).1;rw [<-hT,<-hV]at hTV hnx2;rw [<-hT]at hnx1 hcz;have hV11:V<2048:=Nat.lt_of_lt_of_le hTV.2 (Nat.pow_le_pow_right (n:=2) (by decide) hTV.1);(have hTI:(T:Int)<=11:=by omega);have hst:=XG.step HT.out hs;rw [<-hT,<-hV]at hst;have hset:=Qa4 hs;(have hcode:Q6 l s=(T,V):=by rw [hT,hV]);rw [hcode]at hset;(have hsl:s<(Vq l i).length:=by rw [Q52,HL.out];exact hsn);obtain⟨g0,g1⟩:=Q6V hsl;obtain⟨x0,y0,c0,c1⟩:∃x y:Nat,wr.cell? ⟨G,s*2,none⟩=some (.int .i64 (x:Nat))/\wr.cell? ⟨G,s*2+1,none⟩=some (.int .u32 (y:Nat)):=⟨_,_,by rw [bg.cell];simpa using g0,by rw [bg.cell];simpa using g1⟩;have z0:=bg.frozen (s*2);have z1:=bg.frozen (s*2+1);have bgs:=(bg.set_ (s*2) (.int .i64 (T:Nat))).set_ (s*2+1) (.int .u32 (V:Nat));have hrs:=Q51 hsl (T,V);rw [hset]at hrs;rw [hrs]at bgs;have us:Upd (λb=>b=G) w2 ((wr.setCell ⟨G,s*2,none⟩ (.int .i64 (T:Nat))).setCell ⟨G,s*2+1,none⟩ (.int .u32 (V:Nat))):=(ur.setCell (p:=⟨G,s*2,none⟩) (λ_=>rfl) _).setCell (p:=⟨G,s*2+1,none⟩) (λ_=>rfl) _;have HREL:=hd_ (And.intro hst (And.intro bgs us));have HQ:=hd_ (And.intro hi hlt);have HX:=hd_ (And.intro hnx1 (And.intro hnx2 hV11));clear hi hlt hs hsn hnx hnx1 hnx2 hT hV hTV hV11 hst hset hcode hsl g0 g1 bgs hrs us bg ur hq hX;go_wp2_with fail;go_loopg [6,7] (T-q) (λf vx vq wx=>wx=wr/\∃Y p:Nat,p+f=T/\vx = .int .u32 (Y:Nat)/\vq = .int .i64 (p:Nat)/\Y*2^f=V)
     case atStart=>exact⟨rfl,X,q,by have:=HX.1;omega,rfl,rfl,HX.2.1⟩
     case round =>
       obtain⟨rfl,Y,p,hp,rfl,rfl,hY⟩:=hrel
       cases gk with
       | succ j =>
         (have hpI:(p:Int)<T:=by omega);(have hY2:Y*2*2^j=V:=by rw [<-hY,Nat.pow_succ];rw [Nat.mul_assoc,Nat.mul_comm 2])
         have hYb:(Y:Int)<=2048:=by
           have h1:=Nat.le_mul_of_pos_right Y (Nat.two_pow_pos (j+1));have:=HX.2.2;omega
         have HP:=hd_ hp;have HY:=hd_ hY2;clear hp hY hY2 c0 c1 z0 z1;go_wp2_with fail;go_roundg j
         case measure=>omega
         case rel=>exact⟨rfl,Y*2,p+1,by have:=HP.out;omega,by go_num,by go_num,HY.out⟩
       | zero =>
         (have hpT:p=T:=by omega);(have hYV:Y=V:=by simpa using hY);subst hpT hYV;(have hpI:¬(p:Int)<p:=by omega);(have hYb:(Y:Int)<=2048:=by have:=HX.2.2;omega);(have hmB:(m:Int)<=4000:=by have:=HMB.out;omega);clear hp hY;go_wp2_with fail;go_roundg (m-(i+1))
         case measure=>have:=HQ.out;omega
         case rel =>
           refine⟨i+1,p,Y+1,by have:=HQ.out;omega,by go_num,rfl,by go_num,by omega,by have:=HX.2.2;omega,HREL.1,HREL.2.1,HREL.2.2⟩
   (have him:i=m:=by omega);subst him;rw [HML.out,Qa5 HT.out]at bg;have HRK:=hd_ (bg.rdk2 (n:=n) (by rw [YJ];exact HL.out));have UR:=hd_ ur;have HI:=hd_ hlt;clear bg ur hi hlt hnx;go_wp2_with fail;(try go_ret);exact hR _ _ ⟨F2.trans UR.out (λb hb e=>by have:=HG.out;omega),G,rfl,HRK.out,by have:=HG.out;omega⟩
def Has (lg:Int) (N:List Int):Prop:=Yc lg N 256 9/\lg≠0
instance (lg:Int) (N:List Int):Decidable (Has lg N):=by unfold Has;infer_instance
theorem JW {p:Nat} (h:p<=9):2^p<=512:=Nat.pow_le_pow_right (n:=2) (by omega) h
theorem K5 (p:Nat) (w:World) (hp:p<=9) :
   Calls prog 210 #[.int .i64 p] w λe w'=>e = .returned (.int .i64 (2^p:Nat))/\w=w':=by
 (have hpi:(p:Int)<=20:=by omega);refine Q8 λR hR=>?_;go_enter func210,ntmps210;go_wp2;go_loopg [3,4] p (λm v i wr=>wr=w/\∃k:Nat,k+m=p/\i = .int .i64 k/\v = .int .i64 (2^k:Nat))
 case atStart=>exact⟨rfl,0,by omega,rfl,rfl⟩
 case round =>
   obtain⟨rfl,k,hk,rfl,rfl⟩:=hrel;(have hk1:k<=p:=by omega);have hp1:=JW (show k<=9 by omega);(have hs:2^(k+1)=2*2^k:=by rw [Nat.pow_succ];omega);obtain⟨L,hL⟩:=nm_ (2^k);rw [<-hL]at hs hp1|-;have HS:=hd_ hs;have HL:=hd_ hL;have HK:=hd_ hk;clear hs hL hk;by_cases hlt:k<p
   . go_wp2
     go_roundg (gk-1)
     case measure=>have:=HK.out;omega
     case rel=>exact⟨rfl,k+1,by have:=HK.out;omega,by go_num,by rw [HS.out];go_num⟩
   go_wp2;(try go_ret);refine hR.out _ _ ⟨?_,rfl⟩;(obtain rfl:k=p:=by omega);rw [<-HL.out];rfl
theorem KY (z:Int) (w:World) :
   Calls prog 259 #[.int .i64 z] w λe w'=>e = .returned (.int .i64 (if z=-1 then 1 else z))/\w=w':=by
 by_cases h:z=-1
 . subst h
   go_enter func259,ntmps259;go_wp2;go_ret;exact⟨rfl,rfl⟩
 rw [if_neg h];(have h1:(z == -1)=false:=by simpa using h);clear h;go_enter func259,ntmps259;go_wp2;go_ret;exact⟨rfl,rfl⟩
theorem Q6W (F:Nat->Prop) (A:Option Addr) (n c:Nat) (lg sy lb:Int) (N:List Int) (w:World) (hr:Rd w F A n (Q7 N)) (hn:(n:Int)<=1099511627776)
   (h:lg<0\/lb<lg\/9<lg\/n=0\/sy<n\/N[n-1]?=some 0) :
   Calls prog 295 #[.agg #[.int .i64 lg,.slice A n c],.int .i64 sy,.int .i64 lb] w λe w'=>e = .returned (.int .i64 13)/\Q0 w w':=by
 have fr:Q0 w (w.alloc (.cells #[.int .i64 lg,.slice A n c] 205)):=(Upd.refl _ _).alloc _;have FR:=hd_ fr;clear fr;by_cases h1:lg<0
 . clear h
   go_enter func295,ntmps295;go_wp2;(all_goals(go_ret;exact⟨rfl,FR.out⟩))
 by_cases h2':lb<lg
 . clear h
   go_enter func295,ntmps295;go_wp2;(all_goals(go_ret;exact⟨rfl,FR.out⟩))
 by_cases h2:9<lg
 . clear h
   go_enter func295,ntmps295;go_wp2;(all_goals(go_ret;exact⟨rfl,FR.out⟩))
 by_cases h3:n=0
 . clear h
   subst h3;go_enter func295,ntmps295;go_wp2;(all_goals(go_ret;exact⟨rfl,FR.out⟩))
 by_cases h4:sy<n
 . clear h
   go_enter func295,ntmps295;go_wp2;(all_goals(go_ret;exact⟨rfl,FR.out⟩))
 have h5:N[n-1]?=some 0:=by
   rcases h with h|h|h|h|h|h;(all_goals first|exact h|omega)
 (have h6:0<n:=by omega);clear h h3;obtain⟨b,o,hk,rfl,hb,hc⟩:=hr.int (k:=n-1) (by omega);(have e0:N[n-1]=0:=by rw [List.getElem?_eq_getElem hk]at h5;simpa using h5);rw [e0]at hc
 have hc':(w.alloc (.cells #[.int .i64 lg,.slice (some ⟨b,o,none⟩) n c] 205)).cell? ⟨b,o+(n-1),none⟩=some (.int .i64 0):=by
   rw [World.cell?_alloc_lt _ _ _ hb];exact hc
 clear hc h5 e0;go_enter func295,ntmps295;go_wp2;(all_goals(go_ret;exact⟨rfl,FR.out⟩))
theorem Q6X (F:Nat->Prop) (A:Option Addr) (n c:Nat) (p:Nat) (sy lb:Int) (N:List Int) (w:World) (hr:Rd w F A n (Q7 N)) (hfit:Fit N)
   (a3:p<=9) (a3b:(p:Int)<=lb) (b1:0<n) (b3:(n:Int)<=sy) (b4:(n:Int)<=1099511627776) (hlast:N[n-1]?≠some 0) :
   Calls prog 295 #[.agg #[.int .i64 p,.slice A n c],.int .i64 sy,.int .i64 lb] w λe w' =>
     e = .returned (.int .i64 (if(∀n∈N,-1<=n)/\QR N=2^p then 0 else 13))/\Q0 w w':=by
 (have hN:N.length=n:=by have:=hr.1;simpa using this);(have b5:1<=(n:Int):=by omega);(have a4:(p:Int)<=9:=by omega);have hsz:=K5 p;obtain⟨b,o,hk,rfl,hb,hc⟩:=hr.int (k:=n-1) (by omega)
 have e0:(N[n-1] == 0)=false:=by
   rw [List.getElem?_eq_getElem hk]at hlast;simpa using hlast
 obtain⟨z,hz⟩:=nm_ (N[n-1]);rw [<-hz]at hc e0;clear hlast hz;obtain⟨w1,hw1⟩:=nm_ (w.alloc (.cells #[.int .i64 p,.slice (some ⟨b,o,none⟩) n c] 205))
 have hc':(w.alloc (.cells #[.int .i64 p,.slice (some ⟨b,o,none⟩) n c] 205)).cell? ⟨b,o+(n-1),none⟩=some (.int .i64 z):=by
   rw [World.cell?_alloc_lt _ _ _ hb];exact hc
 (have hr1:Rd w1 F (some ⟨b,o,none⟩) n (Q7 N):=by rw [hw1];exact hr.alloc _);(have fr:Q0 w w1:=by rw [hw1];exact(Upd.refl _ _).alloc _);(have bt:Blk w1 w.heap.size 205 #[.int .i64 p,.slice (some ⟨b,o,none⟩) n c]:=by rw [hw1];exact Blk.new _ _ _);have HSZ:=hd_ hsz;have HBT:=hd_ bt;have FR:=hd_ fr;have HW:=hd_ hw1;have HR:=hd_ hr1;have HN:=hd_ hN;have HF:=hd_ hfit;have HP:=hd_ a3;clear hc fr hr hr1 hN hw1 hk hfit hsz bt a3;refine Q8 λR hR=>?_;go_enter func295,ntmps295;go_wp2;rw [<-HW.out];have bt0:=HBT.cell 0;have bt1:=HBT.cell 1;have hg1:=HBT.lt;simp at bt0 bt1;obtain⟨H,hH⟩:=nm_ (w.heap.size);rw [<-hH]at bt0 bt1 hg1|-;clear hH hc' e0;go_loopg [7,8] n (λm l i wr=>wr=w1/\∃k:Nat,k+m=n/\i = .int .i64 k/\l = .int .i64 (QR (N.take k))/\QR (N.take k)<=1024/\∀x∈N.take k,-1<=x)
 case atStart=>exact⟨rfl,0,by omega,rfl,by simp [QR],by simp [QR],by simp⟩
 case round =>
   obtain⟨rfl,k,hk,rfl,rfl,hl0,hall⟩:=hrel;have hs0:=Z2 (N.take k);have hle0:=Vm N k;obtain⟨L,hL⟩:=nm_ (QR (N.take k));rw [<-hL]at hs0 hl0 hle0|-;have HA:=hd_ hall;have HS:=hd_ hL;have HL0:=hd_ hle0;clear hall hL hle0;have hpw:=JW HP.out;have HPW:=hd_ (show(2:Int)^p<=512 by exact_mod_cast hpw);clear hpw;by_cases hlt:k<n
   . have hkn:k<N.length:=by have:=HN.out;omega
     have hst:=X4 N k hkn;have hgt:=List.take_succ_eq_append_getElem hkn;have hle:=Vm N (k+1);have hmem:=List.getElem_mem hkn;obtain⟨b',o',_,e,_,hc⟩:=HR.int (k:=k) hlt;injection e with e;injection e with e1 e2;subst e1 e2;obtain⟨z,hz⟩:=nm_ (N[k]);rw [<-hz]at hst hgt hc hmem;have Hst:=hd_ hst;have Hgt:=hd_ hgt;have Hmem:=hd_ hmem;have Hle:=hd_ hle;clear hz hst hgt hmem hle;have HK:=hd_ hk;clear hk;by_cases hz1:z < -1
     . go_wp2
       (all_goals try go_ret);(all_goals refine hR.out _ _ ⟨J6 (if_neg λh=>?_).symm,FR.out⟩);(all_goals have:=h.1 z Hmem.out);(all_goals omega)
     by_cases hz2:512<z
     . go_wp2
       (all_goals try go_ret);(all_goals refine hR.out _ _ ⟨J6 (if_neg λh=>?_).symm,FR.out⟩)
       all_goals
         have h1:=Hle.out;have h2:=HPW.out;have h3:=Hst.out;have h4:=h.2;have h5:=HS.out;(have h6:QP z=z:=by unfold QP;rw [if_neg (by omega)]);omega
     by_cases hz3:512<L
     . go_wp2
       (all_goals try go_ret);(all_goals refine hR.out _ _ ⟨J6 (if_neg λh=>?_).symm,FR.out⟩)
       all_goals
         have h1:=HL0.out;have h2:=HPW.out;have h4:=h.2;omega
     have ha:(if z=-1 then 1 else z)=QP z:=by
       unfold QP;by_cases h:z=-1
       . subst h;rfl
       rw [if_neg h,if_neg (by omega)]
     have hsta:=KY z;rw [ha]at hsta;have hq:0<=QP z/\QP z<=512:=⟨Kq z,by unfold QP;split<;>omega⟩;obtain⟨q,hqd⟩:=nm_ (QP z);rw [<-hqd]at hsta hq;have HQ:=hd_ hqd;have HST:=hd_ hsta;clear hsta ha hqd;go_wp2_with fail;refine(HST _).mono ?_;rintro e w2 ⟨rfl,rfl⟩;go_wp2_with fail;go_roundg (gk-1)
     case measure=>have:=HK.out;omega
     case rel =>
       have h1:=Hst.out;rw [<-HQ.out]at h1;have h2:=HS.out
       exact⟨rfl,k+1,by have:=HK.out;omega,by go_num,by rw [h1];congr 1;omega,by rw [h1];omega,by
         rw [Hgt.out];intro x hx;rcases List.mem_append.1 hx with hx|hx
         . exact HA x hx
         simp at hx;omega⟩
   (obtain rfl:k=n:=by omega);have hN:=HN.out;have e1:N.take N.length=N:=List.take_length;rw [<-hN]at HS HA;have hS:=HS.out;have hA:=HA.out;rw [e1]at hS hA;have HS1:=hd_ hS;have HA1:=hd_ hA;clear hS hA HS HA hN e1 hk hlt;have hsz:=HSZ wr HP.out;obtain⟨q,hqd⟩:=nm_ (2^p);rw [<-hqd]at hsz;have HQ:=hd_ hqd;have HZ:=hd_ hsz;(have HQ2:(2:Int)^p=q:=by rw [hqd];simp);have HQ3:=hd_ HQ2;clear hsz hqd HQ2;go_wp2_with fail;refine HZ.mono ?_;rintro e w2 ⟨rfl,rfl⟩;by_cases hz:L=q
   . subst hz
     go_wp2_with fail;(try go_ret);refine hR.out _ _ ⟨J6 (if_pos ⟨HA1.out,?_⟩).symm,FR.out⟩;rw [<-HS1.out,HQ3.out]
   (have hz':(L != (q:Int))=true:=by simpa using hz);go_wp2_with fail;(try go_ret);refine hR.out _ _ ⟨J6 (if_neg λh=>?_).symm,FR.out⟩;have:=HS1.out;rw [h.2,HQ3.out]at this;omega
theorem Q8M (F:Nat->Prop) (A:Option Addr) (n c:Nat) (lg sy lb:Int) (N:List Int) (w:World) (hr:Rd w F A n (Q7 N)) (hfit:Fit N) (hn:(n:Int)<=1099511627776) :
   Calls prog 295 #[.agg #[.int .i64 lg,.slice A n c],.int .i64 sy,.int .i64 lb] w λe w' =>
     e = .returned (.int .i64 (if Yc lg N sy lb then 0 else 13))/\Q0 w w':=by
 (have hN:N.length=n:=by have:=hr.1;simpa using this);by_cases h:lg<0\/lb<lg\/9<lg\/n=0\/sy<n\/N[n-1]?=some 0
 . rw [if_neg (λhv=>by
     obtain⟨v1,v2,v3,v4,v5,v6,_⟩:=hv;rw [hN]at v6;rcases h with h|h|h|h|h|h
     . omega
     . omega
     . omega
     . omega
     . omega
     exact v6 h)]
   exact Q6W F A n c lg sy lb N w hr hn h
 obtain⟨p,rfl⟩:∃p:Nat,lg=p:=⟨lg.toNat,by omega⟩;have hb:=Q6X F A n c p sy lb N w hr hfit (by omega) (by omega) (by omega) (by omega) hn (λhh=>h (by simp [hh]))
 have e:(if Yc (p:Int) N sy lb then(0:Int)else 13)=if(∀n∈N,-1<=n)/\QR N=2^p then 0 else 13:=by
   by_cases h2:(∀n∈N,-1<=n)/\QR N=2^p
   . rw [if_pos h2,if_pos ⟨by omega,by omega,by omega,by omega,by omega,λhh=>h (by rw [hN]at hh;simp [hh]),h2.1,h2.2⟩]
   rw [if_neg h2,if_neg (λhv=>h2 ⟨hv.2.2.2.2.2.2.1,hv.2.2.2.2.2.2.2⟩)]
 rw [e];exact hb
theorem Q8k (F:Nat->Prop) (A:Option Addr) (n c:Nat) (lg:Int) (N:List Int) (w:World) (hr:Rd w F A n (Q7 N)) (hfit:Fit N) (hn:(n:Int)<=1099511627776) :
   Calls prog 295 #[.agg #[.int .i64 lg,.slice A n c],.int .i64 256,.int .i64 9] w λe w' =>
     e = .returned (.int .i64 (if Yc lg N 256 9 then 0 else 13))/\Q0 w w':=Q8M F A n c lg 256 9 N w hr hfit hn
end Go.Proofs.YtckjdhaflokcgaaGreat
namespace Go.Proofs.YtckjdhaflokcgaaGreat
open Go.ChangeShapes Go.WideShapes Go.ChangeAt Go.RowKit Go.Joins Go.Proofs.Tryz
theorem QaT {k:Int} (h:(Lit.int .i64 k).wf=true):-9223372036854775808<=k/\k<=9223372036854775807:=by
 unfold Lit.wf at h;simp only [Bool.and_eq_true,decide_eq_true_eq]at h;(have h1:IntKind.i64.min=-9223372036854775808:=by decide);(have h2:IntKind.i64.max=9223372036854775807:=by decide);omega
theorem Q6Y {W:World} {x:Addr} {zs:List Int} {n:Nat} (hl:n<=zs.length) (h:∀i,i<zs.length->W.cell? (x.add i)=some (.int .i64 (zs.getD i 0))):Rd W (λ_=>True) (some x) n (Q7 (zs.take n)):=by
 refine⟨by simp;omega,λhn=>?_⟩;obtain⟨b,o,rfl,hc⟩:=ints_at h (by omega);refine⟨b,o,rfl,trivial,World.block_lt_of_cell? _ _ (hc 0 (by omega)),λj hj=>?_⟩;rw [hc j (by omega),Q49 (by simp;omega)];simp [List.getD_eq_getElem?_getD,List.getElem?_eq_getElem (show j<zs.length by omega)]
theorem Qab {k:Int} (h:(Lit.int .u8 k).wf=true):0<=k/\k<=255:=by
 unfold Lit.wf at h;simp only [Bool.and_eq_true,decide_eq_true_eq]at h;(have h1:IntKind.u8.min=0:=by decide);(have h2:IntKind.u8.max=255:=by decide);omega
theorem Q53 {W:World} {x:Addr} {zs:List Int} {n:Nat} (hl:n<=zs.length) (hw:∀z∈zs,(Lit.int .u8 z).wf=true) (h:∀i,i<zs.length->W.cell? (x.add i)=some (.int .u8 (zs.getD i 0))) :
   Rd W (λ_=>True) (some x) n (((zs.take n).map Int.toNat).map λb=>.int .u8 (b:Nat)):=by
 refine⟨by simp;omega,λhn=>?_⟩
 have hx:∃b o,x=⟨b,o,none⟩/\∀j,j<zs.length->W.cell? ⟨b,o+j,none⟩=some (.int .u8 (zs.getD j 0)):=by
   obtain⟨b,o,spot⟩:=x;(have hspot:spot=none:=by simpa [Addr.add]using World.cell?_spot (h 0 (by omega)));subst hspot;exact⟨b,o,rfl,λj hj=>by have:=h j hj;rw [Addr.add_lit]at this;exact this⟩
 obtain⟨b,o,rfl,hc⟩:=hx;refine⟨b,o,rfl,trivial,World.block_lt_of_cell? _ _ (hc 0 (by omega)),λj hj=>?_⟩;rw [hc j (by omega)];(have e:zs.getD j 0=zs[j]'(by omega):=by simp [List.getD,List.getElem?_eq_getElem (show j<zs.length by omega)]);have hb:=Qab (hw _ (List.getElem_mem (show j<zs.length by omega)));rw [e];simp [List.getElem?_take,hj,List.getElem?_eq_getElem (show j<zs.length by omega)];omega
theorem Q5q {H:Type} {enc:TypeId × Value->H} {W:World} {r:Reach} {b0:Nat} {v:Value} {d:DataW H} {p:List MemPlace}
   (hv:Value.okWide prog W r b0 22 v) (h:DataW.Trod enc prog W 0 (λ_=>true) true 22 v d p) :
   ∃(A:Option Addr) (n c:Nat) (bs:List Nat),v = .slice A n c/\Rd W (λ_=>True) A n (bs.map λb=>.int .u8 (b:Nat))/\(∀b∈bs,b<256)/\n<=c:=by
 obtain⟨a1,len,cap,rfl⟩:=okWide_slice underlying22 hv;obtain⟨fuel,hf⟩:=h;rcases open_ints underlying22 underlying5 (by kernel_rfl) hf with ⟨hcs,_⟩|⟨x,l,c,zs,hcs,_,hl,hm,hz,_,hcell,hwz⟩
 . simp [Value.cells]at hcs
   obtain⟨rfl,rfl,rfl⟩:=hcs;exact⟨none,0,0,[],rfl,Rd.nil _ _ _,λx hx=>by simp at hx,Nat.le_refl _⟩
 simp [Value.cells]at hcs;obtain⟨rfl,rfl,rfl⟩:=hcs;simp at hz;refine⟨some x,len,cap,(zs.take len).map Int.toNat,rfl,Q53 (by omega) hwz hcell,λb hb=>?_,hl⟩;obtain⟨z,hz1,rfl⟩:=List.mem_map.1 hb;have:=Qab (hwz z (List.mem_of_mem_take hz1));omega
theorem Q5r {H:Type} {enc:TypeId × Value->H} {W:World} {r:Reach} {b0:Nat} {v:Value} {d:DataW H} {p:List MemPlace}
   (hv:Value.okWide prog W r b0 33 v) (h:DataW.Trod enc prog W 0 (λ_=>true) true 33 v d p) :
   ∃(A:Option Addr) (n c:Nat) (N:List Int),v = .slice A n c/\Rd W (λ_=>True) A n (Q7 N)/\Fit N/\n<=c:=by
 obtain⟨a1,len,cap,rfl⟩:=okWide_slice underlying33 hv;obtain⟨fuel,hf⟩:=h;rcases open_ints underlying33 underlying3 (by kernel_rfl) hf with ⟨hcs,_⟩|⟨x,l,c,zs,hcs,_,hl,hm,hz,_,hcell,hwz⟩
 . simp [Value.cells]at hcs
   obtain⟨rfl,rfl,rfl⟩:=hcs;exact⟨none,0,0,[],rfl,Rd.nil _ _ _,λx hx=>by simp at hx,Nat.le_refl _⟩
 simp [Value.cells]at hcs;obtain⟨rfl,rfl,rfl⟩:=hcs;simp at hz;exact⟨some x,len,cap,zs.take len,rfl,Q6Y (by omega) hcell,λx hx=>QaT (hwz x (List.mem_of_mem_take hx)),hl⟩

end Go.Proofs.YtckjdhaflokcgaaGreat
