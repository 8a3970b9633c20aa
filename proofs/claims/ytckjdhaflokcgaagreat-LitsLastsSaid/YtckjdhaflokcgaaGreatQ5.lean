/-
  Joined texts, part 5: contracts and plain lemmas.
  Conditions: none beyond those of each theorem.
-/
import Derived.Test.YtckjdhaflokcgaaGreatRows
import Derived.Test.YtckjdhaflokcgaaGreatQ4
set_option maxHeartbeats 4000000
set_option linter.unusedVariables false
set_option linter.unusedSimpArgs false
set_option linter.unnecessarySimpa false
set_option maxRecDepth 100000
universe u
namespace Go.Proofs.YtckjdhaflokcgaaGreat
open Go.RowKit
theorem Y5:(Tryz.prog.info? 5).map (fun i=>(i.zero,i.size,i.bytes))=some (some (.int .u8 0),1,1):=by kernel_rfl
theorem KV:(Tryz.prog.info? 3).map (fun i=>(i.zero,i.size,i.bytes))=some (some (.int .i64 0),1,8):=by kernel_rfl
theorem Za:(Tryz.prog.info? 4).map (fun i=>(i.zero,i.size,i.bytes))=some (some (.bool false),1,1):=by kernel_rfl
theorem XQ {k:IntKind} {a b:Int} (h:a=b):Ending.returned (.int k a) = .returned (.int k b):=by rw [h]
theorem Q2O (g:Nat) (v x n k:Nat) (w:World) (hv:w.cell? ⟨g,0,none⟩=some (.int .u64 v)) (hn:w.cell? ⟨g,1,none⟩=some (.int .i64 n))
   (h1:n<=7) (h3:k<=32) (hx:x<2^k) (hvn:v<2^n) (f0:w.frozen? ⟨g,0,none⟩=false) (f1:w.frozen? ⟨g,1,none⟩=false) :
   Calls Tryz.prog 145 #[.pointer (some ⟨g,0,none⟩),.int .u64 x,.int .i64 k] w fun e w'=>e = .returned (.tuple #[]) /\
     ((w.setCell ⟨g,0,none⟩ (.int .u64 (v+x*2^n:Nat))).setCell ⟨g,1,none⟩ (.int .i64 (n+k:Nat))).drew=w':=by
 have e1:bits .or .u64 (v:Int) (IntKind.u64.wrap ((x:Int)*2^n))=((v+x*2^n:Nat):Int):=by
   have hp:2^n<=2^7:=Nat.pow_le_pow_right (by omega) h1;have hk:2^k<=2^32:=Nat.pow_le_pow_right (by omega) h3;have hxn:x*2^n<2^32*2^7:=Nat.lt_of_lt_of_le (Nat.mul_lt_mul_of_pos_right hx (Nat.two_pow_pos n)) (Nat.mul_le_mul hk hp);rw [IntKind.wrap_u64,show((x:Int)*2^n)=((x*2^n:Nat):Int) by simp,show((x*2^n:Nat):Int)%18446744073709551616=((x*2^n:Nat):Int) by omega];rw [u64_or_nat _ _ (by omega) (by omega),Nat.or_comm,nat_join n _ _ (by simp) hvn,Nat.add_comm]
 have E1:=hd_ e1;clear e1;have HX:=hd_ hx;clear hx hvn;go_enter Tryz.func145,Tryz.ntmps145;go_wp2;go_region;(all_goals go_wp2);(all_goals go_end0);(all_goals refine⟨rfl,?_⟩);(all_goals rw [E1.out];rfl)
theorem VC (g:Nat) (n:Nat) (w:World) (hn:w.cell? ⟨g,1,none⟩=some (.int .i64 n)) (h:n<8) :
   Calls Tryz.prog 146 #[.pointer (some ⟨g,0,none⟩)] w fun e w'=>e = .returned (.tuple #[.int .u8 0,.bool false])/\w=w':=by
 go_enter Tryz.func146,Tryz.ntmps146;go_wp2;go_ret2;exact⟨rfl,rfl⟩
theorem V4 (g:Nat) (v n:Nat) (w:World) (hv:w.cell? ⟨g,0,none⟩=some (.int .u64 v)) (hn:w.cell? ⟨g,1,none⟩=some (.int .i64 n)) (h:8<=n) (h':n<=100)
   (f0:w.frozen? ⟨g,0,none⟩=false) (f1:w.frozen? ⟨g,1,none⟩=false) :
   Calls Tryz.prog 146 #[.pointer (some ⟨g,0,none⟩)] w fun e w'=>e = .returned (.tuple #[.int .u8 (v%256:Nat),.bool true]) /\
     (w.setCell ⟨g,0,none⟩ (.int .u64 (v / 256:Nat))).setCell ⟨g,1,none⟩ (.int .i64 (n-8:Nat))=w':=by
 go_enter Tryz.func146,Tryz.ntmps146;go_wp2;go_ret2;exact⟨rfl,by rw [show((n-8:Nat):Int)=(n:Int)-8 by omega];rfl⟩
def QD (w:World) (S:Nat->Prop) (g:Nat) (l:List Bool):Prop :=
  ∃(v n:Nat) (sv:Value) (bs:List Nat),Blk w g 124 #[.int .u64 v,.int .i64 n,sv]/\Own w 5 sv (bs.map fun b=>.int .u8 (b:Nat))/\n<8/\v<2^n /\
    (∀b∈bs,b<256)/\l=Yq bs++Qs n v/\S g/\∀k,sv.ownBlock=some k->S k
def Q1X (w:World) (S:Nat->Prop) (g:Nat) (l:List Bool) (n:Nat):Prop :=
  ∃(v:Nat) (sv:Value) (bs:List Nat),Blk w g 124 #[.int .u64 v,.int .i64 n,sv]/\Own w 5 sv (bs.map fun b=>.int .u8 (b:Nat))/\v<2^n /\
    (∀b∈bs,b<256)/\l=Yq bs++Qs n v/\S g/\∀k,sv.ownBlock=some k->S k
theorem Q2P {x n:Nat} (j gk:Nat) (hgk:gk<=32) (hx:x<2^n) (hn:n<=32) (_:j<=n) :
   bits .and .u64 ((x:Int) / 2^j) (IntKind.u64.wrap (IntKind.u64.wrap (2^gk)-1))=((x / 2^j%2^gk:Nat):Int):=by
 have h1:2^gk<=2^32:=Nat.pow_le_pow_right (by omega) hgk;have h2:2^n<=2^32:=Nat.pow_le_pow_right (by omega) hn;have h3:=Nat.two_pow_pos gk
 have e1:IntKind.u64.wrap (IntKind.u64.wrap (2^gk)-1)=((2^gk-1:Nat):Int):=by
   rw [IntKind.wrap_u64,IntKind.wrap_u64,show(2:Int)^gk=((2^gk:Nat):Int) by simp];omega
 have h4:x / 2^j<=x:=Nat.div_le_self _ _;rw [e1,show(x:Int) / 2^j=((x / 2^j:Nat):Int) by simp,u64_and_nat _ _ (by omega) (by omega),Nat.and_two_pow_sub_one_eq_mod]
theorem Q3y (S:Nat->Prop) (g:Nat) (x n:Nat) (l:List Bool) (w:World) (hw:QD w S g l) (hn:n<=32) (hx:x<2^n) (hl:l.length<=2^30) (hS:∀k,w.heap.size<=k->S k) :
   Calls Tryz.prog 89 #[.pointer (some ⟨g,0,none⟩),.int .u64 x,.int .i64 n] w fun e w'=>e = .returned (.int .i64 0) /\
     Upd S w w'/\QD w' S g (l++Qs n x):=by
 have t1:((x:Int) / 2^n != 0)=false:=by
   (have:((x:Int) / 2^n)=((x / 2^n:Nat):Int):=by simp);rw [this,Nat.div_eq_of_lt hx];rfl
 have HX:=hd_ hx;clear hx;go_enter Tryz.func89,Tryz.ntmps89;go_wp2_with fail;go_loopg [1,2] n (fun m v1 v2 wr=>∃j,j+m=n/\v1 = .int .u64 (x / 2^j:Nat)/\v2 = .int .i64 m/\Upd S w wr/\QD wr S g (l++Qs j x))
 case atStart=>exact⟨0,by omega,by simp,rfl,Upd.refl _ _,by simpa [Qs]using hw⟩
 case round =>
   obtain⟨j,hj,rfl,rfl,hu,v,n0,sv,bs,hb,ho,hn0,hv0,hbs,hlb,hSg,hSs⟩:=hrel;have hc0:=hb.cell 0;have hc1:=hb.cell 1;have hc2:=hb.cell 2;have HB:=hd_ hb;simp at hc0 hc1 hc2;clear hb;(have hgk:gk<=32:=by omega);have HJ:=hd_ hj;have HL:=hd_ hlb;clear hj hlb;by_cases hg0:0<gk
   . go_wp2_with fail
     go_still_tail 9,(by kernel_rfl);change wpList _ _ _ _ _ wr.drew;go_wp2_with fail;rw [Q2P _ _ hgk HX.out hn (by have:=HJ.out;omega)];refine(Q2O g v (x / 2^j%2^gk) n0 gk wr.drew hc0 hc1 (by omega) hgk (Nat.mod_lt _ (Nat.two_pow_pos _)) hv0 (by simpa using HB.out.frozen 0) (by simpa using HB.out.frozen 1)).mono ?_;rintro e w2 ⟨rfl,hw2⟩
     have r0:Q1X w2 S g (l++Qs (j+gk) x) (n0+gk):=by
       subst hw2;refine⟨_,sv,bs,((HB.out.drew.set_ 0 _).set_ 1 _).drew,((ho.drew.far (by simpa using ho.ne_blk HB.out (by decide)) _).far (by simpa using ho.ne_blk HB.out (by decide)) _).drew,?_,hbs,?_,hSg,hSs⟩
       . have h1:=Nat.mod_lt (x / 2^j) (Nat.two_pow_pos gk)
         rw [Nat.pow_add]
         calc v+x / 2^j%2^gk*2^n0<2^n0+x / 2^j%2^gk*2^n0:=by omega
           _=(x / 2^j%2^gk+1)*2^n0:=by rw [Nat.add_mul];omega
           _<=2^gk*2^n0:=Nat.mul_le_mul_right _ h1
           _=2^n0*2^gk:=Nat.mul_comm _ _
       rw [Jk j gk x,<-List.append_assoc,HL.out,List.append_assoc,<-V7 gk,VE hv0,Nat.mul_comm (2^n0)]
     have u0:Upd S w w2:=by
       subst hw2;exact((hu.drew.setCell (fun _=>hSg) _).setCell (fun _=>hSg) _).drew
     clear hw2 ho hc0 hc1 hc2 HB hu HL hv0 hSs hbs bs sv;obtain⟨k0,rfl⟩:∃k0,k0=gk:=⟨gk,rfl⟩;obtain⟨wo,rfl⟩:=nm_ (wr);go_wp2_with fail;(have hlen:(l++Qs (j+k0) x).length<=2^31:=by have:=HJ.out;simp;omega);go_loopg [] (n0+k0) (fun m wr=>Upd S w wr/\Q1X wr S g (l++Qs (j+k0) x) m/\m<=39)
     case atStart=>exact⟨u0,r0,by omega⟩
     case round =>
       obtain⟨hu,⟨v,sv,bs,hb,ho,hv0,hbs,hlb,hSg,hSs⟩,hm⟩:=hrel;have hc0:=hb.cell 0;have hc1:=hb.cell 1;have hc2:=hb.cell 2;have HB:=hd_ hb;simp at hc0 hc1 hc2;clear hb;have HL:=hd_ hlb;clear hlb;by_cases hm8:gk<8
       . go_wp2_with (go_at_call 146;refine(VC g gk wr hc1 hm8).mono ?_;rintro e w' ⟨rfl,rfl⟩)
         go_roundg 0
         case measure=>omega
         case rel=>exact⟨j+k0,by have:=HJ.out;omega,by simp [Nat.pow_add,<-Nat.div_div_eq_div_mul],by simp,hu,v,gk,sv,bs,HB.out,ho,hm8,hv0,hbs,HL.out,hSg,hSs⟩
       go_wp2_with fail;refine(V4 g v gk wr hc0 hc1 (by omega) (by omega) (HB.out.frozen 0) (HB.out.frozen 1)).mono ?_;rintro e w3 ⟨rfl,hw3⟩
       have b3:Blk w3 g 124 #[.int .u64 (v / 256:Nat),.int .i64 (gk-8:Nat),sv]:=by
         subst hw3;exact(HB.out.set_ 0 _).set_ 1 _
       have o3:Own w3 5 sv (bs.map fun b=>.int .u8 (b:Nat)):=by
         subst hw3;exact(ho.far (by simpa using ho.ne_blk HB.out (by decide)) _).far (by simpa using ho.ne_blk HB.out (by decide)) _
       have u3:Upd S w w3:=by
         subst hw3;exact(hu.setCell (fun _=>hSg) _).setCell (fun _=>hSg) _
       clear hw3 ho hu hc0 hc1 hc2 HB;have hc2:=b3.cell 2;have hf2:=b3.frozen 2;have B3:=hd_ b3;simp at hc2;clear b3
       have hrd:Rd (w3.alloc (.cells #[.int .u8 ((v:Int)%256)] 5)) (fun b=>b=w3.heap.size) (some ⟨w3.heap.size,0,none⟩) 1 [.int .u8 ((v:Int)%256)] :=
         Rd.one _ _ _
       go_wp2_with (at_builtin;go_must (refine Qt _ rfl (.tmp 57) (.tmp 59) _ rfl 5 _ 1 Tryz.underlying22 Y5 rfl sv _ rfl (o3.alloc _) _ 1 _ _ rfl hrd (by simp [Value.oneCell']) (by omega) ?hlen ?_))
       case hlen=>have:=HL.out;have h1:=congrArg List.length this;simp at h1 hlen ⊢;omega
       intro v' w4 o4 hg4 hat4;obtain⟨A4,n4,c4,rfl,_⟩:=o4.form';have b4:=(B3.out.alloc (.cells #[.int .u8 ((v:Int)%256)] 5)).grown hg4 (o3.ne_blk B3.out (by decide));have u4:Upd S w w4:=(u3.alloc _).grown hg4 fun k hk _=>hSs k hk
       have S4:∀k,(Value.slice A4 n4 c4).ownBlock=some k->S k:=by
         intro k hk;rcases hat4 with e|e
         . exact hSs k (e ▸ hk)
         rw [e]at hk;injection hk with hk;subst hk;exact hS _ (by have:=u3.size;simp;omega)
       have hc2:=b4.cell 2;have hf2:=b4.frozen 2;have B4:=hd_ b4;simp at hc2;have HS4:=hd_ S4;have HO4:=hd_ o4;clear b4 B3 o3 u3 hrd hg4 hat4 S4 o4;go_wp2;go_roundg (gk-8)
       case measure=>omega
       case rel =>
         refine⟨u4.setCell (fun _=>hSg) _,⟨v / 256,_,bs++[v%256],(B4.out.set_ 2 _),?_,?_,?_,?_,hSg,HS4.out⟩,by omega⟩
         . have:=HO4.out.far (p:=⟨g,2,none⟩) (HO4.out.ne_blk B4.out (by decide)) (.slice A4 n4 c4)
           simpa using this
         . rw [Nat.div_lt_iff_lt_mul (by omega),show 256=2^8 from rfl,<-Nat.pow_add,show gk-8+8=gk by omega];exact hv0
         . intro b hb
           rcases List.mem_append.1 hb with h|h
           . exact hbs b h
           simp at h;omega
         rw [HL.out,Xi,List.append_assoc]
         congr 1
         have:=Jk 8 (gk-8) v;rw [show 8+(gk-8)=gk by omega]at this;rw [this,show Qs 8 v=Yq [v%256] by rw [YF,VF,List.append_nil];exact(V7 8 v).symm]
   go_wp2;go_ret;(obtain rfl:gk=0:=by omega);(obtain rfl:j=n:=by have:=HJ.out;omega);exact⟨rfl,hu,v,n0,sv,bs,HB.out,ho,hn0,hv0,hbs,HL.out,hSg,hSs⟩
theorem Yo {F:Nat->Prop} (A:Option Addr) (n c:Nat) (xs:List Value) (w:World) (hr:Rd w F A n xs) (h1:∀u∈xs,u.oneCell'=true) (hn:n<=2^40) :
   Calls Tryz.prog 61 #[.slice A n c] w fun e w'=>∃v,e = .returned v/\Own w' 5 v xs/\Q0 w w'/\∀k,v.ownBlock=some k->w.heap.size<=k:=by
 have q:∀(w:World) (a:Option Addr) (n c n' c':Nat),(binOp .eql 22 (.slice a n c) (.slice none n' c')).run Tryz.prog w = .ok (.bool a.isNone) w :=
   fun w a n c n' c'=>Lib.run_eql_slice_nil w _ _ a n c n' c' Tryz.underlying22
 rcases A with _|ad
 . have hx:n=0:=by
     rcases Nat.eq_zero_or_pos n with h|h
     . exact h
     obtain⟨_,_,h,_⟩:=hr.2 h;cases h
   subst hx;have hxs:xs=[]:=List.eq_nil_of_length_eq_zero hr.1;subst hxs;go_enter Tryz.func61,Tryz.ntmps61;go_wp2;go_ret;exact⟨_,rfl,Own.nil _ _,Upd.refl _ _,by simp [Value.ownBlock]⟩
 have o0:Own (w.alloc (.cells #[] 5)) 5 (.slice (some ⟨w.heap.size,0,none⟩) 0 0) []:=World.ownsRow_made w #[] 0 (Nat.zero_le _) (by simp [maxLen]) (by simp);have hlen:n<=1099511627776:=hn;clear hn;go_enter Tryz.func61,Tryz.ntmps61;go_wp2_with (at_builtin;go_must (refine Qt _ rfl (.tmp 5) (.tmp 6) _ rfl 5 _ 1 Tryz.underlying22 Y5 rfl _ [] rfl o0 _ n _ _ rfl (hr.alloc _) h1 (by omega) (by simpa using hlen) ?_));intro v' w1 o1 g1 a1;go_wp2;go_ret;exact⟨v',rfl,by simpa using o1,((Upd.refl _ _).alloc _).grown g1 (fun k hk hlt=>by simp [Value.ownBlock]at hk;omega),YD (S:=fun k=>w.heap.size<=k) a1 (fun k hk=>by simp [Value.ownBlock]at hk;omega) (by simp)⟩
theorem Q1t (S:Nat->Prop) (g:Nat) (l:List Bool) (w:World) (hw:QD w S g l) (hl:l.length<=2^40) :
   Calls Tryz.prog 148 #[.pointer (some ⟨g,0,none⟩)] w fun e w'=>∃v,e = .returned v/\Own w' 5 v ((QE l).map fun b=>.int .u8 (b:Nat))/\Q0 w w' /\
     ∀k,v.ownBlock=some k->w.heap.size<=k:=by
 obtain⟨v,n0,sv,bs,hb,ho,hn0,hv0,hbs,hlb,hSg,hSs⟩:=hw;(have e1:QE l=bs++QE (Qs n0 v):=by rw [hlb,Z4 _ _ hbs]);(have hlen:bs.length<=2^38:=by have h2:=congrArg List.length hlb;simp at h2;omega);have E1:=hd_ e1;clear e1 hlb hl;have hc0:=hb.cell 0;have hc1:=hb.cell 1;have hc2:=hb.cell 2;have HB:=hd_ hb;clear hb;simp at hc0 hc1 hc2;obtain⟨A,c,rfl,hn,hr⟩:=ho.form;have HL:=hd_ hlen;clear hlen;simp only [List.length_map]at hc2 hr hn;go_enter Tryz.func148,Tryz.ntmps148;go_wp2_with fail;refine(Yo A _ c _ w hr (by simp [Value.oneCell']) (by have:=HL.out;omega)).mono ?_;rintro e w1 ⟨v1,rfl,o1,f1,k1⟩;obtain⟨hc0,hc1⟩:=((HB.out.fresh f1)).cells2;by_cases h0:0<n0
 . have hrd:Rd (w1.alloc (.cells #[.int .u8 ((v:Int)%256)] 5)) (fun b=>b=w1.heap.size) (some ⟨w1.heap.size,0,none⟩) 1 [.int .u8 ((v:Int)%256)]:=Rd.one _ _ _
   go_wp2_with (at_builtin;go_must (refine Qt _ rfl (.tmp 17) (.tmp 24) _ rfl 5 _ 1 Tryz.underlying22 Y5 rfl v1 _ rfl (o1.alloc _) _ 1 _ _ rfl hrd (by simp [Value.oneCell']) (by omega) (by have:=HL.out;simp;omega) ?_));intro v' w2 o2 g2 a2;go_wp2;go_ret;refine⟨v',rfl,?_,(f1.alloc _).grown g2 (fun k hk hlt=>by have:=k1 k hk;omega),YD (S:=fun k=>w.heap.size<=k) a2 k1 (by have:=f1.size;simp;omega)⟩;rw [E1.out,Je _ (by simpa using h0) (by simp;omega),Yt,Nat.mod_eq_of_lt hv0];have:v<2^8:=Nat.lt_of_lt_of_le hv0 (Nat.pow_le_pow_right (by omega) (by omega));rw [show((v:Int)%256)=(v:Int) by omega]at o2;simpa using o2
 go_wp2;go_ret;(obtain rfl:n0=0:=by omega);exact⟨v1,rfl,by rw [E1.out];simpa [Qs,Q0T]using o1,f1,k1⟩
theorem XR (x y q k:Nat) (hx:x<2^q) (hy:y<2^k) (h:q+k<=64) :
   bits .or .u64 (x:Int) (IntKind.u64.wrap ((y:Int)*2^q))=((x+y*2^q:Nat):Int):=by
 have h1:y*2^q<2^k*2^q:=Nat.mul_lt_mul_of_pos_right hy (Nat.two_pow_pos q);(have h2:2^k*2^q<=2^64:=by rw [<-Nat.pow_add];exact Nat.pow_le_pow_right (by omega) (by omega));have h3:2^q<=2^64:=Nat.pow_le_pow_right (by omega) (by omega);rw [IntKind.wrap_u64,show((y:Int)*2^q)=((y*2^q:Nat):Int) by simp,show((y*2^q:Nat):Int)%18446744073709551616=((y*2^q:Nat):Int) by omega];rw [u64_or_nat _ _ (by omega) (by omega),Nat.or_comm,nat_join q _ _ (by simp) hx,Nat.add_comm]
theorem Q2Q (b s k:Nat) (hb:b<256) (hk:k<=8) :
   bits .and .u64 ((b:Int) / 2^s) (IntKind.u64.wrap (IntKind.u64.wrap (2^k)-1))=((b / 2^s%2^k:Nat):Int):=by
 have h1:2^k<=2^8:=Nat.pow_le_pow_right (by omega) hk;have h3:=Nat.two_pow_pos k
 have e1:IntKind.u64.wrap (IntKind.u64.wrap (2^k)-1)=((2^k-1:Nat):Int):=by
   rw [IntKind.wrap_u64,IntKind.wrap_u64,show(2:Int)^k=((2^k:Nat):Int) by simp];omega
 have h4:b / 2^s<=b:=Nat.div_le_self _ _;rw [e1,show(b:Int) / 2^s=((b / 2^s:Nat):Int) by simp,u64_and_nat _ _ (by omega) (by omega),Nat.and_two_pow_sub_one_eq_mod]
theorem Q0E (F:Nat->Prop) (pa pq pn pv pr g:Nat) (A:Option Addr) (m c:Nat) (bs:List Nat) (a q n x:Nat) (w:World)
   (ca:w.cell? ⟨pa,0,none⟩=some (.int .i64 a)) (cq:w.cell? ⟨pq,0,none⟩=some (.int .i64 q)) (cn:w.cell? ⟨pn,0,none⟩=some (.int .i64 n)) (cv:w.cell? ⟨pv,0,none⟩=some (.int .u64 x))
   (cr:w.cell? ⟨pr,0,none⟩=some (.pointer (some ⟨g,0,none⟩))) (cg:w.cell? ⟨g,0,none⟩=some (.slice A m c)) (hr:Rd w F A m (bs.map fun b=>.int .u8 (b:Nat))) (hb:∀b∈bs,b<256)
   (fq:w.frozen? ⟨pq,0,none⟩=false) (fv:w.frozen? ⟨pv,0,none⟩=false) (hqv:pq≠pv) (hnv:pn≠pv) (hav:pa≠pv) (hrv:pr≠pv)
   (hq:q<n) (hn:n<=64) (han:a+n<=8*m) (hm:m<=2^32) (hx:x<2^q) :
   Calls Tryz.prog 314 #[.pointer (some ⟨pa,0,none⟩),.pointer (some ⟨pq,0,none⟩),.pointer (some ⟨pn,0,none⟩),.pointer (some ⟨pv,0,none⟩),.pointer (some ⟨pr,0,none⟩)] w
     fun e w'=>e = .returned (.tuple #[]) /\
       ((w.setCell ⟨pv,0,none⟩ (.int .u64 (x+Yn bs / 2^(a+q)%2^(min (8-(a+q)%8) (n-q))*2^q:Nat))).setCell ⟨pq,0,none⟩ (.int .i64 (q+min (8-(a+q)%8) (n-q):Nat))).drew=w':=by
 (have hbl:bs.length=m:=by have:=hr.1;simpa using this);(have hj:(a+q) / 8<m:=by omega);obtain⟨b,o,rfl,_,hbs,hc⟩:=hr.at_ hj;(have hjb:(a+q) / 8<bs.length:=by omega);have hbyte:=Q0U bs hb _ hjb;have hlt:=hb _ (List.getElem_mem hjb);(have hc':w.cell? ⟨b,o+(a+q) / 8,none⟩=some (.int .u8 (bs[(a+q) / 8]:Nat)):=by rw [hc];simp [hjb]);generalize bs[(a+q) / 8]=y at *;obtain⟨s,hs⟩:=nm_ ((a+q)%8);obtain⟨k,hk⟩:=nm_ (min (8-(a+q)%8) (n-q));rw [<-hk];(have hk8:s+k<=8:=by omega);(have hkn:q+k<=n:=by omega)
 have hval:y / 2^s%2^k=Yn bs / 2^(a+q)%2^k:=by
   rw [<-hbyte,Q0V _ _ _ _ hk8,show 8*((a+q) / 8)+s=a+q by omega]
 have e1:=Q2Q y s k hlt (by omega);have e2:=XR x (y / 2^s%2^k) q k hx (Nat.mod_lt _ (Nat.two_pow_pos k)) (by omega);(have hi1:((a:Int)+q)%8=(s:Int):=by omega);(have hi2:((8-(s:Int)=k)/\(k:Int)<=n-q)\/((n:Int)-q=k/\(k:Int)<8-s):=by omega);have hi3:IntKind.i64.wrap ((a:Int)+q)=a+q:=IntWalk.i64_in _ (by omega);(have hi5:((a:Int)+q).tdiv 8=(((a+q) / 8:Nat):Int):=by rw [Int.tdiv_eq_ediv_of_nonneg (by omega)];omega);have hi6:IntKind.i64.wrap (((a+q) / 8:Nat):Int)=(((a+q) / 8:Nat):Int):=IntWalk.i64_in _ (by omega);(have hi4:(((a+q) / 8:Nat):Int)<m:=by omega);(have hi7:IntKind.u64.wrap (y:Int)=y:=by rw [IntKind.wrap_u64];omega);obtain⟨j,hjd⟩:=nm_ ((a+q) / 8);rw [<-hjd]at hc' hi4 hi5 hi6;rw [<-hval];(have hs0:s<=7:=by omega);clear hr hbyte hval hc hjb hj hb hjd;have E1:=hd_ e1;have E2:=hd_ e2;have HX:=hd_ hx;(have hm':(m:Int)<=4294967296:=by omega);clear e1 e2 hx hs hk hm hbl;refine Qg fun R hR=>?_;rcases hi2 with ⟨r1,hi2⟩|⟨r1,hi2⟩
 all_goals
   go_enter Tryz.func314,Tryz.ntmps314;go_wp2_with fail;go_still_tail 21,(by kernel_rfl);change wpList _ _ _ _ _ w.drew;rw [E1.out,E2.out];go_wp2;(try go_end0);refine hR.out _ _ ⟨rfl,?_⟩;simp
def Q4L (w:World) (F:Nat->Prop) (g:Nat) (bs:List Nat) (fr:Nat):Prop :=
  ∃(A:Option Addr) (c:Nat),Blk w g 350 #[.slice A bs.length c,.int .i64 fr,.int .i64 (8*bs.length:Nat)]/\Rd w F A bs.length (bs.map fun b=>.int .u8 (b:Nat)) /\
    (∀b∈bs,b<256)/\fr<=8*bs.length/\bs.length<=2^32
theorem Q1e (F:Nat->Prop) (g:Nat) (A:Option Addr) (m c:Nat) (bs:List Nat) (a n:Nat) (w:World)
   (cg:w.cell? ⟨g,0,none⟩=some (.slice A m c)) (hr:Rd w F A m (bs.map fun b=>.int .u8 (b:Nat))) (hb:∀b∈bs,b<256) (hn:n<=64) (han:a+n<=8*m) (hm:m<=2^32) :
   Calls Tryz.prog 302 #[.pointer (some ⟨g,0,none⟩),.int .i64 a,.int .i64 n] w fun e w'=>e = .returned (.int .u64 (Yn bs / 2^a%2^n:Nat))/\Q0 w w':=by
 have hg:=World.block_lt_of_cell? _ _ cg;(have hnI:(n:Int)<=64:=by omega);(have haI:(a:Int)<=34359738368:=by omega);have HB:=hd_ hb;have HR:=hd_ hr;have HG:=hd_ cg;clear hr cg hb;refine Qg fun R hR=>?_;go_enter Tryz.func302,Tryz.ntmps302;go_wp2_with fail;obtain⟨H,hH⟩:=nm_ (w.heap.size);have HH:=hd_ hH;rw [<-hH]at hg;simp only [<-hH]
 go_loopg [] n (fun m' wr=>∃q:Nat,q+m'<=n/\n<=q+m'/\Blk wr H 365 #[.pointer (some ⟨g,0,none⟩)]/\Blk wr (H+1) 3 #[.int .i64 a]/\Blk wr (H+1+1) 3 #[.int .i64 n] /\
   Blk wr (H+1+1+1) 80 #[.int .u64 (Yn bs / 2^a%2^q:Nat)]/\Blk wr (H+1+1+1+1) 3 #[.int .i64 q]/\Q0 w wr)
 case atStart =>
   refine⟨0,by omega,by omega,?_,?_,?_,?_,?_,(((((Upd.refl _ w).alloc _).alloc _).alloc _).alloc _).alloc _⟩
   . exact((((Qc hH _ _).alloc _).alloc _).alloc _).alloc _
   . exact(((Qc (by simp [hH]) _ _).alloc _).alloc _).alloc _
   . exact((Qc (by simp [hH]) _ _).alloc _).alloc _
   . simp only [Nat.pow_zero,Nat.mod_one]
     exact(Qc (by simp [hH]) _ _).alloc _
   exact Qc (by simp [hH]) _ _
 case round =>
   obtain⟨q,hq1,hq2,b0,b1,b2,b3,b4,hf⟩:=hrel;have hc2:=b2.cell0;have hc4:=b4.cell0;have hc3:=b3.cell0;have hf3:=b3.frozen 0;have HF:=hd_ hf;by_cases hlt:q<n
   . have hk:=Q0E F (H+1) (H+1+1+1+1) (H+1+1) (H+1+1+1) H g A m c bs a q n (Yn bs / 2^a%2^q) wr b1.cell0 hc4 hc2 hc3 b0.cell0
       (by rw [hf.cells g 0 (by omega)];exact HG.out) (HR.out.fresh hf) HB.out (b4.frozen 0) hf3 (by omega) (by omega) (by omega) (by omega) hlt hn han hm (Nat.mod_lt _ (Nat.two_pow_pos q))
     rw [Nat.pow_add,<-Nat.div_div_eq_div_mul]at hk;obtain⟨k,hkd⟩:=nm_ (min (8-(a+q)%8) (n-q));rw [<-hkd,<-Xk]at hk;(have hk1:1<=k/\k<=n-q:=by omega);have HK:=hd_ hk;have B0:=hd_ b0;have B1:=hd_ b1;have B2:=hd_ b2;have B3:=hd_ b3;have B4:=hd_ b4;clear b0 b1 b2 b3 b4 hk hkd hf hH;go_wp2_with fail;refine HK.out.mono ?_;rintro e w1 ⟨rfl,hw1⟩;(have c0:Blk w1 H 365 #[.pointer (some ⟨g,0,none⟩)]:=by subst hw1;exact((B0.out.far (p:=⟨_,_,_⟩) (by simp<;>omega) _).far (p:=⟨_,_,_⟩) (by simp<;>omega) _).drew);(have c1:Blk w1 (H+1) 3 #[.int .i64 a]:=by subst hw1;exact((B1.out.far (p:=⟨_,_,_⟩) (by simp<;>omega) _).far (p:=⟨_,_,_⟩) (by simp<;>omega) _).drew);(have c2:Blk w1 (H+1+1) 3 #[.int .i64 n]:=by subst hw1;exact((B2.out.far (p:=⟨_,_,_⟩) (by simp) _).far (p:=⟨_,_,_⟩) (by simp<;>omega) _).drew);(have c3:Blk w1 (H+1+1+1) 80 #[.int .u64 (Yn bs / 2^a%2^(q+k):Nat)]:=by subst hw1;exact((B3.out.set_ 0 _).far (p:=⟨_,_,_⟩) (by simp) _).drew);(have c4:Blk w1 (H+1+1+1+1) 3 #[.int .i64 (q+k:Nat)]:=by subst hw1;exact((B4.out.far (p:=⟨_,_,_⟩) (by simp) _).set_ 0 _).drew)
     have f1:Q0 w w1:=by
       subst hw1;have:=HH.out;exact((HF.out.setCell (p:=⟨_,_,_⟩) (fun h=>by simp at h;omega) _).setCell (p:=⟨_,_,_⟩) (fun h=>by simp at h;omega) _).drew
     clear hw1 B0 B1 B2 B3 B4 HF hc2 hc4 hc3 hf3;have HC:=hd_ (show _/\_/\_/\_/\_/\_ from⟨c0,c1,c2,c3,c4,f1⟩);clear c0 c1 c2 c3 c4 f1;go_wp2;go_roundg (gk-k)
     case measure=>omega
     case rel=>exact⟨q+k,by omega,by omega,HC.out⟩
   (obtain rfl:q=n:=by omega);clear b0 b1 b2 b4 hf hH;have HC3:=hd_ b3;clear b3;go_wp2;refine bodyPost_ret (v:=.int .u64 (Yn bs / 2^a%2^q:Nat)) ?_ rfl (hR.out _ _ ⟨rfl,HF.out.setCell (p:=⟨_,_,_⟩) (fun h=>by have:=HH.out;simp at h;omega) _⟩);have hcc:=(HC3.out.set_ 0 (.int .u64 (Yn bs / 2^a%2^q:Nat))).cell0;simp at hcc;simp [results,Tryz.results302,go_sem,hcc]
theorem Ka (g:Nat) (fr to_:Nat) (w:World) (c1:w.cell? ⟨g,1,none⟩=some (.int .i64 fr)) (c2:w.cell? ⟨g,2,none⟩=some (.int .i64 to_)) (h:fr<=to_) (h':to_<=2^40) :
   Calls Tryz.prog 282 #[.pointer (some ⟨g,0,none⟩)] w fun e w'=>e = .returned (.int .i64 (to_-fr:Nat))/\∃k,w'=w.drewN k:=by
 (have h1:(to_:Int)<=1099511627776:=by omega);(have e1:((to_-fr:Nat):Int)=to_-fr:=by omega);have E1:=hd_ e1;clear e1 h';refine Qg fun R hR=>?_;go_enter Tryz.func282,Tryz.ntmps282;go_wp2;go_quiet (fail);go_wp2;(try go_ret);exact hR.out _ _ ⟨XQ (by rw [E1.out]),_,rfl⟩
theorem Q3N (g:Nat) (fr to_ n:Nat) (sh:Int) (w:World) (c1:w.cell? ⟨g,1,none⟩=some (.int .i64 fr)) (c2:w.cell? ⟨g,2,none⟩=some (.int .i64 to_)) (h':to_<=2^40) (hn:n<=64)
   (h:fr+n<=to_) :
   Calls Tryz.prog 316 #[.pointer (some ⟨g,0,none⟩),.int .i64 n,.int .i64 sh] w fun e w'=>e = .returned (.int .i64 0)/\∃k,w'=w.drewN k:=by
 have hk:=Ka g fr to_ w c1 c2 (by omega) h';have HK:=hd_ hk;(have h1:(to_:Int)<=1099511627776:=by omega);(have h2:(n:Int)<=((to_-fr:Nat):Int):=by omega);clear hk h';generalize to_-fr=d at *;refine Qg fun R hR=>?_;go_enter Tryz.func316,Tryz.ntmps316;go_wp2_with (go_at_call 282;refine HK.out.mono ?_;rintro e w' ⟨rfl,k,rfl⟩);(try go_ret);exact hR.out _ _ ⟨rfl,_,rfl⟩
def Q4R (fr:Nat):Nat:=(8-fr%8)%8
def Qe (w:World) (F:Nat->Prop) (g:Nat) (bs:List Nat) (at_:Nat):Prop :=
  ∃(A:Option Addr) (c:Nat),Blk w g 96 #[.slice A bs.length c,.int .i64 at_]/\Rd w F A bs.length (bs.map fun b=>.int .u8 (b:Nat)) /\
    (∀b∈bs,b<256)/\at_<=bs.length/\bs.length<=2^32/\bs.length<=c
theorem Qe.upd {w w':World} {F S:Nat->Prop} {g:Nat} {bs:List Nat} {at_:Nat} (h:Qe w F g bs at_) (hu:Upd S w w') (hg:¬S g) (hF:∀b,b<w.heap.size->F b->¬S b):Qe w' F g bs at_:=by
 obtain⟨A,c,hb,hr,r⟩:=h;exact⟨A,c,hb.upd hu hg,hr.upd hu hF,r⟩
theorem Qe.fresh {w w':World} {F:Nat->Prop} {g:Nat} {bs:List Nat} {at_:Nat} (h:Qe w F g bs at_) (hu:Q0 w w'):Qe w' F g bs at_:=h.upd hu (fun h=>h) (fun _ _ _ h=>h)
theorem Qe.both {w:World} {F:Nat->Prop} {g:Nat} {bs:List Nat} {at_:Nat} (h:Qe w F g bs at_):Qe w (fun b=>F b/\b<w.heap.size) g bs at_:=by
 obtain⟨A,c,hb,hr,r⟩:=h;exact⟨A,c,hb,hr.both,r⟩
theorem Qe.mono {w:World} {F G:Nat->Prop} {g:Nat} {bs:List Nat} {at_:Nat} (h:Qe w F g bs at_) (hG:∀b,F b->G b):Qe w G g bs at_:=by
 obtain⟨A,c,hb,hr,r⟩:=h;exact⟨A,c,hb,hr.mono hG,r⟩
theorem Qe.lt {w:World} {F:Nat->Prop} {g:Nat} {bs:List Nat} {at_:Nat} (h:Qe w F g bs at_):g<w.heap.size:=by
 obtain⟨A,c,hb,_⟩:=h;exact hb.lt
theorem V5 (F:Nat->Prop) (A:Option Addr) (n c:Nat) (bs:List Nat) (w:World) (hr:Rd w F A n (bs.map fun b=>.int .u8 (b:Nat))) (hlt:∀b∈bs,b<256) (hlen:bs.length<=2^32) :
   Calls Tryz.prog 25 #[.slice A n c] w fun e w'=>∃g,e = .returned (.pointer (some ⟨g,0,none⟩))/\w.heap.size<=g/\Q0 w w' /\
     Qe w' (fun k=>w.heap.size<=k/\k≠g) g bs 0:=by
 (have hn:n=bs.length:=by have:=hr.1;simpa using this.symm);subst hn;have hk:=Yo A bs.length c _ w hr (by simp [Value.oneCell']) (by omega);have HK:=hd_ hk;clear hk hr;refine Qg fun R hR=>?_;go_enter Tryz.func25,Tryz.ntmps25;go_wp2_with fail;refine HK.out.mono ?_;rintro e w1 ⟨v,rfl,o1,f1,k1⟩;obtain⟨A',n',c',rfl,hn'⟩:=o1.form';have hrd:=(o1.rd rfl).2.2;have hcap:=(o1.rd rfl).2.1;have HC:=hd_ hcap;(have hn2:n'=bs.length:=by simpa using hn'.out);have HN:=hd_ hn2;clear hn2 hn' hcap;go_wp2;(try go_ret);have:=HN.out;subst this;refine hR.out _ _ ⟨w1.heap.size,rfl,f1.size,f1.alloc _,A',c',?_,?_,hlt,by omega,hlen,by simpa using HC.out⟩
 . have:=Blk.new w1 96 #[.slice A' bs.length c',.int .i64 0]
   simpa using this
 have h2:=hrd.alloc (.cells #[.slice A' bs.length c',.int .i64 0] 96);refine⟨by simp,fun h=>?_⟩;obtain⟨b,o,hA,hb,hbs,hc⟩:=h2.2 (by simpa using h);exact⟨b,o,hA,⟨k1 b hb,by have:=o1.lt hb;omega⟩,hbs,fun j hj=>hc j (by simpa using hj)⟩
theorem YV (F:Nat->Prop) (g:Nat) (bs:List Nat) (at_:Nat) (w:World) (hc:Qe w F g bs at_) :
   Calls Tryz.prog 39 #[.pointer (some ⟨g,0,none⟩)] w fun e w'=>e = .returned (.int .i64 (bs.length-at_:Nat))/\∃k,w'=w.drewN k:=by
 obtain⟨A,c,hb,hr,hlt,hat,hlen,hcap⟩:=hc;obtain⟨hc0,hc1⟩:=(hb).cells2;(have i1:(bs.length:Int)<=4294967296:=by omega);(have e1:((bs.length-at_:Nat):Int)=bs.length-at_:=by omega);have E1:=hd_ e1;clear e1 hb hr;refine Qg fun R hR=>?_;go_enter Tryz.func39,Tryz.ntmps39;go_wp2;go_quiet (fail);go_wp2;(try go_ret);exact hR.out _ _ ⟨XQ (by rw [E1.out]),_,rfl⟩
theorem Q1Y {w:World} {F:Nat->Prop} {A:Option Addr} {bs:List Nat} {c at_ k:Nat} (hr:Rd w F A bs.length (bs.map fun b=>.int .u8 (b:Nat))) (hk:at_+k<=bs.length) (hc:bs.length<=c) :
   Rd w F (if c=at_ then A else A.map (·.add at_)) k (((bs.drop at_).take k).map fun b=>.int .u8 (b:Nat)):=by
 have hcut:=(hr.take (k:=at_+k) hk).cut (k:=at_) (cap:=c) (by omega) (by omega)
 rwa [List.drop_take,<-List.map_drop,<-List.map_take,show at_+k-at_=k by omega]at hcut
theorem Ky (l:List Nat):∀u∈l.map (fun b=>Value.int .u8 (b:Nat)),u.oneCell'=true:=by
 intro u hu;obtain⟨_,_,rfl⟩:=List.mem_map.1 hu;rfl
theorem Q0F (pe pf px pc:Addr) (u:FrameMode) (w:World) (he:w.cell? pe=some (.int .i64 0)) :
   CallsD Tryz.prog 118 #[.pointer (some pe),.pointer (some pf),.pointer (some px),.pointer (some pc)] u w fun e u' w'=>u'=u/\(e = .returned (.tuple #[])/\w'=w):=by
 go_enter_d Tryz.func118,Tryz.ntmps118;go_wp2;go_end0;exact⟨rfl,rfl⟩
theorem Q00 (w:World) :
   Calls Tryz.prog 229 #[] w fun e w'=>e = .returned (.tuple #[])/\Upd (fun b=>False) w w'/\True:=by
 refine Qg fun R hR=>?_;go_enter Tryz.func229,Tryz.ntmps229;go_wp2_with fail;(try go_end0);exact hR.out _ _ ⟨rfl,Upd.refl _ _,trivial⟩
theorem Q07 (a0:Nat) (v00:Value) (w:World) (h0:Blk w a0 119 #[v00])  :
   Calls Tryz.prog 194 #[.pointer (some ⟨a0,0,none⟩)] w fun e w'=>e = .returned (.tuple #[])/\Upd (fun b=>b=a0) w w'/\Blk w' a0 119 #[.slice none 0 0]:=by
 have c00:=h0.cell 0;have z00:=h0.frozen 0;simp at c00;have H0:=hd_ h0;clear h0;refine Qg fun R hR=>?_;go_enter Tryz.func194,Tryz.ntmps194;go_wp2_with fail;(try go_end0);refine hR.out _ _ ⟨rfl,?_,?_⟩
 . exact((Upd.refl (fun b=>b=a0) _).setCell (p:=⟨a0,0,none⟩) (fun _=>rfl) _)
 have:=(H0.out.set_ 0 (.slice none 0 0));simpa using this
theorem Q2l (a0:Nat) (v00:Value) (w:World) (h0:Blk w a0 3 #[v00])  :
   Calls Tryz.prog 199 #[.pointer (some ⟨a0,0,none⟩)] w fun e w'=>e = .returned (.tuple #[])/\Upd (fun b=>b=a0) w w'/\Blk w' a0 3 #[.int .i64 0]:=by
 have c00:=h0.cell 0;have z00:=h0.frozen 0;simp at c00;have H0:=hd_ h0;clear h0;refine Qg fun R hR=>?_;go_enter Tryz.func199,Tryz.ntmps199;go_wp2_with fail;(try go_end0);refine hR.out _ _ ⟨rfl,?_,?_⟩
 . exact((Upd.refl (fun b=>b=a0) _).setCell (p:=⟨a0,0,none⟩) (fun _=>rfl) _)
 have:=(H0.out.set_ 0 (.int .i64 0));simpa using this
theorem Q2D (a0:Nat) (v00:Value) (w:World) (h0:Blk w a0 22 #[v00])  :
   Calls Tryz.prog 85 #[.pointer (some ⟨a0,0,none⟩)] w fun e w'=>e = .returned (.tuple #[])/\Upd (fun b=>b=a0) w w'/\Blk w' a0 22 #[.slice none 0 0]:=by
 have c00:=h0.cell 0;have z00:=h0.frozen 0;simp at c00;have H0:=hd_ h0;clear h0;refine Qg fun R hR=>?_;go_enter Tryz.func85,Tryz.ntmps85;go_wp2_with fail;(try go_end0);refine hR.out _ _ ⟨rfl,?_,?_⟩
 . exact((Upd.refl (fun b=>b=a0) _).setCell (p:=⟨a0,0,none⟩) (fun _=>rfl) _)
 have:=(H0.out.set_ 0 (.slice none 0 0));simpa using this
theorem Q2E (a0:Nat) (v00:Value) (w:World) (h0:Blk w a0 3 #[v00])  :
   Calls Tryz.prog 149 #[.pointer (some ⟨a0,0,none⟩)] w fun e w'=>e = .returned (.tuple #[])/\Upd (fun b=>b=a0) w w'/\Blk w' a0 3 #[.int .i64 0]:=by
 have c00:=h0.cell 0;have z00:=h0.frozen 0;simp at c00;have H0:=hd_ h0;clear h0;refine Qg fun R hR=>?_;go_enter Tryz.func149,Tryz.ntmps149;go_wp2_with fail;(try go_end0);refine hR.out _ _ ⟨rfl,?_,?_⟩
 . exact((Upd.refl (fun b=>b=a0) _).setCell (p:=⟨a0,0,none⟩) (fun _=>rfl) _)
 have:=(H0.out.set_ 0 (.int .i64 0));simpa using this
theorem Q2F (a0:Nat) (v00:Value) (w:World) (h0:Blk w a0 22 #[v00])  :
   Calls Tryz.prog 93 #[.pointer (some ⟨a0,0,none⟩)] w fun e w'=>e = .returned (.tuple #[])/\Upd (fun b=>b=a0) w w'/\Blk w' a0 22 #[.slice none 0 0]:=by
 have c00:=h0.cell 0;have z00:=h0.frozen 0;simp at c00;have H0:=hd_ h0;clear h0;refine Qg fun R hR=>?_;go_enter Tryz.func93,Tryz.ntmps93;go_wp2_with fail;(try go_end0);refine hR.out _ _ ⟨rfl,?_,?_⟩
 . exact((Upd.refl (fun b=>b=a0) _).setCell (p:=⟨a0,0,none⟩) (fun _=>rfl) _)
 have:=(H0.out.set_ 0 (.slice none 0 0));simpa using this
theorem Q2C (a0:Nat) (v00:Value) (w:World) (h0:Blk w a0 22 #[v00])  :
   Calls Tryz.prog 42 #[.pointer (some ⟨a0,0,none⟩)] w fun e w'=>e = .returned (.tuple #[])/\Upd (fun b=>b=a0) w w'/\Blk w' a0 22 #[.slice none 0 0]:=by
 have c00:=h0.cell 0;have z00:=h0.frozen 0;simp at c00;have H0:=hd_ h0;clear h0;refine Qg fun R hR=>?_;go_enter Tryz.func42,Tryz.ntmps42;go_wp2_with fail;(try go_end0);refine hR.out _ _ ⟨rfl,?_,?_⟩
 . exact((Upd.refl (fun b=>b=a0) _).setCell (p:=⟨a0,0,none⟩) (fun _=>rfl) _)
 have:=(H0.out.set_ 0 (.slice none 0 0));simpa using this
theorem X6 (a0:Nat) (v00:Value) (w:World) (h0:Blk w a0 22 #[v00])  :
   Calls Tryz.prog 46 #[.pointer (some ⟨a0,0,none⟩)] w fun e w'=>e = .returned (.tuple #[])/\Upd (fun b=>b=a0) w w'/\Blk w' a0 22 #[.slice none 0 0]:=by
 have c00:=h0.cell 0;have z00:=h0.frozen 0;simp at c00;have H0:=hd_ h0;clear h0;refine Qg fun R hR=>?_;go_enter Tryz.func46,Tryz.ntmps46;go_wp2_with fail;(try go_end0);refine hR.out _ _ ⟨rfl,?_,?_⟩
 . exact((Upd.refl (fun b=>b=a0) _).setCell (p:=⟨a0,0,none⟩) (fun _=>rfl) _)
 have:=(H0.out.set_ 0 (.slice none 0 0));simpa using this
theorem Q2H (a0:Nat) (v00:Value) (w:World) (h0:Blk w a0 22 #[v00])  :
   Calls Tryz.prog 47 #[.pointer (some ⟨a0,0,none⟩)] w fun e w'=>e = .returned (.tuple #[])/\Upd (fun b=>b=a0) w w'/\Blk w' a0 22 #[.slice none 0 0]:=by
 have c00:=h0.cell 0;have z00:=h0.frozen 0;simp at c00;have H0:=hd_ h0;clear h0;refine Qg fun R hR=>?_;go_enter Tryz.func47,Tryz.ntmps47;go_wp2_with fail;(try go_end0);refine hR.out _ _ ⟨rfl,?_,?_⟩
 . exact((Upd.refl (fun b=>b=a0) _).setCell (p:=⟨a0,0,none⟩) (fun _=>rfl) _)
 have:=(H0.out.set_ 0 (.slice none 0 0));simpa using this
theorem Zj (a0 a1:Nat) (v00 v10:Value) (w:World) (h0:Blk w a0 22 #[v00]) (h1:Blk w a1 33 #[v10]) (n01:a0≠a1) :
   Calls Tryz.prog 66 #[.pointer (some ⟨a0,0,none⟩),.pointer (some ⟨a1,0,none⟩)] w fun e w'=>e = .returned (.tuple #[])/\Upd (fun b=>b=a0\/b=a1) w w'/\Blk w' a0 22 #[.slice none 0 0]/\Blk w' a1 33 #[.slice none 0 0]:=by
 have c00:=h0.cell 0;have z00:=h0.frozen 0;simp at c00;have H0:=hd_ h0;have c10:=h1.cell 0;have z10:=h1.frozen 0;simp at c10;have H1:=hd_ h1;have m01:=Ne.symm n01;clear h0 h1;refine Qg fun R hR=>?_;go_enter Tryz.func66,Tryz.ntmps66;go_wp2_with fail;(try go_end0);refine hR.out _ _ ⟨rfl,?_,?_,?_⟩
 . exact(((Upd.refl (fun b=>b=a0\/b=a1) _).setCell (p:=⟨a0,0,none⟩) (fun _=>.inl rfl) _).setCell (p:=⟨a1,0,none⟩) (fun _=>.inr rfl) _)
 . have:=((H0.out.set_ 0 (.slice none 0 0)).far (p:=⟨a1,0,none⟩) n01 (.slice none 0 0))
   simpa using this
 have:=((H1.out.far (p:=⟨a0,0,none⟩) m01 (.slice none 0 0)).set_ 0 (.slice none 0 0));simpa using this
theorem Q1J (a0:Nat) (v00 v01 v02:Value) (w:World) (h0:Blk w a0 41 #[v00,v01,v02])  :
   Calls Tryz.prog 64 #[.pointer (some ⟨a0,0,none⟩)] w fun e w'=>e = .returned (.tuple #[])/\Upd (fun b=>b=a0) w w'/\Blk w' a0 41 #[.int .i64 0,.bool false,.int .i64 0]:=by
 have c00:=h0.cell 0;have z00:=h0.frozen 0;have c01:=h0.cell 1;have z01:=h0.frozen 1;have c02:=h0.cell 2;have z02:=h0.frozen 2;simp at c00 c01 c02;have H0:=hd_ h0;clear h0;refine Qg fun R hR=>?_;go_enter Tryz.func64,Tryz.ntmps64;go_wp2_with fail;(try go_end0);refine hR.out _ _ ⟨rfl,?_,?_⟩
 . exact((((Upd.refl (fun b=>b=a0) _).setCell (p:=⟨a0,0,none⟩) (fun _=>rfl) _).setCell (p:=⟨a0,1,none⟩) (fun _=>rfl) _).setCell (p:=⟨a0,2,none⟩) (fun _=>rfl) _)
 have:=(((H0.out.set_ 0 (.int .i64 0)).set_ 1 (.bool false)).set_ 2 (.int .i64 0));simpa using this
def Q4y (n:Int):Int:=if n<0 then -n else n
def Q4z (l:List Int):Int:=l.foldr (fun n s=>Q4y n+s) 0
def Q0i (lg:Int) (N:List Int) (sy lb:Int):Prop :=
  0<=lg/\lg<=lb/\lg<=9/\0<N.length/\(N.length:Int)<=sy/\N[N.length-1]?≠some 0/\(∀n∈N,-1<=n)/\Q4z N=2^lg.toNat
instance (lg:Int) (N:List Int) (sy lb:Int):Decidable (Q0i lg N sy lb):=by unfold Q0i;infer_instance
def Qm (N:List Int):List Value:=N.map (Value.int .i64)
@[simp] theorem Q4e (N:List Int):(Qm N).length=N.length:=by simp [Qm]
theorem VR {N:List Int} {k:Nat} (h:k<N.length):(Qm N)[k]?=some (.int .i64 N[k]):=by simp [Qm,h]
theorem Rd.int {w:World} {F:Nat->Prop} {A:Option Addr} {n:Nat} {N:List Int} (h:Rd w F A n (Qm N)) {k:Nat} (hk:k<n) :
   ∃(b o:Nat) (hk':k<N.length),A=some ⟨b,o,none⟩/\b<w.heap.size/\w.cell? ⟨b,o+k,none⟩=some (.int .i64 N[k]):=by
 obtain⟨b,o,e,_,hb,hc⟩:=h.at_ hk;(have hk':k<N.length:=by have:=h.1;simp at this;omega);exact⟨b,o,hk',e,hb,by rw [hc,VR hk']⟩
def Fit (N:List Int):Prop:=∀n∈N,-9223372036854775808<=n/\n<=9223372036854775807
def Q3m (s:Nat):Nat:=if s<16 then 1 else s / 2+s / 8+3
def Q0G (s:Nat):List Nat:=(List.range s).map fun k=>k*Q3m s%s
def Xb:Nat->List Int->List Nat
  | _,[]=>[]
  | i,v::l=>if v=-1 then i::Xb (i+1) l else Xb (i+1) l
def Q1Z:Nat->List Int->List Nat
  | _,[]=>[]
  | i,v::l=>List.replicate v.toNat i++Q1Z (i+1) l
def Q4o (N:List Int):List Nat:=Xb 0 N
def Q4p (N:List Int):List Nat:=Q1Z 0 N
def Q0h (s:Nat) (rs:List Nat):Int->Option Int:=fun x=>if x<=(s:Int)-1 then(rs[((s:Int)-1-x).toNat]?).map fun(i:Nat)=>(i:Int)else none
def Q3X (rest:List Nat) (st:(Int->Option Int) × Nat) (at_:Nat):(Int->Option Int) × Nat :=
  if(st.1 at_).isSome then st else((fun x=>if x=(at_:Int)then some (((rest[st.2]?).getD 0:Nat):Int)else st.1 x),st.2+1)
def VS (rest:List Nat) (f:Int->Option Int) (pre:List Nat):(Int->Option Int) × Nat:=pre.foldl (Q3X rest) (f,0)
def ZJ (lg:Nat) (N:List Int):List Int :=
  (List.range (2^lg)).map fun(at_:Nat)=>((VS (Q4p N) (Q0h (2^lg) (Q4o N)) (Q0G (2^lg))).1 (at_:Int)).getD 0
@[simp] theorem Q3H (lg:Nat) (N:List Int):(ZJ lg N).length=2^lg:=by simp [ZJ]
@[simp] theorem Q3Y (s:Nat):(Q0G s).length=s:=by simp [Q0G]
def Q4A (R M:List Int) (k:Nat):List Int:=R.take k++M.drop k
def Q4S (B:List Int) (k:Nat):List Int:=Q4A B (List.replicate B.length 0) k
theorem Q0H (F:Nat->Prop) (g pn pc:Nat) (bs:List Nat) (at_ k:Nat) (w:World) (hcu:Qe w F g bs at_) (hk:at_+k<=bs.length)
   (bn:Blk w pn 3 #[.int .i64 k]) (bc:Blk w pc 46 #[.pointer (some ⟨g,0,none⟩)]) (hF:∀b,F b->b≠g) :
   Calls Tryz.prog 63 #[.pointer (some ⟨pn,0,none⟩),.pointer (some ⟨pc,0,none⟩)] w fun e w'=>∃v,e = .returned (.tuple #[v,.int .i64 0]) /\
     Own w' 5 v (((bs.drop at_).take k).map fun b=>.int .u8 (b:Nat))/\Upd (fun b=>b=g) w w'/\Qe w' F g bs (at_+k)/\∀b,v.ownBlock=some b->w.heap.size<=b:=by
 have hl:=fun j=>YV F g bs at_ (w.drewN j) hcu;obtain⟨A,c,hb,hr,hlt,hat,hlen,hcap⟩:=hcu;have hn:=bn.cell0;have hc:=bc.cell0;(have i1:(k:Int)<=((bs.length-at_:Nat):Int):=by omega);(have i2:(bs.length:Int)<=4294967296:=by omega);(have i3:(at_:Int)+k<=bs.length:=by omega);have hx1:=Ky ((bs.drop at_).take k);have HL:=hd_ hl;have HB:=hd_ hb;have HR:=hd_ hr;have HBN:=hd_ bn;have HBC:=hd_ bc;clear hl hb hr bn bc;generalize bs.length-at_=D at *;refine Qg fun R hR=>?_;go_enter Tryz.func63,Tryz.ntmps63;go_wp2_with fail;go_quiet ((go_at_call 39;exact Calls.quiet_of (HL.out _)));have f1:Q0 w (w.drewN nq):=(Upd.refl _ _).drewN nq;generalize w.drewN nq=W at *;have b1:=HB.out.fresh f1;have bn1:=HBN.out.fresh f1;have bc1:=HBC.out.fresh f1;have hn1:=bn1.cell0;have hcc1:=bc1.cell0;have hc1':=b1.cell 1;have hf1':=b1.frozen 1;simp only [List.getElem?_toArray,List.getElem?_cons_succ,List.getElem?_cons_zero]at hc1';have B1:=hd_ b1;have BN1:=hd_ bn1;have BC1:=hd_ bc1;clear b1 bn1 bc1;have s0:IntKind.i64.wrap ((at_:Int)+k)=at_+k:=IntWalk.i64_in _ (by omega);go_wp2_with fail;go_still_tail 8,(by kernel_rfl);change wpList _ _ _ _ _ W.drew;go_wp2_with fail;have b2:=(B1.out.set_ 1 (.int .i64 ((at_:Int)+k))).drew;have u2:Upd (fun b=>b=g) w (W.setCell ⟨g,1,none⟩ (.int .i64 ((at_:Int)+k))).drew:=((f1.mono (T:=fun b=>b=g) (fun _ _ h=>h.elim)).setCell (p:=⟨g,1,none⟩) (fun _=>rfl) _).drew;have bn2:=(BN1.out.far (p:=⟨g,1,none⟩) (BN1.out.ne_ B1.out (by decide)) (.int .i64 ((at_:Int)+k))).drew;have bc2:=(BC1.out.far (p:=⟨g,1,none⟩) (BC1.out.ne_ B1.out (by decide)) (.int .i64 ((at_:Int)+k))).drew;generalize (W.setCell ⟨g,1,none⟩ (.int .i64 ((at_:Int)+k))).drew=W2 at *;have hn2:=bn2.cell0;have hcc2:=bc2.cell0;have hc2:=b2.cell 1;have hc20:=b2.cell 0;simp at hc2 hc20;have B2:=hd_ b2;clear b2 bn2 bc2 hn1 hcc1 hc1' hf1';(have s5:(at_:Int)+k-k=at_:=by omega);have s6:IntKind.i64.wrap (at_:Int)=at_:=IntWalk.i64_in _ (by omega);(have s1:(0:Int)<=at_:=by omega);(have s2:(at_:Int)<=at_+k:=by omega);(have s3:(at_:Int)+k<=c:=by omega);(have s4:((at_:Int)+k).toNat=at_+k:=by omega);go_still_tail 15,(by kernel_rfl);change wpList _ _ _ _ _ W2.drew;go_wp2_with fail
 all_goals
   have hrd:=Q1Y (c:=c) (HR.out.upd u2 (fun b _ hb e=>hF b hb e)).drew hk hcap
   first
     | rw [if_neg (by omega)]at hrd
     | rw [if_pos (by omega)]at hrd
   refine(Yo _ _ _ _ W2.drew hrd hx1 (by omega)).mono ?_;rintro e w3 ⟨v,rfl,o3,f3,k3⟩;go_wp2;(try go_ret2);refine hR.out _ _ ⟨v,rfl,o3,u2.drew.trans f3 (fun _ _ h=>h.elim),⟨A,c,?_,?_,hlt,hk,hlen,hcap⟩,fun b hb=>Nat.le_trans u2.drew.size (k3 b hb)⟩
   . have:=B2.out.drew.fresh f3
     simpa using this
   exact(HR.out.upd u2 (fun b _ hb e=>hF b hb e)).drew.fresh f3
theorem Q2R (F:Nat->Prop) (g pn pc:Nat) (bs:List Nat) (at_ k:Nat) (w:World) (hcu:Qe w F g bs at_) (hk:at_+k<=bs.length)
   (bn:Blk w pn 3 #[.int .i64 k]) (bc:Blk w pc 46 #[.pointer (some ⟨g,0,none⟩)]) (hF:∀b,F b->b≠g) :
   Calls Tryz.prog 62 #[.pointer (some ⟨g,0,none⟩),.func (.func 63) #[] #[.pointer (some ⟨pn,0,none⟩),.pointer (some ⟨pc,0,none⟩)]] w fun e w' =>
     ∃v,e = .returned (.tuple #[v,.int .i64 0]) /\
     Own w' 5 v (((bs.drop at_).take k).map fun b=>.int .u8 (b:Nat))/\Upd (fun b=>b=g) w w'/\Qe w' F g bs (at_+k)/\∀b,v.ownBlock=some b->w.heap.size<=b:=by
 have hmf:∀(fn:Fn) (first cap:Array Value) (w:World),(Instr.makeFunc fn first cap).run Tryz.prog w = .ok (.func fn first cap) w:=fun _ _ _ _=>rfl;have hg:=hcu.lt
 have hat:w.cell? ⟨g,1,none⟩=some (.int .i64 at_):=by
   obtain⟨A,c,hb,_⟩:=hcu;simpa using hb.cell 1
 have HCU:=hd_ hcu;have HBN:=hd_ bn;have HBC:=hd_ bc;clear hcu bn bc;(have hg1:g<w.heap.size+1:=by omega);(have hg2:g<w.heap.size+1+1:=by omega);(have hg3:g<w.heap.size+1+1+1:=by omega);refine Qg fun R hR=>?_;go_enter_defers Tryz.func62,Tryz.ntmps62;go_wp2_with fail;obtain⟨H,hH⟩:=nm_ (w.heap.size);rw [<-hH]at hg hg1 hg2 hg3;simp only [<-hH];obtain⟨W0,hW0⟩:=nm_ ((((w.alloc (.cells #[.pointer (some ⟨g,0,none⟩)] 46)).alloc (.cells #[.slice none 0 0] 22)).alloc (.cells #[.int .i64 0] 24)).alloc (.cells #[.int .i64 at_] 3));rw [<-hW0];(have f0:Q0 w W0:=by rw [hW0];exact((((Upd.refl _ w).alloc _).alloc _).alloc _).alloc _);(have k1:Blk W0 (H+1) 22 #[.slice none 0 0]:=by rw [hW0];exact((Qc (by simp [hH]) _ _).alloc _).alloc _);(have k2:Blk W0 (H+1+1) 24 #[.int .i64 0]:=by rw [hW0];exact(Qc (by simp [hH]) _ _).alloc _);clear hW0;have HH:=hd_ hH;clear hH;refine(Q0H (fun b=>F b/\b<w.heap.size) g pn pc bs at_ k W0 (HCU.out.both.fresh f0) hk (HBN.out.fresh f0) (HBC.out.fresh f0) (fun b hb=>hF b hb.1)).mono ?_;rintro e w1 ⟨v,rfl,o1,u1,c1,kf⟩;have KF:=hd_ (fun b hb=>Nat.le_trans f0.size (kf b hb));clear kf;obtain⟨A1,n1,c1',rfl,hn1⟩:=o1.form';have j1:=k1.upd u1 (by omega);have j2:=k2.upd u1 (by omega);have uu:Upd (fun b=>b=g) w w1:=(f0.mono (fun _ _ h=>h.elim)).trans' u1;have d1:=j1.cell0;have d2:=j2.cell0;have z1:=j1.frozen 0;have z2:=j2.frozen 0;have J1:=hd_ j1;have J2:=hd_ j2;have HO:=hd_ o1;have HC1:=hd_ c1;clear j1 j2 k1 k2 o1 c1 hn1;go_wp2;have L1:=(J1.out.set_ 0 (.slice A1 n1 c1')).far (p:=⟨H+1+1,0,none⟩) (by simp) (.int .i64 0);have L2:=(J2.out.far (p:=⟨H+1,0,none⟩) (by simp) (.slice A1 n1 c1')).set_ 0 (.int .i64 0);have hd2:=L2.cell0;have hd1:=L1.cell0;change Leaves _ _ _ _ _ _ _;refine leaves_cons (f:=118) (args:=#[.pointer (some ⟨H+1+1,0,none⟩),.pointer (some ⟨H+1+1+1,0,none⟩),.pointer (some ⟨H+1,0,none⟩),.pointer (some ⟨H,0,none⟩)]) (by simp) (by simp [go_sem]) ?_;refine(Q0F _ _ _ _ .returning _ hd2).mono ?_;rintro e u' w'' ⟨rfl,rfl,rfl⟩;refine⟨.tuple #[.slice A1 n1 c1',.int .i64 0],?_,hR.out _ _ ⟨_,rfl,?_,?_,?_,KF.out⟩⟩
 . simp [results,Tryz.results62,go_sem,hd1,hd2]
 . exact(HO.out.far (p:=⟨H+1,0,none⟩) (HO.out.ne_blk J1.out (by decide)) _).far (p:=⟨H+1+1,0,none⟩) (HO.out.ne_blk J2.out (by decide)) _
 . exact(uu.setCell (p:=⟨H+1,0,none⟩) (fun h=>by have:=HH.out;simp at h;omega) _).setCell (p:=⟨H+1+1,0,none⟩) (fun h=>by have:=HH.out;simp at h;omega) _
 have m1:=HC1.out.upd (S:=fun b=>b=H+1) ((Upd.refl (fun b=>b=H+1) _).setCell (p:=⟨H+1,0,none⟩) (fun _=>rfl) (.slice A1 n1 c1')) (by omega) (fun b _ hb e=>by have:=hb.2;have:=HH.out;omega);have m2:=m1.upd (S:=fun b=>b=H+1+1) ((Upd.refl (fun b=>b=H+1+1) _).setCell (p:=⟨H+1+1,0,none⟩) (fun _=>rfl) (.int .i64 0)) (by omega) (fun b _ hb e=>by have:=hb.2;have:=HH.out;omega);exact m2.mono fun b hb=>hb.1
theorem Kx (F:Nat->Prop) (g:Nat) (bs:List Nat) (at_ k:Nat) (w:World) (hcu:Qe w F g bs at_) (hk:at_+k<=bs.length) (hF:∀b,F b->b≠g) :
   Calls Tryz.prog 26 #[.pointer (some ⟨g,0,none⟩),.int .i64 k] w fun e w'=>∃v,e = .returned (.tuple #[v,.int .i64 0]) /\
     Own w' 5 v (((bs.drop at_).take k).map fun b=>.int .u8 (b:Nat))/\Upd (fun b=>b=g) w w'/\Qe w' F g bs (at_+k)/\∀b,v.ownBlock=some b->w.heap.size<=b:=by
 have hmf:∀(fn:Fn) (first cap:Array Value) (w:World),(Instr.makeFunc fn first cap).run Tryz.prog w = .ok (.func fn first cap) w:=fun _ _ _ _=>rfl;obtain⟨H,hH⟩:=nm_ (w.heap.size)
 have hr:=Q2R F g (H+1) H bs at_ k ((w.alloc (.cells #[.pointer (some ⟨g,0,none⟩)] 46)).alloc (.cells #[.int .i64 k] 3)) (hcu.fresh (((Upd.refl _ w).alloc _).alloc _)) hk
   (Qc (by simp [hH]) _ _) ((Qc hH _ _).alloc _) hF
 rw [hH]at hr;have HR:=hd_ hr;clear hr hcu hH H;refine Qg fun R hR=>?_;go_enter Tryz.func26,Tryz.ntmps26;go_wp2_with fail;refine HR.out.mono ?_;rintro e w1 ⟨v,rfl,o1,u1,c1,kf⟩;go_wp2;(try go_ret2);refine hR.out _ _ ⟨v,rfl,o1,?_,c1,fun b hb=>by have:=kf b hb;simp at this;omega⟩;exact(((Upd.refl (fun b=>b=g) w).alloc _).alloc _).trans' u1
def QA (f:Nat->Nat):Array Value:=#[.int .u32 (f 0:Nat),.int .u32 (f 1:Nat),.int .u32 (f 2:Nat),.int .u32 (f 3:Nat),.int .u32 (f 4:Nat),.int .u32 (f 5:Nat),.int .u32 (f 6:Nat),.int .u32 (f 7:Nat),.int .u32 (f 8:Nat),.int .u32 (f 9:Nat),.int .u32 (f 10:Nat),.int .u32 (f 11:Nat)]
theorem Kq (f:Nat->Nat):(QA f).size=12:=rfl
theorem YU (f:Nat->Nat) {q:Nat} (h:q<12):(QA f)[q]?=some (.int .u32 (f q:Nat)):=by
 (rcases(show q=0\/q=1\/q=2\/q=3\/q=4\/q=5\/q=6\/q=7\/q=8\/q=9\/q=10\/q=11 by omega)with rfl|rfl|rfl|rfl|rfl|rfl|rfl|rfl|rfl|rfl|rfl|rfl<;>rfl)
theorem Zu (f:Nat->Nat) {q:Nat} (x:Nat) (h:q<12):(QA f).setIfInBounds q (.int .u32 (x:Nat))=QA (fun i=>if i=q then x else f i):=by
 (rcases(show q=0\/q=1\/q=2\/q=3\/q=4\/q=5\/q=6\/q=7\/q=8\/q=9\/q=10\/q=11 by omega)with rfl|rfl|rfl|rfl|rfl|rfl|rfl|rfl|rfl|rfl|rfl|rfl<;>rfl)
theorem Yc {f g:Nat->Nat} (h:∀i,i<12->f i=g i):QA f=QA g:=by
 unfold QA;rw [h 0 (by omega),h 1 (by omega),h 2 (by omega),h 3 (by omega),h 4 (by omega),h 5 (by omega),h 6 (by omega),h 7 (by omega),h 8 (by omega),h 9 (by omega),h 10 (by omega),h 11 (by omega)]
theorem Z7 (l:List Int) (n:Nat):Qw l n<=l.length:=by
 unfold Qw;split
 . omega
 exact List.count_le_length
theorem Ko {l:List Int} {k:Nat} (h:k<l.length) (i:Nat):Qw (l.take (k+1)) i=Qw (l.take k) i+if i≠0/\l[k]=(i:Int)then 1 else 0:=by
 unfold Qw;by_cases h0:i=0
 . subst h0;simp
 rw [if_neg h0,if_neg h0,List.take_succ_eq_append_getElem h,List.count_append,List.count_singleton];by_cases h1:l[k]=(i:Int)
 . simp [h1,h0]
 simp [h1]
theorem Zv {l:List Int} (h:l.length<=256):∀n,Qr l n+512<=512*2^n
 | 0=>by simp [Qr]
 | n+1=>by
   have ih:=Zv h n
   have hm:=Z7 l n
   rw [Qr,Nat.pow_succ]
   omega
theorem Q3j (w:World) (H:Nat) (f:Nat->Nat):Upd (fun b=>b=H) w ((((((((((((w.setCell ⟨H,0,none⟩ (.int .u32 (f 0:Nat))).setCell ⟨H,1,none⟩ (.int .u32 (f 1:Nat))).setCell ⟨H,2,none⟩ (.int .u32 (f 2:Nat))).setCell ⟨H,3,none⟩ (.int .u32 (f 3:Nat))).setCell ⟨H,4,none⟩ (.int .u32 (f 4:Nat))).setCell ⟨H,5,none⟩ (.int .u32 (f 5:Nat))).setCell ⟨H,6,none⟩ (.int .u32 (f 6:Nat))).setCell ⟨H,7,none⟩ (.int .u32 (f 7:Nat))).setCell ⟨H,8,none⟩ (.int .u32 (f 8:Nat))).setCell ⟨H,9,none⟩ (.int .u32 (f 9:Nat))).setCell ⟨H,10,none⟩ (.int .u32 (f 10:Nat))).setCell ⟨H,11,none⟩ (.int .u32 (f 11:Nat))) :=
 (((((((((((((Upd.refl (fun b=>b=H) w).setCell (p:=⟨H,0,none⟩) (fun _=>rfl) _).setCell (p:=⟨H,1,none⟩) (fun _=>rfl) _).setCell (p:=⟨H,2,none⟩) (fun _=>rfl) _).setCell (p:=⟨H,3,none⟩) (fun _=>rfl) _).setCell (p:=⟨H,4,none⟩) (fun _=>rfl) _).setCell (p:=⟨H,5,none⟩) (fun _=>rfl) _).setCell (p:=⟨H,6,none⟩) (fun _=>rfl) _).setCell (p:=⟨H,7,none⟩) (fun _=>rfl) _).setCell (p:=⟨H,8,none⟩) (fun _=>rfl) _).setCell (p:=⟨H,9,none⟩) (fun _=>rfl) _).setCell (p:=⟨H,10,none⟩) (fun _=>rfl) _).setCell (p:=⟨H,11,none⟩) (fun _=>rfl) _)
theorem Blk.set12 {w:World} {H:Nat} {t:TypeId} {g:Nat->Nat} (h:Blk w H t (QA g)) (f:Nat->Nat):Blk ((((((((((((w.setCell ⟨H,0,none⟩ (.int .u32 (f 0:Nat))).setCell ⟨H,1,none⟩ (.int .u32 (f 1:Nat))).setCell ⟨H,2,none⟩ (.int .u32 (f 2:Nat))).setCell ⟨H,3,none⟩ (.int .u32 (f 3:Nat))).setCell ⟨H,4,none⟩ (.int .u32 (f 4:Nat))).setCell ⟨H,5,none⟩ (.int .u32 (f 5:Nat))).setCell ⟨H,6,none⟩ (.int .u32 (f 6:Nat))).setCell ⟨H,7,none⟩ (.int .u32 (f 7:Nat))).setCell ⟨H,8,none⟩ (.int .u32 (f 8:Nat))).setCell ⟨H,9,none⟩ (.int .u32 (f 9:Nat))).setCell ⟨H,10,none⟩ (.int .u32 (f 10:Nat))).setCell ⟨H,11,none⟩ (.int .u32 (f 11:Nat))) H t (QA f):=by
 have h:=((((((((((((h.set_ 0 (.int .u32 (f 0:Nat))).set_ 1 (.int .u32 (f 1:Nat))).set_ 2 (.int .u32 (f 2:Nat))).set_ 3 (.int .u32 (f 3:Nat))).set_ 4 (.int .u32 (f 4:Nat))).set_ 5 (.int .u32 (f 5:Nat))).set_ 6 (.int .u32 (f 6:Nat))).set_ 7 (.int .u32 (f 7:Nat))).set_ 8 (.int .u32 (f 8:Nat))).set_ 9 (.int .u32 (f 9:Nat))).set_ 10 (.int .u32 (f 10:Nat))).set_ 11 (.int .u32 (f 11:Nat)));simpa [QA]using h
theorem Ym {F:Nat->Prop} (A:Option Addr) (n c:Nat) (xs:List Value) (w:World) (hr:Rd w F A n xs) (h1:∀u∈xs,u.oneCell'=true) (hn:n<=2^40) :
   Calls Tryz.prog 67 #[.slice A n c] w fun e w'=>∃v,e = .returned v/\Own w' 3 v xs/\Q0 w w'/\∀k,v.ownBlock=some k->w.heap.size<=k:=by
 have q:∀(w:World) (a:Option Addr) (n c n' c':Nat),(binOp .eql 33 (.slice a n c) (.slice none n' c')).run Tryz.prog w = .ok (.bool a.isNone) w :=
   fun w a n c n' c'=>Lib.run_eql_slice_nil w _ _ a n c n' c' Tryz.underlying33
 rcases A with _|ad
 . have hx:n=0:=by
     rcases Nat.eq_zero_or_pos n with h|h
     . exact h
     obtain⟨_,_,h,_⟩:=hr.2 h;cases h
   subst hx;have hxs:xs=[]:=List.eq_nil_of_length_eq_zero hr.1;subst hxs;go_enter Tryz.func67,Tryz.ntmps67;go_wp2;go_ret;exact⟨_,rfl,Own.nil _ _,Upd.refl _ _,by simp [Value.ownBlock]⟩
 have o0:Own (w.alloc (.cells #[] 3)) 3 (.slice (some ⟨w.heap.size,0,none⟩) 0 0) []:=World.ownsRow_made w #[] 0 (Nat.zero_le _) (by simp [maxLen]) (by simp);have hlen:n<=1099511627776:=hn;clear hn;go_enter Tryz.func67,Tryz.ntmps67;go_wp2_with (at_builtin;go_must (refine Qt _ rfl (.tmp 5) (.tmp 6) _ rfl 3 _ 8 Tryz.underlying33 KV rfl _ [] rfl o0 _ n _ _ rfl (hr.alloc _) h1 (by omega) (by simpa using hlen) ?_));intro v' w1 o1 g1 a1;go_wp2;go_ret;exact⟨v',rfl,by simpa using o1,((Upd.refl _ _).alloc _).grown g1 (fun k hk hlt=>by simp [Value.ownBlock]at hk;omega),YD (S:=fun k=>w.heap.size<=k) a1 (fun k hk=>by simp [Value.ownBlock]at hk;omega) (by simp)⟩
end Go.Proofs.YtckjdhaflokcgaaGreat
