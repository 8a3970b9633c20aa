/- Contracts and plain lemmas, part 19. Conditions: none beyond those of each. -/
import Derived.Test.YtckjdhaflokcgaaGreatR18
import Derived.Test.YtckjdhaflokcgaaGreatR15
set_option maxHeartbeats 4000000
set_option linter.unusedVariables false
set_option linter.unusedSimpArgs false
set_option linter.unnecessarySimpa false
set_option maxRecDepth 100000
namespace Go.Proofs.YtckjdhaflokcgaaGreat
open Go.RowKit Go.Proofs.Tryz
theorem JO {P:Program} {fn:Func} {p u:Tmp} {ty:TypeId} (h:fn.results=#[.cell p ty,.tmp u]) (tmps:Array Value) (w:World) (g:Nat) (t:TypeId) (cs:Array Value) (d:TypeDesc)
   (hp:tmps.getD p undef = .pointer (some ⟨g,0,none⟩)) (hg:Blk w g t cs)
   (hu:P.underlying ty=some d) (hd:(match d with | .struct _ | .array _ _=>true|_=>false)=true) (hi:(P.info? ty).map (·.size)=some cs.size) :
   (results fn tmps).run P w = .ok (.tuple #[.agg cs,tmps.getD u undef]) w:=by
 rw [results_cell_tmp h];rw [hp];simp [asAddr,run_loadVar_row w g t ty cs (0,0) d hg hu hd hi,Result.andThen]
def YG (bs:List Nat) (at_:Nat):List Nat:=(bs.drop at_).take 1024
def Qaq (F:Nat->Prop) (g:Nat) (bs:List Nat) (at_:Nat) (sy lb:Int) (w:World) (e':Ending) (w':World):Prop :=
  Upd (λb=>b=g) w w' /\
    match QQ sy lb (Qf (YG bs at_))with
    | .error e=>e' = .returned (.tuple #[.agg #[.int .i64 0,.slice none 0 0],.int .i64 e])/\Q4 w' F g bs at_
    | .ok (lg,N,k)=>∃v,e' = .returned (.tuple #[.agg #[.int .i64 lg,v],.int .i64 0])/\Own w' 3 v (Q7 N)/\(∀b,v.ownBlock=some b->w.heap.size<=b)/\Q4 w' F g bs (at_+k)/\N.length<=1000
theorem Q5X (F:Nat->Prop) (g:Nat) (bs:List Nat) (at_:Nat) (sy lb:Int) (w:World) (hcu:Q4 w F g bs at_) (hF:∀b,F b->b≠g) :
   Calls prog 225 #[.pointer (some ⟨g,0,none⟩),.int .i64 sy,.int .i64 lb] w (Qaq F g bs at_ sy lb w):=by
 (have hlen:bs.length<=2^32:=by obtain⟨A,c,_,_,_,_,h,_⟩:=hcu;exact h);(have hblt:∀b∈bs,b<256:=by obtain⟨A,c,_,_,h,_⟩:=hcu;exact h);have hslt:∀b∈YG bs at_,b<256:=λb hb=>hblt b (List.mem_of_mem_drop (List.mem_of_mem_take hb));(have hsl:(YG bs at_).length<=1024:=by unfold YG;rw [List.length_take];omega)
 have hsl2:at_+(YG bs at_).length<=bs.length:=by
   obtain⟨A,c,_,_,_,h,_⟩:=hcu;unfold YG;rw [List.length_take,List.length_drop];omega
 have hgs:=hcu.lt;have hpk:=Q9b F g bs at_ 1024 (w.alloc (.cells #[.int .i64 0,.slice none 0 0] 205)) (hcu.fresh ((Upd.refl _ w).alloc _)) (by omega);have HPK:=hd_ hpk;have HCU:=hd_ hcu;have HSL:=hd_ hslt;have B0:=hd_ (Blk.new w 205 #[.int .i64 0,.slice none 0 0]);clear hpk hcu hblt hslt;refine Q8 λR hR=>?_;obtain⟨H,hH⟩:=nm_ (w.heap.size);have HH:=hd_ hH;(have hgH:g<H:=by omega);rw [<-hH]at B0;clear hH hgs;go_enter func225,ntmps225;go_wp2_with fail;rw [<-HH.out];refine HPK.mono ?_;rintro e w1 ⟨v1,rfl,o1,f1,k1⟩;obtain⟨A1,n1,c1,rfl,hn1⟩:=o1.form';have hrd1:=(o1.rd rfl).2.2;rw [<-hn1.out]at hrd1;have hnf:=Q20 _ A1 n1 c1 (YG bs at_) w1 hrd1 HSL.out (by omega);have HNF:=hd_ hnf;have b1:=B0.fresh f1;have F1:=hd_ (show Q0 w w1 from((Upd.refl _ w).alloc _).trans' f1);(have hs1:H<w1.heap.size:=by have:=b1.lt;omega);have B1:=hd_ b1;clear hnf o1 f1 k1 hrd1 hn1 b1 HPK B0;go_wp2_with fail;refine HNF.mono ?_;rintro e w2 ⟨gf,rfl,hgf,f2,hfw⟩;(have hgr:gf<w2.heap.size:=by obtain⟨cs,h⟩:=hfw.blk;exact h.lt)
 have hfw2:Jv w2 (λb=>(w1.heap.size<=b/\b≠gf)/\b<w2.heap.size) gf (YG bs at_) 0:=by
   obtain⟨A,c,hb,hr,r⟩:=hfw;exact⟨A,c,hb,hr.both,r⟩
 have hrdr:Y4 (w2.alloc (.cells #[.pointer (some ⟨gf,0,none⟩),.int .i64 0] 320)) (λb=>(w1.heap.size<=b/\b≠gf)/\b<w2.heap.size) w2.heap.size gf (YG bs at_) ⟨0,0⟩ :=
   ⟨Blk.new _ _ _,hfw2.fresh ((Upd.refl _ w2).alloc _),λb hb=>⟨hb.1.2,by omega⟩,by simp,by simp⟩
 have htb:=Q7L _ w2.heap.size gf (YG bs at_) (min sy 256) lb _ hrdr (by omega) (λb hb=>by simp;omega);have HTB:=hd_ htb;have b2:=(B1.fresh f2).alloc (.cells #[.pointer (some ⟨gf,0,none⟩),.int .i64 0] 320);have B2:=hd_ b2;have F2:=hd_ ((F1.trans' f2).alloc (.cells #[.pointer (some ⟨gf,0,none⟩),.int .i64 0] 320));have hs2:w1.heap.size<=w2.heap.size:=f2.size;clear htb hrdr hfw hfw2 f2 b2 B1 F1 HNF;go_wp2_with fail;refine HTB.mono ?_;rintro e w3 ⟨v3,rfl,o3,u3,r3,k3,l3⟩;clear HTB;obtain⟨A3,n3,c3,rfl,hn3⟩:=o3.form';obtain⟨T,hT⟩:=nm_ (Z9 (min sy 256) lb (Qf (YG bs at_)));rw [<-hT]at o3 r3 l3|-;obtain⟨lg,N,σ⟩:=T;simp only at o3 r3 l3;have HT:=hd_ hT.symm;obtain⟨gr,hgrd⟩:=nm_ (w2.heap.size);have b3:=B2.upd u3 (by unfold Two;omega);have U3:=hd_ (show Q0 w w3 from F2.trans u3 (λb hb h=>by have:=HH.out;rcases h with h|h<;>omega));(have hs3:w2.heap.size<w3.heap.size:=by have:=u3.size;simp at this;omega);have cu3:=HCU.fresh U3.out;rw [<-hgrd]at r3 hs3 hs2 hgr|-;obtain⟨hc0,hc1⟩:=(r3.1).cells2;have hgrw:gr<w3.heap.size:=hs3;have B3:=hd_ b3;have R3:=hd_ r3;have O3:=hd_ o3;have K3:=hd_ (λb hb=>Nat.le_trans (by have:=HH.out;simp;omega) (k3 b hb):∀b,(Value.slice A3 n3 c3).ownBlock=some b->w.heap.size<=b);have HGR:=hd_ hgrd;clear b3 r3 o3 u3 k3 hn3 hT hgrd B2 F2;by_cases he:σ.e=0
 . have he':(σ.e != 0)=false:=by simpa using he
   have HE:=hd_ he;have hal:=Q7N _ gf (YG bs at_) σ.fr (w3.alloc (.cells #[.int .i64 lg,.slice A3 n3 c3] 205)) (Jv.fresh R3.2.1 ((Upd.refl _ w3).alloc _)) (λb hb=>hb.1.2);have hHw:H<w3.heap.size:=B3.lt;by_cases hz:Qj (YG bs at_) / 2^σ.fr%2^JP σ.fr=0
   . have HAL:=hd_ (hal.mono λe w' h=>(⟨h.1 hz,h.2.2⟩:e=_/\Upd (λb=>b=gf) _ w'))
     have HZ:=hd_ hz;clear hal he hz;go_wp2_with fail;refine HAL.mono ?_;rintro e w4 ⟨rfl,u4⟩;(have hgf4:w.heap.size<=gf/\gf≠H:=by have:=HH.out;omega);(have hg4:w3.heap.size<w4.heap.size:=by have:=u4.size;simp at this;omega);have U4:=hd_ (show Q0 w w4 from(U3.alloc (.cells #[.int .i64 lg,.slice A3 n3 c3] 205)).trans u4 (λb hb h=>by omega));have b4:=(B3.alloc (.cells #[.int .i64 lg,.slice A3 n3 c3] 205)).upd u4 (λh=>hgf4.2 h.symm);have B4:=hd_ b4;have V4:=hd_ u4;have t4:=(Blk.new w3 205 #[.int .i64 lg,.slice A3 n3 c3]).upd u4 (by omega);have T4:=hd_ t4;have O4:=hd_ ((O3.fresh ((Upd.refl _ w3).alloc (.cells #[.int .i64 lg,.slice A3 n3 c3] 205))));have d0:=b4.cell 0;have d1:=b4.cell 1;have z0:=b4.frozen 0;have z1:=b4.frozen 1;simp at d0 d1;(have hfr:σ.fr<=8*(YG bs at_).length:=by obtain⟨_,_,_,_,_,h,_⟩:=R3.2.1;exact h);have hcb:=Q7O _ g bs at_ ((σ.fr+JP σ.fr) / 8) w4 (HCU.both.fresh U4.out) (by unfold JP;omega) (λb hb=>hF b hb.1);have HCB:=hd_ hcb;clear u4 b4 t4 hcb;go_wp2_with fail;refine HCB.mono ?_;rintro e w5 ⟨v5,rfl,o5,u5,cu5⟩;(have hg3:g<w3.heap.size:=by omega);have b5:=B4.upd u5 (by omega);have t5:=T4.upd u5 (by omega);have B5:=hd_ b5;have T5:=hd_ t5;have U5:=hd_ u5;have CU5:=hd_ cu5;have x0:=b5.cell 0;have x1:=b5.cell 1;have y0:=b5.frozen 0;have y1:=b5.frozen 1;have p0:=t5.cell 0;have p1:=t5.cell 1;simp at x0 x1 p0 p1;clear b5 t5 u5 cu5 o5 HCB;go_wp2_with fail
     exact bodyPost_ret (JO rfl _ _ H _ _ _ rfl ((B5.set_ 0 (.int .i64 lg)).set_ 1 (.slice A3 n3 c3)) underlying205 rfl (by kernel_rfl)) rfl (by
       refine hR.out _ _ ?_;have hu:=(((Upd.refl (λb=>b=H) w5).setCell (p:=⟨H,0,none⟩) (λ_=>rfl) (.int .i64 lg)).setCell (p:=⟨H,1,none⟩) (λ_=>rfl) (.slice A3 n3 c3));have hv:Upd (λb=>b=g\/b=H) w4 _:=(U5.mono (λ_ _ h=>Or.inl h)).trans hu (λb _ h=>Or.inr h);have hw:Upd (λb=>b=g) w _:=(Upd.mono U4.out (T:=λb=>b=g) (λ_ _ h=>h.elim)).trans hv (λb hb h=>h.elim id (λh=>by have:=HH.out;omega));refine⟨hw,?_⟩
       have hd:QQ sy lb (Qf (YG bs at_)) = .ok (lg,N,(σ.fr+JP σ.fr) / 8):=by
         unfold QQ;simp only [HT.out];rw [if_neg (by simp [HE.out]),if_neg (by rw [Vr];exact not_not_intro HZ.out)];rfl
       rw [hd];obtain⟨csf,hbf⟩:=R3.2.1.blk;have n1:=O3.ne_blk hbf (by decide);have n2:=O3.ne_blk B3.out (by decide);have o4:Own w4 3 (.slice A3 n3 c3) (Q7 N):=(O3.fresh ((Upd.refl _ w3).alloc (.cells #[.int .i64 lg,.slice A3 n3 c3] 205))).upd V4.out (λb hb h=>n1 (by rw [hb,h]));refine⟨_,rfl,o4.upd hv (λb hb h=>?_),K3.out,(CU5.upd hu (by omega) (λb hb hF' h=>?_)).mono (λb h=>h.1),l3⟩
       . rcases h with h|h
         . have:=K3 b hb;have:=HH.out;omega
         exact n2 (by rw [hb,h])
       have:=hF'.2;have:=HH.out;omega)
   have HAL:=hd_ (hal.mono λe w' h=>(⟨h.2.1 hz,h.2.2⟩:e=_/\Upd (λb=>b=gf) _ w'));have HZ:=hd_ hz;clear hal he hz;go_wp2_with fail;refine HAL.mono ?_;rintro e w4 ⟨rfl,u4⟩;(have hgf4:w.heap.size<=gf/\gf≠H:=by have:=HH.out;omega);(have hg4:w3.heap.size<w4.heap.size:=by have:=u4.size;simp at this;omega);have U4:=hd_ (show Q0 w w4 from(U3.alloc (.cells #[.int .i64 lg,.slice A3 n3 c3] 205)).trans u4 (λb hb h=>by omega));have b4:=(B3.alloc (.cells #[.int .i64 lg,.slice A3 n3 c3] 205)).upd u4 (λh=>hgf4.2 h.symm);have B4:=hd_ b4;have V4:=hd_ u4;have t4:=(Blk.new w3 205 #[.int .i64 lg,.slice A3 n3 c3]).upd u4 (by omega);have T4:=hd_ t4;have O4:=hd_ ((O3.fresh ((Upd.refl _ w3).alloc (.cells #[.int .i64 lg,.slice A3 n3 c3] 205))));have d0:=b4.cell 0;have d1:=b4.cell 1;have z0:=b4.frozen 0;have z1:=b4.frozen 1;simp at d0 d1;clear u4 b4 t4;go_wp2_with fail
   exact bodyPost_ret (JO rfl _ _ H _ _ _ rfl ((B4.set_ 0 (.int .i64 0)).set_ 1 (.slice none 0 0)) underlying205 rfl (by kernel_rfl)) rfl (by
     refine hR.out _ _ ?_;have hu:=(((Upd.refl (λb=>b=H) w4).setCell (p:=⟨H,0,none⟩) (λ_=>rfl) (.int .i64 0)).setCell (p:=⟨H,1,none⟩) (λ_=>rfl) (.slice none 0 0));have hw:Q0 w _:=U4.trans hu (λb hb h=>by have:=HH.out;omega);refine⟨Upd.mono hw (λ_ _ h=>h.elim),?_⟩
     have hd:QQ sy lb (Qf (YG bs at_)) = .error 14:=by
       unfold QQ;simp only [HT.out];rw [if_neg (by simp [HE.out]),if_pos (by rw [Vr];exact HZ.out)]
     rw [hd]
     exact⟨rfl,HCU.fresh hw⟩)
 (have he':(σ.e != 0)=true:=by simpa using he);go_wp2_with fail;have hHw:H<w3.heap.size:=B3.lt;have d0:=B3.cell 0;have d1:=B3.cell 1;have z0:=B3.frozen 0;have z1:=B3.frozen 1;simp at d0 d1;go_region;(all_goals go_wp2_with fail)
 all_goals exact bodyPost_ret (JO rfl _ _ H _ _ _ rfl (((B3.set_ 0 (.int .i64 0)).set_ 1 (.slice none 0 0)).alloc _).drew underlying205 rfl (by kernel_rfl)) rfl (by
   refine hR.out _ _ ?_;have hu:=((((Upd.refl (λb=>b=H) w3).setCell (p:=⟨H,0,none⟩) (λ_=>rfl) (.int .i64 0)).setCell (p:=⟨H,1,none⟩) (λ_=>rfl) (.slice none 0 0)).alloc (.cells #[.int .i64 lg,.slice A3 n3 c3] 205)).drew;have hw:Q0 w _:=U3.trans hu (λb hb h=>by have:=HH.out;omega);refine⟨Upd.mono hw (λ_ _ h=>h.elim),?_⟩
   have hd:QQ sy lb (Qf (YG bs at_)) = .error σ.e:=by
     unfold QQ;simp only [HT.out];rw [if_pos he]
   rw [hd]
   exact⟨rfl,HCU.fresh hw⟩)
theorem Q7P (r b:Nat) (hb:b<=9) (hr:r<18446744073709551616):bits .and .u64 (r:Int) (IntKind.u64.wrap (IntKind.u64.wrap (2^b)-1))=((r%2^b:Nat):Int):=by
 have hp:2^b<=512:=Nat.le_trans (Nat.pow_le_pow_right (by decide) hb) (by decide);have hpp:=Nat.two_pow_pos b;(have e0:((2:Int)^b)=((2^b:Nat):Int):=by simp)
 have e1:IntKind.u64.wrap (IntKind.u64.wrap (2^b)-1)=((2^b-1:Nat):Int):=by
   rw [IntKind.wrap_u64,IntKind.wrap_u64,e0];omega
 rw [e1,u64_and_nat _ _ (by omega) (by omega),Nat.and_two_pow_sub_one_eq_mod]
theorem Q2y (sy base:Int) (b r:Nat) (w:World) (hb:b<=9) (hb0:0<=base/\base<=512) (hr:r<18446744073709551616):Calls prog 273 #[.agg #[.int .i64 sy,.int .i64 (b:Nat),.int .i64 base],.int .u64 (r:Nat)] w λe w' =>
   e = .returned (.int .i64 (base+((r%2^b:Nat):Int)))/\Q0 w w':=by
 have hand:=Q7P r b hb hr;have hp5:2^b<=512:=Nat.le_trans (Nat.pow_le_pow_right (by decide) hb) (by decide);have hml:r%2^b<2^b:=Nat.mod_lt _ (Nat.two_pow_pos b);obtain⟨w0,H,hw0,hH,f0,br⟩:=al_ w 264 #[.int .i64 sy,.int .i64 (b:Nat),.int .i64 base];have r1:=br.cell 1;have r2:=br.cell 2;simp at r1 r2;have F0:=hd_ f0;have HW:=hd_ hw0;have HH:=hd_ hH;clear hw0 hH f0 br;(have hmx:max (b:Int) 0=b:=by omega);have HAND:=hd_ hand;clear hand;(have hmn:min (b:Int) 62=b:=by omega);refine Q8 λR hR=>?_;go_enter func273,ntmps273;go_upto_region 1 with fail;simp only [<-HH.out,<-HW.out];go_quiet (fail);go_wp2_with fail;(try go_ret);have e3:wrap64 (((r%2^b:Nat):Nat):Int)=((r%2^b:Nat):Int):=Q06 _ (by omega);(have e4:wrap64 (base+((r%2^b:Nat):Int))=base+((r%2^b:Nat):Int):=by unfold wrap64;omega);refine hR.out _ _ ⟨?_,F0.drewN _⟩;rw [HAND.out,e3,e4];rfl
def Ke (P:List Int) (i:Nat):Int->Option Int:=λx=>if Jk P i x=0 then none else some (Jk P i x:Nat)
theorem Q7Q (P:List Int):Ke P 0=λ_=>none:=by
 funext x
 simp [Ke,Jk]
theorem Q9c (P:List Int) (i:Nat) (x:Int):(Ke P i x).getD 0=(Jk P i x:Nat):=by
 unfold Ke;split
 . rename_i h;rw [h];rfl
 rfl
theorem Q9d {P:List Int} {i:Nat} (h:i<P.length):Xm (Ke P i) P[i] ((Jk P i P[i]:Nat)+1)=Ke P (i+1):=by
 funext x
 unfold Xm Ke;rw [Q04 h];by_cases hx:x=P[i]
 . subst hx
   rw [if_pos rfl,if_pos rfl,if_neg (by omega)];simp
 have e:(if P[i]=x then 1 else 0)=0:=if_neg (λq=>hx q.symm);rw [if_neg hx,e];rfl
theorem Q5e (P:List Int) (i:Nat) (x:Int):Jk P i x<=i:=by
 unfold Jk;exact Nat.le_trans List.count_le_length (List.length_take_le _ _)
theorem Q5Y (F:Nat->Prop) (A X:Option Addr) (n c c4 p T1 T6 T4 M cnt bnd i:Nat) (N:List Int) (w:World) (hv:Yc p N 256 9) (hr:Rd w F A n (Q7 N)) (b1:Blk w T1 205 #[.int .i64 p,.slice A n c]) (b6:Blk w T6 356 #[.map (some M)])
   (im:Yl w prog 3 3 M bnd cnt (Ke (Qi p N) i)) (b4:Blk w T4 33 #[.slice X (2^p) c4]) (hi:i<2^p) (hb:bnd<maxLen) (hd:T1≠M/\T6≠M/\T4≠M) (hF:∀b,F b->b≠M) :
   Calls prog 304 #[.int .i64 (Zv (Qi p N) i),.pointer (some ⟨T1,0,none⟩),.pointer (some ⟨T6,0,none⟩),.pointer (some ⟨T4,0,none⟩)] w λe w' =>
     e = .returned (.agg #[.int .i64 (Zv (Qi p N) i),.int .i64 (JN p N (Qi p N) i),.int .i64 (Zn p N (Qi p N) i)])/\(∃cnt',Yl w' prog 3 3 M (bnd+1) cnt' (Ke (Qi p N) (i+1)))/\Upd (λb=>b=M) w w':=by
 (have hN:N.length=n:=by have:=hr.1;simpa using this);(have hp:p<=9:=by have:=hv.2.1;omega);have hpw:2^p<=512:=Nat.le_trans (Nat.pow_le_pow_right (by decide) hp) (by decide);obtain⟨s,hs,hsn,hx1,hx2,hb1,hb2,hz1,hz2⟩:=Q1Z hv hi;(have hlen:i<(Qi p N).length:=by simpa using hi);have hput:=Q9d hlen
 have hPi:(Qi p N)[i]=(s:Int):=by
   unfold Zv at hs;rw [List.getElem?_eq_getElem hlen]at hs;exact hs
 rw [hPi]at hput;have hcz:=Q5e (Qi p N) i (s:Int);have hgf:=Q9c (Qi p N) i (s:Int)
 have hnum:JM N (Qi p N) i=max N[s] (-N[s])+Jk (Qi p N) i (s:Int):=by
   unfold JM;rw [hs,Int.toNat_natCast,List.getElem?_eq_getElem hsn];rfl
 have hz5:=hv.2.2.2.2.2.2.1 _ (List.getElem_mem hsn);(have hs256:s<256:=by have:=hv.2.2.2.2.1;omega)
 have hz6:N[s]<=512:=by
   have h1:=Zf (List.getElem_mem hsn);rw [hv.2.2.2.2.2.2.2]at h1;(have h2:((2:Int)^(p:Int).toNat)=((2^p:Nat):Int):=by simp);unfold QP at h1;(split at h1<;>omega)
 obtain⟨bb,oo,_,rfl,_,hc⟩:=hr.int (k:=s) (by omega);unfold Zn at hz1 hz2|-;have hbit:JN p N (Qi p N) i=(p:Int)+1-(Lib.bitLen (JM N (Qi p N) i).toNat:Nat):=rfl;rw [hs];generalize JM N (Qi p N) i=x at *;generalize JN p N (Qi p N) i=bz at *;generalize Jk (Qi p N) i (s:Int)=cz at *;(have hcz2:cz<512:=by omega);generalize Ke (Qi p N) (i+1)=f2 at *;generalize Ke (Qi p N) i=f at *;generalize N[s]=v at *;obtain⟨b,rfl⟩:∃b:Nat,bz=b:=⟨bz.toNat,by omega⟩;rw [Int.toNat_natCast]at hz1 hz2|-;obtain⟨q,hq⟩:=nm_ (2^p);(have hqI:((2:Int)^p)=(q:Nat):=by rw [hq];simp);rw [hqI]at hz1 hz2|-;rw [<-hq]at hpw hi b4;(have hbn:b<=9:=by omega);have hbc:=λW=>bits_Len x W (by omega) (by omega);have HL:Hid ((b:Int)=(p:Int)+1-(Lib.bitLen x.toNat:Nat)):=hd_ hbit;generalize Lib.bitLen x.toNat=L at *;obtain⟨y,hy⟩:=nm_ (x*2^b);rw [<-hy]at hz1 hz2|-;(have h2b:(0:Int)<2^b:=by(have:=Nat.two_pow_pos b;have e:((2:Int)^b)=((2^b:Nat):Int):=by simp);omega);obtain⟨w0,H,hw0,hH,f0,br⟩:=al_ w 264 #[.int .i64 0,.int .i64 0,.int .i64 0];have im0:=im.upd f0 (λh=>h);(have hMH:M<H:=by have:=im.lt;omega);obtain⟨w5,hrun,im5,g5⟩:=im0.run_put (t:=356) underlying3 underlying356 underlying3 hb (key:=(s:Nat)) (val:=(cz:Nat)+1) (Q07 (by omega)) (Q07 (by omega));have u5:Upd (λb=>b=M) w0 w5:=(Upd.refl _ _).grown g5 (λj e _=>by injection e with e;exact e.symm);rw [hput]at im5;refine Q8 λR hR=>?_;go_enter func304,ntmps304;go_upto_region 1 with fail;simp only [<-hH,<-hw0];have c10:=(b1.fresh f0).cell 0;have c11:=(b1.fresh f0).cell 1;have c60:=(b6.fresh f0).cell 0;(have cv:w0.cell? ⟨bb,oo+s,none⟩=some (.int .i64 v):=by rw [f0.cells _ _ (World.block_lt_of_cell? w _ hc)];exact hc);simp at c10 c11 c60;have d10:=((b1.fresh f0).upd u5 (by omega)).cell 0;have b45:=(b4.fresh f0).upd u5 (by omega);have d40:=b45.cell 0;have br5:=br.upd u5 (by omega);have r0:=br5.cell 0;have r1:=br5.cell 1;have r2:=br5.cell 2;have rz0:=br5.frozen 0;have rz1:=br5.frozen 1;have rz2:=br5.frozen 2;simp at d10 d40 r0 r1 r2;(have hsn2:(s:Int)<n:=by omega);have s2:IntKind.i64.wrap (-v)=-v:=IntWalk.i64_in _ (by omega);(have s3:IntKind.i64.wrap (max v (-v)+(cz:Nat))=x:=by rw [hnum];exact IntWalk.i64_in _ (by omega));have s4:IntKind.i64.wrap ((cz:Int)+1)=cz+1:=IntWalk.i64_in _ (by omega);have s5:IntKind.i64.wrap ((p:Int)+1)=p+1:=IntWalk.i64_in _ (by omega);(have s6:IntKind.u64.wrap x=x:=by unfold IntKind.wrap;simp [IntKind.bits];omega);(have s7:IntKind.i64.wrap ((p:Int)+1-(L:Nat))=b:=by have:=HL.out;rw [<-this];exact IntWalk.i64_in _ (by omega))
 (have s8:wrap64 (x*2^b)=y:=by rw [<-hy];unfold wrap64;omega);have s9:IntKind.i64.wrap (y-(q:Nat))=y-q:=IntWalk.i64_in _ (by omega);(have hmx0:0<=max v (-v):=by omega);have HBC:=hd_ hbc;have HIM5:=hd_ im5;have U5:=hd_ u5;have BR5:=hd_ br5;have F0:=hd_ f0;have HH:=hd_ hH;have HMH:=hd_ hMH;clear hw0 br5 b45 b4 b1 b6 im hr hc hput hbc im5 u5 g5 f0 br hH hx1 hx2 hnum hbit hy hq hqI hz1 hz2 h2b hMH hcz hN hb hv hp hpw hz5 hz6;go_wp2_with (at_lookup;refine Ky _ rfl _ _ 356 rfl 3 3 underlying3 underlying356 underlying3 (zeroValue3 _) M _ cnt f rfl im0 (s:Nat) rfl (Q07 (by omega)) ?_);go_quiet ((go_at_call 227;exact Calls.quiet_of_same (HBC _)));go_wp2_with fail;refine QJ 9 (by kernel_rfl) (by kernel_rfl) ?_;simp only [List.take_succ_cons,List.take_zero,List.drop_succ_cons,List.drop_zero];(repeat(first|go_big_quiet_step (fail)|quiet_step (fail)));refine wpQuiet_nil ?_;rintro w6 ⟨q6,rfl⟩;go_wp2_with fail;refine bodyPost_ret (results_cell_row rfl _ _ H _ _ _ _ rfl ((((BR5.drewN (nq+q6)).set_ 0 (.int .i64 (s:Nat))).set_ 1 (.int .i64 (b:Nat))).set_ 2 (.int .i64 (y-(q:Nat)))) underlying264 rfl (by kernel_rfl)) rfl ?_
 have u6:Upd (λb=>b=H) w5 ((((w5.drewN (nq+q6)).setCell ⟨H,0,none⟩ (.int .i64 (s:Nat))).setCell ⟨H,1,none⟩ (.int .i64 (b:Nat))).setCell ⟨H,2,none⟩ (.int .i64 (y-(q:Nat)))) :=
   ((((Upd.refl (λb=>b=H) w5).drewN (nq+q6)).setCell (p:=⟨H,0,none⟩) (λ_=>rfl) _).setCell (p:=⟨H,1,none⟩) (λ_=>rfl) _).setCell (p:=⟨H,2,none⟩) (λ_=>rfl) _
 exact hR _ _ ⟨rfl,⟨_,HIM5.upd u6 (by have:=HMH.out;omega)⟩,((F0.mono (T:=λb=>b=M) (λ_ _ h=>h.elim)).trans' U5.out).trans u6 (λb hb h=>by have:=HH.out;omega)⟩
theorem Q3J:(prog.info? 264).map (λi=>(i.zero,i.size,i.bytes))=some (some (.agg #[.int .i64 0,.int .i64 0,.int .i64 0]),3,24):=by kernel_rfl
def tri (t:Int × Int × Int):List Value:=[.int .i64 t.1,.int .i64 t.2.1,.int .i64 t.2.2]
def VB (lg:Int) (N:List Int) (w:World) (e:Ending) (w':World):Prop :=
  if Yc lg N 256 9 then ∃v,e = .returned (.tuple #[v,.int .i64 0])/\QS w' 264 3 v ((JY lg.toNat N).map tri)/\(∀b,v.ownBlock=some b->w.heap.size<=b)/\Q0 w w'
  else e = .returned (.tuple #[.slice none 0 0,.int .i64 13])/\Q0 w w'
theorem Q9e (F:Nat->Prop) (A:Option Addr) (n c:Nat) (lg:Int) (N:List Int) (w:World) (hr:Rd w F A n (Q7 N)) (hfit:Fit N) (hn:(n:Int)<=1099511627776) (hv:¬Yc lg N 256 9) :
   Calls prog 270 #[.agg #[.int .i64 lg,.slice A n c]] w λe w'=>e = .returned (.tuple #[.slice none 0 0,.int .i64 13])/\Q0 w w':=by
 obtain⟨w0,H,hw0,hH,f0,bt⟩:=al_ w 205 #[.int .i64 lg,.slice A n c];have hsp:=Q1s F A n c lg N w0 (hr.fresh f0) hfit hn;unfold ZU at hsp;simp only [if_neg hv]at hsp;obtain⟨t0,t1⟩:=(bt).cells2;have HSP:=hd_ hsp;have F0:=hd_ f0;have HW:=hd_ hw0;have HH:=hd_ hH;clear hr hw0 hH f0 bt hsp hv;refine Q8 λR hR=>?_;go_enter func270,ntmps270;go_upto_region 1 with fail;simp only [<-HH.out,<-HW.out];go_wp2_with fail;refine HSP.mono ?_;rintro e w1 ⟨rfl,f1⟩;have F1:=hd_ ((F0.trans' f1).alloc (.cells #[.slice none 0 0] 33));clear f1;go_wp2_with fail;(try go_ret);exact hR _ _ ⟨rfl,F1.out⟩
theorem Q9f (F:Nat->Prop) (A:Option Addr) (n c p:Nat) (N:List Int) (w:World) (hr:Rd w F A n (Q7 N)) (hfit:Fit N) (hn:(n:Int)<=1099511627776) (hv:Yc p N 256 9) :
   Calls prog 270 #[.agg #[.int .i64 p,.slice A n c]] w λe w'=>∃v,e = .returned (.tuple #[v,.int .i64 0])/\QS w' 264 3 v ((JY p N).map tri)/\(∀b,v.ownBlock=some b->w.heap.size<=b)/\Q0 w w':=by
 (have hp:p<=9:=by have:=hv.2.1;omega);have hpw:2^p<=512:=Nat.le_trans (Nat.pow_le_pow_right (by decide) hp) (by decide);have hmm:=@run_makeMap prog;obtain⟨w0,H,hw0,hH,f0,bt⟩:=al_ w 205 #[.int .i64 p,.slice A n c];have hsp:=Q1s F A n c p N w0 (hr.fresh f0) hfit hn;unfold ZU at hsp;simp only [if_pos hv,Int.toNat_natCast]at hsp;obtain⟨t0,t1⟩:=(bt).cells2;have HSP:=hd_ hsp;have HR:=hd_ (λW (h:Q0 w W)=>hr.both.fresh h);have BT:=hd_ bt;have F0:=hd_ f0;have HW:=hd_ hw0;have HH:=hd_ hH;have HV:=hd_ hv;obtain⟨s,hs⟩:=nm_ (2^p);rw [<-hs]at hpw HSP;have HS:=hd_ hs;obtain⟨P,hP⟩:=nm_ (Qi p N);rw [<-hP]at HSP;(have hPl:P.length=s:=by rw [hP,hs];simp);have HPL:=hd_ hPl;have HP:=hd_ hP;clear hr hw0 hH f0 bt hsp hv hs hP hPl hp;refine Q8 λR hR=>?_;go_enter func270,ntmps270;go_upto_region 1 with fail;simp only [<-HH.out,<-HW.out];go_wp2_with fail;refine HSP.mono ?_;rintro e w1 ⟨g,rfl,r1,hg,f1⟩;have b1:=BT.fresh f1;have R1:=hd_ r1;have F1:=hd_ (F0.trans' f1);have HG:=hd_ (show w.heap.size<=g from by have:=F0.size;omega);clear t0 t1 r1 f1 hg;go_upto_region 6 with fail;obtain⟨K,hK⟩:=nm_ (w1.heap.size);obtain⟨w2,hw2⟩:=nm_ (((w1.alloc (.cells #[.slice (some ⟨g,0,none⟩) s s] 33)).alloc (.map #[] 0)).alloc (.cells #[.map (some (K+1))] 356));simp only [<-hK,<-hw2];(have f2:Q0 w1 w2:=by rw [hw2];exact(((Upd.refl _ _).alloc _).alloc _).alloc _);(have hz2:w2.heap.size=K+3:=by rw [hw2,hK];simp);(have hz1:(w1.alloc (.cells #[.slice (some ⟨g,0,none⟩) s s] 33)).heap.size=K+1:=by rw [hK];simp);(have b4:Blk w2 K 33 #[.slice (some ⟨g,0,none⟩) s s]:=by rw [hw2];exact((Qb hK _ _).alloc _).alloc _);(have b6:Blk w2 (K+1+1) 356 #[.map (some (K+1))]:=by rw [hw2];exact Qb (by rw [hK];simp) _ _)
 have im:Yl w2 prog 3 3 (K+1) 0 0 (Ke P 0):=by
   have h0:=Yl.new (w1.alloc (.cells #[.slice (some ⟨g,0,none⟩) s s] 33)) prog 3 3;rw [hz1]at h0;rw [Q7Q,hw2];exact h0.upd ((Upd.refl (λ_=>False) _).alloc _) (λh=>h)
 have B1:=hd_ (b1.fresh f2);have R2:=hd_ (R1.fresh f2);have F2:=hd_ (F1.trans' f2);have B4:=hd_ b4;have B6:=hd_ b6;have IM:=hd_ im;have HZ2:=hd_ hz2
 have HGK:=hd_ (show g<K from by
   rw [hK];obtain⟨b,o,e,h1,h2,_⟩:=R1.2 (by rw [HS.out];exact Nat.two_pow_pos p)
   omega)
 (have hHK:H<K:=by rw [hK];exact b1.lt);(have hWK:w.heap.size<=K:=by rw [hK];exact F1.size);have c4:=b4.cell 0;simp at c4;clear hw2 f2 hz2 hz1 b4 b6 im b1 hK hmm;(have hs0:0<s:=by rw [HS.out];exact Nat.two_pow_pos p);go_wp2_with fail;go_loopg [8,23] s (λf v8 i wr=>∃(j cnt:Nat),j+f=s/\i = .int .i64 j/\Yl wr prog 3 3 (K+1) j cnt (Ke P j)/\Upd (λb=>b=K+1) w2 wr/\QS wr 264 3 v8 (((List.range j).map (Jj p N P)).map tri)/\(∀b,v8.ownBlock=some b->K+3<=b))
 case atStart=>exact⟨0,0,by omega,rfl,IM.out,Upd.refl _ _,QS.nil _ _ _,λb h=>by simp [Value.ownBlock]at h⟩
 case round =>
   obtain⟨j,cnt,hj,rfl,im,ur,ov,hvb⟩:=hrel;have HJ:=hd_ hj;have UR:=hd_ ur;have OV:=hd_ ov;have HVB:=hd_ hvb;by_cases hjs:j<s
   . have hjI:(j:Int)<s:=by omega
     have hw4:IntKind.i64.wrap ((j:Int)+1)=j+1:=IntWalk.i64_in _ (by omega);(have hjP:j<P.length:=by rw [HPL.out];exact hjs);have rr:=R2.upd ur (λb _ hb h=>by have:=HGK.out;omega);obtain⟨b,o,_,e1,_,hc⟩:=rr.int (k:=j) hjs;injection e1 with e1;injection e1 with e1 e2;subst e1 e2;rw [Nat.zero_add]at hc;(have hsym:Zv P j=P[j]:=by unfold Zv;rw [List.getElem?_eq_getElem hjP];rfl)
     have hb1:=Q5Y (λb=>b<w.heap.size) A (some ⟨g,0,none⟩) n c s p H (K+1+1) K (K+1) cnt j j N wr HV.out ((HR _ (F2.trans ur (λb hb h=>by omega))).mono (λb h=>h.2)) (B1.upd ur (by omega)) (B6.upd ur (by omega))
       (by rw [<-HP.out];exact im) (by rw [<-HS.out];exact B4.upd ur (by omega)) (by rw [<-HS.out];exact hjs) (by have:=Xn;omega) ⟨by omega,by omega,by omega⟩ (λb hb=>by omega)
     rw [<-HP.out,hsym]at hb1;have HB1:=hd_ hb1;have HCZ:=hd_ (show Jj p N P j=(P[j],JN p N P j,Zn p N P j) by unfold Jj;rw [hsym]);generalize P[j]=sy at *;generalize JN p N P j=bz at *;generalize Zn p N P j=bs at *;clear hj im ur ov hvb rr hsym hb1;go_wp2_with fail;refine HB1.mono ?_;rintro e w5 ⟨rfl,⟨cnt5,im5⟩,u5⟩;have hw5g:wr.heap.size<=w5.heap.size:=u5.size;have o5:=OV.upd u5 (λb hb h=>by have:=HVB b hb;omega);(have hrl:(((List.range j).map (Jj p N P)).map tri).length<=2^30:=by simp;omega);go_wp2_with (at_builtin;go_must (refine Q21 _ rfl (.tmp 27) (.tmp 31) _ rfl 264 _ 3 24 underlying260 Q3J rfl (by omega) (by omega) u8 _ rfl (o5.alloc _) w5.heap.size 1 [.int .i64 sy,.int .i64 bz,.int .i64 bs] rfl (by simp [Value.oneCell']) rfl (Blk.new _ _ _) hrl ?_);intro g6 c6 w6 o6 g6u a6 l6)
     have er:((List.range j).map (Jj p N P)).map tri++[[Value.int .i64 sy,.int .i64 bz,.int .i64 bs]]=((List.range (j+1)).map (Jj p N P)).map tri:=by
       rw [List.range_succ,List.map_append,List.map_append];simp [HCZ.out,tri]
     (have el:(((List.range j).map (Jj p N P)).map tri).length+1=j+1:=by simp);rw [er,el]at o6;have u6:Upd (λb=>u8.ownBlock=some b) w5 w6:=((Upd.refl _ w5).alloc _).grown g6u (λk hk _=>hk);have hur:=UR.size;have hz2:=HZ2.out
     have hog:∀b,(Value.slice (some ⟨g6,0,none⟩) (j+1) c6).ownBlock=some b->K+3<=b:=by
       intro b hb;injection hb with hb;have hb':g6=b:=hb;rcases a6 with h|h
       . have:=HVB g6 h;omega
       simp at h;omega
     have O6:=hd_ o6;have HOG:=hd_ hog;have UU:=hd_ ((UR.trans' u5).trans u6 (λb hb h=>by have:=HVB b h;omega));have IM6:=hd_ (im5.upd u6 (λh=>by have:=HVB _ h;omega));clear er el o6 u6 hog im5 u5 o5 hrl g6u a6;go_roundg (gk-1)
     case measure=>have:=HJ.out;omega
     case rel=>exact⟨j+1,cnt5,by have:=HJ.out;omega,by go_num,IM6.out,UU.out,O6.out,HOG.out⟩
   (obtain rfl:j=s:=by have:=HJ.out;omega);(have hcell:((List.range j).map (Jj p N P)).map tri=(JY p N).map tri:=by unfold JY;rw [HP.out,HS.out]);rw [hcell]at OV;clear hj im ur ov hvb hcell;go_wp2_with fail;(try go_ret);exact hR _ _ ⟨u8,rfl,OV.out,λb hb=>by have:=HVB b hb;omega,F2.trans UR.out (λb hb h=>by omega)⟩
theorem Q7R (F:Nat->Prop) (A:Option Addr) (n c:Nat) (lg:Int) (N:List Int) (w:World) (hr:Rd w F A n (Q7 N)) (hfit:Fit N) (hn:(n:Int)<=1099511627776) :
   Calls prog 270 #[.agg #[.int .i64 lg,.slice A n c]] w (VB lg N w):=by
 by_cases hv:Yc lg N 256 9
 . obtain⟨p,rfl⟩:∃p:Nat,lg=p:=⟨lg.toNat,by have:=hv.1;omega⟩
   refine(Q9f F A n c p N w hr hfit hn hv).mono λe w' h=>?_;unfold VB;rw [if_pos hv];exact h
 refine(Q9e F A n c lg N w hr hfit hn hv).mono λe w' h=>?_;unfold VB;rw [if_neg hv];exact h
end Go.Proofs.YtckjdhaflokcgaaGreat
namespace Go.Proofs.YtckjdhaflokcgaaGreat
open Go.Proofs.Tryz
def Seg (L:List Bool) (i j:Nat) (X:List Bool):Prop:=i<=j/\j<=L.length/\L.take j=L.take i++X
theorem Seg.refl {L:List Bool} {i:Nat} (h:i<=L.length):Seg L i i []:=⟨Nat.le_refl _,h,by simp⟩
theorem Seg.trans {L:List Bool} {i j k:Nat} {X Y:List Bool} (h:Seg L i j X) (g:Seg L j k Y):Seg L i k (X++Y) :=
 ⟨Nat.le_trans h.1 g.1,g.2.1,by rw [g.2.2,h.2.2,List.append_assoc]⟩
theorem Seg.len {L:List Bool} {i j:Nat} {X:List Bool} (h:Seg L i j X):j=i+X.length:=by
 obtain⟨h1,h2,h3⟩:=h;have:=congrArg List.length h3;rw [List.length_take,List.length_append,List.length_take]at this;omega
theorem Q5f {L:List Bool} {n:Nat} {σ:St} (h:(Qh L n σ).2.e=0):σ.e=0:=by
 by_cases h1:σ.e=0
 . exact h1
 rw [Q4x h1]at h;exact h
theorem Kz {L:List Bool} {n:Nat} {σ:St} (h:(Qh L n σ).2.e=0):Seg L σ.fr (Qh L n σ).2.fr (Qr n (Qh L n σ).1):=by
 have h0:=Q5f h;unfold Qh at h|-;rw [if_neg (by omega)]at h;rw [if_neg (by omega)];by_cases h2:σ.fr+n<=L.length
 . rw [if_pos h2]
   (have hl:((L.drop σ.fr).take n).length=n:=by rw [List.length_take,List.length_drop];omega);have:=JJ ((L.drop σ.fr).take n);rw [hl]at this;exact⟨by simp,h2,by simp only;rw [this,List.take_add]⟩
 rw [if_neg h2]at h;simp at h
theorem Q4z {L:List Bool} {m:Nat} {σ:St} (h:(QX L m σ).2.e=0):Seg L σ.fr (QX L m σ).2.fr (V8 (QX L m σ).1 m):=by
 unfold QX at h|-;by_cases h1:(Qh L (QA m) σ).1<Jh m
 . rw [if_pos h1]at h
   rw [if_pos h1];unfold V8;rw [if_pos h1];exact Kz h
 rw [if_neg h1]at h;rw [if_neg h1];have s1:=Kz (Q5f h);have s2:=Kz h;have hc:=Jc L 1 (Qh L (QA m) σ).2;generalize Qh L (QA m) σ=X at *;generalize Qh L 1 X.2=Y at *;simp only;unfold V8;rw [if_neg (by omega),show 2*X.1+Y.1-Jh m+Jh m=2*X.1+Y.1 by omega,show(2*X.1+Y.1) / 2=X.1 by omega,<-XP 1 (2*X.1+Y.1),show(2*X.1+Y.1)%2^1=Y.1 by omega];exact s1.trans s2
theorem Q36 (z:Nat):ZH (3+z)=Qr 2 3++ZH z:=by
 unfold ZH;rw [show(3+z) / 3=z / 3+1 by omega,show(3+z)%3=z%3 by omega,List.replicate_succ,List.flatten_cons,List.append_assoc]
theorem Q37 (z:Nat) (h:z<3):ZH z=Qr 2 z:=by
 unfold ZH;rw [show z / 3=0 by omega,show z%3=z by omega];rfl
theorem Z1 {h:Bool} {e:Int} {σ:St} (he:e≠0) (h1:(Qk h e σ).1=false):(Qk h e σ).2.e≠0:=by
 unfold Qk at h1|-;split at h1
 . split at h1
   . simp at h1
   rename_i h2 h3
   rw [if_pos h2,if_neg h3];exact he
 rename_i h2
 rw [if_neg h2];exact h2
theorem ZV {h:Bool} {e:Int} {σ:St} (h1:(Qk h e σ).1=true):σ.e=0:=by
 unfold Qk at h1;split at h1
 . assumption
 simp at h1
theorem KH {room:Int} {L:List Bool} {f k len:Nat} {σ:St} (h:k≠3):QB room L f k len σ=(len,σ):=by
 cases f with
 | zero=>rfl
 | succ f=>unfold QB;rw [if_neg h]
theorem Q08 {room:Int} {L:List Bool}:∀(f len:Nat) (σ:St),0<f->room<=(len:Int)+3*((f:Int)-1)->(QB room L f 3 len σ).2.e=0 ->
   ∃z,(QB room L f 3 len σ).1=len+z/\Seg L σ.fr (QB room L f 3 len σ).2.fr (ZH z)
 | 0,_,_,h,_,_=>absurd h (by omega)
 | f+1,len,σ,_,hb,h=>by
   unfold QB at h|-
   rw [if_pos rfl]at h
   rw [if_pos rfl]
   by_cases h2:(Qk (decide ((len:Int)<room)) 13 σ).1=true
   . rw [if_pos h2]at h
     rw [if_pos h2]
     obtain⟨e1,e2⟩:=YS h2
     rw [e1]at h|-
     have hlt:(len:Int)<room:=by simpa using e2
     have h4:=Jc L 2 σ
     have hs:=Kz (L:=L) (n:=2) (σ:=σ)
     generalize Qh L 2 σ=X at *
     obtain⟨k,σ1⟩:=X
     simp only at h hs h4|-
     by_cases hk:k=3
     . subst hk
       obtain⟨z,hz1,hz2⟩:=Q08 f (len+3) σ1 (by omega) (by omega) h
       have he:σ1.e=0:=by
         by_cases he:σ1.e=0
         . exact he
         exact absurd (noughtsS_e h) he
       exact⟨3+z,by rw [hz1];omega,by rw [Q36];exact(hs he).trans hz2⟩
     rw [KH hk]at h|-;exact⟨k,rfl,by rw [Q37 k (by omega)];exact hs h⟩
   rw [if_neg h2]at h;exact absurd h (Z1 (by omega) (by simpa using h2))
where
  noughtsS_e {room:Int} {L:List Bool}:∀ {f k len:Nat} {σ:St},(QB room L f k len σ).2.e=0->σ.e=0
  | 0,_,_,_,h=>h
  | f+1,k,len,σ,h=>by
    unfold QB at h
    split at h
    . split at h
      . rename_i h2
        exact ZV h2
      . rename_i h2
        exact absurd h (Z1 (by omega) (by simpa using h2))
    . exact h
theorem Q4A (z:Nat) (l:List Int) (h:l.head?≠some 0):Jy (List.replicate z 0++l)=z:=by
 induction z with
 | zero =>
   cases l with
   | nil=>rfl
   | cons a l=>exact Vt a l (by simpa using h)
 | succ z ih=>rw [List.replicate_succ,List.cons_append,KK,ih]
theorem Q0D {l r:List Int} (h0:r≠[]) (h:r[r.length-1]?≠some 0):(l++r)[(l++r).length-1]?≠some 0:=by
 have:0<r.length:=List.length_pos_iff.2 h0;rw [List.length_append,List.getElem?_append_right (by omega),show l.length+r.length-1-l.length=r.length-1 by omega];exact h
theorem Xo {sy:Int} {L:List Bool} (hsy:sy<=256):∀(f left:Nat) (N:List Int) (ran:Bool) (σ:St),σ.fr<=L.length->left<=512->258<=f+min N.length 257->(left=0->(N.length:Int)<=sy) ->
   σ.e=0->(Qv sy L f left N ran σ).2.e=0 ->
   ∃rest,(Qv sy L f left N ran σ).1=N++rest/\Seg L σ.fr (Qv sy L f left N ran σ).2.fr (YO left 0 rest)/\QR rest=left/\(∀n∈rest,-1<=n)/\((N++rest).length:Int)<=sy /\
     (0<left->rest≠[]/\rest[rest.length-1]?≠some 0)/\(ran=true->rest.head?≠some 0)
 | 0,_,N,_,_,_,_,hf,_,_,_=>absurd hf (by omega)
 | f+1,left,N,ran,σ,hfr,hL,hf,hz,h0,h=>by
   by_cases hleft:0<left
   . by_cases hm:(Qk (decide ((N.length:Int)<sy)) 13 σ).1=true
     . have hlt:(N.length:Int)<sy:=by simpa using(YS hm).2
       have hfN:∀z,258<=f+min (List.length (α:=Int) (N++[0]++List.replicate z 0)) 257:=λz=>by
         have e:List.length (α:=Int) (N++[0]++List.replicate z 0)=N.length+(z+1):=by simp
         rw [e];omega
       obtain⟨Y,hY⟩:=nm_ (QX L (left+2) σ)
       have hyl:=Xk L (left+2) σ (by omega) (by omega)
       have hys:=Q4z (L:=L) (m:=left+2) (σ:=σ)
       have hyf:=Q5V (L:=L) (m:=left+2) (σ:=σ) hfr
       rw [<-hY]at hyl hys hyf
       obtain⟨y,σ6⟩:=Y
       simp only at hyl hys hyf
       by_cases hm2:(Qk ((y:Int)-1 != 0 || !ran) 13 σ6).1=true
       . have h6:=ZV hm2
         have hc:=(YS hm2).2
         have hsg:=hys h6
         by_cases hn:(y:Int)-1=0
         . have hy1:y=1:=by omega
           subst hy1
           rw [VM sy L f left N ran σ 1 σ6 hleft hm hY.symm hm2 hn]at h|-
           have hra:ran=false:=by simpa using hc
           have hno:=Q08 (room:=sy-(N.length+1:Nat)) (L:=L) 300 0 σ6 (by omega) (by omega)
           have hnf:=Q0C (room:=sy-(N.length+1:Nat)) (L:=L) (f:=300) (k:=3) (len:=0) (σ:=σ6) hyf
           generalize QB (sy-(N.length+1:Nat)) L 300 3 0 σ6=Z at *
           obtain⟨z,σ7⟩:=Z
           simp only at h hno hnf|-
           have h7:σ7.e=0:=tableS_e h
           obtain⟨z',hz1,hz2⟩:=hno h7
           rw [Nat.zero_add]at hz1
           subst hz1
           obtain⟨rest,r1,r2,r3,r4,r5,r6,r7⟩:=Xo hsy f left (N++[0]++List.replicate z 0) true σ7 hnf hL (hfN z) (by omega) h7 h
           have hzr:=Q4A z rest (r7 rfl)
           refine⟨0::(List.replicate z 0++rest),?_,?_,?_,?_,?_,?_,?_⟩
           . rw [r1];simp
           . rw [Q33,hzr,XI left z _ (by simp),List.drop_left' (by simp)]
             exact hsg.trans (hz2.trans r2)
           . rw [Jf,Q5U,hzr,List.drop_left' (by simp),r3]
             simp [QP]
           . intro n hn
             rcases List.mem_cons.1 hn with hn|hn
             . omega
             rcases List.mem_append.1 hn with hn|hn
             . have:=(List.mem_replicate.1 hn).2;omega
             exact r4 n hn
           . simpa using r5
           . intro _
             obtain⟨r61,r62⟩:=r6 hleft
             refine⟨by simp,?_⟩
             have:=Q0D (l:=0::List.replicate z 0) r61 r62
             simpa using this
           intro hr
           rw [hra]at hr
           cases hr
         rw [Q05 sy L f left N ran σ y σ6 hleft hm hY.symm hm2 hn]at h|-
         obtain⟨rest,r1,r2,r3,r4,r5,r6,r7⟩:=Xo hsy f (left-((y:Int)-1).natAbs) (N++[(y:Int)-1]) false σ6 hyf (by omega) (by simp;omega) (by simp;omega) h6 h
         refine⟨((y:Int)-1)::rest,?_,?_,?_,?_,?_,?_,?_⟩
         . rw [r1];simp
         . rw [Q4p _ _ _ hn,show((y:Int)-1+1).toNat=y by omega]
           exact hsg.trans r2
         . rw [Jf,r3]
           unfold QP
           split<;>omega
         . intro n hn
           rcases List.mem_cons.1 hn with hn|hn
           . omega
           exact r4 n hn
         . simpa using r5
         . intro _
           refine⟨by simp,?_⟩
           by_cases hl0:0<left-((y:Int)-1).natAbs
           . obtain⟨r61,r62⟩:=r6 hl0
             have:=Q0D (l:=[(y:Int)-1]) r61 r62
             simpa using this
           have hs0:QR rest=0:=by rw [r3];omega
           by_cases hre0:rest=[]
           . subst hre0
             simpa using hn
           exact absurd hs0 (by have:=tableS_rest0 (sy:=sy) (L:=L) f (N++[(y:Int)-1]) false σ6 (left-((y:Int)-1).natAbs) (by omega) ;rw [this]at r1;simp at r1;exact absurd r1 hre0)
         intro _
         simpa using hn
       rw [Z0 sy L f left N ran σ y σ6 hleft hm hY.symm (by simpa using hm2)]at h
       exact absurd h (Z1 (by omega) (by simpa using hm2))
     rw [Kn sy L f left N ran σ hleft (by simpa using hm)]at h
     exact absurd h (Z1 (by omega) (by simpa using hm))
   obtain rfl:left=0:=by omega
   have e:Qv sy L (f+1) 0 N ran σ=(N,σ):=by simp [Qv]
   rw [e]
   exact⟨[],by simp,Seg.refl hfr,by simp [QR],by simp,by simpa using hz rfl,by omega,by simp⟩
where
  tableS_rest0 {sy:Int} {L:List Bool} (f:Nat) (N:List Int) (ran:Bool) (σ:St) (left:Nat) (h:left=0):(Qv sy L f left N ran σ).1=N:=by
    subst h
    cases f with
    | zero=>rfl
    | succ f=>simp [Qv]
  tableS_e {sy:Int} {L:List Bool}:∀ {f left:Nat} {N:List Int} {ran:Bool} {σ:St},(Qv sy L f left N ran σ).2.e=0->σ.e=0
  | 0,_,_,_,_,h=>h
  | f+1,left,N,ran,σ,h=>by
    by_cases hleft:0<left
    . by_cases hm:(Qk (decide ((N.length:Int)<sy)) 13 σ).1=true
      . exact ZV hm
      . rw [Kn sy L f left N ran σ hleft (by simpa using hm)]at h
        exact absurd h (Z1 (by omega) (by simpa using hm))
    . obtain rfl:left=0:=by omega
      have e:Qv sy L (f+1) 0 N ran σ=(N,σ):=by simp [Qv]
      rw [e]at h
      exact h
theorem Q5Z {sy lb:Int} {L:List Bool} (hsy:sy<=256) {p:Nat} {N:List Int} {σ:St} (h:Z9 sy lb L=(p,N,σ)) (h0:σ.e=0) :
   Yc p N 256 9/\p≠0/\(N.length:Int)<=sy/\(p:Int)<=lb/\Seg L 0 σ.fr (X7 p N):=by
 unfold Z9 at h;simp only at h;by_cases hm:(Qk (decide (((Qh L 4 ⟨0,0⟩).1:Int)+1<=min lb 9)) 13 (Qh L 4 ⟨0,0⟩).2).1=true
 . rw [if_pos hm,(YS hm).1]at h
   (have hlb:((Qh L 4 ⟨0,0⟩).1:Int)+1<=min lb 9:=by simpa using(YS hm).2);have h4:=ZV hm;have hs:=Kz h4;have hfr:(Qh L 4 ⟨0,0⟩).2.fr<=L.length:=Vj (by simp);generalize Qh L 4 ⟨0,0⟩=X at *;obtain⟨x,σ1⟩:=X;simp only at h hlb h4 hs hfr;injection h with hp h;have hx:2^(x+1)<=512:=Nat.le_trans (Nat.pow_le_pow_right (n:=2) (by omega) (show x+1<=9 by omega)) (by decide);have hx0:=Nat.two_pow_pos (x+1);(have hT:(Qv sy L 600 (2^(x+1)) [] false σ1).2.e=0:=by rw [h];exact h0);obtain⟨rest,r1,r2,r3,r4,r5,r6,_⟩:=Xo hsy 600 (2^(x+1)) [] false σ1 hfr hx (by simp) (by omega) h4 hT;rw [h]at r1 r2;simp only [List.nil_append]at r1 r2 r5;subst r1 hp;obtain⟨r61,r62⟩:=r6 hx0;refine⟨⟨by omega,by omega,by omega,List.length_pos_iff.2 r61,by omega,r62,r4,?_⟩,by omega,r5,by omega,?_⟩
   . rw [r3];simp
   unfold X7;rw [show x+1-1=x by omega];exact hs.trans r2
 rw [if_neg hm]at h;injection h with hp h;injection h with hn h;rw [<-h]at h0;exact absurd h0 (Z1 (by omega) (by simpa using hm))
theorem Vk {l:List Bool} (h:QI l=0):l=List.replicate l.length false:=by
 have:=JJ l;rw [h,KS]at this;exact this.symm
theorem Q9g {a b:List Nat} (ha:∀x∈a,x<256) (hb:∀x∈b,x<256) (h:Qf a=Qf b):a=b:=by
 have h1:=KM a [] ha;have h2:=KM b [] hb;rw [List.append_nil,Q2h,List.append_nil]at h1 h2;rw [<-h1,<-h2,h]
theorem Q2z {sy lb:Int} {bs:List Nat} (hb:∀b∈bs,b<256) {p k:Nat} {N:List Int} (h:QQ sy lb (Qf bs) = .ok (p,N,k)) :
   Yc p N 256 9/\p≠0/\(N.length:Int)<=sy/\(p:Int)<=lb/\k<=bs.length/\Yr (X7 p N)=bs.take k:=by
 unfold QQ at h;simp only at h;obtain⟨q,M,σ,hr⟩:∃q M σ,Z9 (min sy 256) lb (Qf bs)=(q,M,σ):=⟨_,_,_,rfl⟩;rw [hr]at h;simp only at h;by_cases he:σ.e≠0
 . rw [if_pos he]at h;cases h
 rw [if_neg he]at h;by_cases hv:QI (((Qf bs).drop σ.fr).take ((8-σ.fr%8)%8))≠0
 . rw [if_pos hv]at h;cases h
 rw [if_neg hv]at h;injection h with h;injection h with h1 h;injection h with h2 h3;subst h1 h2;(have he0:σ.e=0:=by omega);(have hv0:QI (((Qf bs).drop σ.fr).take ((8-σ.fr%8)%8))=0:=by omega);obtain⟨o1,o2,o3,o4,o5⟩:=Q5Z (by omega) hr he0;have hl:=o5.len;have hle:=o5.2.1;rw [Yb]at hle;refine⟨o1,o2,by omega,o4,by omega,?_⟩;apply Q9g (Q8O _) (λx hx=>hb x (List.mem_of_mem_take hx));rw [Q1r _ _ (Nat.le_refl _),Q7M];(have h8:8*k=σ.fr+(8-σ.fr%8)%8:=by omega);have hpad:=Vk hv0;rw [List.length_take,List.length_drop,Yb,Nat.min_eq_left (by omega)]at hpad;have h5:=o5.2.2;simp only [List.take_zero,List.nil_append]at h5;rw [h8,List.take_add,h5,hpad];unfold Q3m;rw [show σ.fr=(X7 q M).length by omega]
end Go.Proofs.YtckjdhaflokcgaaGreat
namespace Go.Proofs.YtckjdhaflokcgaaGreat
open Go.RowKit Go.Proofs.Tryz
def Xp (l:List Int) (bs:List Nat) (four:Bool):Int:=if Yu l bs=0 then if bs.length=0 then 2 else if four then Vy l bs else 0 else Yu l bs
theorem Q7S {W:World} {F:Nat->Prop} {A B:Option Addr} {n m c d:Nat} {xs bs:List Nat} (ha:Rd W F A n (Q2 xs)) (hb:Rd W F B m (Q2 bs)):K4 (W.alloc (.cells #[.slice A n c,.slice B m d] 22)) F (some ⟨W.heap.size,0,none⟩) 2 [xs,bs] :=
 ⟨rfl,λi hi=>by
   have hk:=Blk.new W 22 #[.slice A n c,.slice B m d]
   rcases(show i=0\/i=1 by simp at hi;omega)with rfl|rfl
   . exact⟨W.heap.size,0,A,n,c,rfl,hk.lt,by simpa using hk.cell 0,ha.alloc _⟩
   exact⟨W.heap.size,0,B,m,d,rfl,hk.lt,by simpa using hk.cell 1,hb.alloc _⟩⟩
theorem Q5g (F G:Nat->Prop) (A B:Option Addr) (n c m d:Nat) (l:List Int) (bs:List Nat) (four last:Bool) (w:World) (hr:Rd w F A n (Q7 l)) (hbs:Rd w G B m (Q2 bs)) (hlt:∀b∈bs,b<256) (hn:n<=2^40) (hm:m<=2^40) (hc:n<=c) (her:Xp l bs four≠0) :
   Calls prog 18 #[.slice A n c,.slice B m d,.bool four,.bool last] w (Yy none (Xp l bs four) w):=by
 have hmf:∀(fn:Fn) (first cap:Array Value) (w:World),(Instr.makeFunc fn first cap).run prog w = .ok (.func fn first cap) w:=λ_ _ _ _=>rfl;(have hL:bs.length=m:=by have:=hbs.1;simpa using this);obtain⟨w0,H,hw0,hH,f0,bo,be⟩:=Jw w 22 #[.slice none 0 0] 24 #[.int .i64 0];have HEN:=hd_ (λW (hW:Q0 w W)=>Q3y F G A B n c m d l bs W (hr.fresh hW) (hbs.fresh hW) hlt hn hm hc);have HFO:=hd_ (λW (hW:Q0 w W) (h:Vy l bs≠0)=>Qam F G A B n c m d l bs W (hr.fresh hW) (hbs.fresh hW) hlt hn hm hc h);have BO:=hd_ bo;have BE:=hd_ be;have F0:=hd_ f0;have HW:=hd_ hw0;have HH:=hd_ hH;have HL:=hd_ hL;(have hsz:(w.alloc (.cells #[.slice none 0 0] 22)).heap.size=H+1:=by simp [hH]);obtain⟨er,hE⟩:=nm_ (Xp l bs four);rw [<-hE]at her|-;have HER:=hd_ her;have HE:=hd_ hE;clear hw0 hH f0 bo be hr hbs hlt hn hm hc hL her hE
 have HTAIL:=hd_ (show ∀(R:Ending->World->Prop) (w3:World) tmps,Hid (∀e w',Yy none er w e w'->R e w')->Q0 w0 w3->tmps[8]?=some (.pointer (some ⟨H,0,none⟩))->tmps[9]?=some (.pointer (some ⟨H+1,0,none⟩)) ->
     Leaves prog Tryz.f18 tmps R [{ target:=.fn (.func 41) #[],args:=#[.pointer (some ⟨H+1,0,none⟩),.func (.func 47) #[] #[.pointer (some ⟨H,0,none⟩)]] }]
       (.panicking [{ v:=.iface 24 (.int .i64 er),recovered:=false }]) w3 from by
   intro R w3 tmps hR f3 ht4 ht5;refine leaves_cons (f:=41) (args:=#[.pointer (some ⟨H+1,0,none⟩),.func (.func 47) #[] #[.pointer (some ⟨H,0,none⟩)]]) (by simp) (by simp [go_sem]) ?_;refine(Yo 47 #[.pointer (some ⟨H,0,none⟩)] (λb=>b=H) (λW=>Blk W H 22 #[.slice none 0 0]) (H+1) er _ w3 (BE.fresh f3) (by omega) (λ_ _=>rfl) (Q8W H _ w3 (BO.fresh f3))).mono ?_;rintro e u' w'' ⟨rfl,rfl,w4,u4,b4,rfl⟩;have e4:=((BE.fresh f3).upd u4 (by omega)).set_ 0 (.int .i64 er);have b5:=b4.far (p:=⟨H+1,0,none⟩) (by simp) (.int .i64 er);have d0:=b5.cell 0;have d1:=e4.cell 0;simp at d0 d1;show Leaves _ _ _ _ [] .returning _;refine⟨.tuple #[.slice none 0 0,.int .i64 er],?_,hR _ _ ⟨rfl,(F0.trans' f3).trans (u4.mono (T:=λb=>b=H\/b=H+1) (λ_ _ h=>.inl h) |>.setCell (p:=⟨H+1,0,none⟩) (λ_=>.inr rfl) _) (λb hb e=>by have:=HH.out;omega)⟩⟩
   simp [results,results18,go_sem,d0,d1,ht4,ht5])
 refine Q8 λR hR=>?_;go_enter_defers func18,ntmps18;go_upto_region 1 with fail;simp only [hsz,<-HH.out,<-HW.out];clear hsz;go_upto_region 3 with fail;obtain⟨Q,hQ⟩:=nm_ (w0.heap.size);obtain⟨w1,hw1⟩:=nm_ (w0.alloc (.cells #[.int .i64 2,.bool four,.int .i64 m] 41));simp only [<-hQ,<-hw1];(have f1:Q0 w0 w1:=by rw [hw1];exact(Upd.refl _ _).alloc _);have F1:=hd_ f1;have HEN1:=hd_ (HEN w1 (F0.trans' f1));clear hQ hw1 f1 HEN;have HEE:=HE.out;unfold Xp at HEE;by_cases h1:Yu l bs=0
 . simp only [if_pos h1]at HEN1 HEE
   have HEE2:=hd_ HEE;clear h1 HEE;go_wp2_with fail;refine HEN1.mono ?_;rintro e w2 ⟨v,rfl,nb⟩;have F2:=hd_ (F1.trans' nb.2.1);clear nb HEN1;go_wp2_with fail;refine(Yv _ _ _ (by simpa using(Blk.new w2 24 #[.int .i64 0]).cell 0)).mono ?_;rintro e w3 ⟨rfl,hw3⟩;have F3:=hd_ (F2.trans' (show Q0 w2 w3 by rw [hw3];exact(Upd.refl _ _).alloc _));clear hw3;by_cases h2:bs.length=0
   . have hm0:¬0<(m:Int):=by have:=HL.out;omega
     (have he:er=2:=by have:=HEE2.out;rw [if_pos h2]at this;exact this);clear h2;go_wp2_with fail;refine(Jq _ _ _ (by first|rfl|exact decide_eq_false (by omega)|(simp;omega))).mono ?_;rintro e w4 ⟨rfl,rfl⟩;simp only [Qa];rw [<-he];exact HTAIL R w4 _ hR F3.out rfl rfl
   (have hm0:0<(m:Int):=by have:=HL.out;omega);have he:=HEE2.out;rw [if_neg h2]at he
   cases four with
   | false=>exact absurd he HER.out
   | true =>
     have he:er=Vy l bs:=he;have HF:=hd_ (HFO.out);have HEF:=hd_ he;clear h2 he;go_wp2_with fail;refine(YU _ _ _ (by first|rfl|exact decide_eq_true (by omega)|(simp;omega))).mono ?_;rintro e w4 ⟨rfl,rfl⟩;have hf2:=HF w4 (F0.trans' F3.out) (by rw [<-HEF.out];exact HER.out);rw [<-HEF.out]at hf2;have HF2:=hd_ hf2;clear HF HFO hf2;go_wp2_with fail;refine HF2.mono ?_;rintro e w5 ⟨rfl,f5⟩;have F5:=hd_ (F3.trans' f5);clear f5 HF2;go_wp2_with fail;refine(Je er _ _ _ (by have h:=(Blk.new w5 24 #[.int .i64 (Vy l bs)]).cell 0;rw [HEF.out];simpa using h) HER.out).mono ?_;rintro e w6 ⟨rfl,hw6⟩;simp only [Qa];exact HTAIL R w6 _ hR (F5.trans' (by rw [hw6];exact(Upd.refl _ _).alloc _)) rfl rfl
 simp only [if_neg h1]at HEN1 HEE;rw [<-HEE]at HEN1;clear h1 HEE;go_wp2_with fail;refine HEN1.mono ?_;rintro e w2 ⟨rfl,f2⟩;have F2:=hd_ (F1.trans' f2);clear f2 HEN1;go_wp2_with fail;refine(Je er _ _ _ (by simpa using(Blk.new w2 24 #[.int .i64 er]).cell 0) HER.out).mono ?_;rintro e w3 ⟨rfl,hw3⟩;simp only [Qa];exact HTAIL R w3 _ hR (F2.trans' (by rw [hw3];exact(Upd.refl _ _).alloc _)) rfl rfl
theorem Q9h (F G:Nat->Prop) (A B:Option Addr) (n c m d:Nat) (l:List Int) (bs:List Nat) (w:World) (hr:Rd w F A n (Q7 l)) (hbs:Rd w G B m (Q2 bs)) (hlt:∀b∈bs,b<256) (hn:n<=2^40) (hm:m<=2^40) (hc:n<=c) (her:Xp l bs false=0) :
   Calls prog 18 #[.slice A n c,.slice B m d,.bool false,.bool true] w (Yy (some (3::YL bs.length++(YL (Yr (Zd l bs++[true])).length++Yr (Zd l bs++[true])))) 0 w):=by
 have hmf:∀(fn:Fn) (first cap:Array Value) (w:World),(Instr.makeFunc fn first cap).run prog w = .ok (.func fn first cap) w:=λ_ _ _ _=>rfl;(have hL:bs.length=m:=by have:=hbs.1;simpa using this)
 have h1:Yu l bs=0/\0<m:=by
   unfold Xp at her;by_cases h:Yu l bs=0
   . rw [if_pos h]at her
     by_cases h2:bs.length=0
     . rw [if_pos h2]at her;cases her
     exact⟨h,by omega⟩
   rw [if_neg h]at her;exact absurd her h
 have hlen:=Q3A h1.1;obtain⟨w0,H,hw0,hH,f0,bo,be⟩:=Jw w 22 #[.slice none 0 0] 24 #[.int .i64 0];have HEN:=hd_ (λW (hW:Q0 w W)=>(Q3y F G A B n c m d l bs W (hr.fresh hW) (hbs.fresh hW) hlt hn hm hc).mono λe w' h=>(show ∃v,e = .returned (.tuple #[v,.int .i64 0])/\Qu W w' v (Yr (Zd l bs++[true]))from by rw [if_pos h1.1]at h;exact h));obtain⟨S,hS⟩:=nm_ (Yr (Zd l bs++[true]))
 have hSl:S.length<=200000:=by
   have hT:Qc l:=by
     have:=h1.1;unfold Yu at this;by_cases ht:Qc l
     . exact ht
     rw [if_neg ht]at this;cases this
   rw [hS,Q3l,List.length_append,Q0E];have:=Q0X hT bs;unfold Z8 at this;simp only [List.length_cons,List.length_nil];omega
 rw [<-hS]at HEN|-;have HSL:=hd_ hSl;have BO:=hd_ bo;have BE:=hd_ be;have F0:=hd_ f0;have HW:=hd_ hw0;have HH:=hd_ hH;have HL:=hd_ hL;have HM:=hd_ (show m<=131072 by omega);(have hm0:0<(m:Int):=by have:=h1.2;omega);(have hmI:(m:Int)<=131072:=by omega);(have hsz:(w.alloc (.cells #[.slice none 0 0] 22)).heap.size=H+1:=by simp [hH]);rw [hL];clear hw0 hH f0 bo be hr hbs hlt hn hm hc hL her h1 hS hSl hlen;refine Q8 λR hR=>?_;go_enter_defers func18,ntmps18;go_upto_region 1 with fail;simp only [hsz,<-HH.out,<-HW.out];clear hsz;go_upto_region 3 with fail;obtain⟨Q,hQ⟩:=nm_ (w0.heap.size);obtain⟨w1,hw1⟩:=nm_ (w0.alloc (.cells #[.int .i64 2,.bool false,.int .i64 m] 41));simp only [<-hQ,<-hw1];(have f1:Q0 w0 w1:=by rw [hw1];exact(Upd.refl _ _).alloc _);(have bq:Blk w1 Q 41 #[.int .i64 2,.bool false,.int .i64 m]:=by rw [hw1];exact Qb hQ _ _);have F1:=hd_ f1;have BQ:=hd_ bq;have HQS:=hd_ (show H+2<=Q by rw [hQ];have:=BE.lt;omega);have HQW:=hd_ hQ;have HEN1:=hd_ (HEN w1 (F0.trans' f1));clear hQ hw1 f1 HEN bq;go_wp2_with fail;refine HEN1.mono ?_;rintro e w2 ⟨v,rfl,nb⟩;obtain⟨A2,n2,c2,rfl,hn2⟩:=nb.1.form';obtain⟨hn4,hc4,hrd⟩:=nb.1.rd rfl;rw [<-hn4]at hrd hc4;(have hn5:n2=S.length:=by rw [hn4];simp [Q2]);have F12:=hd_ nb.2.1;have HRS:=hd_ (And.intro hrd hn5);have HV2:=hd_ nb.2.2;clear nb HEN1 hn2 hn4 hc4 hrd hn5;go_wp2_with fail;refine(Yv _ _ _ (by simpa using(Blk.new w2 24 #[.int .i64 0]).cell 0)).mono ?_;rintro e w3 ⟨rfl,hw3⟩;have F13:=hd_ (F12.trans' (show Q0 w2 w3 by rw [hw3];exact(Upd.refl _ _).alloc _));have F23:=hd_ (show Q0 w2 w3 by rw [hw3];exact(Upd.refl _ _).alloc _);clear hw3;go_wp2_with fail;refine(YU _ _ _ (by first|rfl|exact decide_eq_true (by omega)|(simp;omega))).mono ?_;rintro e w4 ⟨rfl,rfl⟩;have b4:=BQ.fresh F13.out;have y0:=b4.cell 0;have z0:=b4.frozen 0;simp at y0;have B4:=hd_ b4;(have hn2I:(n2:Int)<=200000:=by have:=HRS.2;have:=HSL.out;omega);(have hwn:IntKind.u64.wrap (n2:Int)=n2:=by unfold IntKind.wrap;simp [IntKind.bits];omega);have HPV:=hd_ (λW=>Q1f (λ_=>False) none 0 0 [] n2 W (Rd.nil _ _ _) (by omega) (by have:=HRS.2;have:=HSL.out;omega));clear b4;go_wp2_with fail;obtain⟨w5,hw5⟩:=nm_ (w4.setCell ⟨Q,0,none⟩ (.int .i64 3));have b5:=B4.set_ 0 (.int .i64 3);(have u45:Upd (λb=>b=Q) w4 w5:=by rw [hw5];exact(Upd.refl (λb=>b=Q) _).setCell (p:=⟨Q,0,none⟩) (λ_=>rfl) _);rw [<-hw5]at b5|-;have B5:=hd_ b5;have F15:=hd_ (show Q0 w0 w5 from(F1.trans' F13.out).trans u45 (λb hb h=>by have:=HQW.out;omega))
 have R5:=hd_ (show Rd w5 (λ_=>True) A2 n2 (Q2 S)from(((HRS.1).fresh F23.out).upd u45 (λb hb hv h=>by
   have h1:=HV2 b hv;have h2:=BQ.lt
   omega)).mono (λ_ _=>trivial))
 clear u45 hw5 b5 y0 z0;have HPV5:=hd_ (HPV w5);clear HPV;refine HPV5.mono ?_;rintro e w6 ⟨v6,rfl,nb6⟩;obtain⟨A6,n6,c6,rfl,hn6⟩:=nb6.1.form';obtain⟨hn7,hc7,hrd6⟩:=nb6.1.rd rfl;rw [<-hn7]at hrd6 hc7;have R6:=hd_ (show Rd w6 (λ_=>True) A6 n6 (Q2 (YL n2))from by simpa using hrd6.mono (λ_ _=>trivial));have F6:=hd_ (F15.trans' nb6.2.1);have F56:=hd_ nb6.2.1;clear nb6 hn6 hn7 hc7 hrd6 HPV5;go_wp2_with fail;refine(Yv _ _ _ (by simpa using(Blk.new w6 24 #[.int .i64 0]).cell 0)).mono ?_;rintro e w7 ⟨rfl,hw7⟩;have F67:=hd_ (show Q0 w6 w7 by rw [hw7];exact(Upd.refl _ _).alloc _);have F7:=hd_ (F6.trans' F67.out);have R7:=hd_ (R6.fresh F67.out);have R52:=hd_ (R5.fresh (F56.trans' F67.out));have b7:=B5.fresh (F56.trans' F67.out);obtain⟨y0,y1,y2⟩:=(b7).cells3;clear hw7 b7;have HPU:=hd_ (Q0U (λ_=>True) (some ⟨w7.heap.size,0,none⟩) 2 2 3 m false [YL n2,S] (w7.alloc (.cells #[.slice A6 n6 c6,.slice A2 n2 c2] 22)) (Q7S R7.out R52.out) (by omega) (by have:=HSL.out;have:=Q0T n2;simp [Ja];omega) (by omega) (by have:=HM.out;omega));go_wp2_with fail;refine HPU.mono ?_;rintro e w8 ⟨v,rfl,ov,fv,bv⟩;obtain⟨A8,n8,c8,rfl,hn8⟩:=ov.form';clear hn8;have f8:=F7.trans' (((Upd.refl (λ_=>False) w7).alloc (.cells #[.slice A6 n6 c6,.slice A2 n2 c2] 22)).trans' fv);have bo8:=BO.fresh f8;have be8:=BE.fresh f8;have c0:=bo8.cell 0;have z0:=bo8.frozen 0;have c1:=be8.cell 0;have z1:=be8.frozen 0;simp at c0 c1;have OV:=hd_ ov;have F8:=hd_ (F0.trans' f8);have BV:=hd_ (show ∀b,Value.ownBlock (.slice A8 n8 c8)=some b->H+1<b from λb hb=>by have h1:=bv b hb;have h2:=BE.lt;have h3:=F7.size;simp at h1;omega);have BO2:=hd_ bo8;have BE2:=hd_ be8;clear ov fv bv f8 bo8 be8 HPU;go_wp2_with fail;change Leaves _ _ _ _ _ _ _;refine leaves_cons (f:=41) (args:=#[.pointer (some ⟨H+1,0,none⟩),.func (.func 47) #[] #[.pointer (some ⟨H,0,none⟩)]]) (by simp) (by simp [go_sem]) ?_;have b2:=(BO2.set_ 0 (.slice A8 n8 c8)).far (p:=⟨H+1,0,none⟩) (by simp) (.int .i64 0);have e2:=(BE2.far (p:=⟨H,0,none⟩) (by simp) (.slice A8 n8 c8)).set_ 0 (.int .i64 0);have d0:=b2.cell 0;have d1:=e2.cell 0;simp at d0 d1;refine(Jp _ _ _).mono ?_;rintro e u' w'' ⟨rfl,rfl,rfl⟩;have us:Upd (λb=>b=H\/b=H+1) w8 ((w8.setCell ⟨H,0,none⟩ (.slice A8 n8 c8)).setCell ⟨H+1,0,none⟩ (.int .i64 0)):=((Upd.refl (λb=>b=H\/b=H+1) w8).setCell (p:=⟨H,0,none⟩) (λ_=>.inl rfl) _).setCell (p:=⟨H+1,0,none⟩) (λ_=>.inr rfl) _;(have hlist:KE 3 false::YL m++[YL n2,S].flatten=3::YL m++(YL S.length++S):=by rw [HRS.2];simp [KE]);refine⟨.tuple #[.slice A8 n8 c8,.int .i64 0],?_,hR _ _ ⟨_,rfl,?_,F8.trans us (λb hb e=>by have:=HH.out;omega),λb hb=>by have h1:=BV b hb;have h2:=HH.out;omega⟩⟩
 . simp [results,results18,go_sem,d0,d1]
 rw [<-hlist];exact OV.upd us (λb hb e=>by have:=BV b hb;omega)
end Go.Proofs.YtckjdhaflokcgaaGreat
namespace Go.Proofs.YtckjdhaflokcgaaGreat
open Go.Proofs.Tryz
theorem Q09 {sy:Int} {L:List Bool} {f left:Nat} {N:List Int} {ran:Bool} {σ:St} (h:σ.e≠0):(Qv sy L f left N ran σ).2=σ:=by
 cases f with
 | zero=>rfl
 | succ f =>
   unfold Qv;(have:Qk (decide ((N.length:Int)<sy)) 13 σ=(false,σ):=by unfold Qk;rw [if_neg h]);rw [this];(split<;>rfl)
end Go.Proofs.YtckjdhaflokcgaaGreat
