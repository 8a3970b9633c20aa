/- Contracts and plain lemmas, part 27. Conditions: none beyond those of each. -/
import Derived.Test.YtckjdhaflokcgaaGreatR26
import Derived.Test.YtckjdhaflokcgaaGreatR25
set_option maxHeartbeats 8000000
set_option linter.unusedVariables false
set_option linter.unusedSimpArgs false
set_option linter.unnecessarySimpa false
set_option maxRecDepth 100000
namespace Go.Proofs.YtckjdhaflokcgaaGreat
open Go.RowKit Go.Proofs.Tryz
theorem Q4M {room:Int} {L:List Bool} {f len fr:Nat} (h:(len:Int)<room):QB room L (f+1) 3 len ⟨fr,0⟩=QB room L f (Qh L 2 ⟨fr,0⟩).1 (len+(Qh L 2 ⟨fr,0⟩).1) (Qh L 2 ⟨fr,0⟩).2:=by
 conv=>lhs;unfold QB
 (have hm:Qk (decide ((len:Int)<room)) 13 ⟨fr,0⟩=(true,⟨fr,0⟩):=by unfold Qk;simp [h]);rw [hm];simp
theorem Q38 {room:Int} {L:List Bool} {f len fr:Nat} (h:room<=len):QB room L (f+1) 3 len ⟨fr,0⟩=(len,⟨fr,13⟩):=by
 conv=>lhs;unfold QB
 (have hm:Qk (decide ((len:Int)<room)) 13 ⟨fr,0⟩=(false,⟨fr,13⟩):=by unfold Qk;simp;omega);rw [hm];simp
theorem eq3 (k:Nat):((k:Int) == 3)=decide (k=3):=by rw [Bool.eq_iff_iff];simp;omega
theorem Q6q (k:Nat) (h:k<4):wrap64 (k:Int)=k:=by unfold wrap64;omega
theorem Q4N {sy:Int} {L:List Bool} {f left fr:Nat} {N:List Int} {ran:Bool} (h:0<left) (h2:sy<=N.length):Qv sy L (f+1) left N ran ⟨fr,0⟩=(N,⟨fr,13⟩):=by
 (have hm:Qk (decide ((N.length:Int)<sy)) 13 ⟨fr,0⟩=(false,⟨fr,13⟩):=by unfold Qk;simp;omega);rw [Kn sy L f left N ran _ h (by rw [hm]),hm]
theorem Q8n {sy:Int} {N:List Int} {fr:Nat} (h:(N.length:Int)<sy):(Qk (decide ((N.length:Int)<sy)) 13 ⟨fr,0⟩).1=true:=by unfold Qk;simp [h]
theorem Q6r (F:Nat->Prop) (g:Nat) (L:List Bool) (fr left:Nat) (sy:Int) (w:World) (h:Yk w F g L fr) (hl:left<=512) (hsy:sy<=256) (hL:L.length<=2^40) (hFg:∀b,F b->b≠g) (hFw:∀b,F b->b<w.heap.size) (hgw:g<w.heap.size) :
   Calls prog 209 #[.pointer (some ⟨g,0,none⟩),.int .i64 left,.int .i64 sy] w λe w' =>
     ∃v:Value,e = .returned (.tuple #[v,.int .i64 (Qv sy L 600 left [] false ⟨fr,0⟩).2.e])/\Upd (λb=>b=g) w w' /\
       ((Qv sy L 600 left [] false ⟨fr,0⟩).2.e=0->Own w' 3 v (Q7 (Qv sy L 600 left [] false ⟨fr,0⟩).1)/\(∀b,v.ownBlock=some b->w.heap.size<=b)/\Yk w' F g L (Qv sy L 600 left [] false ⟨fr,0⟩).2.fr /\
         (Qv sy L 600 left [] false ⟨fr,0⟩).1.length<=1000):=by
 obtain⟨T,hT⟩:=nm_ (Qv sy L 600 left [] false ⟨fr,0⟩);rw [<-hT];have HT:=hd_ hT.symm;have HR:=hd_ h;have HFG:=hd_ hFg;have hget:=λfr' m W (hW:Yk W F g L fr') h1 h2=>Q9C F g L fr' m W hW h1 h2 hL hFg;have HGET:=hd_ hget;have hfst:=λfr' n W (hW:Yk W F g L fr') h1=>KZ F g L fr' n W hW h1 hL hFg;have HFST:=hd_ hfst;have HFW:=hd_ hFw;(have hlI:(left:Int)<=512:=by omega)
 have hbad:∀(q:Int) (W:World),Upd (λb=>b=g) w W->T.2.e=q->q≠0->∃v:Value,Ending.returned (.tuple #[.slice none 0 0,.int .i64 q]) = .returned (.tuple #[v,.int .i64 T.2.e])/\Upd (λb=>b=g) w W /\
       (T.2.e=0->Own W 3 v (Q7 T.1)/\(∀b,v.ownBlock=some b->w.heap.size<=b)/\Yk W F g L T.2.fr/\T.1.length<=1000):=by
   intro q W hu hq hq0;exact⟨_,by rw [hq],hu,λh0=>absurd (hq.symm.trans h0) hq0⟩
 have HBAD:=hd_ hbad;clear hT h hFg hget hfst hbad hFw;refine Q8 λR hR=>?_;go_enter func209,ntmps209;go_wp2_with fail
 go_loopg [1,8,9] 600 (λf l s r wr=>∃(lf fr':Nat) (N:List Int) (ran:Bool),l = .int .i64 lf/\r = .bool ran/\Own wr 3 s (Q7 N)/\(∀b,s.ownBlock=some b->w.heap.size<=b)/\Upd (λb=>b=g) w wr /\
   Yk wr F g L fr'/\Qv sy L f lf N ran ⟨fr',0⟩=T/\lf<=512/\600<=f+min N.length 257/\N.length<=600)
 case atStart=>exact⟨left,fr,[],false,rfl,rfl,Own.nil _ _,by simp [Value.ownBlock],Upd.refl _ _,HR.out,HT.out,hl,by simp,by simp⟩
 case round =>
   obtain⟨lf,fr',N,ran,rfl,rfl,ho,hob,hu,hr,htot,hlf,hf,hNl⟩:=hrel;obtain⟨A,n,c,rfl,hn⟩:=ho.form';(have hnN:n=N.length:=by have:=hn.out;simpa using this);have HO:=hd_ ho;have HOB:=hd_ hob;have HU:=hd_ hu;have HRR:=hd_ hr;have HTOT:=hd_ htot;have HNN:=hd_ hnN;(have hnI:(n:Int)<=600:=by omega);(have hlfI:(lf:Int)<=512:=by omega);clear ho hob hu hr htot hn hnN;by_cases hl0:0<lf
   . obtain⟨f,rfl⟩:∃f,gk=f+1:=⟨gk-1,by omega⟩
     (have hl0I:0<(lf:Int):=by omega);by_cases hfull:sy<=n
     . have ht:=HTOT.out
       rw [Q4N hl0 (by rw [<-HNN.out];exact hfull)]at ht;(have he:T.2.e=13:=by rw [<-ht]);have HE:=hd_ he;clear ht he;go_wp2_with fail;(try go_ret2);exact hR _ _ (HBAD 13 _ HU.out HE.out (by omega))
     (have hroom:(n:Int)<sy:=by omega);have hm1:=Q8n (fr:=fr') (N:=N) (sy:=sy) (by rw [<-HNN.out];exact hroom);have hgg:=HGET fr' (lf+2) wr HRR.out (by omega) (by omega);have hyl:=Xk L (lf+2) ⟨fr',0⟩ (by omega) (by omega);obtain⟨Y,hY⟩:=nm_ (QX L (lf+2) ⟨fr',0⟩);rw [<-hY]at hgg hyl;obtain⟨y,fr6,e6⟩:=Y;simp only at hgg hyl;rw [show((lf+2:Nat):Int)=(lf:Int)+2 by omega]at hgg;have HG:=hd_ hgg;have HY:=hd_ hY.symm;have HM1:=hd_ hm1;(have hyI:(y:Int)<=513:=by omega);clear hgg hY hm1 hfull;by_cases he6:e6=0
     . subst he6
       by_cases hyr:y=1/\ran=true
       . obtain⟨rfl,rfl⟩:=hyr
         have hm2:Qk (((1:Nat):Int)-1 != 0 || !true) 13 ⟨fr6,0⟩=(false,⟨fr6,13⟩):=rfl;have ht:=Z0 sy L f lf N true ⟨fr',0⟩ 1 ⟨fr6,0⟩ hl0 HM1.out HY.out (by rw [hm2]);rw [HTOT.out,hm2]at ht;(have he:T.2.e=13:=by rw [ht]);have HE:=hd_ he;clear ht he hm2;go_wp2_with fail;refine HG.mono ?_;rintro e w1 ⟨rfl,u1,r1⟩;have U1:=hd_ (HU.trans' u1);clear u1 r1;go_wp2_with fail;(try go_ret2);exact hR _ _ (HBAD 13 _ U1.out HE.out (by omega))
       have hm2:Qk ((y:Int)-1 != 0 || !ran) 13 ⟨fr6,0⟩=(true,⟨fr6,0⟩):=by
         have hb:((y:Int)-1 != 0 || !ran)=true:=by
           by_cases h1:y=1
           . have:ran=false:=by
               cases ran with
               | false=>rfl
               | true=>exact absurd ⟨h1,rfl⟩ hyr
             rw [this];simp
           (have:((y:Int)-1 != 0)=true:=by simp;omega);rw [this];rfl
         unfold Qk;simp [hb]
       (have hm21:(Qk ((y:Int)-1 != 0 || !ran) 13 ⟨fr6,0⟩).1=true:=by rw [hm2]);(have hlen1:(Q7 N).length+1<=2^40:=by simp;omega);have HLEN1:=hd_ hlen1;(have hyw:((y:Int) == 1)=decide (y=1):=by rw [Bool.eq_iff_iff];simp;omega);by_cases hy1:y=1
       . have hran:ran=false:=by
           cases ran with
           | false=>rfl
           | true=>exact absurd ⟨hy1,rfl⟩ hyr
         subst hy1 hran;have ht:=VM sy L f lf N false ⟨fr',0⟩ 1 ⟨fr6,0⟩ hl0 HM1.out HY.out hm21 rfl;rw [HTOT.out]at ht;have HTZ:=hd_ ht.symm;have hsta:=hd_ (λW=>KY 0 W);clear ht hm2 hm21 hyr hlen1 hyw;go_wp2_with fail;refine HG.mono ?_;rintro e w1 ⟨rfl,u1,r1⟩;have o1:=HO.upd u1 (λb hb h=>by have:=HOB b hb;omega);have O1:=hd_ o1;have U1:=hd_ (HU.trans' u1);have R1:=hd_ r1;clear u1 r1 o1 HG;go_wp2_with (at_builtin;go_must (refine Qm _ rfl (.tmp 37) (.tmp 40) _ rfl 3 _ 8 underlying33 QV rfl _ _ rfl (O1.alloc _) _ _ _ _ rfl (Rd.one w1 3 (.int .i64 0)) (by simp [Value.oneCell']) (by omega) HLEN1.out ?_));intro v2 w2 o2 g2 a2;rw [show Q7 N++[.int .i64 0]=Q7 (N++[0]) by simp [Q7]]at o2;have b2:∀kk,v2.ownBlock=some kk->w.heap.size<=kk:=Yj (S:=λkk=>w.heap.size<=kk) a2 HOB.out (by have:=U1.size;simp;omega);have u2:Upd (λb=>b=g) w w2:=(U1.alloc _).grown g2 (λkk hkk hlt=>by have:=HOB kk hkk;omega);have ug:Upd (λb=>(Value.slice A n c).ownBlock=some b) w1 w2:=((Upd.refl _ w1).alloc _).grown g2 (λkk hkk _=>hkk);have r2:Yk w2 F g L fr6:=R1.upd ug (λh=>by have:=HOB g h;omega) (λb hb hF h=>by have:=HOB b h;have:=HFW b hF;omega);obtain⟨Z,hZ⟩:=nm_ (QB (sy-(N.length+1:Nat)) L 300 3 0 ⟨fr6,0⟩);rw [<-hZ]at HTZ;have HZ:=hd_ hZ;have O2:=hd_ o2;have B2:=hd_ b2;have U2:=hd_ u2;have R2:=hd_ r2;clear o2 g2 a2 b2 u2 ug r2 hZ O1 U1 R1 HLEN1;go_wp2_with fail;refine(hsta _).mono ?_;rintro e w3 ⟨rfl,rfl⟩;go_wp2_with fail
         go_loopg [8,12] 300 (λf2 s mo wr=>∃(kk len fr2:Nat),mo = .bool (decide (kk=3))/\Own wr 3 s (Q7 (N++[0]++List.replicate len 0))/\(∀b,s.ownBlock=some b->w.heap.size<=b)/\Upd (λb=>b=g) w wr /\
           Yk wr F g L fr2/\QB (sy-(N.length+1:Nat)) L f2 kk len ⟨fr2,0⟩=Z/\(kk=3->900<=3*f2+len)/\len<=260/\kk<4)
         case atStart=>exact⟨3,0,fr6,rfl,by simpa using O2.out,B2.out,U2.out,R2.out,HZ.symm,by omega,by omega,by omega⟩
         case round =>
           obtain⟨kk,len,fr2,rfl,ho,hob,hu,hr,hno,h900,hlen,hk4⟩:=hrel;obtain⟨A5,n5,c5,rfl,hn5⟩:=ho.form';(have hn5':(n5:Int)=(n:Int)+1+len:=by have h1:=hn5.out;have h2:=HNN.out;simp at h1;omega);have HO5:=hd_ ho;have HOB5:=hd_ hob;have HU5:=hd_ hu;have HR5:=hd_ hr;have HNO:=hd_ hno;have H900:=hd_ h900;have HLEN5:=hd_ hlen;have HN5:=hd_ hn5';(have hn5I:(n5:Int)<=1000:=by omega);clear ho hob hu hr hno h900 hn5 hn5' hlen;by_cases hk3:kk=3
           . subst hk3
             obtain⟨f2,hf2⟩:∃f2,gk=f2+1:=⟨gk-1,by have:=H900 rfl;have:=HLEN5.out;omega⟩;subst hf2;by_cases hfull2:sy<=n5
             . have hno:=HNO.out
               rw [Q38 (by have:=HN5.out;have:=HNN.out;omega)]at hno
               have he:T.2.e=13:=by
                 have h1:=HTZ.out;rw [<-hno,]at h1;rw [<-h1,Q09 (by simp)]
               have HE:=hd_ he;clear hno he;go_wp2_with fail;(try go_ret2);exact hR _ _ (HBAD 13 _ HU5.out HE.out (by omega))
             (have hroom2:(n5:Int)<sy:=by omega);have hno:=HNO.out;rw [Q4M (by have:=HN5.out;have:=HNN.out;omega)]at hno;have hf5:=HFST fr2 2 _ HR5.out (by omega);have hxl:=Jc L 2 ⟨fr2,0⟩
             have hxx:Qh L 2 ⟨fr2,0⟩=(0,⟨fr2,3⟩)\/∃k5,Qh L 2 ⟨fr2,0⟩=(k5,⟨fr2+2,0⟩):=by
               by_cases hs:fr2+2<=L.length
               . exact .inr ⟨_,Xz hs⟩
               exact .inl (XA (by omega))
             generalize Qh L 2 ⟨fr2,0⟩=X at *;clear hfull2;rcases hxx with hxx|⟨k5,hxx⟩
             . subst hxx
               simp only at hno hf5;rw [KH (by omega)]at hno
               have he:T.2.e=3:=by
                 have h1:=HTZ.out;rw [<-hno]at h1;rw [<-h1,Q09 (by simp)]
               have HE:=hd_ he;have HF5:=hd_ hf5;clear hno he hf5 hxl;go_wp2_with fail;refine HF5.mono ?_;rintro e w5 ⟨rfl,u5,r5⟩;have U5:=hd_ (HU5.trans' u5);clear u5 r5;go_wp2_with fail;(try go_ret2);exact hR _ _ (HBAD 3 _ U5.out HE.out (by omega))
             subst hxx;simp only at hno hf5 hxl;have HF5:=hd_ hf5;have HNO5:=hd_ hno;(have hk5I:(k5:Int)<4:=by omega);have HK5W:=hd_ (Q6q k5 (by omega));have hk5d:=eq3 k5;have HK5D:=hd_ hk5d;clear hno hf5 hxl hk5d;go_wp2_with fail;refine HF5.mono ?_;rintro e w5 ⟨rfl,u5,r5⟩;have o5:=HO5.upd u5 (λb hb h=>by have:=HOB5 b hb;omega);have O5:=hd_ o5;have U5:=hd_ (HU5.trans' u5);have R5:=hd_ r5;clear u5 r5 o5;go_wp2_with fail
             go_loopg [8,15] k5 (λm s j wr=>∃jj:Nat,jj+m=k5/\j = .int .i64 jj/\Own wr 3 s (Q7 (N++[0]++List.replicate (len+jj) 0))/\(∀b,s.ownBlock=some b->w.heap.size<=b)/\Upd (λb=>b=g) w wr /\
               Yk wr F g L (fr2+2))
             case atStart=>exact⟨0,by omega,rfl,by simpa using O5.out,HOB5.out,U5.out,R5.out⟩
             case round =>
               obtain⟨jj,hjj,rfl,ho,hob,hu,hr⟩:=hrel;have HJJ:=hd_ hjj;have HO6:=hd_ ho;have HOB6:=hd_ hob;have HU6:=hd_ hu;have HR6:=hd_ hr;(have hlen6:(Q7 (N++[0]++List.replicate (len+jj) 0)).length+1<=2^40:=by have:=HLEN5.out;rw [Qz];simp;omega);have HLEN6:=hd_ hlen6;clear hjj ho hob hu hr hlen6;by_cases hjl:jj<k5
               . have hjlI:(jj:Int)<k5:=by omega
                 go_wp2_with (at_builtin;go_must (refine Qm _ rfl (.tmp 69) (.tmp 70) _ rfl 3 _ 8 underlying33 QV rfl _ _ rfl (HO6.alloc _) _ _ _ _ rfl (Rd.one wr 3 (.int .i64 0)) (by simp [Value.oneCell']) (by decide) HLEN6.out ?_));intro v7 w7 o7 g7 a7;(try clear hk5w);have b7:∀q,v7.ownBlock=some q->w.heap.size<=q:=Yj (S:=λq=>w.heap.size<=q) a7 HOB6.out (by have:=HU6.size;simp;omega);have u7:Upd (λb=>b=g) w w7:=(HU6.alloc _).grown g7 (λq hq hlt=>by have:=HOB6 q hq;omega);have ug:Upd (λb=>w.heap.size<=b) wr w7:=((Upd.refl _ wr).alloc _).grown g7 (λq hq _=>HOB6 q hq);have r7:Yk w7 F g L (fr2+2):=HR6.upd ug (λh=>by omega) (λb hb hF h=>by have:=HFW b hF;omega);have O7:=hd_ o7;have B7:=hd_ b7;have U7:=hd_ u7;have R7:=hd_ r7;clear o7 g7 a7 b7 u7 ug r7;go_wp2_with fail;go_roundg (gk-1)
                 case measure=>have:=HJJ.out;omega
                 case rel =>
                   refine⟨jj+1,by have:=HJJ.out;omega,by go_num,?_,B7.out,U7.out,R7.out⟩;have h:=O7.out;rw [<-Nat.add_assoc,List.replicate_succ'];simpa [Q7]using h
               (obtain rfl:jj=k5:=by have:=HJJ.out;omega);have hk5w:=HK5W.out;go_wp2_with fail;(try clear hk5w);go_roundg f2
               case measure=>omega
               case rel=>exact⟨jj,len+jj,fr2+2,by rw [<-HK5D.out],HO6.out,HOB6.out,HU6.out,HR6.out,HNO5.out,λh=>by have:=H900 (by trivial);omega,by have:=HN5.out;omega,by omega⟩
           (have hk3':decide (kk=3)=false:=by simpa using hk3);have hno:=HNO.out;rw [KH hk3]at hno;have htz:=HTZ.out;rw [<-hno]at htz;have HTZ2:=hd_ htz;clear hno htz;go_wp2_with fail;go_roundg f
           case measure=>omega
           case rel=>exact⟨lf,fr2,_,true,rfl,rfl,HO5.out,HOB5.out,HU5.out,HR5.out,HTZ2.out,by omega,by have:=HNN.out;simp;omega,by have:=HNN.out;have:=HLEN5.out;have:=HN5.out;simp;omega⟩
       (have hz1:-1<=(y:Int)-1:=by omega);(have hne:(y:Int)-1≠0:=by omega);have ht:=Q05 sy L f lf N ran ⟨fr',0⟩ y ⟨fr6,0⟩ hl0 HM1.out HY.out hm21 hne;rw [HTOT.out]at ht;have HTZ:=hd_ ht.symm;have hsta:=λW=>KY ((y:Int)-1) W
       have ha:(if(y:Int)-1=-1 then 1 else(y:Int)-1)=QP ((y:Int)-1):=by
         unfold QP;by_cases h:(y:Int)-1=-1
         . rw [if_pos h,if_pos (by omega)];omega
         rw [if_neg h,if_neg (by omega)]
       simp only [ha]at hsta;(have hsub:(lf:Int)-QP ((y:Int)-1)=((lf-((y:Int)-1).natAbs:Nat):Int):=by unfold QP;split<;>omega);(have hq1:QP ((y:Int)-1)<=512:=by unfold QP;split<;>omega);have hq0:=Kq ((y:Int)-1);obtain⟨q,hq⟩:=nm_ (QP ((y:Int)-1));simp only [<-hq]at hsta hsub hq1 hq0;have HSTA:=hd_ hsta;have HSUB:=hd_ hsub;(have hyf:((y:Int) == 1)=false:=by simp;omega);(have hlf2:lf-((y:Int)-1).natAbs<=512:=by omega);have HLF2:=hd_ hlf2;clear ht hm2 hm21 hyr hlen1 hyw hsta hsub ha hq hne hy1 hlf2;go_wp2_with fail;refine HG.mono ?_;rintro e w1 ⟨rfl,u1,r1⟩;have o1:=HO.upd u1 (λb hb h=>by have:=HOB b hb;omega);have O1:=hd_ o1;have U1:=hd_ (HU.trans' u1);have R1:=hd_ r1;clear u1 r1 o1 HG;go_wp2_with (at_builtin;go_must (refine Qm _ rfl (.tmp 37) (.tmp 40) _ rfl 3 _ 8 underlying33 QV rfl _ _ rfl (O1.alloc _) _ _ _ _ rfl (Rd.one w1 3 (.int .i64 ((y:Int)-1))) (by simp [Value.oneCell']) (by omega) HLEN1.out ?_));intro v2 w2 o2 g2 a2;rw [show Q7 N++[.int .i64 ((y:Int)-1)]=Q7 (N++[(y:Int)-1]) by simp [Q7]]at o2;have b2:∀kk,v2.ownBlock=some kk->w.heap.size<=kk:=Yj (S:=λkk=>w.heap.size<=kk) a2 HOB.out (by have:=U1.size;simp;omega);have u2:Upd (λb=>b=g) w w2:=(U1.alloc _).grown g2 (λkk hkk hlt=>by have:=HOB kk hkk;omega);have ug:Upd (λb=>(Value.slice A n c).ownBlock=some b) w1 w2:=((Upd.refl _ w1).alloc _).grown g2 (λkk hkk _=>hkk);have r2:Yk w2 F g L fr6:=R1.upd ug (λh=>by have:=HOB g h;omega) (λb hb hF h=>by have:=HOB b h;have:=HFW b hF;omega);have O2:=hd_ o2;have B2:=hd_ b2;have U2:=hd_ u2;have R2:=hd_ r2;clear o2 g2 a2 b2 u2 ug r2 O1 U1 R1 HLEN1;go_wp2_with fail;refine(HSTA _).mono ?_;rintro e w3 ⟨rfl,rfl⟩;go_wp2_with fail;go_loopg [8,12] 0 (λm s mo wr=>wr=w2/\s=v2/\mo = .bool false)
       case atStart=>exact⟨rfl,rfl,rfl⟩
       case round =>
         obtain⟨rfl,rfl,rfl⟩:=hrel;go_wp2_with fail;go_roundg f
         case measure=>omega
         case rel=>exact⟨lf-((y:Int)-1).natAbs,fr6,_,false,by rw [<-HSUB.out],rfl,O2.out,B2.out,U2.out,R2.out,HTZ.out,HLF2.out,by have:=HNN.out;simp;omega,by have:=HNN.out;simp;omega⟩
     (have hm2:Qk ((y:Int)-1 != 0 || !ran) 13 ⟨fr6,e6⟩=(false,⟨fr6,e6⟩):=by unfold Qk;rw [if_neg (by simpa using he6)]);have ht:=Z0 sy L f lf N ran ⟨fr',0⟩ y ⟨fr6,e6⟩ hl0 HM1.out HY.out (by rw [hm2]);rw [HTOT.out,hm2]at ht;(have he:T.2.e=e6:=by rw [ht]);have HE:=hd_ he;(have he6':(e6 != 0)=true:=by simpa using he6);have HE6:=hd_ he6;clear ht he hm2 he6;go_wp2_with fail;refine HG.mono ?_;rintro e w1 ⟨rfl,u1,r1⟩;have U1:=hd_ (HU.trans' u1);clear u1 r1;go_wp2_with fail;(try go_ret2);exact hR _ _ (HBAD e6 _ U1.out HE.out HE6.out)
   (obtain rfl:lf=0:=by omega)
   have ht:T=(N,⟨fr',0⟩):=by
     rw [<-HTOT.out]
     cases gk with
     | zero=>rfl
     | succ f=>simp [Qv]
   have HTT:=hd_ ht;clear ht;go_wp2_with fail;(try go_ret2);refine hR.out _ _ ⟨.slice A n c,?_,HU.out,λ_=>?_⟩
   . rw [HTT.out];rfl
   rw [HTT.out];exact⟨HO.out,HOB.out,HRR.out,by simp only;omega⟩
theorem Yz {P:Program} {fn:Func} {p u v:Tmp} {ty:TypeId} (h:fn.results=#[.cell p ty,.tmp u,.tmp v]) (tmps:Array Value) (w:World) (g:Nat) (t:TypeId) (cs:Array Value) (d:TypeDesc)
   (hp:tmps.getD p undef = .pointer (some ⟨g,0,none⟩)) (hg:Blk w g t cs)
   (hu:P.underlying ty=some d) (hd:(match d with | .struct _ | .array _ _=>true|_=>false)=true) (hi:(P.info? ty).map (·.size)=some cs.size) :
   (results fn tmps).run P w = .ok (.tuple #[.agg cs,tmps.getD u undef,tmps.getD v undef]) w:=by
 have hl:=run_loadVar_row w g t ty cs (0,0) d hg hu hd hi
 have e:(results fn tmps).run P w =
     ((asAddr (tmps.getD p undef)).run P w).andThen λa w₁=>((loadVar ty a).run P w₁).andThen λx w₂=>.ok (.tuple #[x,tmps.getD u undef,tmps.getD v undef]) w₂:=by
   simp only [results,h];simp [Sem.run_bind,Result.andThen]
 rw [e,hp];simp [asAddr,hl,Result.andThen]
def Qba (bs:List Nat) (sy lb:Int) (w:World) (e:Ending) (w':World):Prop :=
  Q0 w w'/\match QQ sy lb (Qf bs)with
    | .error x=>e = .returned (.tuple #[.agg #[.int .i64 0,.slice none 0 0],.int .i64 0,.int .i64 x])
    | .ok (p,N,k)=>∃v,e = .returned (.tuple #[.agg #[.int .i64 p,v],.int .i64 k,.int .i64 0])/\Own w' 3 v (Q7 N)/\(∀b,v.ownBlock=some b->w.heap.size<=b)/\N.length<=1000
theorem Q8o {sy lb:Int} {L:List Bool} (h:Qh L 4 ⟨0,0⟩=(0,⟨0,3⟩)):QQ sy lb L = .error 3:=by
 unfold QQ Z9;simp only [h,Qk];simp
theorem QaB {sy lb:Int} {L:List Bool} {x:Nat} (h:Qh L 4 ⟨0,0⟩=(x,⟨4,0⟩)) (hx:¬((x:Int)+1<=min lb 9)):QQ sy lb L = .error 13:=by
 unfold QQ Z9;simp only [h,Qk,decide_eq_false hx];simp
theorem QaC {sy lb:Int} {L:List Bool} {x:Nat} (h:Qh L 4 ⟨0,0⟩=(x,⟨4,0⟩)) (hx:(x:Int)+1<=min lb 9) :
   QQ sy lb L=if(Qv (min sy 256) L 600 (2^(x+1)) [] false ⟨4,0⟩).2.e≠0 then .error (Qv (min sy 256) L 600 (2^(x+1)) [] false ⟨4,0⟩).2.e
     else if Q6k L (Qv (min sy 256) L 600 (2^(x+1)) [] false ⟨4,0⟩).2.fr≠0 then .error 14
     else .ok (x+1,(Qv (min sy 256) L 600 (2^(x+1)) [] false ⟨4,0⟩).1,((Qv (min sy 256) L 600 (2^(x+1)) [] false ⟨4,0⟩).2.fr+(8-(Qv (min sy 256) L 600 (2^(x+1)) [] false ⟨4,0⟩).2.fr%8)%8) / 8):=by
 unfold QQ Z9;simp only [h,Qk,decide_eq_true hx,if_true];rfl
theorem Yk.both {w:World} {F:Nat->Prop} {g:Nat} {L:List Bool} {fr:Nat} (h:Yk w F g L fr):Yk w (λb=>F b/\b<w.heap.size) g L fr:=by
 obtain⟨A,c,h1,h2,h3⟩:=h;exact⟨A,c,h1,h2.both,h3⟩
theorem Yk.lt {w:World} {F:Nat->Prop} {g:Nat} {L:List Bool} {fr:Nat} (h:Yk w F g L fr):g<w.heap.size:=by
 obtain⟨A,c,h1,_⟩:=h;exact h1.lt
theorem QaO (x:Nat) (h:x<2^4):wrap64 (x:Int)=x:=by unfold wrap64;omega
def JD (at_:Nat) (bs:List Nat) (sy lb:Int) (w:World) (e:Ending) (w':World):Prop :=
  Q0 w w'/\match QQ sy lb (Qf bs)with
    | .error x=>e = .returned (.tuple #[.agg #[.int .i64 0,.slice none 0 0],.int .i64 (at_:Nat),.int .i64 x])
    | .ok (p,N,k)=>∃v,e = .returned (.tuple #[.agg #[.int .i64 p,v],.int .i64 ((at_:Int)+(k:Nat)),.int .i64 0])/\Own w' 3 v (Q7 N)/\(∀b,v.ownBlock=some b->w.heap.size<=b)/\N.length<=1000
theorem JD.err {at_:Nat} {bs:List Nat} {sy lb:Int} {w w':World} {e:Ending} (f:Q0 w w') (x:Int) (hd:QQ sy lb (Qf bs) = .error x) (he:e = .returned (.tuple #[.agg #[.int .i64 0,.slice none 0 0],.int .i64 (at_:Nat),.int .i64 x])) :
   JD at_ bs sy lb w e w':=by
 refine⟨f,?_⟩;rw [hd];exact he
theorem JD.ok {at_:Nat} {bs:List Nat} {sy lb:Int} {w w':World} {e:Ending} (f:Q0 w w') {p k:Nat} {N:List Int} {v:Value} (hd:QQ sy lb (Qf bs) = .ok (p,N,k)) (he:e = .returned (.tuple #[.agg #[.int .i64 p,v],.int .i64 ((at_:Int)+(k:Nat)),.int .i64 0]))
   (ho:Own w' 3 v (Q7 N)) (hk:∀b,v.ownBlock=some b->w.heap.size<=b) (hl:N.length<=1000):JD at_ bs sy lb w e w':=by
 refine⟨f,?_⟩;rw [hd];exact⟨v,he,ho,hk,hl⟩
theorem Q8p (F:Nat->Prop) (A:Option Addr) (n c at_:Nat) (bs0:List Nat) (sy lb:Int) (w:World) (hr0:Rd w F A n (Q2 bs0)) (hlt0:∀b∈bs0,b<256) (hn:n<=500) (hcap:n<=c) (hat:at_<=n) :
   Calls prog 159 #[.slice A n c,.int .i64 (at_:Nat),.int .i64 sy,.int .i64 lb] w (JD at_ (bs0.drop at_) sy lb w):=by
 (have hL0:bs0.length=n:=by have:=hr0.1;simpa using this);obtain⟨bs,hbs⟩:=nm_ (bs0.drop at_);rw [<-hbs];(have hL:bs.length=n-at_:=by rw [hbs,List.length_drop,hL0]);have hlt:∀b∈bs,b<256:=λb hb=>hlt0 b (List.mem_of_mem_drop (by rw [hbs]at hb;exact hb));have hr:=hr0.cut (k:=at_) (cap:=c) hat hcap;(have hbd:(Q2 bs0).drop at_=Q2 bs:=by rw [hbs];simp [Q2]);rw [hbd]at hr;(have hatI:(at_:Int)<=n:=by omega);(have hnI:(n:Int)<=500:=by omega);(have hncI:(n:Int)<=c:=by omega);obtain⟨w0,H,hw0,hH,fr0,b0⟩:=al_ w 205 #[.int .i64 0,.slice none 0 0];have hfw:=Q3Q F _ (n-at_) (c-at_) bs w0 (hr.fresh fr0) hlt (by omega);have HFW:=hd_ hfw;obtain⟨L,hLd⟩:=nm_ (Qf bs);(have hL40:L.length<=2^40:=by rw [hLd,Yb];omega);(have hL8:L.length%8=0:=by rw [hLd,Yb];omega);have HLD:=hd_ hLd;have B0:=hd_ b0;have F0:=hd_ fr0;have HW:=hd_ hw0;have HH:=hd_ hH;have HL40:=hd_ hL40;have HL8:=hd_ hL8;clear hr hr0 hlt hlt0 hbd hbs hL0 hw0 hH fr0 b0 hfw hLd hL40 hL8 hL;refine Q8 λR hR=>?_;(have hc0:at_=c\/(at_:Int)<c:=by omega);(have hatc:at_=c->n=at_:=λh=>by omega);rcases hc0 with hc0|hc0
 case' inl =>
   subst hc0;obtain rfl:=hatc rfl;rw [if_pos rfl,Nat.sub_self]at HFW;clear hatc hat hcap
 case' inr =>
   rw [if_neg (by omega)]at HFW;clear hatc hat hcap
 all_goals
   go_enter func159,ntmps159;go_wp2_with fail;simp only [<-HH.out,<-HW.out];refine HFW.mono ?_;rintro e w1 ⟨g,rfl,f1,hg,r1⟩;rw [<-HLD.out]at r1;have r1b:=r1.both;have hg1:=r1.lt;have hF1:∀b,((w0.heap.size<=b/\b≠g)/\b<w1.heap.size)->b≠g:=λb h=>h.1.2;have hF2:∀b,((w0.heap.size<=b/\b≠g)/\b<w1.heap.size)->b<w1.heap.size:=λb h=>h.2;have hF3:∀b,((w0.heap.size<=b/\b≠g)/\b<w1.heap.size)->w0.heap.size<=b:=λb h=>h.1.1;obtain⟨FF,hFF⟩:∃FF:Nat->Prop,FF=λb=>((w0.heap.size<=b/\b≠g)/\b<w1.heap.size):=⟨_,rfl⟩;rw [<-hFF]at r1b;(have hF1':∀b,FF b->b≠g:=by rw [hFF];exact hF1);(have hF2':∀b,FF b->b<w1.heap.size:=by rw [hFF];exact hF2);have hHg:H<w0.heap.size:=B0.lt;have hfst:=KZ FF g L 0 4 w1 r1b (by omega) HL40.out hF1';have HG1:=hd_ hF1';have HG2:=hd_ hF2';have F1:=hd_ f1;have B1:=hd_ (B0.fresh f1)
   have hxx:Qh L 4 ⟨0,0⟩=(0,⟨0,3⟩)\/∃x,Qh L 4 ⟨0,0⟩=(x,⟨4,0⟩):=by
     by_cases hs:0+4<=L.length
     . exact .inr ⟨_,Xz hs⟩
     exact .inl (XA (by omega))
   have hx16:=Jc L 4 ⟨0,0⟩;have hds:=@Q8o sy lb L;have hdl:=@QaB sy lb L;have hdt:=@QaC sy lb L;obtain⟨X,hX⟩:=nm_ (Qh L 4 ⟨0,0⟩);simp only [<-hX]at hfst hxx hx16 hds hdl hdt;clear hX r1 r1b f1 hF1 hF2 hF3 hFF hF1' hF2' HFW;rcases hxx with rfl|⟨x,rfl⟩
   . have hd:=hds rfl
     rw [HLD.out]at hd;have HD:=hd_ hd;have HFS:=hd_ hfst;clear hd hfst hx16 hds hdl hdt;go_wp2_with fail;refine HFS.mono ?_;rintro e w2 ⟨rfl,u2,r2⟩;have b2:=B1.upd u2 (by omega);have c0:=b2.cell 0;have c1:=b2.cell 1;have z0:=b2.frozen 0;have z1:=b2.frozen 1;simp at c0 c1;have B2:=hd_ b2;have U2:=hd_ u2;clear u2 r2 b2;go_wp2_with fail
     exact bodyPost_ret (Yz rfl _ _ H _ _ _ rfl ((B2.set_ 0 (.int .i64 0)).set_ 1 (.slice none 0 0)) underlying205 rfl (by kernel_rfl)) rfl
       (hR _ _ (JD.err (((F0.trans' F1.out).trans U2.out (λb hb h=>by have:=F0.size;omega)).trans (Kx w2 H _ _) (λb hb h=>by have:=HH.out;omega)) 3 HD.out rfl))
   simp only at hfst hx16;have HFS:=hd_ hfst;(have hxI:(x:Int)<=15:=by omega);have hx64:=QaO x hx16;have HX64:=hd_ hx64;clear hfst hds hx64;by_cases hlog:(x:Int)+1<=min lb 9
   . have hd:=hdt rfl hlog
     (have hx9:x+1<=9:=by omega);have hp2:=JW hx9;have hsz:=λW=>K5 (x+1) W hx9;obtain⟨T,hT⟩:=nm_ (Qv (min sy 256) L 600 (2^(x+1)) [] false ⟨4,0⟩);have hno:=λW (h:Yk W FF g L 4) (hW:w1.heap.size<=W.heap.size)=>Q6r FF g L 4 (2^(x+1)) (min sy 256) W h hp2 (by omega) HL40.out HG1.out (λb hb=>Nat.lt_of_lt_of_le (HG2 b hb) hW) (Nat.lt_of_lt_of_le hg1 hW);simp only [<-hT]at hd hno;rw [show((x+1:Nat):Int)=(x:Int)+1 by omega]at hsz;rw [HLD.out]at hd;rw [<-HLD.out]at hd;obtain⟨q,hq⟩:=nm_ (2^(x+1));rw [<-hq]at hsz hno;(have hl1:(x:Int)+1<=lb:=by omega);(have hl2:(x:Int)<=8:=by omega);have HD:=hd_ hd;have HNO:=hd_ hno;have HSZ:=hd_ hsz;obtain⟨sm,hsm⟩:=nm_ (min sy 256);rw [<-hsm]at HNO;have HSM:=hd_ hsm;clear hd hno hsz hq hT hlog hdl hdt hp2 hx9 hsm;have hx64:=HX64.out;go_wp2_with fail;refine HFS.mono ?_;rintro e w2 ⟨rfl,u2,r2⟩;have hs2:=u2.size;have hno2:=HNO w2 r2 hs2;have HNO2:=hd_ hno2;have U2:=hd_ u2;clear u2 r2 hs2 hno2 HNO;go_wp2_with fail;refine(HSZ _).mono ?_;rintro e w3 ⟨rfl,rfl⟩;go_wp2_with fail;rw [<-HSM.out];refine HNO2.mono ?_;rintro e w4 ⟨v4,rfl,u4,h4⟩;have U4:=hd_ (U2.trans' u4);have b4:=B1.upd U4.out (by omega);have B4:=hd_ b4;obtain⟨N,fr9,e9⟩:=T;simp only at h4;by_cases he9:e9=0
     . subst he9
       obtain⟨o4,k4,r4,hl4⟩:=h4 rfl;obtain⟨A4,n4,c4,rfl,hn4⟩:=o4.form';have hwh:=Q6l FF g L fr9 w4 r4 HL8.out HL40.out
       have hk9:(((fr9+(8-fr9%8)%8) / 8:Nat):Int)<=1099511627776:=by
         obtain⟨_,_,_,_,h,_⟩:=r4;have:=HL40.out;omega
       have hd:=HD.out;simp only [ne_eq,not_true_eq_false,if_false]at hd;have HWH:=hd_ hwh;have HO4:=hd_ o4;have HK4:=hd_ k4;have HL4:=hd_ hl4;clear o4 k4 r4 hl4 hn4 hwh h4 HD b4 u4;by_cases hpv:Q6k L fr9=0
       . rw [if_neg (by simpa using hpv)]at hd
         rw [if_pos hpv]at HWH;have HD:=hd_ hd;clear hd hpv;go_wp2_with fail;refine HWH.mono ?_;rintro e w5 ⟨rfl,u5⟩;have b5:=B4.upd u5 (by omega);have c0:=b5.cell 0;have c1:=b5.cell 1;have z0:=b5.frozen 0;have z1:=b5.frozen 1;simp at c0 c1;have B5:=hd_ b5;have U5:=hd_ u5;clear u5 b5;generalize (fr9+(8-fr9%8)%8) / 8=k9 at *;have hs14:w0.heap.size<=w2.heap.size:=Nat.le_trans F1.size U2.size;have hs12:w1.heap.size<=w2.heap.size:=U2.size;go_wp2_with fail
         exact bodyPost_ret (Yz rfl _ _ H _ _ _ rfl ((B5.set_ 0 (.int .i64 ((x:Int)+1))).set_ 1 (.slice A4 n4 c4)) underlying205 rfl (by kernel_rfl)) rfl
           (hR _ _ (JD.ok (((F0.trans' F1.out).trans (U4.trans' U5.out) (λb hb h=>by have:=F0.size;omega)).trans (Kx w5 H _ _) (λb hb h=>by have:=HH.out;omega)) (by rw [<-HLD.out];exact HD.out) rfl
             ((HO4.upd U5.out (λb hb h=>by have:=HK4 b hb;omega)).upd (Kx w5 H _ _) (λb hb h=>by have:=HK4 b hb;omega)) (λb hb=>by have:=HK4 b hb;have:=F0.size;omega) HL4.out))
       rw [if_pos (by simpa using hpv)]at hd;rw [if_neg hpv]at HWH;have HD:=hd_ hd;clear hd hpv;go_wp2_with fail;refine HWH.mono ?_;rintro e w5 ⟨rfl,u5⟩;have b5:=B4.upd u5 (by omega);have c0:=b5.cell 0;have c1:=b5.cell 1;have z0:=b5.frozen 0;have z1:=b5.frozen 1;simp at c0 c1;have B5:=hd_ b5;have U5:=hd_ (U4.trans' u5);clear u5 b5;go_wp2_with fail
       exact bodyPost_ret (Yz rfl _ _ H _ _ _ rfl ((B5.set_ 0 (.int .i64 0)).set_ 1 (.slice none 0 0)) underlying205 rfl (by kernel_rfl)) rfl
         (hR _ _ (JD.err (((F0.trans' F1.out).trans U5.out (λb hb h=>by have:=F0.size;omega)).trans (Kx w5 H _ _) (λb hb h=>by have:=HH.out;omega)) 14 (by rw [<-HLD.out];exact HD.out) rfl))
     (have he9':(e9 != 0)=true:=by simpa using he9);have hd:=HD.out;simp only [ne_eq,he9,not_false_eq_true,if_true]at hd;have HDE:=hd_ hd;have c0:=b4.cell 0;have c1:=b4.cell 1;have z0:=b4.frozen 0;have z1:=b4.frozen 1;simp at c0 c1;clear h4 hd b4 u4 HD he9;go_wp2_with fail
     exact bodyPost_ret (Yz rfl _ _ H _ _ _ rfl ((B4.set_ 0 (.int .i64 0)).set_ 1 (.slice none 0 0)) underlying205 rfl (by kernel_rfl)) rfl
       (hR _ _ (JD.err (((F0.trans' F1.out).trans U4.out (λb hb h=>by have:=F0.size;omega)).trans (Kx w4 H _ _) (λb hb h=>by have:=HH.out;omega)) e9 (by rw [<-HLD.out];exact HDE.out) rfl))
   have hd:=hdl rfl hlog;have HD:=hd_ (show QQ sy lb (Qf bs) = .error 13 by rw [<-HLD.out];exact hd);(have hcs:(lb:Int)<x+1\/((x:Int)+1<=lb/\8<(x:Int)):=by omega);clear hd hlog hdl hdt;have hx64:=HX64.out;rcases hcs with hc1|⟨hc1,hc2⟩
   all_goals
     go_wp2_with fail;refine HFS.mono ?_;rintro e w2 ⟨rfl,u2,r2⟩;have b2:=B1.upd u2 (by omega);have c0:=b2.cell 0;have c1:=b2.cell 1;have z0:=b2.frozen 0;have z1:=b2.frozen 1;simp at c0 c1;have B2:=hd_ b2;have U2:=hd_ u2;clear u2 r2 b2;go_wp2_with fail
     exact bodyPost_ret (Yz rfl _ _ H _ _ _ rfl ((B2.set_ 0 (.int .i64 0)).set_ 1 (.slice none 0 0)) underlying205 rfl (by kernel_rfl)) rfl
       (hR _ _ (JD.err (((F0.trans' F1.out).trans U2.out (λb hb h=>by have:=F0.size;omega)).trans (Kx w2 H _ _) (λb hb h=>by have:=HH.out;omega)) 13 HD.out rfl))
theorem Q40 (F:Nat->Prop) (A:Option Addr) (n c:Nat) (cs:List Nat) (a m:Nat) (w:World) (hr:Rd w F A n (Q2 cs)) (hblt:∀b∈cs,b<256) (hcap:n<=c) (hn:n<=500) (ha:a<=n) (hm2:m<=255) :
   Calls prog 114 #[.slice A n c,.int .i64 (a:Nat),.int .i64 (m:Nat)] w (JV a (Z4 cs a m 1) w):=by
 (have hL0:cs.length=n:=by have:=hr.1;simpa using this);have HGT:=hd_ (Q8p F A n c a cs 12 6 w hr hblt hn hcap ha);(have hseen:YG cs a=cs.drop a:=by unfold YG;exact List.take_of_length_le (by rw [List.length_drop];omega));have hone:=λp k (N:List Int) (h:QQ 12 6 (Qf (cs.drop a)) = .ok (p,N,k))=>Q2z (bs:=cs.drop a) (λb hb=>hblt b (List.mem_of_mem_drop hb)) h;have HNU:=hd_ (λW x (hW:Q0 w W) (hx:x<=n)=>Q0i F A n c cs x 131072 W (hr.fresh hW) hblt (by omega) hx (by omega));have HBY:=hd_ (λW x l (hW:Q0 w W) (hx:x<=n) (hl:l<=131072)=>Ko F A n c cs x l W (hr.fresh hW) hcap (by omega) hx (by omega));have HX:=hd_ (And.intro hblt (And.intro hn (And.intro ha (And.intro hm2 hL0))));unfold Z4 Zh;rw [if_neg (by decide),hseen];unfold JD at HGT;(have hnI:(n:Int)<=500:=by omega);(have haI:(a:Int)<=n:=by omega);(have hmI:(m:Int)<=255:=by omega);clear hr hblt hcap hn ha hm2 hL0 hseen;refine Q8 λR hR=>?_;unfold JV at hR;go_enter func114,ntmps114
 cases hdec:QQ 12 6 (Qf (cs.drop a))with
 | error er =>
   have hne:=ZX hdec;(have hb:(er != 0)=true:=by simpa using hne);simp only [hdec]at HGT hR;clear hdec hone hne;go_wp2_with fail;refine HGT.mono ?_;rintro e w2 ⟨f2,rfl⟩;have F2:=hd_ f2;clear f2 HGT;go_wp2_with fail;(try go_ret3);exact hR _ _ ⟨F2.alloc _,_,_,rfl⟩
 | ok r =>
   obtain⟨lg,N,k⟩:=r;have hon:=hone lg k N hdec;simp only [hdec]at HGT hR;clear hdec hone;obtain⟨hval,-,hNl,-,hkl,-⟩:=hon;rw [List.length_drop,HX.2.2.2.2]at hkl;obtain⟨x1,hx1⟩:=nm_ (a+k);(have hx1n:x1<=n:=by have:=HX.2.2.1;omega);(have hx1I:(a:Int)+(k:Nat)=(x1:Nat):=by omega);simp only [hx1I]at HGT;simp only [<-hx1]at hR;have HX1:=hd_ hx1;have HX1N:=hd_ hx1n;have HVAL:=hd_ hval;(have hx1J:(x1:Int)<=n:=by omega);clear hkl hx1 hx1n hx1I hval hNl;go_wp2_with fail;refine HGT.mono ?_;rintro e w2 ⟨f2,v,rfl,o2,k2,hl2⟩;obtain⟨TA,tn,tc,rfl,htn⟩:=o2.form';obtain⟨hn4,hc4,hrd⟩:=o2.rd rfl;rw [<-hn4]at hrd;(have htl:tn<=1000:=by rw [hn4,Qz];exact hl2);obtain⟨w3,P,hw3,hP,f3,bp⟩:=al_ w2 205 #[.int .i64 (lg:Nat),.slice TA tn tc];have F3:=hd_ (f2.trans' f3);have BP:=hd_ bp;have RD3:=hd_ (hrd.fresh f3);have HTL:=hd_ htl;have HP:=hd_ hP;have HW3:=hd_ hw3;have HNM:=hd_ (HNU w3 x1 F3.out HX1N.out);unfold Q1y at HNM;have hVl:(Qn 131072 (cs.drop x1)).2.2=0->(Qn 131072 (cs.drop x1)).1<=131072/\x1+(Qn 131072 (cs.drop x1)).2.1<=n:=λh=>⟨Vc h,by have:=Q0k h;rw [List.length_drop,HX.2.2.2.2]at this;have:=HX1N.out;omega⟩;generalize Qn 131072 (cs.drop x1)=V at *;obtain⟨l,u,er⟩:=V;simp only at HNM hR hVl;clear o2 k2 hl2 htn hn4 hc4 hrd htl hP hw3 f3 bp f2 HNU HGT;go_upto_region 2 with fail;simp only [<-HP.out,<-HW3.out];by_cases h0:er=0
   case neg =>
     (have hb:(er != 0)=true:=by simpa using h0);simp only [if_neg h0]at hR HNM;clear h0 hVl;go_wp2_with fail;refine HNM.mono ?_;rintro e w4 ⟨rfl,rfl⟩;go_wp2_with fail;(try go_ret3);exact hR _ _ ⟨F3.out,_,_,rfl⟩
   subst h0;obtain⟨hl,hun⟩:=hVl rfl;simp only [if_true]at hR HNM;obtain⟨x2,hx2⟩:=nm_ (x1+u);simp only [<-hx2]at hR HNM hun;have HX2:=hd_ hx2;have HX2N:=hd_ hun;have HLL:=hd_ hl;have HB2:=hd_ (HBY w3 x2 l F3.out hun hl);unfold Q25 at HB2;rw [HX.2.2.2.2]at HB2 hR;(have hlI:(l:Int)<=131072:=by omega);clear hl hun hx2 hVl HBY;go_wp2_with fail;refine HNM.mono ?_;rintro e w4 ⟨rfl,rfl⟩;by_cases hk:x2+l<=n
   case neg =>
     simp only [if_neg hk]at hR HB2;clear hk HNM;go_wp2_with fail;refine HB2.mono ?_;rintro e w5 ⟨rfl,rfl⟩;go_wp2_with fail;(try go_ret3);exact hR _ _ ⟨F3.out,_,_,rfl⟩
   simp only [if_pos hk]at hR HB2;obtain⟨cb,hcb⟩:=nm_ ((cs.drop x2).take l);rw [<-hcb]at hR HB2;have hcl:cb.length=l/\∀x∈cb,x<256:=⟨by rw [hcb,List.length_take,List.length_drop,HX.2.2.2.2];omega,λx hx=>HX.1 x (List.mem_of_mem_drop (List.mem_of_mem_take (hcb ▸ hx)))⟩;have HCL:=hd_ hcl;have HKK:=hd_ hk;clear hk hcb hcl HNM;go_wp2_with fail;refine HB2.mono ?_;rintro e w5 ⟨⟨B,c5,rfl,hc5,r5⟩,rfl⟩;obtain⟨p0,p1⟩:=(BP.out).cells2;have HFL:=hd_ (Q8m _ _ TA B tn tc l c5 m lg N cb w3 RD3.out (Q1x HVAL.out) (by have:=HTL.out;omega) HVAL.out r5 HCL.2 (by have:=HKK.out;have:=HX.2.1;omega) (by have:=HX.2.2.2.1;omega));have HFN:=λer (h:Y1 (lg:Nat) N cb m = .inl er)=>Xs h;have HFL1:=λy (h:Y1 (lg:Nat) N cb m = .inr y)=>Q2K h;unfold Kf at HFL;clear hc5 r5 HB2 RD3
   cases hq:Y1 (lg:Nat) N cb m with
   | inl e9 =>
     simp only [hq]at hR HFL;clear HFL1 hq;go_wp2_with fail;refine HFL.mono ?_;rintro e w6 ⟨f6,rfl⟩;have F6:=hd_ f6;clear f6 HFL;go_wp2_with fail;(try go_ret3);exact hR _ _ ⟨F3.trans' F6.out,_,_,rfl⟩
   | inr y =>
     have hyl:=HFL1 y hq;simp only [hq]at hR HFL;have HYL:=hd_ hyl;clear HFN HFL1 hq hyl;go_wp2_with fail;refine HFL.mono ?_;rintro e w6 ⟨f6,v6,rfl,o6,k6⟩;obtain⟨A6,n6,c6,rfl,hn6⟩:=o6.form';obtain⟨hn7,hc7,hr7⟩:=o6.rd rfl;rw [<-hn7]at hr7 hc7;have F6:=hd_ f6;have R6:=hd_ (hr7.mono (G:=λb=>w.heap.size<=b) λb hb=>by have:=k6 b hb;have:=F3.size;omega);have HC6:=hd_ hc7;have HN6:=hd_ (show n6<=2^33 by rw [hn7,Qz,List.length_map,HYL.out];have:=HX.2.2.2.1;omega);clear f6 o6 k6 hn6 hn7 hc7 hr7 HFL;go_wp2_with fail;(try go_ret3);refine hR.out _ _ ⟨F3.trans' F6.out,A6,n6,c6,?_,HC6.out,HN6.out,R6.out⟩;(have e1:x2+l=a+(k+u+l):=by have h1:=HX1.out;have h2:=HX2.out;omega);rw [<-e1];rfl
theorem Q5j {bs:List Nat} {a m y:Nat} {er:Int} (h:Z4 bs a m y = .inl er):er≠0:=by
 unfold Z4 at h;split at h
 . split at h
   . next h3 =>
     injection h with h;subst h;unfold KQ at h3;split at h3
     . split at h3
       . cases h3
       injection h3 with h3;omega
     injection h3 with h3;omega
   cases h
 unfold Zh at h;split at h
 . next h2=>injection h with h;subst h;exact ZX h2
 split at h
 . split at h
   . split at h
     . next h2=>injection h with h;subst h;exact Xs h2
     cases h
   injection h with h;omega
 next h2=>injection h with h;rw [<-h];exact h2
theorem Q2P {ws:List Int} (h:okW ws):(KT ws).length<=256:=by
 have:=h.2.1;simp [KT];omega
theorem Q1F (F:Nat->Prop) (A:Option Addr) (n c:Nat) (cs:List Nat) (a:Nat) (w:World) (hr:Rd w F A n (Q2 cs)) (hblt:∀b∈cs,b<256) (hcap:n<=c) (hn:n<=500) (ha:a<=n) :
   Calls prog 57 #[.slice A n c,.int .i64 (a:Nat)] w (JV a (JS cs a) w):=by
 (have hL0:cs.length=n:=by have:=hr.1;simpa using this);have HNM:=hd_ (Q0i F A n c cs a 255 w hr hblt (by omega) ha (by omega));unfold Q1y at HNM;have HH0:=hd_ (λW x m (hW:Q0 w W) (hx:x<=n) (h0:0<m) (hm:m<=255)=>Q4I F A n c cs x m W (hr.fresh hW) hblt hcap (by omega) hx h0 hm);have HH1:=hd_ (λW x m (hW:Q0 w W) (hx:x<=n) (hm:m<=255)=>Q40 F A n c cs x m W (hr.fresh hW) hblt hcap hn hx hm)
 have HCELL:=hd_ (λx (hx:x<n)=>show ∃b o,A=some ⟨b,o,none⟩/\w.cell? ⟨b,o+x,none⟩=some (.int .u8 (((cs[x]?).getD 0:Nat):Int))/\((cs[x]?).getD 0)<256 from by
   obtain⟨b,o,hk,e,_,h⟩:=hr.byte (k:=x) hx;rw [List.getElem?_eq_getElem hk]
   exact⟨b,o,e,h,hblt _ (List.getElem_mem hk)⟩)
 unfold JS;have hVl:(Qn 255 (cs.drop a)).2.2=0->(Qn 255 (cs.drop a)).1<=255/\a+(Qn 255 (cs.drop a)).2.1<=n:=λh=>⟨Vc h,by have:=Q0k h;rw [List.length_drop,hL0]at this;omega⟩;generalize Qn 255 (cs.drop a)=V at *;obtain⟨m,u,er⟩:=V;simp only at HNM hVl|-;rw [hL0];(have hnI:(n:Int)<=500:=by omega);(have haI:(a:Int)<=n:=by omega);have HX:=hd_ (And.intro hn ha);clear hr hblt hcap hn ha hL0;refine Q8 λR hR=>?_;unfold JV at hR;go_enter func57,ntmps57;by_cases h0:er=0
 case neg =>
   (have hb:(er != 0)=true:=by simpa using h0);simp only [if_neg h0]at hR HNM;clear h0 hVl;go_wp2_with fail;refine HNM.mono ?_;rintro e w4 ⟨rfl,rfl⟩;go_wp2_with fail;(try go_ret3);exact hR _ _ ⟨Upd.refl _ _,_,_,rfl⟩
 subst h0;obtain⟨hml,hun⟩:=hVl rfl;simp only [if_true]at hR HNM;obtain⟨x1,hx1⟩:=nm_ (a+u);simp only [<-hx1]at hR HNM hun;have HX1:=hd_ hx1;(have hmI:(m:Int)<=255:=by omega);(have hx1I:(x1:Int)<=n:=by omega);have HML:=hd_ hml;clear hVl hml hx1;by_cases hz:m=0
 . subst hz
   simp only [if_true]at hR;clear hun;go_wp2_with fail;refine HNM.mono ?_;rintro e w4 ⟨rfl,rfl⟩;go_wp2_with fail;(try go_ret3);exact hR _ _ ⟨Upd.refl _ _,_,_,rfl⟩
 simp only [if_neg hz]at hR;(have hzb:((m:Int) == 0)=false:=by simp;omega);(have hzI:(0:Int)<m:=by omega);have HZ:=hd_ hz;clear hz;by_cases hlt:x1<n
 case neg =>
   simp only [if_neg hlt]at hR;(have hltI:(n:Int)<=x1:=by omega);clear hlt hun;go_wp2_with fail;refine HNM.mono ?_;rintro e w4 ⟨rfl,rfl⟩;go_wp2_with fail;(try go_ret3);exact hR _ _ ⟨Upd.refl _ _,_,_,rfl⟩
 simp only [if_pos hlt]at hR;obtain⟨b,o,rfl,hc,hy8⟩:=HCELL x1 hlt;(have hltI:(x1:Int)<n:=by omega);obtain⟨y,hy⟩:=nm_ ((cs[x1]?).getD 0);rw [<-hy]at hc hR hy8;(have hyI:(y:Int)<=255:=by omega);obtain⟨x2,hx2⟩:=nm_ (x1+1);(have hx2I:(x1:Int)+1=(x2:Nat):=by omega);simp only [<-hx2]at hR;have HX2:=hd_ hx2;have HLT:=hd_ hlt;have H0:=hd_ (HH0 w x2 m (Upd.refl _ _) (by omega) (by have:=HZ.out;omega) HML.out);have H1:=hd_ (HH1 w x2 m (Upd.refl _ _) (by omega) HML.out);unfold JV at H0 H1;clear hun hy hx2 hlt HCELL HH0 HH1 hy8;by_cases hyy:y<2
 case neg =>
   simp only [if_neg hyy]at hR;(have hy0b:((y:Int) == 0)=false:=by simp;omega);(have hy1b:((y:Int) == 1)=false:=by simp;omega);clear hyy;go_wp2_with fail;refine HNM.mono ?_;rintro e w4 ⟨rfl,rfl⟩;go_wp2_with fail;(try go_ret3);exact hR _ _ ⟨Upd.refl _ _,_,_,rfl⟩
 simp only [if_pos hyy]at hR;(obtain rfl|rfl:y=0\/y=1:=by omega)
 . clear hyy H1
   cases hO:Z4 cs x2 m 0 with
   | inl er =>
     simp only [hO]at hR H0;have hne:=Q5j hO;(have hnb:(er != 0)=true:=by simpa using hne);clear hO hne;go_wp2_with fail;refine HNM.mono ?_;rintro e w4 ⟨rfl,rfl⟩;go_wp2_with fail;refine H0.mono ?_;rintro e w5 ⟨f5,v,x,rfl⟩;have F5:=hd_ f5;clear f5;go_wp2_with fail;(try go_ret3);exact hR _ _ ⟨F5.out,_,_,rfl⟩
   | inr q =>
     obtain⟨x,u2⟩:=q;simp only [hO]at hR H0;clear hO;go_wp2_with fail;refine HNM.mono ?_;rintro e w4 ⟨rfl,rfl⟩;go_wp2_with fail;refine H0.mono ?_;rintro e w5 ⟨f5,A5,n5,c5,rfl,hc5,hn5,r5⟩;have F5:=hd_ f5;have HTR:=hd_ (Q0H _ A5 n5 c5 x w5 r5 (by omega) hc5);unfold VG at HTR;clear f5 hc5 r5 hn5 H0;by_cases hok:okW x
     case neg =>
       simp only [if_neg hok]at hR HTR;clear hok;go_wp2_with fail;refine HTR.mono ?_;rintro e w6 ⟨f6,rfl⟩;have F6:=hd_ f6;clear f6;go_wp2_with fail;(try go_ret3);exact hR _ _ ⟨F5.trans' F6.out,_,_,rfl⟩
     have hlen:=Q2P hok;simp only [if_pos hok]at hR HTR;have HLN:=hd_ hlen;clear hok hlen;go_wp2_with fail;refine HTR.mono ?_;rintro e w6 ⟨f6,v6,rfl,o6,k6⟩;obtain⟨A6,n6,c6,rfl,hn6⟩:=o6.form';obtain⟨hn7,hc7,hr7⟩:=o6.rd rfl;rw [<-hn7]at hr7 hc7;have F6:=hd_ f6;have R6:=hd_ (hr7.mono (G:=λb=>w.heap.size<=b) λb hb=>by have:=k6 b hb;have:=F5.size;omega);have HC6:=hd_ hc7;have HN6:=hd_ (show n6<=2^33 by rw [hn7,Qz];have:=HLN.out;omega);clear f6 o6 k6 hn6 hn7 hc7 hr7 HTR;go_wp2_with fail;(try go_ret3);refine hR.out _ _ ⟨F5.trans' F6.out,A6,n6,c6,?_,HC6.out,HN6.out,R6.out⟩;(have e1:x2+u2=a+(u+1+u2):=by have h1:=HX1.out;have h2:=HX2.out;omega);rw [<-e1];rfl
 clear hyy H0
 cases hO:Z4 cs x2 m 1 with
 | inl er =>
   simp only [hO]at hR H1;have hne:=Q5j hO;(have hnb:(er != 0)=true:=by simpa using hne);clear hO hne;go_wp2_with fail;refine HNM.mono ?_;rintro e w4 ⟨rfl,rfl⟩;go_wp2_with fail;refine H1.mono ?_;rintro e w5 ⟨f5,v,x,rfl⟩;have F5:=hd_ f5;clear f5;go_wp2_with fail;(try go_ret3);exact hR _ _ ⟨F5.out,_,_,rfl⟩
 | inr q =>
   obtain⟨x,u2⟩:=q;simp only [hO]at hR H1;clear hO;go_wp2_with fail;refine HNM.mono ?_;rintro e w4 ⟨rfl,rfl⟩;go_wp2_with fail;refine H1.mono ?_;rintro e w5 ⟨f5,A5,n5,c5,rfl,hc5,hn5,r5⟩;have F5:=hd_ f5;have HTR:=hd_ (Q0H _ A5 n5 c5 x w5 r5 (by omega) hc5);unfold VG at HTR;clear f5 hc5 r5 hn5 H1;by_cases hok:okW x
   case neg =>
     simp only [if_neg hok]at hR HTR;clear hok;go_wp2_with fail;refine HTR.mono ?_;rintro e w6 ⟨f6,rfl⟩;have F6:=hd_ f6;clear f6;go_wp2_with fail;(try go_ret3);exact hR _ _ ⟨F5.trans' F6.out,_,_,rfl⟩
   have hlen:=Q2P hok;simp only [if_pos hok]at hR HTR;have HLN:=hd_ hlen;clear hok hlen;go_wp2_with fail;refine HTR.mono ?_;rintro e w6 ⟨f6,v6,rfl,o6,k6⟩;obtain⟨A6,n6,c6,rfl,hn6⟩:=o6.form';obtain⟨hn7,hc7,hr7⟩:=o6.rd rfl;rw [<-hn7]at hr7 hc7;have F6:=hd_ f6;have R6:=hd_ (hr7.mono (G:=λb=>w.heap.size<=b) λb hb=>by have:=k6 b hb;have:=F5.size;omega);have HC6:=hd_ hc7;have HN6:=hd_ (show n6<=2^33 by rw [hn7,Qz];have:=HLN.out;omega);clear f6 o6 k6 hn6 hn7 hc7 hr7 HTR;go_wp2_with fail;(try go_ret3);refine hR.out _ _ ⟨F5.trans' F6.out,A6,n6,c6,?_,HC6.out,HN6.out,R6.out⟩;(have e1:x2+u2=a+(u+1+u2):=by have h1:=HX1.out;have h2:=HX2.out;omega);rw [<-e1];rfl
end Go.Proofs.YtckjdhaflokcgaaGreat
