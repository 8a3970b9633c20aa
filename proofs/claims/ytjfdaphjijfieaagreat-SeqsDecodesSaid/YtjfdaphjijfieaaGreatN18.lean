/-
  Joined texts, part 18: contracts and plain lemmas.
  Conditions: none beyond those of each theorem.
-/
import Derived.Test.YtjfdaphjijfieaaGreatN16
import Derived.Test.YtjfdaphjijfieaaGreatN7
set_option maxHeartbeats 8000000
set_option linter.unusedVariables false
set_option linter.unusedSimpArgs false
set_option maxRecDepth 100000
universe u
namespace Go.Proofs.YtjfdaphjijfieaaGreat
open Go.RowKit
def Y0 (w:World) (F:Nat->Prop) (g gf:Nat) (bs:List Nat) (σ:St):Prop :=
  Blk w g 286 #[.pointer (some ⟨gf,0,none⟩),.int .i64 σ.e]/\YY w F gf bs σ.fr/\(∀b,F b->b≠gf/\b≠g)/\0<=σ.e/\σ.e<=100
def Two (g gf:Nat) (b:Nat):Prop:=b=g\/b=gf
theorem YY.blk {w:World} {F:Nat->Prop} {g:Nat} {bs:List Nat} {fr:Nat} (h:YY w F g bs fr):∃cs,Blk w g 307 cs:=by
 obtain⟨A,c,hb,_⟩:=h;exact⟨_,hb⟩
theorem Y0.ne_ {w:World} {F:Nat->Prop} {g gf:Nat} {bs:List Nat} {σ:St} (h:Y0 w F g gf bs σ):g≠gf:=by
 obtain⟨h1,h2,_⟩:=h;obtain⟨cs,h3⟩:=h2.blk;exact h1.ne_ h3 (by decide)
theorem Y0.upd {w w':World} {F S:Nat->Prop} {g gf:Nat} {bs:List Nat} {σ:St} (h:Y0 w F g gf bs σ) (hu:Upd S w w') (hg:¬S g) (hgf:¬S gf) (hF:∀b,F b->¬S b):Y0 w' F g gf bs σ :=
 ⟨h.1.upd hu hg,h.2.1.upd hu hgf hF,h.2.2⟩
theorem Y0.fresh {w w':World} {F:Nat->Prop} {g gf:Nat} {bs:List Nat} {σ:St} (h:Y0 w F g gf bs σ) (hu:Q0 w w'):Y0 w' F g gf bs σ :=
 h.upd hu (fun h=>h) (fun h=>h) (fun _ _ h=>h)
theorem Jn (F:Nat->Prop) (g gf:Nat) (bs:List Nat) (σ:St) (h:Bool) (e:Int) (w:World) (hr:Y0 w F g gf bs σ) (he:0<=e/\e<=100) (he0:h=false->e≠0) :
   Calls Tryz.prog 212 #[.pointer (some ⟨g,0,none⟩),.bool h,.int .i64 e] w fun e' w'=>e' = .returned (.bool (Qd h e σ).1)/\Upd (Two g gf) w w'/\Y0 w' F g gf bs (Qd h e σ).2:=by
 obtain⟨hb,hf,hF,h0,h1⟩:=hr;have hne:=Y0.ne_ ⟨hb,hf,hF,h0,h1⟩;have hc:=hb.cell 1;have hz:=hb.frozen 1;simp at hc;have HB:=hd_ hb;clear hb;obtain⟨fr,se⟩:=σ;simp only at hc hf h0 h1;refine Q6 fun R hR=>?_;by_cases hs:se=0
 . subst hs
   cases h
   . have ez:(e == 0)=false:=by simpa using he0 rfl
     go_enter Tryz.func212,Tryz.ntmps212;go_wp2;(try go_ret);refine hR.out _ _ ⟨by simp [Qd],(Upd.refl _ w).setCell (p:=⟨g,1,none⟩) (fun _=>.inl rfl) _,?_⟩;refine⟨by simpa [Qd]using HB.out.set_ 1 (.int .i64 e),?_,hF,he⟩;exact hf.upd (S:=fun b=>b=g) ((Upd.refl (fun b=>b=g) w).setCell (p:=⟨g,1,none⟩) (fun _=>rfl) _) (fun h=>hne h.symm) (fun b hb e=>(hF b hb).2 e)
   go_enter Tryz.func212,Tryz.ntmps212;go_wp2;(try go_ret);exact hR.out _ _ ⟨by simp [Qd],Upd.refl _ w,HB.out,hf,hF,by simp [Qd]⟩
 (have hs':(se == 0)=false:=by simpa using hs);go_enter Tryz.func212,Tryz.ntmps212;go_wp2;(try go_ret);exact hR.out _ _ ⟨by simp [Qd,hs],Upd.refl _ w,by simpa [Qd,hs]using HB.out,by simpa [Qd,hs]using hf,hF,by simpa [Qd,hs]using⟨h0,h1⟩⟩
theorem Ko (F:Nat->Prop) (g gf:Nat) (bs:List Nat) (σ:St) (n:Nat) (w:World) (hr:Y0 w F g gf bs σ) (hn:n<=62) :
   Calls Tryz.prog 211 #[.pointer (some ⟨g,0,none⟩),.int .i64 n] w fun e' w'=>e' = .returned (.int .i64 (Qa (Q9 bs) n σ).1)/\Upd (Two g gf) w w'/\Y0 w' F g gf bs (Qa (Q9 bs) n σ).2:=by
 obtain⟨hb,hf,hF,h0,h1⟩:=hr;have hne:=Y0.ne_ ⟨hb,hf,hF,h0,h1⟩;have hc:=hb.cell 1;have hc0:=hb.cell 0;simp at hc hc0;have HB:=hd_ hb;clear hb;obtain⟨fr,se⟩:=σ;simp only at hc hf h0 h1;refine Q6 fun R hR=>?_;by_cases hs:se=0
 . subst hs
   by_cases hfit:fr+n<=8*bs.length
   . have htk:=Q5v F gf bs fr n w hf (by omega) hfit (fun b hb=>(hF b hb).1)
     have HT:=hd_ htk;clear htk;go_enter Tryz.func211,Tryz.ntmps211;go_wp2_with fail;refine HT.out.mono ?_;rintro e w1 ⟨rfl,u1,f1⟩;have r1:Y0 w1 F g gf bs ⟨fr+n,0⟩:=⟨HB.out.upd u1 hne,f1,hF,by omega,by omega⟩;have hmu:=Jn F g gf bs ⟨fr+n,0⟩ true 0 w1 r1 (by omega) (fun h=>by cases h);have HM:=hd_ hmu;have U1:=hd_ u1;have hV:Q8 bs / 2^fr%2^n<2^62:=Nat.lt_of_lt_of_le (Nat.mod_lt _ (Nat.two_pow_pos n)) (Nat.pow_le_pow_right (by omega) hn)
     have hts:Qa (Q9 bs) n ⟨fr,0⟩=(Q8 bs / 2^fr%2^n,⟨fr+n,0⟩):=by
       unfold Qa;rw [if_neg (by simp),if_pos (by simpa using hfit)];simp only [ZK]
     have hms:Qd true 0 ⟨fr+n,0⟩=(true,⟨fr+n,0⟩):=rfl;rw [hms]at hmu;rw [hts]at hR;have HM:=hd_ hmu;clear hmu r1 u1 f1 hts hms HT;generalize Q8 bs / 2^fr%2^n=V at *;(have hV1:(V:Int)<4611686018427387904:=by(have:(2:Nat)^62=4611686018427387904:=by decide);omega);(have hV0:wrap64 (V:Int)=V:=by unfold wrap64;omega);clear hV;go_wp2_with fail;refine HM.out.mono ?_;rintro e w2 ⟨rfl,u2,r2⟩;have R2:=hd_ r2;have U2:=hd_ u2;clear r2 u2;go_wp2_with fail;(try go_ret);exact hR.out _ _ ⟨rfl,(U1.out.mono (fun b _ h=>Or.inr h)).trans' U2.out,R2.out⟩
   have htk:=Q28 F gf bs fr n w hf (by omega) (by omega);have HT:=hd_ htk;clear htk
   have hts:Qa (Q9 bs) n ⟨fr,0⟩=(0,⟨fr,3⟩):=by
     unfold Qa;rw [if_neg (by simp),if_neg (by simpa using hfit)]
   rw [hts]at hR;clear hts;go_enter Tryz.func211,Tryz.ntmps211;go_wp2_with fail;refine HT.out.mono ?_;rintro e w1 ⟨rfl,f1⟩;have r1:Y0 w1 F g gf bs ⟨fr,0⟩:=⟨HB.out.fresh f1,hf.fresh f1,hF,by omega,by omega⟩;have hmu:=Jn F g gf bs ⟨fr,0⟩ false 3 w1 r1 (by omega) (fun _=>by omega);have hms:Qd false 3 ⟨fr,0⟩=(false,⟨fr,3⟩):=rfl;rw [hms]at hmu;have HM:=hd_ hmu;have U1:=hd_ f1;clear hmu hms r1 f1 HT;go_wp2_with fail;refine HM.out.mono ?_;rintro e w2 ⟨rfl,u2,r2⟩;have R2:=hd_ r2;have U2:=hd_ u2;clear r2 u2;go_wp2_with fail;(try go_ret);exact hR.out _ _ ⟨rfl,(U1.out.mono (fun b _ h=>h.elim)).trans' U2.out,R2.out⟩
 (have hs':(se != 0)=true:=by simpa using hs);go_enter Tryz.func211,Tryz.ntmps211;go_wp2;(try go_ret);exact hR.out _ _ ⟨by simp [Qa,hs],Upd.refl _ w,by simpa [Qa,hs]using HB.out,by simpa [Qa,hs]using hf,hF,by simpa [Qa,hs]using⟨h0,h1⟩⟩
theorem Q1m (F:Nat->Prop) (g gf:Nat) (bs:List Nat) (σ:St) (m:Nat) (w:World) (hr:Y0 w F g gf bs σ) (h0:1<=m) (hm:m<=100000) :
   Calls Tryz.prog 213 #[.pointer (some ⟨g,0,none⟩),.int .i64 m,.func (.func 211) #[.pointer (some ⟨g,0,none⟩)] #[]] w fun e' w' =>
     e' = .returned (.int .i64 (QS (Q9 bs) m σ).1)/\Upd (Two g gf) w w'/\Y0 w' F g gf bs (QS (Q9 bs) m σ).2:=by
 have hc:=Ju m (by omega) (by omega);have hlt:=Xh m 17 (by omega) (by omega) (by omega);have hcut:=Q5r m w h0 hm;have hu:YT m=2^(Qx m+1)-m:=rfl
 have hdef:QS (Q9 bs) m σ=if(Qa (Q9 bs) (Qx m) σ).1<YT m then Qa (Q9 bs) (Qx m) σ
     else(2*(Qa (Q9 bs) (Qx m) σ).1+(Qa (Q9 bs) 1 (Qa (Q9 bs) (Qx m) σ).2).1-YT m,(Qa (Q9 bs) 1 (Qa (Q9 bs) (Qx m) σ).2).2):=rfl
 (have hu2:YT m<=2^Qx m:=by rw [hu,Nat.pow_succ];omega);have htk:=fun w' (h':Y0 w' F g gf bs σ)=>Ko F g gf bs σ (Qx m) w' h' (by omega);have ht1:=YL (Q9 bs) (Qx m) σ;rw [hdef];generalize Qa (Q9 bs) (Qx m) σ=X at *;have htk2:=fun w' (h':Y0 w' F g gf bs X.2)=>Ko F g gf bs X.2 1 w' h' (by omega);have ht2:=YL (Q9 bs) 1 X.2;generalize Qa (Q9 bs) 1 X.2=Y at *;obtain⟨t,σ1⟩:=X;obtain⟨c,σ2⟩:=Y;simp only at ht1 ht2 htk htk2 ⊢;have h17:2^Qx m<=2^16:=Nat.pow_le_pow_right (by omega) (by omega);have HC:=hd_ hcut;have HT:=hd_ htk;have HT2:=hd_ htk2;have hr0:=fun k=>show Y0 (w.drewN k) F g gf bs σ from hr;have HR:=hd_ hr0;clear hcut htk htk2 hr hr0 hu hdef hc;generalize YT m=u at *;generalize Qx m=b at *;(have tI:(t:Int)<=65536:=by omega);(have cI:(c:Int)<=1:=by omega);(have uI:(u:Int)<=65536:=by omega);refine Q6 fun R hR=>?_;by_cases hcs:t<u
 . rw [if_pos hcs]at hR
   go_enter Tryz.func213,Tryz.ntmps213;go_wp2_with (go_at_call 222;refine HC.out.mono ?_;rintro e w' ⟨rfl,kk,rfl⟩);refine(HT.out _ (HR.out kk)).mono ?_;rintro e w1 ⟨rfl,u1,r1⟩;have R1:=hd_ r1;clear r1;go_wp2;(try go_ret);exact hR.out _ _ ⟨by rfl,((Upd.refl _ w).drewN kk).trans' u1,R1.out⟩
 rw [if_neg hcs]at hR;(have e1:((2*t+c-u:Nat):Int)=2*t+c-u:=by omega);have E1:=hd_ e1;clear e1;go_enter Tryz.func213,Tryz.ntmps213;go_wp2_with (go_at_call 222;refine HC.out.mono ?_;rintro e w' ⟨rfl,kk,rfl⟩);refine(HT.out _ (HR.out kk)).mono ?_;rintro e w1 ⟨rfl,u1,r1⟩;have R1:=hd_ r1;clear r1;go_wp2_with fail;refine(HT2.out _ R1.out).mono ?_;rintro e w2 ⟨rfl,u2,r2⟩;have R2:=hd_ r2;clear r2;go_wp2;(try go_ret);exact hR.out _ _ ⟨YJ (by rw [E1.out]),(((Upd.refl _ w).drewN kk).trans' u1).trans' u2,R2.out⟩
theorem Y0.lt {w:World} {F:Nat->Prop} {g gf:Nat} {bs:List Nat} {σ:St} (h:Y0 w F g gf bs σ):g<w.heap.size/\gf<w.heap.size:=by
 obtain⟨h1,h2,_⟩:=h;obtain⟨cs,h3⟩:=h2.blk;exact⟨h1.lt,h3.lt⟩
def JU (k:Nat):List Value:=List.replicate k (.int .i64 0)
theorem Q1n (F:Nat->Prop) (g gf:Nat) (bs:List Nat) (σ:St) (room:Int) (w:World) (hr:Y0 w F g gf bs σ) (hroom:room<=256) (hroom':-1000000<=room) (hF:∀b,F b->b<w.heap.size) :
   Calls Tryz.prog 214 #[.pointer (some ⟨g,0,none⟩),.int .i64 room,.func (.func 211) #[.pointer (some ⟨g,0,none⟩)] #[]] w fun e' w' =>
     ∃v,e' = .returned v/\Own w' 3 v (JU (Qw room (Q9 bs) 300 3 0 σ).1)/\Upd (Two g gf) w w'/\Y0 w' F g gf bs (Qw room (Q9 bs) 300 3 0 σ).2 /\
       (∀b,v.ownBlock=some b->w.heap.size<=b)/\(Qw room (Q9 bs) 300 3 0 σ).1<=300:=by
 obtain⟨T,hT⟩:=nm_ (Qw room (Q9 bs) 300 3 0 σ);rw [<-hT];have HT:=hd_ hT;have HR:=hd_ hr;clear hr hT;refine Q6 fun R hR=>?_;go_enter Tryz.func214,Tryz.ntmps214;go_wp2_with fail
 go_loopg [6,7] 300 (fun f vl vk wr=>∃(k len:Nat) (σ':St),vk = .int .i64 k/\Own wr 3 vl (JU len)/\Upd (Two g gf) w wr/\Y0 wr F g gf bs σ'/\(∀b,vl.ownBlock=some b->w.heap.size<=b) /\
   Qw room (Q9 bs) f k len σ'=T/\k<=3/\len<=300/\(k=3->len+3*f<=900/\900<=len+3*f))
 case atStart=>exact⟨3,0,σ,rfl,Own.nil _ _,Upd.refl _ _,HR.out,by simp [Value.ownBlock],HT.out.symm,by omega,by omega,by omega⟩
 case round =>
   obtain⟨k,len,σ',rfl,ho,hu,hrd,hbl,htot,hk3,hlen,hinv⟩:=hrel;obtain⟨A,n,c,rfl,hn⟩:=ho.form';(have hnl:n=len:=by simpa [JU]using hn.out);subst hnl;have HO:=hd_ ho;have HRD:=hd_ hrd;have HTOT:=hd_ htot;have HU:=hd_ hu;have HBL:=hd_ hbl;have HINV:=hd_ hinv;clear ho hrd htot hu hbl hn hinv;by_cases hk:k=3
   . subst hk
     obtain⟨hi1,hi2⟩:=HINV.out rfl;obtain⟨f,rfl⟩:∃f,gk=f+1:=⟨gk-1,by omega⟩;(have hnI:(n:Int)<=300:=by omega);have hm:=Jn F g gf bs σ' (decide ((n:Int)<room)) 13 wr HRD.out (by omega) (by omega);have ht:=HTOT.out;simp only [Qw,if_true]at ht;by_cases hok:(Qd (decide ((n:Int)<room)) 13 σ').1=true
     . obtain⟨he1,he2⟩:=YC hok
       rw [if_pos hok,he1]at ht;rw [hok,he1,he2]at hm;(have hltr:(n:Int)<room:=by simpa using he2);have htk:=YL (Q9 bs) 2 σ';have hcall:=fun w' (h':Y0 w' F g gf bs σ')=>Ko F g gf bs σ' 2 w' h' (by omega);generalize Qa (Q9 bs) 2 σ'=X at *;obtain⟨x,σ2⟩:=X;simp only at ht htk hcall;have HM:=hd_ hm;have HC:=hd_ hcall;have HT2:=hd_ ht;clear hm hcall ht he1 he2 hok;(have hxI:(x:Int)<=3:=by omega);go_wp2_with fail;refine HM.out.mono ?_;rintro e w1 ⟨rfl,u1,r1⟩;have R1:=hd_ r1;have U1:=hd_ (HU.out.trans' u1);have hlt0:=HR.out.lt;(have hgl:∀b,(Value.slice A n c).ownBlock=some b->¬Two g gf b:=fun b hb h=>by have:=HBL.out b hb;rcases h with h|h<;>omega);have O1:=hd_ (HO.out.upd u1 hgl);clear r1 u1;go_wp2_with fail;refine(HC.out _ R1.out).mono ?_;rintro e w2 ⟨rfl,u2,r2⟩;have R2:=hd_ r2;have U2:=hd_ (U1.out.trans' u2);have O2:=hd_ (O1.out.upd u2 hgl);clear r2 u2 R1 U1 O1;go_wp2_with (at_builtin;go_must (refine VD _ rfl (.tmp 20) (.tmp 21) _ _ rfl 3 (.int .i64 0) 8 .i64 .i64 Tryz.underlying27 Tryz.underlying3 Yx rfl rfl _ _ rfl O2.out x rfl (by omega) (by simp [JU];omega) ?_));intro v' w3 o3 g3 a3;have u3:Upd (fun b=>(Value.slice A n c).ownBlock=some b) w2 w3:=(Upd.refl _ _).grown g3 (fun k hk _=>hk);have R3:=hd_ (R2.out.upd u3 (fun h=>hgl _ h (.inl rfl)) (fun h=>hgl _ h (.inr rfl)) (fun b hb h=>by have h1:=hF b hb;have h2:=HBL.out b h;omega));have U3:=hd_ (U2.out.trans u3 (fun b hb h=>by have:=HBL.out b h;omega));have B3:=hd_ (Zb (S:=fun k=>w.heap.size<=k) a3 HBL.out (U2.out.size));have O3:=hd_ o3;clear o3 g3 a3 u3 R2 U2 O2;go_wp2;go_roundg f
       case measure=>omega
       case rel =>
         refine⟨x,n+x,σ2,rfl,?_,U3.out,R3.out,B3.out,HT2.out,by omega,by omega,by omega⟩;have:=O3.out;simpa [JU,List.replicate_append_replicate]using this
     rw [if_neg hok]at ht;(have hok':(Qd (decide ((n:Int)<room)) 13 σ').1=false:=by simpa using hok);rw [hok']at hm;have HM:=hd_ hm;have HT2:=hd_ ht;clear hm ht hok hok';go_wp2_with fail;refine HM.out.mono ?_;rintro e w1 ⟨rfl,u1,r1⟩;have R1:=hd_ r1;have U1:=hd_ (HU.out.trans' u1);have hlt0:=HR.out.lt;(have hgl:∀b,(Value.slice A n c).ownBlock=some b->¬Two g gf b:=fun b hb h=>by have:=HBL.out b hb;rcases h with h|h<;>omega);have O1:=hd_ (HO.out.upd u1 hgl);clear r1 u1;go_wp2;(try go_ret);have:=HT2.out;refine hR.out _ _ ⟨_,rfl,?_,U1.out,?_,HBL.out,?_⟩
     . rw [<-this];exact O1.out
     . rw [<-this];exact R1.out
     rw [<-this];exact hlen
   (have hk':((k:Int) == 3)=false:=by simp;omega);have ht:=HTOT.out
   have ht2:(n,σ')=T:=by
     rw [<-ht]
     cases gk with
     | zero=>rfl
     | succ f=>simp [Qw,hk]
   go_wp2;(try go_ret);refine hR.out _ _ ⟨_,rfl,?_,HU.out,?_,HBL.out,?_⟩
   . rw [<-ht2];exact HO.out
   . rw [<-ht2];exact HRD.out
   rw [<-ht2];exact hlen
theorem XB (N:List Int) (z:Int):Q1 N++[.int .i64 z]=Q1 (N++[z]):=by simp [Q1]
theorem Q29 (N:List Int) (k:Nat):Q1 N++JU k=Q1 (N++List.replicate k 0):=by simp [Q1,JU]
def Q09 (P:Program) (fn:Func) (R:Ending->World->Prop) (H:Nat) (lg:Int) (v:Value) (W:World):Prop :=
  ∀tmps:Array Value,tmps.getD 6 undef = .pointer (some ⟨H,0,none⟩)->bodyPost P fn R .ret { tmps:=tmps,defers:=[] } W
theorem Zg (w:World) (H:Nat) (u v:Value):Upd (fun b=>b=H) w ((w.setCell ⟨H,0,none⟩ u).setCell ⟨H,1,none⟩ v) :=
 ((Upd.refl (fun b=>b=H) w).setCell (p:=⟨H,0,none⟩) (fun _=>rfl) u).setCell (p:=⟨H,1,none⟩) (fun _=>rfl) v
theorem Q2a (k:Nat):∀u∈JU k,u.oneCell'=true:=by
 intro u hu;rw [(List.mem_replicate.1 hu).2];rfl
theorem Q3c (F:Nat->Prop) (g gf:Nat) (bs:List Nat) (sy lb:Int) (w:World) (hr:Y0 w F g gf bs ⟨0,0⟩) (hsy:sy<=256) (hF:∀b,F b->b<w.heap.size) :
   Calls Tryz.prog 183 #[.pointer (some ⟨g,0,none⟩),.int .i64 sy,.int .i64 lb] w fun e' w' =>
     ∃v,e' = .returned (.agg #[.int .i64 (Jj sy lb (Q9 bs)).1,v])/\Own w' 3 v (Q1 (Jj sy lb (Q9 bs)).2.1)/\Upd (Two g gf) w w'/\Y0 w' F g gf bs (Jj sy lb (Q9 bs)).2.2 /\
       (∀b,v.ownBlock=some b->w.heap.size<=b)/\(Jj sy lb (Q9 bs)).2.1.length<=1000:=by
 have hmf:∀(fn:Fn) (first cap:Array Value) (w:World),(Instr.makeFunc fn first cap).run Tryz.prog w = .ok (.func fn first cap) w:=fun _ _ _ _=>rfl;have hlt0:=hr.lt
 have hdef:Jj sy lb (Q9 bs)=if(Qd (decide (((Qa (Q9 bs) 4 ⟨0,0⟩).1:Int)+1<=min lb 9)) 13 (Qa (Q9 bs) 4 ⟨0,0⟩).2).1 then
     ((Qa (Q9 bs) 4 ⟨0,0⟩).1+1,Qr sy (Q9 bs) 600 (2^((Qa (Q9 bs) 4 ⟨0,0⟩).1+1)) [] false (Qd (decide (((Qa (Q9 bs) 4 ⟨0,0⟩).1:Int)+1<=min lb 9)) 13 (Qa (Q9 bs) 4 ⟨0,0⟩).2).2)
     else((Qa (Q9 bs) 4 ⟨0,0⟩).1+1,[],(Qd (decide (((Qa (Q9 bs) 4 ⟨0,0⟩).1:Int)+1<=min lb 9)) 13 (Qa (Q9 bs) 4 ⟨0,0⟩).2).2):=rfl
 obtain⟨T,hT⟩:=nm_ (Jj sy lb (Q9 bs));rw [<-hT]at hdef ⊢;clear hT;have htk:=fun w' (h':Y0 w' F g gf bs ⟨0,0⟩)=>Ko F g gf bs ⟨0,0⟩ 4 w' h' (by omega);have htl:=YL (Q9 bs) 4 ⟨0,0⟩;generalize Qa (Q9 bs) 4 ⟨0,0⟩=X at *;obtain⟨x,σ1⟩:=X;simp only at hdef htk htl;have hmu:=fun w' (h':Y0 w' F g gf bs σ1)=>Jn F g gf bs σ1 (decide ((x:Int)+1<=min lb 9)) 13 w' h' (by omega) (by omega);(have hxI:(x:Int)<=15:=by omega);have HT:=hd_ htk;have HMU:=hd_ hmu;have HD:=hd_ hdef;obtain⟨H,hH⟩:=nm_ (w.heap.size);have HH:=hd_ hH;have f0:Q0 w (w.alloc (.cells #[.int .i64 0,.slice none 0 0] 29)):=(Upd.refl _ w).alloc _;have b0:Blk (w.alloc (.cells #[.int .i64 0,.slice none 0 0] 29)) H 29 #[.int .i64 0,.slice none 0 0]:=Q2 hH _ _;have R0:=hd_ (hr.fresh f0);have F0:=hd_ f0;have B0:=hd_ b0;rw [<-hH]at hlt0;clear htk hmu hdef hH f0 b0 hr;refine Q6 fun R hR=>?_;go_enter Tryz.func183,Tryz.ntmps183;go_wp2_with fail;rw [<-HH.out];refine(HT.out _ R0.out).mono ?_;rintro e w1 ⟨rfl,u1,r1⟩;(have hH2:¬Two g gf H:=by unfold Two;omega);have b1:=B0.out.upd u1 hH2;have hz10:=b1.frozen 0;have hc10:=b1.cell 0;simp only [List.getElem?_toArray,List.getElem?_cons_zero]at hc10;have B1:=hd_ b1;have R1:=hd_ r1;have U1:=hd_ ((F0.out.mono (T:=Two g gf) (fun _ _ h=>h.elim)).trans' u1);clear b1 r1 u1;go_wp2_with fail;have uh:Upd (fun b=>b=H) w1 (w1.setCell ⟨H,0,none⟩ (.int .i64 ((x:Int)+1))):=(Upd.refl (fun b=>b=H) w1).setCell (p:=⟨H,0,none⟩) (fun _=>rfl) _;have r2:=R1.out.upd uh (by omega) (by omega) (fun b hb e=>by have:=hF b hb;have:=HH.out;omega);have u2:Upd (Two g gf) w (w1.setCell ⟨H,0,none⟩ (.int .i64 ((x:Int)+1))):=U1.out.setCell (p:=⟨H,0,none⟩) (fun h=>by have:=HH.out;simp at h;omega) _;have b2:=B1.out.set_ 0 (.int .i64 ((x:Int)+1));refine(HMU.out _ r2).mono ?_;rintro e w3 ⟨rfl,u3,r3⟩;have b3:=b2.upd u3 hH2;have U3:=hd_ (u2.trans' u3);have R3:=hd_ r3;have hc3:=b3.cell 0;have hc31:=b3.cell 1;have hz30:=b3.frozen 0;have hz31:=b3.frozen 1;simp at hc3 hc31;have B3:=hd_ b3;clear b3 r3 u3 r2 u2 b2 uh R1 U1 B1 hc10 hz10;by_cases hok:(Qd (decide ((x:Int)+1<=min lb 9)) 13 σ1).1=true
 . obtain⟨he1,he2⟩:=YC hok
   have hd:=HD.out;rw [if_pos hok,he1]at hd;rw [he1]at R3;simp only [hok];(have hx9:x+1<=9:=by(have:(x:Int)+1<=min lb 9:=by simpa using he2);omega);(have hx9I:(x:Int)+1<=9:=by omega);have HD2:=hd_ hd;clear hd HD hok he1 he2 HMU HT;have hw64:wrap64 (2^(x+1))=((2^(x+1):Nat):Int):=Q22 _ hx9;have hp512:2^(x+1)<=512:=Nat.le_trans (Nat.pow_le_pow_right (n:=2) (by omega) hx9) (by decide);obtain⟨P2,hP2⟩:=nm_ (2^(x+1));rw [<-hP2]at hw64 hp512 HD2;have HW:=hd_ hw64;clear hw64 hP2;go_wp2_with fail
   have hexit:∀(wX:World) (A:Option Addr) (n c:Nat) (N:List Int) (σ:St),Blk wX H 29 #[.int .i64 ((x:Int)+1),.slice A n c]->Own wX 3 (.slice A n c) (Q1 N) ->
       (∀b,(Value.slice A n c).ownBlock=some b->H<b)->Upd (Two g gf) w wX->Y0 wX F g gf bs σ->(N,σ)=T.2->N.length<=1000 ->
       Q09 Tryz.prog Tryz.f183 R H ((x:Int)+1) (.slice A n c) ((wX.setCell ⟨H,0,none⟩ (.int .i64 ((x:Int)+1))).setCell ⟨H,1,none⟩ (.slice A n c)):=by
     intro wX A n c N σ hb ho hob hu hrd ht hl tmps ht6;have b4:=(hb.set_ 0 (.int .i64 ((x:Int)+1))).set_ 1 (.slice A n c);(have b5:Blk ((wX.setCell ⟨H,0,none⟩ (.int .i64 ((x:Int)+1))).setCell ⟨H,1,none⟩ (.slice A n c)) H 29 #[.int .i64 ((x:Int)+1),.slice A n c]:=by simpa using b4);have hset:=Zg wX H (.int .i64 ((x:Int)+1)) (.slice A n c);refine bodyPost_ret (v:=.agg #[.int .i64 ((x:Int)+1),.slice A n c]) (results_cell_row rfl _ _ H _ _ _ _ ht6 b5 Tryz.underlying29 rfl (by kernel_rfl)) rfl ?_;(have e1:T.1=x+1:=by rw [HD2.out]);(have e2:T.2.1=N:=by rw [<-ht]);(have e3:T.2.2=σ:=by rw [<-ht]);refine hR.out _ _ ⟨.slice A n c,?_,?_,?_,?_,?_,?_⟩
     . rw [e1];simp
     . rw [e2];exact ho.upd hset (fun b hb h=>by have:=hob b hb;omega)
     . exact hu.trans hset (fun b hb h=>by have:=HH.out;omega)
     . rw [e3];exact hrd.upd hset (by omega) (by omega) (fun b hb e=>by have:=hF b hb;have:=HH.out;omega)
     . intro b hb;have:=hob b hb;have:=HH.out;omega
     rw [e2];exact hl
   have HX:=hd_ hexit;clear hexit hR
   go_loopg [8,9] 600 (fun f vl vr wr=>∃(L:Nat) (N:List Int) (ran:Bool) (v:Value) (σ:St),vl = .int .i64 L/\vr = .bool ran/\Blk wr H 29 #[.int .i64 ((x:Int)+1),v]/\Own wr 3 v (Q1 N) /\
     (∀b,v.ownBlock=some b->H<b)/\Upd (Two g gf) w wr/\Y0 wr F g gf bs σ/\Qr sy (Q9 bs) f L N ran σ=T.2/\L<=512/\600<=f+min N.length 256/\N.length<=600)
   case atStart=>exact⟨P2,[],false,_,σ1,by rw [<-HW.out],rfl,by simpa using B3.out,Own.nil _ _,by simp [Value.ownBlock],U3.out,R3.out,by rw [HD2.out],hp512,by simp,by simp⟩
   case round =>
     obtain⟨L,N,ran,v,σ,rfl,rfl,hb,ho,hob,hu,hrd,htot,hL,hf,hNl⟩:=hrel;obtain⟨A,n,c,rfl,hn⟩:=ho.form';(have hnN:n=N.length:=by simpa using hn.out);have B4:=hd_ hb;have O4:=hd_ ho;have OB:=hd_ hob;have U4:=hd_ hu;have R4:=hd_ hrd;have HTOT:=hd_ htot;have HNN:=hd_ hnN;have hc40:=hb.cell 0;have hc41:=hb.cell 1;have hz40:=hb.frozen 0;have hz41:=hb.frozen 1;simp at hc40 hc41;(have hnI:(n:Int)<=600:=by omega);clear hb ho hob hu hrd htot hn hnN B3 U3 R3 hc3 hc31 hz30 hz31 B0 R0 F0;obtain⟨f,rfl⟩:∃f,gk=f+1:=⟨gk-1,by omega⟩;by_cases hL0:0<L
     . have hL1:0<(L:Int):=by omega
       have hmu:=Jn F g gf bs σ (decide ((n:Int)<sy)) 13 wr R4.out (by omega) (by omega);by_cases hok1:(Qd (decide ((n:Int)<sy)) 13 σ).1=true
       . obtain⟨he1,he2⟩:=YC hok1
         have HOK1:=hd_ (show(Qd (decide ((N.length:Int)<sy)) 13 σ).1=true by rw [<-HNN.out];exact hok1);rw [hok1,he1,he2]at hmu;(have hns:(n:Int)<sy:=by simpa using he2);have HM:=hd_ hmu;clear hmu hok1 he1 he2;go_wp2_with fail;refine HM.out.mono ?_;rintro e w5 ⟨rfl,u5,r5⟩;(have hgl:∀b,(Value.slice A n c).ownBlock=some b->¬Two g gf b:=fun b hb h=>by have:=OB.out b hb;rcases h with h|h<;>omega);have b5:=B4.out.upd u5 hH2;have o5:=O4.out.upd u5 hgl;have B5:=hd_ b5;have O5:=hd_ o5;have R5:=hd_ r5;have U5:=hd_ (U4.out.trans' u5);clear b5 o5 r5 u5 B4 O4 R4 U4 hc40 hc41 hz40 hz41;have hnum:=Q1m F g gf bs σ (L+2) w5 R5.out (by omega) (by omega);have hnl:=Kj (Q9 bs) (L+2) σ (by omega) (by omega);obtain⟨Y,hY⟩:=nm_ (QS (Q9 bs) (L+2) σ);rw [<-hY]at hnum hnl;obtain⟨y,σ6⟩:=Y;simp only at hnum hnl;have HY:=hd_ hY.symm;clear hY;have HNU:=hd_ hnum;clear hnum HM;go_wp2_with fail;rw [show(L:Int)+2=((L+2:Nat):Int) by omega];refine HNU.out.mono ?_;rintro e w6 ⟨rfl,u6,r6⟩;have b6:=B5.out.upd u6 hH2;have o6:=O5.out.upd u6 hgl;have B6:=hd_ b6;have O6:=hd_ o6;have R6:=hd_ r6;have U6:=hd_ (U5.out.trans' u6);clear b6 o6 r6 u6 B5 O5 R5 U5 HNU;(have hyI:(y:Int)<=513:=by omega);by_cases hy1:y=1
         . subst hy1
           cases ran
           . have hbb:(((1:Nat):Int)-1 != 0 || !false)=true:=rfl
             have HBB:=hd_ hbb;clear hbb;have hmu2:=Jn F g gf bs σ6 true 13 w6 R6.out (by omega) (by omega);have HM2:=hd_ hmu2;clear hmu2;go_wp2_with fail;refine HM2.out.mono ?_;rintro e w7 ⟨rfl,u7,r7⟩;have b7:=B6.out.upd u7 hH2;have O7:=hd_ (O6.out.upd u7 hgl);have R7:=hd_ r7;have U7:=hd_ (U6.out.trans' u7);clear r7 u7 B6 O6 R6 U6 HM2;by_cases hk2:(Qd true 13 σ6).1=true
             . have hte:=(YC hk2).1
               rw [hte]at R7;simp only [hk2];have htn:=ZV sy (Q9 bs) f L N false σ 1 σ6 hL0 HOK1.out HY.out (by rw [HBB.out];exact hk2) rfl;rw [HTOT.out]at htn;have HTN:=hd_ htn.symm;clear htn hte;have hc70:=b7.cell 0;have hc71:=b7.cell 1;have hz70:=b7.frozen 0;have hz71:=b7.frozen 1;have hbl:=b7.lt;simp at hc70 hc71;have B7:=hd_ b7;(have hn1000:(Q1 N).length+1<=2^40:=by simp;omega);clear b7 hk2;go_wp2_with (at_builtin;go_must (refine Yl _ rfl (.tmp 57) (.tmp 59) _ rfl 3 _ 8 Tryz.underlying27 Yx rfl _ _ rfl (O7.out.alloc _) _ 1 _ _ rfl (Rd.one w7 3 (.int .i64 0)) (by simp [Value.oneCell']) (by omega) hn1000 ?_));intro v' w8 o8 g8 a8;have u8:Upd (fun b=>(Value.slice A n c).ownBlock=some b) w7 w8:=((Upd.refl _ w7).alloc _).grown g8 (fun k hk _=>hk);have hHown:¬(Value.slice A n c).ownBlock=some H:=O7.out.ne_blk B7.out (by decide);have b8:=B7.out.upd u8 hHown;have R8:=hd_ (R7.out.upd u8 (fun h=>hgl _ h (.inl rfl)) (fun h=>hgl _ h (.inr rfl)) (fun b hb h=>by have:=hF b hb;have:=OB.out b h;have:=HH.out;omega));have U8:=hd_ (U7.out.trans u8 (fun b hb h=>by have:=OB.out b h;have:=HH.out;omega));have OB8:=hd_ (Zb (S:=fun k=>H<k) a8 OB.out (by omega));rw [XB]at o8;obtain⟨A8,n8,c8,rfl,hn8⟩:=o8.form';(have hn8':n8=N.length+1:=by simpa using hn8.out);have hc81:=b8.cell 1;have hc80:=b8.cell 0;have hz81:=b8.frozen 1;have hz80:=b8.frozen 0;simp at hc81 hc80;have B8:=hd_ b8;have O8:=hd_ o8;have HN8:=hd_ hn8';(have hn8I:(n8:Int)<=601:=by omega);(have hn8J:(n8:Int)=n+1:=by have:=HNN.out;omega);have HN9:=hd_ hn8J;clear b8 o8 g8 a8 u8 hn8 hn8' hc70 hc71 hz70 hz71 O7 R7 U7 hn8J;have hset:Upd (fun b=>b=H) w8 (w8.setCell ⟨H,1,none⟩ (.slice A8 n8 c8)):=(Upd.refl (fun b=>b=H) w8).setCell (p:=⟨H,1,none⟩) (fun _=>rfl) _;have B9:=hd_ (show Blk (w8.setCell ⟨H,1,none⟩ (.slice A8 n8 c8)) H 29 #[.int .i64 ((x:Int)+1),.slice A8 n8 c8] by simpa using B8.out.set_ 1 (.slice A8 n8 c8));have O9:=hd_ (O8.out.upd hset (fun b hb h=>by have:=OB8.out b hb;omega));have R9:=hd_ (R8.out.upd hset (by omega) (by omega) (fun b hb e=>by have:=hF b hb;have:=HH.out;omega));have U9:=hd_ (U8.out.trans hset (fun b hb h=>by have:=HH.out;omega));clear hset;(have hN256:N.length<256:=by have:=HNN.out;omega);have hset:Upd (fun b=>b=H) w8 (w8.setCell ⟨H,1,none⟩ (.slice A8 n8 c8)):=(Upd.refl (fun b=>b=H) w8).setCell (p:=⟨H,1,none⟩) (fun _=>rfl) _;(have b9:Blk (w8.setCell ⟨H,1,none⟩ (.slice A8 n8 c8)) H 29 #[.int .i64 ((x:Int)+1),.slice A8 n8 c8]:=by simpa using B8.out.set_ 1 (.slice A8 n8 c8));have o9:=O8.out.upd hset (fun b hb h=>by have:=OB8.out b hb;omega);have r9:=R8.out.upd hset (by omega) (by omega) (fun b hb e=>by have:=hF b hb;have:=HH.out;omega);have u9:=U8.out.trans hset (fun b hb h=>by have:=HH.out;omega)
               go_wp2_with fail;clear hset;generalize w8.setCell ⟨H,1,none⟩ (.slice A8 n8 c8)=w9 at *;have hc91:=b9.cell 1;have hz91:=b9.frozen 1;simp at hc91;(have hF9:∀b,F b->b<w9.heap.size:=fun b hb=>by have:=hF b hb;have:=u9.size;omega);have hsub:IntKind.i64.wrap (sy-n8)=sy-n8:=IntWalk.i64_in _ (by have:=HN9.out;omega);(have hro1:sy-(n8:Int)<=256:=by omega);(have hro2:-1000000<=sy-(n8:Int):=by have:=HN9.out;omega);(have hgl9:∀b,(Value.slice A8 n8 c8).ownBlock=some b->¬Two g gf b:=fun b hb h=>by have:=OB8.out b hb;rcases h with h|h<;>omega);have hH9:=b9.lt;(have hlen9:(Q1 (N++[0])).length+300<=2^40:=by simp;omega);clear B8 O8 R8 U8 hc80 hc81 hz80 hz81;have hHo:some H≠(Value.slice A8 n8 c8).ownBlock:=(o9.ne_blk b9 (by decide)).symm;have hno:=Q1n F g gf bs σ6 (sy-n8) w9.drew r9 hro1 hro2 hF9
               go_region_law ((first
                   | (refine Q4b _ (by rfl) (.tmp 72) (.tmp 80) _ (by rfl) 3 _ 8 Tryz.underlying27 Yx rfl (.slice A8 n8 c8) _ (by rfl) (o9.drew.upd u10 hgl9) _ _ _ _ (by rfl) hrd10 hone10 (by omega) (by omega) ?_
                      intro v11 w11 o11 g11 a11;obtain⟨A11,n11,c11,rfl,hn11⟩:=o11.form'
                      have hz11:w11.frozen? ⟨H,1,none⟩=false:=by
                        rw [World.frozen?_of_block (w:=w10) (g11.block H (Nat.lt_of_lt_of_le hH9 u10.size) hHo),u10.frozen (p:=⟨H,1,none⟩) hH9 hH2];exact hz91
                      have hc11:=g11.cell hc10 hHo)
                   | (go_simp
                      go_at_call 214;refine hno.mono ?_;rintro e w10 ⟨v10,rfl,o10,u10,r10,b10,l10⟩;obtain⟨A10,n10,c10,rfl,hn10⟩:=o10.form';have hrd10:=(o10.rd rfl).2.2;rw [<-hn10.out]at hrd10;(have hl10:n10<=300:=by have:=hn10.out;simp [JU]at this;omega);have hone10:=Q2a (Qw (sy-n8) (Q9 bs) 300 3 0 σ6).1
                      have hc10:w10.cell? ⟨H,1,none⟩=some (.slice A8 n8 c8):=(u10.cell (p:=⟨H,1,none⟩) hH9 hH2).trans hc91)))
               all_goals
                 have b10:=b9.drew.upd u10 hH2;have b11:=b10.grown g11 (fun e=>hHo e.symm);have b12:=b11.set_ 1 (.slice A11 n11 c11);have ug:Upd (fun b=>(Value.slice A8 n8 c8).ownBlock=some b) w10 w11:=(Upd.refl _ w10).grown g11 (fun k hk _=>hk);have us:Upd (fun b=>b=H) w11 (w11.setCell ⟨H,1,none⟩ (.slice A11 n11 c11)):=(Upd.refl (fun b=>b=H) w11).setCell (p:=⟨H,1,none⟩) (fun _=>rfl) _;have ob11:=Zb (S:=fun k=>H<k) a11 OB8.out (Nat.lt_of_lt_of_le hH9 u10.size);have r11:=(r10.upd ug (fun h=>hgl9 _ h (.inl rfl)) (fun h=>hgl9 _ h (.inr rfl)) (fun b hb h=>by have:=hF b hb;have:=OB8.out b h;have:=HH.out;omega)).upd us (by omega) (by omega) (fun b hb e=>by have:=hF b hb;have:=HH.out;omega);have u11:=((u9.drew.trans' u10).trans ug (fun b hb h=>by have:=OB8.out b h;have:=HH.out;omega)).trans us (fun b hb h=>by have:=HH.out;omega);have o12:=o11.upd us (fun b hb h=>by have:=ob11 b hb;omega);rw [Q29]at o12;have HTN2:=HTN.out;rw [<-HN8.out]at HTN2;simp only [Exit.inBlock,Exit.then]
                 first
                   | (go_roundg f
                      case measure=>omega
                      case rel=>exact⟨L,_,true,_,_,rfl,rfl,by simpa using b12,o12,ob11,u11,r11,HTN2,hL,by simp;omega,by simp;omega⟩)
                   | (go_wp2
                      go_roundg f
                      case measure=>omega
                      case rel=>exact⟨L,_,true,_,_,rfl,rfl,by simpa using b12,o12,ob11,u11,r11,HTN2,hL,by simp;omega,by simp;omega⟩)
             (have hk2:(Qd true 13 σ6).1=false:=by simpa using hk2);simp only [hk2];have htf:=Jh sy (Q9 bs) f L N false σ 1 σ6 hL0 HOK1.out HY.out (by rw [HBB.out];exact hk2);rw [HTOT.out,HBB.out]at htf;have HTF:=hd_ htf.symm;have hc70:=b7.cell 0;have hc71:=b7.cell 1;have hz70:=b7.frozen 0;have hz71:=b7.frozen 1;simp at hc70 hc71;have B7:=hd_ b7;have HCX:=hd_ B7.out.cells;clear htf b7 hk2;go_wp2_with (refine YK rfl 29 (.tmp 6) rfl H 0 rfl [_,_] _ HCX.out Tryz.underlying29 rfl (by kernel_rfl) ?_);exact HX.out w7 A n c N _ B7.out O7.out OB.out U7.out R7.out HTF.out (by omega) _ rfl
           have hbb:(((1:Nat):Int)-1 != 0 || !true)=false:=rfl;have HBB:=hd_ hbb;clear hbb;have hmu2:=Jn F g gf bs σ6 false 13 w6 R6.out (by omega) (by omega);have HM2:=hd_ hmu2;clear hmu2;go_wp2_with fail;refine HM2.out.mono ?_;rintro e w7 ⟨rfl,u7,r7⟩;have b7:=B6.out.upd u7 hH2;have O7:=hd_ (O6.out.upd u7 hgl);have R7:=hd_ r7;have U7:=hd_ (U6.out.trans' u7);clear r7 u7 B6 O6 R6 U6 HM2;(have hk2:(Qd false 13 σ6).1=false:=by unfold Qd;split<;>rfl);simp only [hk2];have htf:=Jh sy (Q9 bs) f L N true σ 1 σ6 hL0 HOK1.out HY.out (by rw [HBB.out];exact hk2);rw [HTOT.out,HBB.out]at htf;have HTF:=hd_ htf.symm;have hc70:=b7.cell 0;have hc71:=b7.cell 1;have hz70:=b7.frozen 0;have hz71:=b7.frozen 1;simp at hc70 hc71;have B7:=hd_ b7;have HCX:=hd_ B7.out.cells;clear htf b7 hk2;go_wp2_with (refine YK rfl 29 (.tmp 6) rfl H 0 rfl [_,_] _ HCX.out Tryz.underlying29 rfl (by kernel_rfl) ?_);exact HX.out w7 A n c N _ B7.out O7.out OB.out U7.out R7.out HTF.out (by omega) _ rfl
         (have hyn:((y:Int)-1 != 0)=true:=by simp;omega);(have hbb:((y:Int)-1 != 0 || !ran)=true:=by rw [hyn];rfl);have HBB:=hd_ hbb;clear hbb;have hmu2:=Jn F g gf bs σ6 true 13 w6 R6.out (by omega) (by omega);have HM2:=hd_ hmu2;clear hmu2;go_wp2_with fail;refine HM2.out.mono ?_;rintro e w7 ⟨rfl,u7,r7⟩;have b7:=B6.out.upd u7 hH2;have O7:=hd_ (O6.out.upd u7 hgl);have R7:=hd_ r7;have U7:=hd_ (U6.out.trans' u7);clear r7 u7 B6 O6 R6 U6 HM2;by_cases hk2:(Qd true 13 σ6).1=true
         . have hte:=(YC hk2).1
           rw [hte]at R7;simp only [hk2];have htn:=KP sy (Q9 bs) f L N ran σ y σ6 hL0 HOK1.out HY.out (by rw [HBB.out];exact hk2) (by omega);rw [HTOT.out]at htn;have HTN:=hd_ htn.symm;clear htn hte;have hc70:=b7.cell 0;have hc71:=b7.cell 1;have hz70:=b7.frozen 0;have hz71:=b7.frozen 1;have hbl:=b7.lt;simp at hc70 hc71;have B7:=hd_ b7;(have hn1000:(Q1 N).length+1<=2^40:=by simp;omega);clear b7 hk2;go_wp2_with (at_builtin;go_must (refine Yl _ rfl (.tmp 57) (.tmp 59) _ rfl 3 _ 8 Tryz.underlying27 Yx rfl _ _ rfl (O7.out.alloc _) _ 1 _ _ rfl (Rd.one w7 3 (.int .i64 ((y:Int)-1))) (by simp [Value.oneCell']) (by omega) hn1000 ?_));intro v' w8 o8 g8 a8;have u8:Upd (fun b=>(Value.slice A n c).ownBlock=some b) w7 w8:=((Upd.refl _ w7).alloc _).grown g8 (fun k hk _=>hk);have hHown:¬(Value.slice A n c).ownBlock=some H:=O7.out.ne_blk B7.out (by decide);have b8:=B7.out.upd u8 hHown;have R8:=hd_ (R7.out.upd u8 (fun h=>hgl _ h (.inl rfl)) (fun h=>hgl _ h (.inr rfl)) (fun b hb h=>by have:=hF b hb;have:=OB.out b h;have:=HH.out;omega));have U8:=hd_ (U7.out.trans u8 (fun b hb h=>by have:=OB.out b h;have:=HH.out;omega));have OB8:=hd_ (Zb (S:=fun k=>H<k) a8 OB.out (by omega));rw [XB]at o8;obtain⟨A8,n8,c8,rfl,hn8⟩:=o8.form';(have hn8':n8=N.length+1:=by simpa using hn8.out);have hc81:=b8.cell 1;have hc80:=b8.cell 0;have hz81:=b8.frozen 1;have hz80:=b8.frozen 0;simp at hc81 hc80;have B8:=hd_ b8;have O8:=hd_ o8;have HN8:=hd_ hn8';(have hn8I:(n8:Int)<=601:=by omega);(have hn8J:(n8:Int)=n+1:=by have:=HNN.out;omega);have HN9:=hd_ hn8J;clear b8 o8 g8 a8 u8 hn8 hn8' hc70 hc71 hz70 hz71 O7 R7 U7 hn8J;have hset:Upd (fun b=>b=H) w8 (w8.setCell ⟨H,1,none⟩ (.slice A8 n8 c8)):=(Upd.refl (fun b=>b=H) w8).setCell (p:=⟨H,1,none⟩) (fun _=>rfl) _;have B9:=hd_ (show Blk (w8.setCell ⟨H,1,none⟩ (.slice A8 n8 c8)) H 29 #[.int .i64 ((x:Int)+1),.slice A8 n8 c8] by simpa using B8.out.set_ 1 (.slice A8 n8 c8));have O9:=hd_ (O8.out.upd hset (fun b hb h=>by have:=OB8.out b hb;omega));have R9:=hd_ (R8.out.upd hset (by omega) (by omega) (fun b hb e=>by have:=hF b hb;have:=HH.out;omega));have U9:=hd_ (U8.out.trans hset (fun b hb h=>by have:=HH.out;omega));clear hset;(have hN256:N.length<256:=by have:=HNN.out;omega);(have hyz:((y:Int)-1 == 0)=false:=by simp;omega);by_cases hneg:(y:Int)-1<0
           . have hmx:max ((y:Int)-1) (-((y:Int)-1))=1:=by omega
             go_wp2;go_roundg f
             case measure=>omega
             case rel=>exact⟨L-((y:Int)-1).natAbs,N++[(y:Int)-1],false,_,σ6,by congr 1;omega,rfl,B9.out,O9.out,OB8.out,U9.out,R9.out,HTN.out,by omega,by simp;omega,by simp;omega⟩
           (have hmx:max ((y:Int)-1) (-((y:Int)-1))=(y:Int)-1:=by omega);go_wp2;go_roundg f
           case measure=>omega
           case rel=>exact⟨L-((y:Int)-1).natAbs,N++[(y:Int)-1],false,_,σ6,by congr 1;omega,rfl,B9.out,O9.out,OB8.out,U9.out,R9.out,HTN.out,by omega,by simp;omega,by simp;omega⟩
         (have hk2:(Qd true 13 σ6).1=false:=by simpa using hk2);simp only [hk2];have htf:=Jh sy (Q9 bs) f L N ran σ y σ6 hL0 HOK1.out HY.out (by rw [HBB.out];exact hk2);rw [HTOT.out,HBB.out]at htf;have HTF:=hd_ htf.symm;have hc70:=b7.cell 0;have hc71:=b7.cell 1;have hz70:=b7.frozen 0;have hz71:=b7.frozen 1;simp at hc70 hc71;have B7:=hd_ b7;have HCX:=hd_ B7.out.cells;clear htf b7 hk2;go_wp2_with (refine YK rfl 29 (.tmp 6) rfl H 0 rfl [_,_] _ HCX.out Tryz.underlying29 rfl (by kernel_rfl) ?_);exact HX.out w7 A n c N _ B7.out O7.out OB.out U7.out R7.out HTF.out (by omega) _ rfl
       (have hok':(Qd (decide ((n:Int)<sy)) 13 σ).1=false:=by simpa using hok1);have htf:=Za sy (Q9 bs) f L N ran σ hL0 (by rw [<-HNN.out];exact hok');rw [HTOT.out,<-HNN.out]at htf;have HTF:=hd_ htf.symm;rw [hok']at hmu;clear htf;have HM:=hd_ hmu;clear hmu hok1 hok';go_wp2_with fail;refine HM.out.mono ?_;rintro e w5 ⟨rfl,u5,r5⟩;(have hgl:∀b,(Value.slice A n c).ownBlock=some b->¬Two g gf b:=fun b hb h=>by have:=OB.out b hb;rcases h with h|h<;>omega);have b5:=B4.out.upd u5 hH2;have o5:=O4.out.upd u5 hgl;have hc50:=b5.cell 0;have hc51:=b5.cell 1;have hz50:=b5.frozen 0;have hz51:=b5.frozen 1;simp at hc50 hc51;have B5:=hd_ b5;have O5:=hd_ o5;have R5:=hd_ r5;have U5:=hd_ (U4.out.trans' u5);have HCX:=hd_ B5.out.cells;clear b5 o5 r5 u5 B4 O4 R4 U4 hc40 hc41 hz40 hz41;go_wp2_with (refine YK rfl 29 (.tmp 6) rfl H 0 rfl [_,_] _ HCX.out Tryz.underlying29 rfl (by kernel_rfl) ?_);exact HX.out w5 A n c N _ B5.out O5.out OB.out U5.out R5.out HTF.out (by omega) _ rfl
     (have hL1:¬(0<(L:Int)):=by omega);(have ht:(N,σ)=T.2:=by rw [<-HTOT.out];simp [Qr,hL0]);have HCX:=hd_ B4.out.cells;have HT3:=hd_ ht;clear ht;go_wp2_with (refine YK rfl 29 (.tmp 6) rfl H 0 rfl [_,_] _ HCX.out Tryz.underlying29 rfl (by kernel_rfl) ?_);exact HX.out wr A n c N σ B4.out O4.out OB.out U4.out R4.out HT3.out (by omega) _ rfl
 have hd:=HD.out;rw [if_neg hok]at hd;(have hok':(Qd (decide ((x:Int)+1<=min lb 9)) 13 σ1).1=false:=by simpa using hok);simp only [hok'];clear hok;have HD2:=hd_ hd;have HC:=hd_ B3.out.cells;clear hd HD hok';go_wp2_with (refine YK rfl 29 (.tmp 6) rfl H 0 rfl [_,_] _ HC.out Tryz.underlying29 rfl (by kernel_rfl) ?_);have b4:=(B3.out.set_ 0 (.int .i64 ((x:Int)+1))).set_ 1 (.slice none 0 0);(have b5:Blk ((w3.setCell ⟨H,0,none⟩ (.int .i64 ((x:Int)+1))).setCell ⟨H,1,none⟩ (.slice none 0 0)) H 29 #[.int .i64 ((x:Int)+1),.slice none 0 0]:=by simpa using b4);have hu:=Zg w3 H (.int .i64 ((x:Int)+1)) (.slice none 0 0);refine bodyPost_ret (v:=.agg #[.int .i64 ((x:Int)+1),.slice none 0 0]) (results_cell_row rfl _ _ H _ _ _ _ rfl b5 Tryz.underlying29 rfl (by kernel_rfl)) rfl ?_;refine hR.out _ _ ⟨.slice none 0 0,?_,?_,?_,?_,?_,?_⟩
 . rw [HD2.out];simp
 . rw [HD2.out];exact Own.nil _ _
 . exact U3.out.trans hu (fun b hb h=>by have:=HH.out;omega)
 . rw [HD2.out];exact R3.out.upd hu (by omega) (by omega) (fun b hb e=>by have:=hF b hb;have:=HH.out;omega)
 . simp [Value.ownBlock]
 rw [HD2.out];simp
theorem Q5 {P:Program} {fn:Func} {p u:Tmp} {ty:TypeId} (h:fn.results=#[.cell p ty,.tmp u]) (tmps:Array Value) (w:World) (g:Nat) (t:TypeId) (cs:Array Value) (d:TypeDesc)
   (hp:tmps.getD p undef = .pointer (some ⟨g,0,none⟩)) (hg:Blk w g t cs)
   (hu:P.underlying ty=some d) (hd:(match d with | .struct _ | .array _ _=>true|_=>false)=true) (hi:(P.info? ty).map (·.size)=some cs.size) :
   (results fn tmps).run P w = .ok (.tuple #[.agg cs,tmps.getD u undef]) w:=by
 rw [results_cell_tmp h];rw [hp];simp [asAddr,run_loadVar_row w g t ty cs (0,0) d hg hu hd hi,Result.andThen]
def Yq (bs:List Nat) (at_:Nat):List Nat:=(bs.drop at_).take 1024
def Q1D (F:Nat->Prop) (g:Nat) (bs:List Nat) (at_:Nat) (sy lb:Int) (w:World) (e':Ending) (w':World):Prop :=
  Upd (fun b=>b=g) w w' /\
    match QT sy lb (Q9 (Yq bs at_))with
    | .error e=>e' = .returned (.tuple #[.agg #[.int .i64 0,.slice none 0 0],.int .i64 e])/\Qf w' F g bs at_
    | .ok (lg,N,k)=>∃v,e' = .returned (.tuple #[.agg #[.int .i64 lg,v],.int .i64 0])/\Own w' 3 v (Q1 N)/\(∀b,v.ownBlock=some b->w.heap.size<=b)/\Qf w' F g bs (at_+k)/\N.length<=1000
theorem Q2b (F:Nat->Prop) (g:Nat) (bs:List Nat) (at_:Nat) (sy lb:Int) (w:World) (hcu:Qf w F g bs at_) (hF:∀b,F b->b≠g) :
   Calls Tryz.prog 146 #[.pointer (some ⟨g,0,none⟩),.int .i64 sy,.int .i64 lb] w (Q1D F g bs at_ sy lb w):=by
 (have hlen:bs.length<=2^32:=by obtain⟨A,c,_,_,_,_,h,_⟩:=hcu;exact h);(have hblt:∀b∈bs,b<256:=by obtain⟨A,c,_,_,h,_⟩:=hcu;exact h);have hslt:∀b∈Yq bs at_,b<256:=fun b hb=>hblt b (List.mem_of_mem_drop (List.mem_of_mem_take hb));(have hsl:(Yq bs at_).length<=1024:=by unfold Yq;rw [List.length_take];omega)
 have hsl2:at_+(Yq bs at_).length<=bs.length:=by
   obtain⟨A,c,_,_,_,h,_⟩:=hcu;unfold Yq;rw [List.length_take,List.length_drop];omega
 have hgs:=hcu.lt;have hpk:=Q4c F g bs at_ 1024 (w.alloc (.cells #[.int .i64 0,.slice none 0 0] 29)) (hcu.fresh ((Upd.refl _ w).alloc _)) (by omega);have HPK:=hd_ hpk;have HCU:=hd_ hcu;have HSL:=hd_ hslt;have B0:=hd_ (Blk.new w 29 #[.int .i64 0,.slice none 0 0]);clear hpk hcu hblt hslt;refine Q6 fun R hR=>?_;obtain⟨H,hH⟩:=nm_ (w.heap.size);have HH:=hd_ hH;(have hgH:g<H:=by omega);rw [<-hH]at B0;clear hH hgs;go_enter Tryz.func146,Tryz.ntmps146;go_wp2_with fail;rw [<-HH.out];refine HPK.out.mono ?_;rintro e w1 ⟨v1,rfl,o1,f1,k1⟩;obtain⟨A1,n1,c1,rfl,hn1⟩:=o1.form';have hrd1:=(o1.rd rfl).2.2;rw [<-hn1.out]at hrd1;have hnf:=Xi _ A1 n1 c1 (Yq bs at_) w1 hrd1 HSL.out (by omega);have HNF:=hd_ hnf;have b1:=B0.out.fresh f1;have F1:=hd_ (show Q0 w w1 from((Upd.refl _ w).alloc _).trans' f1);(have hs1:H<w1.heap.size:=by have:=b1.lt;omega);have B1:=hd_ b1;clear hnf o1 f1 k1 hrd1 hn1 b1 HPK B0;go_wp2_with fail;refine HNF.out.mono ?_;rintro e w2 ⟨gf,rfl,hgf,f2,hfw⟩;(have hgr:gf<w2.heap.size:=by obtain⟨cs,h⟩:=hfw.blk;exact h.lt)
 have hfw2:YY w2 (fun b=>(w1.heap.size<=b/\b≠gf)/\b<w2.heap.size) gf (Yq bs at_) 0:=by
   obtain⟨A,c,hb,hr,r⟩:=hfw;exact⟨A,c,hb,hr.both,r⟩
 have hrdr:Y0 (w2.alloc (.cells #[.pointer (some ⟨gf,0,none⟩),.int .i64 0] 286)) (fun b=>(w1.heap.size<=b/\b≠gf)/\b<w2.heap.size) w2.heap.size gf (Yq bs at_) ⟨0,0⟩ :=
   ⟨Blk.new _ _ _,hfw2.fresh ((Upd.refl _ w2).alloc _),fun b hb=>⟨hb.1.2,by omega⟩,by simp,by simp⟩
 have htb:=Q3c _ w2.heap.size gf (Yq bs at_) (min sy 256) lb _ hrdr (by omega) (fun b hb=>by simp;omega);have HTB:=hd_ htb;have b2:=(B1.out.fresh f2).alloc (.cells #[.pointer (some ⟨gf,0,none⟩),.int .i64 0] 286);have B2:=hd_ b2;have F2:=hd_ ((F1.out.trans' f2).alloc (.cells #[.pointer (some ⟨gf,0,none⟩),.int .i64 0] 286));have hs2:w1.heap.size<=w2.heap.size:=f2.size;clear htb hrdr hfw hfw2 f2 b2 B1 F1 HNF;go_wp2_with fail;refine HTB.out.mono ?_;rintro e w3 ⟨v3,rfl,o3,u3,r3,k3,l3⟩;clear HTB;obtain⟨A3,n3,c3,rfl,hn3⟩:=o3.form';obtain⟨T,hT⟩:=nm_ (Jj (min sy 256) lb (Q9 (Yq bs at_)));rw [<-hT]at o3 r3 l3 ⊢;obtain⟨lg,N,σ⟩:=T;simp only at o3 r3 l3;have HT:=hd_ hT.symm;obtain⟨gr,hgrd⟩:=nm_ (w2.heap.size);have b3:=B2.out.upd u3 (by unfold Two;omega);have U3:=hd_ (show Q0 w w3 from F2.out.trans u3 (fun b hb h=>by have:=HH.out;rcases h with h|h<;>omega));(have hs3:w2.heap.size<w3.heap.size:=by have:=u3.size;simp at this;omega);have cu3:=HCU.out.fresh U3.out;rw [<-hgrd]at r3 hs3 hs2 hgr ⊢;obtain⟨hc0,hc1⟩:=(r3.1).cells2;have hgrw:gr<w3.heap.size:=hs3;have B3:=hd_ b3;have R3:=hd_ r3;have O3:=hd_ o3;have K3:=hd_ (fun b hb=>Nat.le_trans (by have:=HH.out;simp;omega) (k3 b hb):∀b,(Value.slice A3 n3 c3).ownBlock=some b->w.heap.size<=b);have HGR:=hd_ hgrd;clear b3 r3 o3 u3 k3 hn3 hT hgrd B2 F2;by_cases he:σ.e=0
 . have he':(σ.e != 0)=false:=by simpa using he
   have HE:=hd_ he;have hal:=Q3d _ gf (Yq bs at_) σ.fr (w3.alloc (.cells #[.int .i64 lg,.slice A3 n3 c3] 29)) (YY.fresh R3.out.2.1 ((Upd.refl _ w3).alloc _)) (fun b hb=>hb.1.2);have hHw:H<w3.heap.size:=B3.out.lt;by_cases hz:Q8 (Yq bs at_) / 2^σ.fr%2^Jc σ.fr=0
   . have HAL:=hd_ (hal.mono fun e w' h=>(⟨h.1 hz,h.2.2⟩:e=_/\Upd (fun b=>b=gf) _ w'))
     have HZ:=hd_ hz;clear hal he hz;go_wp2_with fail;refine HAL.out.mono ?_;rintro e w4 ⟨rfl,u4⟩;(have hgf4:w.heap.size<=gf/\gf≠H:=by have:=HH.out;omega);(have hg4:w3.heap.size<w4.heap.size:=by have:=u4.size;simp at this;omega);have U4:=hd_ (show Q0 w w4 from(U3.out.alloc (.cells #[.int .i64 lg,.slice A3 n3 c3] 29)).trans u4 (fun b hb h=>by omega));have b4:=(B3.out.alloc (.cells #[.int .i64 lg,.slice A3 n3 c3] 29)).upd u4 (fun h=>hgf4.2 h.symm);have B4:=hd_ b4;have V4:=hd_ u4;have t4:=(Blk.new w3 29 #[.int .i64 lg,.slice A3 n3 c3]).upd u4 (by omega);have T4:=hd_ t4;have O4:=hd_ ((O3.out.fresh ((Upd.refl _ w3).alloc (.cells #[.int .i64 lg,.slice A3 n3 c3] 29))));have d0:=b4.cell 0;have d1:=b4.cell 1;have z0:=b4.frozen 0;have z1:=b4.frozen 1;simp at d0 d1;(have hfr:σ.fr<=8*(Yq bs at_).length:=by obtain⟨_,_,_,_,_,h,_⟩:=R3.out.2.1;exact h);have hcb:=XC _ g bs at_ ((σ.fr+Jc σ.fr) / 8) w4 (HCU.out.both.fresh U4.out) (by unfold Jc;omega) (fun b hb=>hF b hb.1);have HCB:=hd_ hcb;clear u4 b4 t4 hcb;go_wp2_with fail;refine HCB.out.mono ?_;rintro e w5 ⟨v5,rfl,o5,u5,cu5⟩;(have hg3:g<w3.heap.size:=by omega);have b5:=B4.out.upd u5 (by omega);have t5:=T4.out.upd u5 (by omega);have B5:=hd_ b5;have T5:=hd_ t5;have U5:=hd_ u5;have CU5:=hd_ cu5;have x0:=b5.cell 0;have x1:=b5.cell 1;have y0:=b5.frozen 0;have y1:=b5.frozen 1;have p0:=t5.cell 0;have p1:=t5.cell 1;simp at x0 x1 p0 p1;clear b5 t5 u5 cu5 o5 HCB;go_wp2_with fail
     exact bodyPost_ret (Q5 rfl _ _ H _ _ _ rfl ((B5.out.set_ 0 (.int .i64 lg)).set_ 1 (.slice A3 n3 c3)) Tryz.underlying29 rfl (by kernel_rfl)) rfl (by
       refine hR.out _ _ ?_;have hu:=(((Upd.refl (fun b=>b=H) w5).setCell (p:=⟨H,0,none⟩) (fun _=>rfl) (.int .i64 lg)).setCell (p:=⟨H,1,none⟩) (fun _=>rfl) (.slice A3 n3 c3));have hv:Upd (fun b=>b=g\/b=H) w4 _:=(U5.out.mono (fun _ _ h=>Or.inl h)).trans hu (fun b _ h=>Or.inr h);have hw:Upd (fun b=>b=g) w _:=(Upd.mono U4.out (T:=fun b=>b=g) (fun _ _ h=>h.elim)).trans hv (fun b hb h=>h.elim id (fun h=>by have:=HH.out;omega));refine⟨hw,?_⟩
       have hd:QT sy lb (Q9 (Yq bs at_)) = .ok (lg,N,(σ.fr+Jc σ.fr) / 8):=by
         unfold QT;simp only [HT.out];rw [if_neg (by simp [HE.out]),if_neg (by rw [ZK];exact not_not_intro HZ.out)];rfl
       rw [hd];obtain⟨csf,hbf⟩:=R3.out.2.1.blk;have n1:=O3.out.ne_blk hbf (by decide);have n2:=O3.out.ne_blk B3.out (by decide);have o4:Own w4 3 (.slice A3 n3 c3) (Q1 N):=(O3.out.fresh ((Upd.refl _ w3).alloc (.cells #[.int .i64 lg,.slice A3 n3 c3] 29))).upd V4.out (fun b hb h=>n1 (by rw [hb,h]));refine⟨_,rfl,o4.upd hv (fun b hb h=>?_),K3.out,(CU5.out.upd hu (by omega) (fun b hb hF' h=>?_)).mono (fun b h=>h.1),l3⟩
       . rcases h with h|h
         . have:=K3.out b hb;have:=HH.out;omega
         exact n2 (by rw [hb,h])
       have:=hF'.2;have:=HH.out;omega)
   have HAL:=hd_ (hal.mono fun e w' h=>(⟨h.2.1 hz,h.2.2⟩:e=_/\Upd (fun b=>b=gf) _ w'));have HZ:=hd_ hz;clear hal he hz;go_wp2_with fail;refine HAL.out.mono ?_;rintro e w4 ⟨rfl,u4⟩;(have hgf4:w.heap.size<=gf/\gf≠H:=by have:=HH.out;omega);(have hg4:w3.heap.size<w4.heap.size:=by have:=u4.size;simp at this;omega);have U4:=hd_ (show Q0 w w4 from(U3.out.alloc (.cells #[.int .i64 lg,.slice A3 n3 c3] 29)).trans u4 (fun b hb h=>by omega));have b4:=(B3.out.alloc (.cells #[.int .i64 lg,.slice A3 n3 c3] 29)).upd u4 (fun h=>hgf4.2 h.symm);have B4:=hd_ b4;have V4:=hd_ u4;have t4:=(Blk.new w3 29 #[.int .i64 lg,.slice A3 n3 c3]).upd u4 (by omega);have T4:=hd_ t4;have O4:=hd_ ((O3.out.fresh ((Upd.refl _ w3).alloc (.cells #[.int .i64 lg,.slice A3 n3 c3] 29))));have d0:=b4.cell 0;have d1:=b4.cell 1;have z0:=b4.frozen 0;have z1:=b4.frozen 1;simp at d0 d1;clear u4 b4 t4;go_wp2_with fail
   exact bodyPost_ret (Q5 rfl _ _ H _ _ _ rfl ((B4.out.set_ 0 (.int .i64 0)).set_ 1 (.slice none 0 0)) Tryz.underlying29 rfl (by kernel_rfl)) rfl (by
     refine hR.out _ _ ?_;have hu:=(((Upd.refl (fun b=>b=H) w4).setCell (p:=⟨H,0,none⟩) (fun _=>rfl) (.int .i64 0)).setCell (p:=⟨H,1,none⟩) (fun _=>rfl) (.slice none 0 0));have hw:Q0 w _:=U4.out.trans hu (fun b hb h=>by have:=HH.out;omega);refine⟨Upd.mono hw (fun _ _ h=>h.elim),?_⟩
     have hd:QT sy lb (Q9 (Yq bs at_)) = .error 14:=by
       unfold QT;simp only [HT.out];rw [if_neg (by simp [HE.out]),if_pos (by rw [ZK];exact HZ.out)]
     rw [hd]
     exact⟨rfl,HCU.out.fresh hw⟩)
 (have he':(σ.e != 0)=true:=by simpa using he);go_wp2_with fail;have hHw:H<w3.heap.size:=B3.out.lt;have d0:=B3.out.cell 0;have d1:=B3.out.cell 1;have z0:=B3.out.frozen 0;have z1:=B3.out.frozen 1;simp at d0 d1;go_region;(all_goals go_wp2_with fail)
 all_goals exact bodyPost_ret (Q5 rfl _ _ H _ _ _ rfl (((B3.out.set_ 0 (.int .i64 0)).set_ 1 (.slice none 0 0)).alloc _).drew Tryz.underlying29 rfl (by kernel_rfl)) rfl (by
   refine hR.out _ _ ?_;have hu:=((((Upd.refl (fun b=>b=H) w3).setCell (p:=⟨H,0,none⟩) (fun _=>rfl) (.int .i64 0)).setCell (p:=⟨H,1,none⟩) (fun _=>rfl) (.slice none 0 0)).alloc (.cells #[.int .i64 lg,.slice A3 n3 c3] 29)).drew;have hw:Q0 w _:=U3.out.trans hu (fun b hb h=>by have:=HH.out;omega);refine⟨Upd.mono hw (fun _ _ h=>h.elim),?_⟩
   have hd:QT sy lb (Q9 (Yq bs at_)) = .error σ.e:=by
     unfold QT;simp only [HT.out];rw [if_pos he]
   rw [hd]
   exact⟨rfl,HCU.out.fresh hw⟩)
theorem Qq {P:Program} {fn:Func} {p u v:Tmp} {ty:TypeId} (h:fn.results=#[.cell p ty,.tmp u,.tmp v]) (tmps:Array Value) (w:World) (g:Nat) (t:TypeId) (cs:Array Value) (d:TypeDesc)
   (hp:tmps.getD p undef = .pointer (some ⟨g,0,none⟩)) (hg:Blk w g t cs)
   (hu:P.underlying ty=some d) (hd:(match d with | .struct _ | .array _ _=>true|_=>false)=true) (hi:(P.info? ty).map (·.size)=some cs.size) :
   (results fn tmps).run P w = .ok (.tuple #[.agg cs,tmps.getD u undef,tmps.getD v undef]) w:=by
 have hl:=run_loadVar_row w g t ty cs (0,0) d hg hu hd hi
 have e:(results fn tmps).run P w =
     ((asAddr (tmps.getD p undef)).run P w).andThen fun a w₁=>((loadVar ty a).run P w₁).andThen fun x w₂=>.ok (.tuple #[x,tmps.getD u undef,tmps.getD v undef]) w₂:=by
   simp only [results,h];simp [Sem.run_bind,Result.andThen]
 rw [e,hp];simp [asAddr,hl,Result.andThen]
def Q6T (bs:List Nat) (sy lb:Int) (w:World) (e:Ending) (w':World):Prop :=
  Q0 w w'/\match QT sy lb (Q9 bs)with
    | .error x=>e = .returned (.tuple #[.agg #[.int .i64 0,.slice none 0 0],.int .i64 0,.int .i64 x])
    | .ok (p,N,k)=>∃v,e = .returned (.tuple #[.agg #[.int .i64 p,v],.int .i64 k,.int .i64 0])/\Own w' 3 v (Q1 N)/\(∀b,v.ownBlock=some b->w.heap.size<=b)/\N.length<=1000
theorem Q3e {sy lb:Int} {L:List Bool} (h:Qa L 4 ⟨0,0⟩=(0,⟨0,3⟩)):QT sy lb L = .error 3:=by
 unfold QT Jj;simp only [h,Qd];simp
theorem Q5w {sy lb:Int} {L:List Bool} {x:Nat} (h:Qa L 4 ⟨0,0⟩=(x,⟨4,0⟩)) (hx:¬((x:Int)+1<=min lb 9)):QT sy lb L = .error 13:=by
 unfold QT Jj;simp only [h,Qd,decide_eq_false hx];simp
theorem Q5x {sy lb:Int} {L:List Bool} {x:Nat} (h:Qa L 4 ⟨0,0⟩=(x,⟨4,0⟩)) (hx:(x:Int)+1<=min lb 9) :
   QT sy lb L=if(Qr (min sy 256) L 600 (2^(x+1)) [] false ⟨4,0⟩).2.e≠0 then .error (Qr (min sy 256) L 600 (2^(x+1)) [] false ⟨4,0⟩).2.e
     else if Q24 L (Qr (min sy 256) L 600 (2^(x+1)) [] false ⟨4,0⟩).2.fr≠0 then .error 14
     else .ok (x+1,(Qr (min sy 256) L 600 (2^(x+1)) [] false ⟨4,0⟩).1,((Qr (min sy 256) L 600 (2^(x+1)) [] false ⟨4,0⟩).2.fr+(8-(Qr (min sy 256) L 600 (2^(x+1)) [] false ⟨4,0⟩).2.fr%8)%8) / 8):=by
 unfold QT Jj;simp only [h,Qd,decide_eq_true hx,if_true];rfl
theorem Y8.both {w:World} {F:Nat->Prop} {g:Nat} {L:List Bool} {fr:Nat} (h:Y8 w F g L fr):Y8 w (fun b=>F b/\b<w.heap.size) g L fr:=by
 obtain⟨A,c,h1,h2,h3⟩:=h;exact⟨A,c,h1,h2.both,h3⟩
theorem Y8.lt {w:World} {F:Nat->Prop} {g:Nat} {L:List Bool} {fr:Nat} (h:Y8 w F g L fr):g<w.heap.size:=by
 obtain⟨A,c,h1,_⟩:=h;exact h1.lt
theorem Q6a (x:Nat) (h:x<2^4):wrap64 (x:Int)=x:=by unfold wrap64;omega
def J4 (at_:Nat) (bs:List Nat) (sy lb:Int) (w:World) (e:Ending) (w':World):Prop :=
  Q0 w w'/\match QT sy lb (Q9 bs)with
    | .error x=>e = .returned (.tuple #[.agg #[.int .i64 0,.slice none 0 0],.int .i64 (at_:Nat),.int .i64 x])
    | .ok (p,N,k)=>∃v,e = .returned (.tuple #[.agg #[.int .i64 p,v],.int .i64 ((at_:Int)+(k:Nat)),.int .i64 0])/\Own w' 3 v (Q1 N)/\(∀b,v.ownBlock=some b->w.heap.size<=b)/\N.length<=1000
theorem J4.err {at_:Nat} {bs:List Nat} {sy lb:Int} {w w':World} {e:Ending} (f:Q0 w w') (x:Int) (hd:QT sy lb (Q9 bs) = .error x) (he:e = .returned (.tuple #[.agg #[.int .i64 0,.slice none 0 0],.int .i64 (at_:Nat),.int .i64 x])) :
   J4 at_ bs sy lb w e w':=by
 refine⟨f,?_⟩;rw [hd];exact he
theorem J4.ok {at_:Nat} {bs:List Nat} {sy lb:Int} {w w':World} {e:Ending} (f:Q0 w w') {p k:Nat} {N:List Int} {v:Value} (hd:QT sy lb (Q9 bs) = .ok (p,N,k)) (he:e = .returned (.tuple #[.agg #[.int .i64 p,v],.int .i64 ((at_:Int)+(k:Nat)),.int .i64 0]))
   (ho:Own w' 3 v (Q1 N)) (hk:∀b,v.ownBlock=some b->w.heap.size<=b) (hl:N.length<=1000):J4 at_ bs sy lb w e w':=by
 refine⟨f,?_⟩;rw [hd];exact⟨v,he,ho,hk,hl⟩
theorem Q3f (F:Nat->Prop) (A:Option Addr) (n c at_:Nat) (bs0:List Nat) (sy lb:Int) (w:World) (hr0:Rd w F A n (Qi bs0)) (hlt0:∀b∈bs0,b<256) (hn:n<=500) (hcap:n<=c) (hat:at_<=n) :
   Calls Tryz.prog 65 #[.slice A n c,.int .i64 (at_:Nat),.int .i64 sy,.int .i64 lb] w (J4 at_ (bs0.drop at_) sy lb w):=by
 (have hL0:bs0.length=n:=by have:=hr0.1;simpa using this);obtain⟨bs,hbs⟩:=nm_ (bs0.drop at_);rw [<-hbs];(have hL:bs.length=n-at_:=by rw [hbs,List.length_drop,hL0]);have hlt:∀b∈bs,b<256:=fun b hb=>hlt0 b (List.mem_of_mem_drop (by rw [hbs]at hb;exact hb));have hr:=hr0.cut (k:=at_) (cap:=c) hat hcap;(have hbd:(Qi bs0).drop at_=Qi bs:=by rw [hbs];simp [Qi]);rw [hbd]at hr;(have hatI:(at_:Int)<=n:=by omega);(have hnI:(n:Int)<=500:=by omega);(have hncI:(n:Int)<=c:=by omega);obtain⟨w0,hw0⟩:=nm_ (w.alloc (.cells #[.int .i64 0,.slice none 0 0] 29));obtain⟨H,hH⟩:=nm_ (w.heap.size);(have fr0:Q0 w w0:=by rw [hw0];exact(Upd.refl _ _).alloc _);(have b0:Blk w0 H 29 #[.int .i64 0,.slice none 0 0]:=by rw [hw0];exact Q2 hH _ _);have hfw:=Q0t F _ (n-at_) (c-at_) bs w0 (hr.fresh fr0) hlt (by omega);have HFW:=hd_ hfw;obtain⟨L,hLd⟩:=nm_ (Q9 bs);(have hL40:L.length<=2^40:=by rw [hLd,Yj];omega);(have hL8:L.length%8=0:=by rw [hLd,Yj];omega);have HLD:=hd_ hLd;have B0:=hd_ b0;have F0:=hd_ fr0;have HW:=hd_ hw0;have HH:=hd_ hH;have HL40:=hd_ hL40;have HL8:=hd_ hL8;clear hr hr0 hlt hlt0 hbd hbs hL0 hw0 hH fr0 b0 hfw hLd hL40 hL8 hL;refine Q6 fun R hR=>?_;(have hc0:at_=c\/(at_:Int)<c:=by omega);(have hatc:at_=c->n=at_:=fun h=>by omega);rcases hc0 with hc0|hc0
 case' inl =>
   subst hc0;obtain rfl:=hatc rfl;rw [if_pos rfl,Nat.sub_self]at HFW;clear hatc hat hcap
 case' inr =>
   rw [if_neg (by omega)]at HFW;clear hatc hat hcap
 all_goals
   go_enter Tryz.func65,Tryz.ntmps65;go_wp2_with fail;simp only [<-HH.out,<-HW.out];refine HFW.out.mono ?_;rintro e w1 ⟨g,rfl,f1,hg,r1⟩;rw [<-HLD.out]at r1;have r1b:=r1.both;have hg1:=r1.lt;have hF1:∀b,((w0.heap.size<=b/\b≠g)/\b<w1.heap.size)->b≠g:=fun b h=>h.1.2;have hF2:∀b,((w0.heap.size<=b/\b≠g)/\b<w1.heap.size)->b<w1.heap.size:=fun b h=>h.2;have hF3:∀b,((w0.heap.size<=b/\b≠g)/\b<w1.heap.size)->w0.heap.size<=b:=fun b h=>h.1.1;obtain⟨FF,hFF⟩:∃FF:Nat->Prop,FF=fun b=>((w0.heap.size<=b/\b≠g)/\b<w1.heap.size):=⟨_,rfl⟩;rw [<-hFF]at r1b;(have hF1':∀b,FF b->b≠g:=by rw [hFF];exact hF1);(have hF2':∀b,FF b->b<w1.heap.size:=by rw [hFF];exact hF2);have hHg:H<w0.heap.size:=B0.out.lt;have hfst:=Zu FF g L 0 4 w1 r1b (by omega) HL40.out hF1';have HG1:=hd_ hF1';have HG2:=hd_ hF2';have F1:=hd_ f1;have B1:=hd_ (B0.out.fresh f1)
   have hxx:Qa L 4 ⟨0,0⟩=(0,⟨0,3⟩)\/∃x,Qa L 4 ⟨0,0⟩=(x,⟨4,0⟩):=by
     by_cases hs:0+4<=L.length
     . exact .inr ⟨_,Km hs⟩
     exact .inl (Kn (by omega))
   have hx16:=YL L 4 ⟨0,0⟩;have hds:=@Q3e sy lb L;have hdl:=@Q5w sy lb L;have hdt:=@Q5x sy lb L;obtain⟨X,hX⟩:=nm_ (Qa L 4 ⟨0,0⟩);simp only [<-hX]at hfst hxx hx16 hds hdl hdt;clear hX r1 r1b f1 hF1 hF2 hF3 hFF hF1' hF2' HFW;rcases hxx with rfl|⟨x,rfl⟩
   . have hd:=hds rfl
     rw [HLD.out]at hd;have HD:=hd_ hd;have HFS:=hd_ hfst;clear hd hfst hx16 hds hdl hdt;go_wp2_with fail;refine HFS.out.mono ?_;rintro e w2 ⟨rfl,u2,r2⟩;have b2:=B1.out.upd u2 (by omega);have c0:=b2.cell 0;have c1:=b2.cell 1;have z0:=b2.frozen 0;have z1:=b2.frozen 1;simp at c0 c1;have B2:=hd_ b2;have U2:=hd_ u2;clear u2 r2 b2;go_wp2_with fail
     exact bodyPost_ret (Qq rfl _ _ H _ _ _ rfl ((B2.out.set_ 0 (.int .i64 0)).set_ 1 (.slice none 0 0)) Tryz.underlying29 rfl (by kernel_rfl)) rfl
       (hR.out _ _ (J4.err (((F0.out.trans' F1.out).trans U2.out (fun b hb h=>by have:=F0.out.size;omega)).trans (Zg w2 H _ _) (fun b hb h=>by have:=HH.out;omega)) 3 HD.out rfl))
   simp only at hfst hx16;have HFS:=hd_ hfst;(have hxI:(x:Int)<=15:=by omega);have hx64:=Q6a x hx16;have HX64:=hd_ hx64;clear hfst hds hx64;by_cases hlog:(x:Int)+1<=min lb 9
   . have hd:=hdt rfl hlog
     (have hx9:x+1<=9:=by omega);have hp2:=YF hx9;have hsz:=fun W=>Z5 (x+1) W hx9;obtain⟨T,hT⟩:=nm_ (Qr (min sy 256) L 600 (2^(x+1)) [] false ⟨4,0⟩);have hno:=fun W (h:Y8 W FF g L 4) (hW:w1.heap.size<=W.heap.size)=>Q27 FF g L 4 (2^(x+1)) (min sy 256) W h hp2 (by omega) HL40.out HG1.out (fun b hb=>Nat.lt_of_lt_of_le (HG2.out b hb) hW) (Nat.lt_of_lt_of_le hg1 hW);simp only [<-hT]at hd hno;rw [show((x+1:Nat):Int)=(x:Int)+1 by omega]at hsz;rw [HLD.out]at hd;rw [<-HLD.out]at hd;obtain⟨q,hq⟩:=nm_ (2^(x+1));rw [<-hq]at hsz hno;(have hl1:(x:Int)+1<=lb:=by omega);(have hl2:(x:Int)<=8:=by omega);have HD:=hd_ hd;have HNO:=hd_ hno;have HSZ:=hd_ hsz;obtain⟨sm,hsm⟩:=nm_ (min sy 256);rw [<-hsm]at HNO;have HSM:=hd_ hsm;clear hd hno hsz hq hT hlog hdl hdt hp2 hx9 hsm;have hx64:=HX64.out;go_wp2_with fail;refine HFS.out.mono ?_;rintro e w2 ⟨rfl,u2,r2⟩;have hs2:=u2.size;have hno2:=HNO.out w2 r2 hs2;have HNO2:=hd_ hno2;have U2:=hd_ u2;clear u2 r2 hs2 hno2 HNO;go_wp2_with fail;refine(HSZ.out _).mono ?_;rintro e w3 ⟨rfl,rfl⟩;go_wp2_with fail;rw [<-HSM.out];refine HNO2.out.mono ?_;rintro e w4 ⟨v4,rfl,u4,h4⟩;have U4:=hd_ (U2.out.trans' u4);have b4:=B1.out.upd U4.out (by omega);have B4:=hd_ b4;obtain⟨N,fr9,e9⟩:=T;simp only at h4;by_cases he9:e9=0
     . subst he9
       obtain⟨o4,k4,r4,hl4⟩:=h4 rfl;obtain⟨A4,n4,c4,rfl,hn4⟩:=o4.form';have hwh:=Q25 FF g L fr9 w4 r4 HL8.out HL40.out
       have hk9:(((fr9+(8-fr9%8)%8) / 8:Nat):Int)<=1099511627776:=by
         obtain⟨_,_,_,_,h,_⟩:=r4;have:=HL40.out;omega
       have hd:=HD.out;simp only [ne_eq,not_true_eq_false,if_false]at hd;have HWH:=hd_ hwh;have HO4:=hd_ o4;have HK4:=hd_ k4;have HL4:=hd_ hl4;clear o4 k4 r4 hl4 hn4 hwh h4 HD b4 u4;by_cases hpv:Q24 L fr9=0
       . rw [if_neg (by simpa using hpv)]at hd
         rw [if_pos hpv]at HWH;have HD:=hd_ hd;clear hd hpv;go_wp2_with fail;refine HWH.out.mono ?_;rintro e w5 ⟨rfl,u5⟩;have b5:=B4.out.upd u5 (by omega);have c0:=b5.cell 0;have c1:=b5.cell 1;have z0:=b5.frozen 0;have z1:=b5.frozen 1;simp at c0 c1;have B5:=hd_ b5;have U5:=hd_ u5;clear u5 b5;generalize (fr9+(8-fr9%8)%8) / 8=k9 at *;have hs14:w0.heap.size<=w2.heap.size:=Nat.le_trans F1.out.size U2.out.size;have hs12:w1.heap.size<=w2.heap.size:=U2.out.size;go_wp2_with fail
         exact bodyPost_ret (Qq rfl _ _ H _ _ _ rfl ((B5.out.set_ 0 (.int .i64 ((x:Int)+1))).set_ 1 (.slice A4 n4 c4)) Tryz.underlying29 rfl (by kernel_rfl)) rfl
           (hR.out _ _ (J4.ok (((F0.out.trans' F1.out).trans (U4.out.trans' U5.out) (fun b hb h=>by have:=F0.out.size;omega)).trans (Zg w5 H _ _) (fun b hb h=>by have:=HH.out;omega)) (by rw [<-HLD.out];exact HD.out) rfl
             ((HO4.out.upd U5.out (fun b hb h=>by have:=HK4.out b hb;omega)).upd (Zg w5 H _ _) (fun b hb h=>by have:=HK4.out b hb;omega)) (fun b hb=>by have:=HK4.out b hb;have:=F0.out.size;omega) HL4.out))
       rw [if_pos (by simpa using hpv)]at hd;rw [if_neg hpv]at HWH;have HD:=hd_ hd;clear hd hpv;go_wp2_with fail;refine HWH.out.mono ?_;rintro e w5 ⟨rfl,u5⟩;have b5:=B4.out.upd u5 (by omega);have c0:=b5.cell 0;have c1:=b5.cell 1;have z0:=b5.frozen 0;have z1:=b5.frozen 1;simp at c0 c1;have B5:=hd_ b5;have U5:=hd_ (U4.out.trans' u5);clear u5 b5;go_wp2_with fail
       exact bodyPost_ret (Qq rfl _ _ H _ _ _ rfl ((B5.out.set_ 0 (.int .i64 0)).set_ 1 (.slice none 0 0)) Tryz.underlying29 rfl (by kernel_rfl)) rfl
         (hR.out _ _ (J4.err (((F0.out.trans' F1.out).trans U5.out (fun b hb h=>by have:=F0.out.size;omega)).trans (Zg w5 H _ _) (fun b hb h=>by have:=HH.out;omega)) 14 (by rw [<-HLD.out];exact HD.out) rfl))
     (have he9':(e9 != 0)=true:=by simpa using he9);have hd:=HD.out;simp only [ne_eq,he9,not_false_eq_true,if_true]at hd;have HDE:=hd_ hd;have c0:=b4.cell 0;have c1:=b4.cell 1;have z0:=b4.frozen 0;have z1:=b4.frozen 1;simp at c0 c1;clear h4 hd b4 u4 HD he9;go_wp2_with fail
     exact bodyPost_ret (Qq rfl _ _ H _ _ _ rfl ((B4.out.set_ 0 (.int .i64 0)).set_ 1 (.slice none 0 0)) Tryz.underlying29 rfl (by kernel_rfl)) rfl
       (hR.out _ _ (J4.err (((F0.out.trans' F1.out).trans U4.out (fun b hb h=>by have:=F0.out.size;omega)).trans (Zg w4 H _ _) (fun b hb h=>by have:=HH.out;omega)) e9 (by rw [<-HLD.out];exact HDE.out) rfl))
   have hd:=hdl rfl hlog;have HD:=hd_ (show QT sy lb (Q9 bs) = .error 13 by rw [<-HLD.out];exact hd);(have hcs:(lb:Int)<x+1\/((x:Int)+1<=lb/\8<(x:Int)):=by omega);clear hd hlog hdl hdt;have hx64:=HX64.out;rcases hcs with hc1|⟨hc1,hc2⟩
   all_goals
     go_wp2_with fail;refine HFS.out.mono ?_;rintro e w2 ⟨rfl,u2,r2⟩;have b2:=B1.out.upd u2 (by omega);have c0:=b2.cell 0;have c1:=b2.cell 1;have z0:=b2.frozen 0;have z1:=b2.frozen 1;simp at c0 c1;have B2:=hd_ b2;have U2:=hd_ u2;clear u2 r2 b2;go_wp2_with fail
     exact bodyPost_ret (Qq rfl _ _ H _ _ _ rfl ((B2.out.set_ 0 (.int .i64 0)).set_ 1 (.slice none 0 0)) Tryz.underlying29 rfl (by kernel_rfl)) rfl
       (hR.out _ _ (J4.err (((F0.out.trans' F1.out).trans U2.out (fun b hb h=>by have:=F0.out.size;omega)).trans (Zg w2 H _ _) (fun b hb h=>by have:=HH.out;omega)) 13 HD.out rfl))
end Go.Proofs.YtjfdaphjijfieaaGreat
