/- Place, cell and the time words of the program, in any system, over trees. -/
import Derived.Test.YthohlofpphjofaaGreatDoorStfLq
set_option maxHeartbeats 4000000
set_option maxRecDepth 100000
set_option linter.unusedVariables false
set_option linter.unusedSimpArgs false
namespace Go.Proofs.YthohlofpphjofaaGreatDoor
open Go.RowKit
theorem akO {p:Prop}(h:p:=by rw [h0 0 (by omega)];decide):p:=h
theorem arC {p:Prop}(h:p:=by rw [show 19 - f=19 - (f+1)+1 by omega];exact ajV _ _ _ hm):p:=h
theorem arz {p:Prop}(h:p:=by rw [show 15 - c=14 - c+1 by omega];exact agj _ _ _ _ (g2.trans (by rw [show 19 - f=18 - f+1 by omega];exact agk _ _ _ hm))):p:=h
theorem anj {p:Prop}(h:p:=by
 refine H8 ?_;rw [hb];refine H8 ?_;exact gZ):p:=h
theorem Oz {p:Prop}(h:p:=by
 refine avp ?_;exact kT):p:=h
theorem abZ {p:Prop}(h:p:=by exact ⟨c+1,q,by omega,(zqt id)⟩):p:=h
theorem amC {p:Prop}(h:p:=by
 refine vG ?_;exact ⟨f+1,q,by omega,(zqt id)⟩):p:=h
theorem agv (s c aI:Int):bC Tryz.prog 86 [.sc (.int .u8 s),.sc (.int .i64 c),.sc (.int .i64 aI)] (.sc (.bool (fO s aI c))) :=bC.nX (v:=.bool (fO s aI c)) rfl (λ_=>.sc _) λw=>(aa6 s c aI w).mono λe w'⟨he,hw⟩=>⟨he,hw ▸ Below.refl _ _⟩
theorem X9 (s aI:Int):bC Tryz.prog 85 [.sc (.int .u8 s),.sc (.int .i64 aI)] (.tu [.sc (if aJ s aI=0 then bT s else .nilIface),.sc (.int .i64 (aJ s aI))]):=by
 refine dV Tryz.func85 Tryz.ntmps85 λw0 F0=>?_;dsimp only [St.init,number,Nat.reduceAdd];refine abz ?_;refine WL.vl rfl (WV.call rfl (aj Tryz.func50 rfl rfl) rfl rfl (LU s)) ?_;refine abz ?_;by_cases hs:1<=s/\s<=4
 .rw [bQ hs];by_cases h:(aI < 0\/6 < aI)\/(s=4/\aI≠0)
  .have e:aJ s aI=12:=by unfold aJ;rw [if_neg (by omega),if_pos h]
   rw [e,if_neg (by decide)];rcases Classical.em (aI < 0) with h1|h1;.exact Oz
   .rcases Classical.em (6 < aI) with h2|h2;.exact Oz
    .obtain ⟨h3,h4⟩:s=4/\aI≠0:=by omega
     subst h3;exact Oz
  .have e:aJ s aI=0:=by unfold aJ;rw [if_neg (by omega),if_neg h]
   rw [e,if_pos rfl];have h1:¬ aI < 0:=by omega
   have h2:¬ 6 < aI:=by omega
   rcases Classical.em (s=4) with h3|h3
   .have h4:aI=0:=by omega
    subst h3 h4;exact Oz
   .exact Oz
 .rw [bW hs];have e:aJ s aI=30:=if_pos hs;rw [e,if_neg (by decide)];refine abz ?_;exact kT
theorem aji (s aI:Int) (l:List UInt8):bC Tryz.prog 35 [.sc (.int .u8 s),.sc (.int .i64 aI),.sc (.string (bs l))] (.tu [.ag [.sc (.int .i64 (placeOf s aI l).1),.sc (.int .i64 (placeOf s aI l).2.1)],.sc (.int .i64 (placeOf s aI l).2.2)]):=by
 have hst:=X9 s aI;by_cases h:aJ s aI=0
 .rw [if_pos h,h] at hst;have hs:1<=s/\s<=4:=Classical.byContradiction λq=>by rw [show aJ s aI=30 from if_pos q] at h;cases h
  refine dV Tryz.func35 Tryz.ntmps35 λw0 F0=>?_;dsimp only [St.init,number,Nat.reduceAdd];refine H8 ?_;refine WL.vl rfl (aS Tryz.func85 hst) ?_;refine H8 ?_;refine W.loop (λc:Nat=>1<=c/\c<=15/\oh (BF s aI l) 1 14=oh (BF s aI l) c (15 - c)) (λc=>⟨[(0,.sc (.int .u8 s)),(1,.sc (.int .i64 aI)),(2,.sc (.string (bs l))),(6,.pt 0 0 0),(7,.sc (.int .i64 0)),(8,.sc (bT s)),(10,.sc (.int .i64 c))],[(0,.box 64 [.sc (.int .i64 0),.sc (.int .i64 0)])],1⟩) (λc=>15 - c) 1 ⟨by omega,by omega,rfl⟩ (zqt id) λc ⟨h1,h2,h3⟩=>?_;by_cases hlt:c<=14;rotate_left
  .have e:placeOf s aI l=(0,0,4):=yM h (h3.trans (by rw [show 15 - c=0 by omega];rfl));rw [e];refine vG ?_;exact gZ
  refine vG ?_;refine W.loop (λf:Nat=>f<=19/\mZ (BF s aI l c) 0 19=mZ (BF s aI l c) f (19 - f)) (λf=>⟨[(0,.sc (.int .u8 s)),(1,.sc (.int .i64 aI)),(2,.sc (.string (bs l))),(6,.pt 0 0 0),(7,.sc (.int .i64 0)),(8,.sc (bT s)),(10,.sc (.int .i64 c)),(11,.sc (.int .i64 f))],[(0,.box 64 [.sc (.int .i64 0),.sc (.int .i64 0)])],1⟩) (λf=>19 - f) 0 ⟨by omega,rfl⟩ (zqt id) λf ⟨g1,g2⟩=>?_;have hnext:mZ (BF s aI l c) 0 19=none->1<=c+1/\c+1<=15/\oh (BF s aI l) 1 14=oh (BF s aI l) (c+1) (15 - (c+1)):=λq=>⟨by omega,by omega,h3.trans (by rw [show 15 - c=15 - (c+1)+1 by omega];exact X0 _ _ _ q)⟩;by_cases hf:f<=18;rotate_left
  .have q:=hnext (g2.trans (by rw [show 19 - f=0 by omega];rfl));refine vG ?_;exact abZ
  have hsd:=agv s c aI;cases hsb:fO s aI c with
  | false =>
   rw [hsb] at hsd;have q:=hnext (aa1 _ _ _ λk _ _=>by unfold BF;rw [hsb];rfl);refine vG ?_;refine WL.vl rfl (aS Tryz.func86 hsd) ?_;refine vG ?_;exact abZ| true =>
   rw [hsb] at hsd;have hsy:=Ug s hs c f au au;refine vG ?_;refine WL.vl rfl (aS Tryz.func86 hsd) ?_;refine vG ?_;refine WL.vl rfl (WV.sys hs JY rfl rfl (λvs w=>by kernel_rfl) (λvs w=>by kernel_rfl) (λvs w=>by kernel_rfl) (λvs w=>by kernel_rfl) rfl rfl hsy) ?_;cases hm:BF s aI l c f with
   | true =>
    have e:placeOf s aI l=((c:Int),(f:Int),0):=tC h (h3.trans arz);obtain ⟨m1,m2⟩:=apA hs ⟨by omega,by omega⟩ hf hm;rw [e,m1];refine vG ?_;rw [m2];refine vG ?_;exact gZ| false =>
    have q:f+1<=19/\mZ (BF s aI l c) 0 19=mZ (BF s aI l c) (f+1) (19 - (f+1)):=⟨by omega,g2.trans arC⟩;rcases auK hs ⟨by omega,by omega⟩ hf hsb hm with o1|⟨o1,o2⟩
    .rw [o1];exact amC
    .rw [o1];refine vG ?_;rw [o2];exact amC
 .rw [if_neg h] at hst;rw [IZ h];have hb:decide (aJ s aI=0)=false:=bW h;refine dV Tryz.func35 Tryz.ntmps35 λw0 F0=>?_;dsimp only [St.init,number,Nat.reduceAdd];refine H8 ?_;refine WL.vl rfl (aS Tryz.func85 hst) ?_;exact anj
def ptT:Option (Nat×Nat)->AV
 | some (v,i)=>.tu [.ag [.sc (.int .i64 (v:Int)),.sc (.bool (DY i)),.sc (.bool (BI i))],.sc (.int .i64 0)]| none=>.tu [.ag [.sc (.int .i64 0),.sc (.bool false),.sc (.bool false)],.sc (.int .i64 4)]
def zC (v:Int)(i:Nat):List AV:=[.sc (.int .i64 v),.sc (.bool (DY i)),.sc (.bool (BI i))]
theorem Yf (s:Int)(hs:1<=s/\s<=4)(v:Int)(i:Nat)(hv:0<=v/\v<=7)(hi:i<=2)(h0:v=0->i=0):bC Tryz.prog 110 [.sc (bT s),.ag (zC v i)] (.tu [.sc (.string (bs (tW v i))),.sc (.bool (Ec s v i))]):=by
 rcases dN hs with rfl|rfl|rfl|rfl;.exact bC.kD rfl (λ_=>jI) λw=>axM v i w hv hi h0
 .exact bC.kD rfl (λ_=>jI) λw=>axN v i w hv hi h0
 .exact bC.kD rfl (λ_=>jI) λw=>axO v i w hv hi h0
 .exact bC.kD rfl (λ_=>jI) λw=>axP v i w hv hi h0
theorem ahB {m:Nat->Bool}:∀ {j:Nat},j<3->(∀ i,i<j->m i=false)->m j=true->(List.range 3).find? m=some j
 | 0,_,_,h=>by rw [acH,if_pos h]| 1,_,h0,h=>by rw [acH,if_neg akO,if_pos h]| 2,_,h0,h=>by rw [acH,if_neg akO,if_neg (by rw [h0 1 (by omega)];decide),if_pos h]
theorem ahC {m:Nat->Bool} (h0:∀ i,i<3->m i=false):(List.range 3).find? m=none:=by rw [acH,if_neg akO,if_neg (by rw [h0 1 (by omega)];decide),if_neg (by rw [h0 2 (by omega)];decide)]
theorem ajZ (v:Int):∀ {j:Nat},j<3->[zC v 0,zC v 1,zC v 2][((j:Nat):Int).toNat]?=some (zC v j)
 | 0,_=>rfl| 1,_=>rfl| 2,_=>rfl
theorem auS (s:Int) (hs:1<=s/\s<=4) (l:List UInt8):bC Tryz.prog 92 [.sc (.int .u8 s),.sc (.string (bs l))] (ptT (jP (D6 s l) 0 8)):=by
 have hof:=LU s;rw [bQ hs] at hof;refine dV Tryz.func92 Tryz.ntmps92 λw0 F0=>?_;dsimp only [St.init,number,Nat.reduceAdd];refine akC ?_;refine WL.vl rfl (aS Tryz.func50 hof) ?_;refine akC ?_;refine W.loop (λv:Nat=>v<=8/\jP (D6 s l) 0 8=jP (D6 s l) v (8 - v)) (λv=>⟨[(0,.sc (.int .u8 s)),(1,.sc (.string (bs l))),(4,.pt 0 0 0),(5,.sc (.int .i64 0)),(6,.sc (bT s)),(8,.sc (.int .i64 v))],[(0,.box 87 (zC 0 0))],1⟩) (λv=>8 - v) 0 ⟨by omega,rfl⟩ (zqt id) λv ⟨h1,h2⟩=>?_;by_cases hlt:v<=7;rotate_left
 .rw [h2.trans (show jP (D6 s l) v (8 - v)=none by rw [show 8 - v=0 by omega];rfl)];refine oZ ?_;exact gZ
 refine oZ ?_;first|refine W.tr (Tr.freeze 1 rfl) ?_|refine WL.tr (Tr.freeze 1 rfl) ?_
 refine W.loop (λj:Nat=>j<=3/\∀ i,i < j->D6 s l v i=false) (λj=>⟨[(0,.sc (.int .u8 s)),(1,.sc (.string (bs l))),(4,.pt 0 0 0),(5,.sc (.int .i64 0)),(6,.sc (bT s)),(8,.sc (.int .i64 v)),(31,.ls 3 [zC v 0,zC v 1,zC v 2]),(32,.sc (.int .i64 3)),(33,.sc (.int .i64 j))],[(0,.box 87 (zC 0 0))],2⟩) (λj=>3 - j) 0 ⟨by omega,λi hi=>absurd hi au⟩ (zqt id) λj ⟨g1,g2⟩=>?_;by_cases hj:j < 3;rotate_left
 .have q:jP (D6 s l) 0 8=jP (D6 s l) (v+1) (8 - (v+1)):=h2.trans (by rw [show 8 - v=8 - (v+1)+1 by omega];exact ajW _ _ _ (ahC λi hi=>g2 i (by omega)));refine oZ ?_;exact ⟨v+1,⟨by omega,q⟩,by omega,(zqt id)⟩
 have hno:D6 s l v j=false->j+1<=3/\∀ i,i < j+1->D6 s l v i=false:=λq=>⟨by omega,λi hi=>by rcases Nat.lt_succ_iff_lt_or_eq.1 hi with h|rfl;exact g2 i h;exact q⟩;have hcase:(v=0/\(j=1\/j=2))\/(v=0/\j=0)\/0 < v:=by omega
 rcases hcase with ⟨rfl,hjj⟩|hcase
 .have q:=hno (by unfold D6;rcases hjj with rfl|rfl<;>rfl);rcases hjj with rfl|rfl;all_goals
   refine oZ ?_;refine WL.idx rfl rfl au (ajZ 0 au) ?_;refine oZ ?_;refine WL.vl rfl (WV.ane (b:=false) rfl rfl rfl rfl rfl aK (λw=>by kernel_rfl)) ?_;refine oZ ?_;exact ⟨_,q,by omega,(zqt id)⟩
 have h00:v=0->j=0:=by omega
 have hyes:D6 s l v j=true->Ec s v j=true/\(tW v j == l)=true/\jP (D6 s l) 0 8=some (v,j):=λq=>by
  refine ⟨?_,?_,h2.trans (by rw [show 8 - v=7 - v+1 by omega];exact agl _ _ _ _ (ahB hj g2 q))⟩;all_goals simp only [D6,gG] at q
  .exact q.2.1
  .exact q.2.2
 have hnot:D6 s l v j=false->Ec s v j=false\/Ec s v j=true/\(tW v j == l)=false:=λq=>by
  have e:(v != 0|| j == 0)=true:=by
   rcases hcase with ⟨rfl,rfl⟩|h;.rfl
   .simp only [CQ,bne_iff_ne,ne_eq];exact .inl (by omega)
  unfold D6 at q;rw [e,UC] at q;cases ho:Ec s v j with
  | false=>exact .inl rfl| true=>rw [ho,UC] at q;exact .inr ⟨rfl,q⟩
 have htw:=Yf s hs v j au au au;rcases hcase with ⟨rfl,rfl⟩|hv;all_goals
  refine oZ ?_;refine WL.idx rfl rfl au (ajZ _ hj) ?_;refine oZ ?_
 refine WL.vl rfl (WV.ane (b:=true) rfl rfl rfl rfl rfl aK (λw=>by kernel_rfl)) ?_;all_goals
  refine oZ ?_;refine WL.vl rfl (aS Tryz.func110 htw) ?_;cases hm:D6 s l _ _ with
  | true =>
   obtain ⟨m1,m2,m3⟩:=hyes hm;rw [m1,m3];refine oZ ?_;rw [m2];refine oZ ?_;exact gZ| false =>
   have q:=hno hm;rcases hnot hm with m1|⟨m1,m2⟩
   .rw [m1];refine oZ ?_;exact ⟨_,q,by omega,(zqt id)⟩
   .rw [m1];refine oZ ?_;rw [m2];refine oZ ?_;exact ⟨_,q,by omega,(zqt id)⟩
theorem an4 (s:Int) (hs:1<=s/\s<=4) (x:Stp) (L:Int) (hc:1<=x.1/\x.1<=14) (hf:0<=x.2.1/\x.2.1<=18) (hr:0<=x.2.2.1/\x.2.2.1<=3) (hg:0<=x.2.2.2.1/\x.2.2.2.1<=4) (hh:0<=x.2.2.2.2/\x.2.2.2.2<=15) :bC Tryz.prog 87 [.sc (bT s),.ag (bI x),.sc (.int .i64 L)] (.tu [.sc (.string (bs (cellS s x.1 x.2.1 x.2.2.1 x.2.2.2.1 x.2.2.2.2 L))),.sc (.bool (iJ s x.1 x.2.1 x.2.2.1 x.2.2.2.1 x.2.2.2.2 L))]):=by
 have h1:=Ug s hs x.1 x.2.1 hc hf;have h2:=MK s hs x.2.2.1 hr;have h3:=KE s hs x.2.2.2.1 hg;have h4:=SI s hs x.2.2.2.2 L hh;have a1:=(aav s x.1 x.2.1 hs hc hf).1;have a2:=aaJ s x.2.2.1;have a3:=aaG s x.2.2.2.1;have a4:=aat s x.2.2.2.2 L;unfold cellS iJ;refine dV Tryz.func87 Tryz.ntmps87 λw0 F0=>?_;dsimp only [St.init,number,Nat.reduceAdd];refine NY ?_;refine WL.vl rfl (WV.sys hs JY rfl rfl (λvs w=>by kernel_rfl) (λvs w=>by kernel_rfl) (λvs w=>by kernel_rfl) (λvs w=>by kernel_rfl) rfl rfl h1) ?_;refine NY ?_;refine WL.vl rfl (WV.sys hs Hf rfl rfl (λvs w=>by kernel_rfl) (λvs w=>by kernel_rfl) (λvs w=>by kernel_rfl) (λvs w=>by kernel_rfl) rfl rfl h2) ?_;refine NY ?_;refine WL.vl rfl (WV.sys hs Gq rfl rfl (λvs w=>by kernel_rfl) (λvs w=>by kernel_rfl) (λvs w=>by kernel_rfl) (λvs w=>by kernel_rfl) rfl rfl h3) ?_;refine NY ?_;refine WL.vl rfl (WV.sys hs PL rfl rfl (λvs w=>by kernel_rfl) (λvs w=>by kernel_rfl) (λvs w=>by kernel_rfl) (λvs w=>by kernel_rfl) rfl rfl h4) ?_;clear h1 h2 h3 h4;cases Qu s x.1 x.2.1<;>cases okR s x.2.2.1<;>cases zZ s x.2.2.2.1<;>cases xM s x.2.2.2.2 L;all_goals
  refine NY ?_;exact W.ret (fin2 rfl rfl rfl rfl rfl rfl rfl)
end Go.Proofs.YthohlofpphjofaaGreatDoor
