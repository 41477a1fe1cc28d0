/- book.Edition: the program. -/
import Derived.Test.YthohlofpphjofaaGreatDoorNrRGq
set_option maxHeartbeats 8000000
set_option maxRecDepth 100000
set_option linter.unusedVariables false
set_option linter.unusedSimpArgs false
namespace Go.Proofs.YthohlofpphjofaaGreatDoor
open Go.RowKit
theorem MP {p:Prop}(h:p:=by
 refine iE ?_
 exact oO):p:=h
theorem MK {p:Prop}(h:p:=by
 refine iE ?_
 exact oG):p:=h
theorem adl {p q:Prop}(k:q)(h:aS q→p:=by
 intro hq
 refine iE ?_
 refine WL.idx rfl rfl (by decide) (r:=xO y) rfl ?_
 exact hq.k):p:=h ⟨k⟩
theorem rU (s:Int) (hs:¬ (1≤s∧s≤4)):Ctr Tryz.prog 73 [.sc (.int .u8 s)] (.tu [.sc (.string (bs [])),.sc (.int .i64 30)]):=by
 have h:=Ag s
 rw [dW hs] at h
 refine jc Tryz.func73 Tryz.ntmps73 fun w0 F0=>?_;dsimp only [St.init,number,Nat.reduceAdd]
 refine ah8 ?_
 refine WL.vl rfl (bU Tryz.func50 h) ?_
 refine Qi ?_
 exact oO
theorem jk (s:Int) (hs:1≤s∧s≤4):Ctr Tryz.prog 73 [.sc (.int .u8 s)] (.tu [.sc (.string (bs (La s))),.sc (.int .i64 0)]):=by
 have h:=Ag s
 rw [fQ hs] at h
 have hnm:=VH s hs
 refine jc Tryz.func73 Tryz.ntmps73 fun w0 F0=>?_;dsimp only [St.init,number,Nat.reduceAdd]
 refine amw ?_
 refine WL.vl rfl (bU Tryz.func50 h) ?_
 refine ah9 ?_
 refine WL.vl rfl (WV.sys hs aa1 rfl rfl (fun vs w=>by kernel_rfl) (fun vs w=>by kernel_rfl) (fun vs w=>by kernel_rfl) (fun vs w=>by kernel_rfl) rfl rfl hnm) ?_
 refine ah9 ?_
 exact oO
theorem JR {s:Int} {p:aN} {key:Int} (h:¬ (1≤s∧s≤4)):Qy s p key=30∧ZO s p key=[]:=by
 have:Qy s p key=30:=if_neg h
 exact⟨this,by unfold ZO;rw [this];rfl⟩
theorem JQ {s:Int} {p:aN} {key:Int} (h:1≤s∧s≤4)(h2:pO p key≠0):Qy s p key=pO p key∧ZO s p key=[]:=by
 have:Qy s p key=pO p key:=by unfold Qy;rw [if_pos h,if_pos h2]
 exact⟨this,by unfold ZO;rw [this,if_neg h2]⟩
theorem Vf {s:Int} {p:aN} {key:Int} (h:1≤s∧s≤4)(h2:pO p key=0)(h3:jB s p≠[]):Qy s p key=31∧ZO s p key=[]:=by
 have:Qy s p key=31:=by unfold Qy;rw [if_pos h,if_neg (by simp [h2]),if_neg h3]
 exact⟨this,by unfold ZO;rw [this];rfl⟩
theorem Vg {s:Int} {p:aN} {key:Int} (h:1≤s∧s≤4) (h2:pO p key=0) (h3:jB s p=[]):Qy s p key=0∧ZO s p key=Xw s p (nR p.evs p.evs.length) (Bl p key) p.evs.length:=by
 have:Qy s p key=0:=by unfold Qy;rw [if_pos h,if_neg (by simp [h2]),if_pos h3]
 exact ⟨this,by unfold ZO;rw [this];rfl⟩
theorem Pj (s:Int) (p:aN) (hO:fH p) (key:Int) (hne:0 < p.evs.length):Ctg qc Tryz.prog 64 [eF p,.sc (.int .i64 key),.sc (.int .u8 s)] (.tu [.sc (.string (bs (ZO s p key))),.sc (.int .i64 (Qy s p key))]):=by
 have hn3:=hO.n3
 by_cases hs:1≤s∧s≤4
 rotate_left
 ·rw [(JR hs).1,(JR hs).2]
  refine Ctg.intro jq Tryz.func64 rfl Tryz.ntmps64 (aP rfl) (aT rfl) fun w0 F0 hB=>?_;dsimp only [St.init,number,Nat.reduceAdd]
  refine AU ?_
  refine WL.vl rfl (WV.call rfl (callF Tryz.func73 rfl rfl) rfl rfl (rU s hs)) ?_
  exact MP
 have hE:=Ah p hO key
 by_cases hx:pO p key=0
 rotate_left
 ·rw [(JQ hs hx).1,(JQ hs hx).2]
  obtain ⟨E,hEq⟩:∃ E,pO p key=E:=⟨_,rfl⟩
  rw [hEq] at hx hE ⊢
  refine Ctg.intro jq Tryz.func64 rfl Tryz.ntmps64 (aP rfl) (aT rfl) fun w0 F0 hB=>?_;dsimp only [St.init,number,Nat.reduceAdd]
  refine AU ?_
  refine WL.vl rfl (WV.call rfl (callF Tryz.func73 rfl rfl) rfl rfl (jk s hs)) ?_
  refine iE ?_
  refine WL.vl rfl (WV.callG hB rfl (callF Tryz.func115 rfl rfl) rfl rfl hE) ?_
  exact MP
 obtain ⟨h0,hsf,hsl⟩:=Vj hO hx
 have hlE:=(mQ hs h0).2
 have hlR:=(mQ hs h0).1
 have hc:=BQ s p hO
 rw [hlE] at hc
 rw [hx] at hE
 by_cases hl:jB s p=[]
 rotate_left
 ·rw [(Vf hs hx hl).1,(Vf hs hx hl).2]
  have hb:((0:Int) == 0 && ((jB s p).length:Int) == 0)=false:=by
   exact afr
  rw [hb] at hc
  refine Ctg.intro jq Tryz.func64 rfl Tryz.ntmps64 (aP rfl) (aT rfl) fun w0 F0 hB=>?_;dsimp only [St.init,number,Nat.reduceAdd]
  refine AU ?_
  refine WL.vl rfl (WV.call rfl (callF Tryz.func73 rfl rfl) rfl rfl (jk s hs)) ?_
  refine iE ?_
  refine WL.vl rfl (WV.callG hB rfl (callF Tryz.func115 rfl rfl) rfl rfl hE) ?_
  refine iE ?_
  refine WL.vl rfl (bU Tryz.func19 hc) ?_
  exact MP
 rw [(Vg hs hx hl).1,(Vg hs hx hl).2]
 have hb:((0:Int) == 0 && ((jB s p).length:Int) == 0)=true:=by rw [hl];rfl
 rw [hb] at hc
 have hOn:=wZ p hO
 rw [if_pos h0,h0] at hOn
 have hMe:=rQ p hO
 have e4:aaY p=nR p.evs p.evs.length:=if_pos h0
 rw [e4,h0] at hMe
 have hml:=nS p.evs p.evs.length
 have hmb:=Kr p.evs p.evs.length
 have hol:=l9 p.evs p.evs.length
 have hnil:∀ i (h:i < p.evs.length),jO s p i p.evs[i]=[]:=fun i h=>nP p.evs.length (Nat.le_refl _) (by rw [← hlR];exact hl) i h h
 have hMh:∃ x r,nR p.evs p.evs.length=x::r∧x.1=0:=by
  obtain ⟨n,hn⟩:∃ n,p.evs.length=n+1:=⟨p.evs.length - 1,by omega⟩
  rw [hn];exact Oi p.evs n
 obtain ⟨MS,hMS⟩:∃ L,nR p.evs p.evs.length=L:=⟨_,rfl⟩
 obtain ⟨L,hL⟩:∃ L,Bl p key=L:=⟨_,rfl⟩
 rw [hMS] at hMe hml hmb hMh ⊢
 rw [hL] at hE hsf hsl ⊢
 refine Ctg.intro jq Tryz.func64 rfl Tryz.ntmps64 (aP rfl) (aT rfl) fun w0 F0 hB=>?_;dsimp only [St.init,number,Nat.reduceAdd]
 refine AU ?_
 refine WL.vl rfl (WV.call rfl (callF Tryz.func73 rfl rfl) rfl rfl (jk s hs)) ?_
 refine iE ?_
 refine WL.vl rfl (WV.callG hB rfl (callF Tryz.func115 rfl rfl) rfl rfl hE) ?_
 refine iE ?_
 refine WL.vl rfl (bU Tryz.func19 hc) ?_
 refine iE ?_
 refine WL.vl rfl (bU Tryz.func79 hOn) ?_
 refine iE ?_
 refine WL.vl rfl (bU Tryz.func116 hMe) ?_
 refine iE ?_
 first|refine W.tr (Tr.bld 1 5 rfl) ?_|refine WL.tr (Tr.bld 1 5 rfl) ?_
 dsimp only [St.upd]
 refine iE ?_
 refine W.loop (fun k:Nat=>k≤p.evs.length∧mAt MS k≤MS.length∧(mAt MS k≠0→∃ x,MS[mAt MS k - 1]?=some x∧x.1≤k)∧(Xw s p MS L k).length≤1300000*k) (fun k=>⟨[(2,.sc (.int .u8 s)),(3,.pt 0 0 0),(10,.ls 4 ((Wj L k).map xO)),(12,.ls 1 ((iw p.evs p.evs.length).map eInt)),(14,.ls 3 (MS.map vH)),(16,.pt 1 0 0),(17,.sc (.int .i64 (mAt MS k:Nat))),(57,.ls 6 (p.evs.map iq)),(58,.sc (.int .i64 p.evs.length)),(59,.sc (.int .i64 k))],[(0,.box 30 (eF p).cells),(1,.bld 103 5 (Xw s p MS L k))],2⟩) (fun k=>p.evs.length - k) 0 ⟨by omega,dD _,fun h=>absurd rfl h,by simp [Xw]⟩ (zqt id) fun k hk=>?_
 obtain ⟨hk1,hmL,hmF,hBl⟩:=hk
 by_cases hlt:k < p.evs.length
 rotate_left
 ·obtain rfl:k=p.evs.length:=by omega
  have hBn:Xw s p MS L p.evs.length≠[]:=by
   obtain ⟨n,hn⟩:∃ n,p.evs.length=n+1:=⟨p.evs.length - 1,by omega⟩
   rw [hn]
   unfold Xw
   rw [aap (by omega)]
   unfold edR
   simp
  refine iE ?_
  refine WL.bs rfl rfl rfl (callF Tryz.func55 rfl rfl) uU hBn ?_
  exact MP
 obtain ⟨ev,hev⟩:∃ e,p.evs[k]=e:=⟨_,rfl⟩
 have hcx:=JI hs aj hlt (hnil k hlt)
 have zk:=SE s p hO k
 rw [hcx.1,hcx.2] at zk
 have hcl:=Ce hs hO h0 k hlt
 have QX:=aap (s:=s) (p:=p) (MS:=MS) (L:=L) hlt
 rw [hev] at zk hcl QX
 refine iE ?_
 rw [hev]
 obtain ⟨B,hBq⟩:∃ B,Xw s p MS L k=B:=⟨_,rfl⟩
 have hBs:Xw s p MS L (k+1)=B++edN s p MS L k:=by rw [← hBq];rfl
 rw [hBq] at hBl ⊢
 refine W.loop (fun m:Nat=>m≤MS.length∧mY MS k (mAt MS k)=mY MS k m∧(m≠0→∃ x,MS[m - 1]?=some x∧x.1≤k)) (fun m=>⟨[(2,.sc (.int .u8 s)),(3,.pt 0 0 0),(10,.ls 4 ((Wj L k).map xO)),(12,.ls 1 ((iw p.evs p.evs.length).map eInt)),(14,.ls 3 (MS.map vH)),(16,.pt 1 0 0),(17,.sc (.int .i64 (m:Nat))),(18,.sc (.int .i64 k)),(19,.pt 2 0 0),(57,.ls 6 (p.evs.map iq)),(58,.sc (.int .i64 p.evs.length)),(59,.sc (.int .i64 k))],[(0,.box 30 (eF p).cells),(1,.bld 103 5 B),(2,.box 90 (iq ev))],3⟩) (fun m=>MS.length - m) (mAt MS k) ⟨hmL,rfl,hmF⟩ (zqt id) fun m hm=>?_
 obtain ⟨hm1,hm3,hm4⟩:=hm
 by_cases hgo:∃ h:m < MS.length,MS[m].1≤k
 ·obtain ⟨h1,h2⟩:=hgo
  refine iE ?_
  refine ⟨m+1,⟨by omega,hm3.trans (Df h1 h2),fun _=>⟨MS[m],by simp [h1],h2⟩⟩,by omega,?_⟩
  exact (zqt id)
 have hm0:m≠0:=fun h=>by
  obtain ⟨y,r,hy1,hy2⟩:=hMh
  subst hy1 h
  exact hgo ⟨by simp,by show y.1≤_;omega⟩
 obtain ⟨x,hx1,hx2⟩:=hm4 hm0
 have hmA:mAt MS (k+1)=m:=by
  show mY MS k (mAt MS k)=m
  exact adF
 have hxb:=(hmb x (aY hx1)).1
 refine W.seq ?_
 refine W.seqM ⟨[(76,.sc (.bool false)),(2,.sc (.int .u8 s)),(3,.pt 0 0 0),(10,.ls 4 ((Wj L k).map xO)),(12,.ls 1 ((iw p.evs p.evs.length).map eInt)),(14,.ls 3 (MS.map vH)),(16,.pt 1 0 0),(17,.sc (.int .i64 (m:Nat))),(18,.sc (.int .i64 k)),(19,.pt 2 0 0),(57,.ls 6 (p.evs.map iq)),(58,.sc (.int .i64 p.evs.length)),(59,.sc (.int .i64 k))],[(0,.box 30 (eF p).cells),(1,.bld 103 5 B),(2,.box 90 (iq ev))],3⟩ ?_ ?_
 ·have hno:MS.length≤m∨(∃ h:m < MS.length,¬ MS[m].1≤k):=by
   exact adL
  rcases hno with h|⟨h1,h2⟩
  all_goals
   refine iE ?_
   refine (?_:Tr _ _ _)
   exact (zqt id)
 refine AU ?_
 obtain ⟨t0,ht0⟩:∃ t:List UInt8,(if ev.tie=true then [126] else [37])=t:=⟨_,rfl⟩
 have apK:t0.length≤1:=by rw [← ht0];split<;>simp
 refine W.meet ⟨[(20,.sc (.string (bs t0))),(2,.sc (.int .u8 s)),(3,.pt 0 0 0),(10,.ls 4 ((Wj L k).map xO)),(12,.ls 1 ((iw p.evs p.evs.length).map eInt)),(14,.ls 3 (MS.map vH)),(16,.pt 1 0 0),(17,.sc (.int .i64 (m:Nat))),(18,.sc (.int .i64 k)),(19,.pt 2 0 0),(57,.ls 6 (p.evs.map iq)),(58,.sc (.int .i64 p.evs.length)),(59,.sc (.int .i64 k))],[(0,.box 30 (eF p).cells),(1,.bld 103 5 B),(2,.box 90 (iq ev))],3⟩ ?_ ?_
 ·(refine W.cond rfl (fun hif=>?_) (fun hif=>?_)<;>(try simp only [bD,bK,dM,dN,dn,dO] at hif))
  ·have ajY:ev.tie=true:=hif
   rw [if_pos ajY] at ht0
   subst ht0
   refine AU ?_
   exact oG
  ·have ajY:¬ ev.tie=true:=by simpa using hif
   rw [if_neg ajY] at ht0
   subst ht0
   refine AU ?_
   exact oG
 refine AU ?_
 refine W.tr (Tr.nil (t:=21) 9 1 rfl rfl) ?_
 refine Qu ?_
 obtain ⟨rs,hrs⟩:∃ r,Wj L k=r:=⟨_,rfl⟩
 have ahU:=KW L k
 rw [hrs] at ahU ⊢
 refine W.loop (fun q:Nat=>q≤rs.length∧∀ y∈rs.take q,y.1=(k:Int)) (fun q=>⟨[(20,.sc (.string (bs t0))),(21,.sl 3),(2,.sc (.int .u8 s)),(3,.pt 0 0 0),(10,.ls 4 ((rs.drop q).map xO)),(12,.ls 1 ((iw p.evs p.evs.length).map eInt)),(14,.ls 3 (MS.map vH)),(16,.pt 1 0 0),(17,.sc (.int .i64 (m:Nat))),(18,.sc (.int .i64 k)),(19,.pt 2 0 0),(57,.ls 6 (p.evs.map iq)),(58,.sc (.int .i64 p.evs.length)),(59,.sc (.int .i64 k))],[(0,.box 30 (eF p).cells),(1,.bld 103 5 B),(2,.box 90 (iq ev)),(3,.row 9 1 (((rs.take q).map sfT).map eStr))],4⟩) (fun q=>rs.length - q) 0 ⟨dD _,by simp⟩ (zqt id) fun q hq=>?_
 obtain ⟨hq1,hq2⟩:=hq
 obtain ⟨R,hR⟩:∃ R,rs.drop q=R:=⟨_,rfl⟩
 have hRl:R.length=rs.length - q:=by rw [← hR,qK]
 by_cases ajW:∃ y r,R=y::r∧y.1=(k:Int)
 ·obtain ⟨y,r,rfl,hy⟩:=ajW
  have hqq:q < rs.length:=by simp only [bW] at hRl;omega
  have hcons:=kV hqq
  rw [hR] at hcons
  obtain ⟨hy1,hr1⟩:=List.cons.inj hcons
  have htk:=gq hqq
  rw [← hy1] at htk
  have an8:Jy y:=hsf y (ahU.1 y (by rw [hy1];exact fA hqq))
  have hrow:((rs.take q).map sfT).map eStr++[eStr (sfT y)]=((rs.take (q+1)).map sfT).map eStr:=by rw [htk];simp
  have hpr:prt (xO y::r.map xO) 1 ((xO y::r.map xO).length:Nat)=r.map xO:=by unfold prt;simp;rw [lC (by simp)]
  have hst:=Zq y an8
  have hlc:(xO y::r.map xO).length=r.length+1:=by simp
  have al4:(rs.take q).length=q:=by rw [jR];omega
  have hrlen:rs.length≤8400:=by omega
  rw [hR,qM]
  refine adl ?_
  refine adl ?_
  refine iE ?_
  refine WL.vl rfl (WV.callG hB rfl (callF Tryz.func117 rfl rfl) rfl rfl hst) ?_
  refine iE ?_
  refine WL.part_ rfl rfl ⟨by decide,by simp;omega,ni _⟩ hpr ?_
  refine iE ?_
  refine ⟨q+1,⟨by omega,fun z hz=>?_⟩,by omega,?_⟩
  ·rw [htk] at hz
   rcases List.mem_append.1 hz with hz|hz
   ·exact hq2 z hz
   ·rw [vZ] at hz;rw [hz];exact hy
  rw [← hr1]
  exact (mP (fun q=>bif Nat.beq q 3 then 5 else q) (by repeat (first|exact trivial|refine ⟨⟨?_,?_,?_⟩,?_⟩|rfl|exact congrArg (fun q=>some (AO.row _ _ q)) hrow)) rfl)
 have htd:=sQ (f:=fun z:Sf=>decide (z.1=(k:Int))) hq1 (fun z hz=>by simpa using hq2 z hz) (fun h=>by
  have:=kV h
  rw [hR] at this
  simp only [bK]
  intro hz
  exact ajW ⟨_,_,this,hz⟩)
 have hnm:VI L k=(rs.take q).map sfT:=by unfold VI;rw [hrs,htd.1]
 have anY:Wj L (k+1)=R:=by
  show (Wj L k).dropWhile _=_
  rw [hrs,htd.2,hR]
 refine W.seq ?_
 refine W.seqM ⟨[(91,.sc (.bool false)),(20,.sc (.string (bs t0))),(21,.sl 3),(2,.sc (.int .u8 s)),(3,.pt 0 0 0),(10,.ls 4 (R.map xO)),(12,.ls 1 ((iw p.evs p.evs.length).map eInt)),(14,.ls 3 (MS.map vH)),(16,.pt 1 0 0),(17,.sc (.int .i64 (m:Nat))),(18,.sc (.int .i64 k)),(19,.pt 2 0 0),(57,.ls 6 (p.evs.map iq)),(58,.sc (.int .i64 p.evs.length)),(59,.sc (.int .i64 k))],[(0,.box 30 (eF p).cells),(1,.bld 103 5 B),(2,.box 90 (iq ev)),(3,.row 9 1 (((rs.take q).map sfT).map eStr))],4⟩ ?_ ?_
 ·have hno:R=[]∨(∃ y r,R=y::r∧¬ y.1=(k:Int)):=by
   cases hRc:R with
   | nil=>exact .inl rfl
   | cons y r=>exact .inr ⟨y,r,rfl,fun h=>ajW ⟨y,r,hRc,h⟩⟩
  rw [hR]
  rcases hno with h|⟨y,r,h1,h2⟩
  ·subst h
   rw [I5]
   exact MK
  ·subst h1
   have hlc:(xO y::r.map xO).length=r.length+1:=by simp
   rw [qM]
   refine adl ?_
   exact MK
 have al4:(rs.take q).length=q:=by rw [jR];omega
 have apI:rs.length≤8400:=by omega
 have anI:=af2 hsf hsl k ev
 have hjl:=NY [43] (by simp) (VI L k) (Kt hsf hsl k).2
 have hnl:=(Kt hsf hsl k).1
 have hJ:=aaR [43] (VI L k) aj aj
 have ajU:evT L k ev=if VI L k=[] then t0 else Lib.join (VI L k) [43]:=by unfold evT;rw [ht0]
 rw [← hnm]
 obtain ⟨nm,anU⟩:∃ z,VI L k=z:=⟨_,rfl⟩
 rw [anU] at hjl hnl hJ ajU ⊢
 refine iE ?_
 refine W.meet ⟨[(20,.sc (.string (bs (evT L k ev)))),(2,.sc (.int .u8 s)),(3,.pt 0 0 0),(10,.ls 4 (R.map xO)),(12,.ls 1 ((iw p.evs p.evs.length).map eInt)),(14,.ls 3 (MS.map vH)),(16,.pt 1 0 0),(17,.sc (.int .i64 (m:Nat))),(18,.sc (.int .i64 k)),(19,.pt 2 0 0),(57,.ls 6 (p.evs.map iq)),(58,.sc (.int .i64 p.evs.length)),(59,.sc (.int .i64 k))],[(0,.box 30 (eF p).cells),(1,.bld 103 5 B),(2,.box 90 (iq ev))],4⟩ ?_ ?_
 ·(refine W.cond rfl (fun hif=>?_) (fun hif=>?_)<;>(try simp only [bD,bK,dM,dN,dn,dO] at hif))
  ·have hn0:nm≠[]:=fun h=>by rw [h] at hif;simp at hif
   rw [ajU,if_neg hn0]
   obtain ⟨jt,hjt⟩:∃ z,Lib.join nm [43]=z:=⟨_,rfl⟩
   rw [hjt] at hJ ⊢
   refine iE ?_
   refine WL.tr (Tr.freeze 3 rfl) ?_
   refine WL.vl rfl (bU Tryz.func111 hJ) ?_
   exact MK
  ·have hn0:nm=[]:=kU (by first|omega|(simp at hif;omega)|(simpa using hif))
   rw [ajU,if_pos hn0]
   exact MK
 refine iE ?_
 refine WL.vl rfl (bU Tryz.func118 zk) ?_
 refine iE ?_
 have hoK:=yu p.evs k
 have hoF:=yu p.evs x.1.toNat
 have aoK:m≤420:=by omega
 have hMx:(MS.map vH)[((m:Int) - 1).toNat]?=some (vH x):=by
  rw [show ((m:Int) - 1).toNat=m - 1 by omega,bC,hx1];rfl
 have hok1:((iw p.evs p.evs.length).map eInt)[((k:Nat):Int).toNat]?=some (eInt (aJ p.evs k)):=by
  rw [dB,bC,KE (by omega)];rfl
 have hok2:((iw p.evs p.evs.length).map eInt)[x.1.toNat]?=some (eInt (aJ p.evs x.1.toNat)):=by
  rw [bC,KE (by omega)];rfl
 have anJ:ajC MS k=x.1.toNat:=by unfold ajC;rw [hmA,hx1];rfl
 have an0:akT p.evs MS k=aJ p.evs k - aJ p.evs x.1.toNat:=by unfold akT;rw [anJ]
 have hR1:edN s p MS L k=Lib.itoa (m:Nat)++[58]++Lib.itoa (aJ p.evs k - aJ p.evs x.1.toNat)++[32]++evT L k ev++[32,59,32]++colS s p k ev++[10]:=by
  rw [QX];unfold edR;rw [an0,hmA]
 have hsI:I64 (aJ p.evs k - aJ p.evs x.1.toNat):=by unfold I64;omega
 have hI1:=zn (m:Nat) sV
 have hI2:=zn _ hsI
 have hl1:=jL (n:=(m:Nat)) aj
 have hl2:=jL (n:=aJ p.evs k - aJ p.evs x.1.toNat) aj
 obtain ⟨oK,anW⟩:∃ z,aJ p.evs k=z:=⟨_,rfl⟩
 obtain ⟨oF,anV⟩:∃ z,aJ p.evs x.1.toNat=z:=⟨_,rfl⟩
 rw [anW] at hoK hok1 hR1 hI2 hl2
 rw [anV] at hoF hok2 hR1 hI2 hl2
 obtain ⟨a1,ha1⟩:∃ z,Lib.itoa (m:Nat)=z:=⟨_,rfl⟩
 obtain ⟨a2,ha2⟩:∃ z,Lib.itoa (oK - oF)=z:=⟨_,rfl⟩
 obtain ⟨et,het⟩:∃ z,evT L k ev=z:=⟨_,rfl⟩
 obtain ⟨co,hco⟩:∃ z,colS s p k ev=z:=⟨_,rfl⟩
 rw [ha1] at hI1 hl1 hR1
 rw [ha2] at hI2 hl2 hR1
 rw [het] at anI hR1 ⊢
 rw [hco] at hcl hR1 ⊢
 have c1:(a1++[58]).length≤21:=by simp only [bJ,bW,iC];omega
 have c2:(a1++[58]++a2).length≤41:=by rw [bJ];omega
 have c3:(a1++[58]++a2++[32]).length≤42:=by rw [bJ];simp only [bW,iC];omega
 have c4:(a1++[58]++a2++[32]++et).length≤200042:=by rw [bJ];omega
 have c5:(a1++[58]++a2++[32]++et++[32,59,32]).length≤200045:=by rw [bJ];simp only [bW,iC];omega
 have c6:(a1++[58]++a2++[32]++et++[32,59,32]++co).length≤1200045:=by rw [bJ];omega
 have c7:(a1++[58]++a2++[32]++et++[32,59,32]++co++[10]).length≤1200046:=by rw [bJ];simp only [bW,iC];omega
 have apz:1≤m:=by omega
 have anP:=Lib.hid hm1
 clear hol hm1 hm4 hm3
 refine iT ?_
 refine UA ?_
 refine DK.idx rfl rfl aj hok1 ?_
 refine UA ?_
 refine DK.idx rfl rfl aj hMx ?_
 refine UA ?_
 refine DK.idx rfl rfl aj hok2 ?_
 refine UA ?_
 refine iE ?_
 refine WL.vl rfl (WV.callG hB rfl (callF Tryz.func108 rfl rfl) rfl rfl hI1) ?_
 refine iE ?_
 refine WL.vl rfl (WV.callG hB rfl (callF Tryz.func108 rfl rfl) rfl rfl hI2) ?_
 refine iE ?_
 have hrow:B++(a1++[58]++a2++[32]++et++[32,59,32]++co++[10])=Xw s p MS L (k+1):=by rw [hBs,hR1]
 have hBn:(Xw s p MS L (k+1)).length≤1300000*(k+1):=by rw [← hrow,bJ];omega
 refine WL.bw rfl rfl rfl (callF Tryz.func53 rfl rfl) kJ aj hrow ?_
 refine iE ?_
 refine ⟨k+1,⟨by omega,by rw [hmA];exact anP,fun _=>⟨x,by rw [hmA];exact hx1,by omega⟩,hBn⟩,by omega,?_⟩
 rw [anY,hmA]
 exact afj
end Go.Proofs.YthohlofpphjofaaGreatDoor
