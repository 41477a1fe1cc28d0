/- Reading of texts: slices.Reverse over strings. -/
import Derived.Test.YthohlofpphjofaaGreatDoorBkTGq
import Derived.Test.YthohlofpphjofaaGreatDoorNr3Gq
import Derived.Test.YthohlofpphjofaaGreatDoorClmGq
import Derived.Test.YthohlofpphjofaaGreatDoorNrAGq
set_option maxHeartbeats 8000000
set_option maxRecDepth 100000
set_option linter.unusedVariables false
set_option linter.unusedSimpArgs false
namespace Go.Proofs.YthohlofpphjofaaGreatDoor
theorem ada {p:Prop}(h:p:=by rw [jR];omega):p:=h
theorem aeZ {p:Prop}(h:p:=by
 refine wu ?_
 refine W.tr (Tr.nilR (t:=4) 4 rfl) ?_
 exact dY):p:=h
theorem adL {p:Prop}(h:p:=by
 by_cases h:m < MS.length
 ·exact .inr ⟨h,fun h2=>hgo ⟨h,h2⟩⟩
 ·exact .inl aj):p:=h
theorem adF {p:Prop}(h:p:=by
 rw [hm3]
 by_cases h:m < MS.length
 ·exact aa2 h (fun h2=>hgo ⟨h,h2⟩)
 ·exact Yg aj):p:=h
theorem afl {p:Prop}(h:p:=by
 refine jc Tryz.func182 Tryz.ntmps182 fun w0 F0=>?_;dsimp only [St.init,number,Nat.reduceAdd]
 refine amD ?_
 exact W.ret vJ):p:=h
theorem aiY {p:Prop}(h:p:=by
 refine mM ?_
 refine ⟨k+1,⟨by omega,ajX⟩,by omega,?_⟩
 rw [htk,hput]
 exact (mP (fun q=>bif Nat.beq q 3 then 9 else q) (by repeat (first|exact trivial|refine ⟨⟨?_,?_,?_⟩,?_⟩|rfl|exact congrArg (fun q=>some (AO.row _ _ q)) hr)) rfl)):p:=h
theorem adf {p q:Prop}(k:q)(h:aS q→p:=by
 intro hq
 repeat (first|refine DK.st rfl ?_|refine DK.ar rfl rfl sV ?_|refine DK.ixs rfl rfl vK ?_|refine DK.cat rfl rfl vK ?_|refine DK.nil ?_)
 exact hq.k):p:=h ⟨k⟩
theorem ade {p q:Prop}(k:q)(h:aS q→p:=by
 intro hq
 refine DTK.st rfl aK rfl ?_
 refine DTK.st rfl aK rfl ?_
 refine DTK.ixs rfl aK rfl ⟨by omega,by omega⟩ ?_
 exact hq.k):p:=h ⟨k⟩
section
open Go.RowKit
def xO (x:Sf):List AV:=[.sc (.int .i64 x.1),.sc (.int .i64 x.2.1),.sc (.int .i64 x.2.2.1),.sc (.int .i64 x.2.2.2)]
theorem afE (a:Int):Ctr Tryz.prog 182 [.sc (.int .i64 a)] (.sc (.int .i64 (Jz a))):=by
 unfold Jz
 by_cases h1:a=1
 ·rw [if_pos h1]
  exact afl
 ·rw [if_neg h1]
  by_cases h2:a=-1
  ·rw [if_pos h2]
   exact afl
  ·rw [if_neg h2]
   exact afl
structure ES where
 alt:List (Ln×Int)
 next:Nat
 out:List Sf
abbrev Me:=Int×Int×Int
def mY (MS:List Me)(ev:Int)(m:Nat):Nat:=m+((MS.drop m).takeWhile fun x=>decide (x.1≤ev)).length
theorem Df {MS:List Me} {ev:Int} {m:Nat} (h:m<MS.length)(h2:MS[m].1≤ev):mY MS ev m=mY MS ev (m+1):=by
 unfold mY
 rw [kV h,List.takeWhile_cons_of_pos Qp]
 simp;omega
theorem aa2 {MS:List Me} {ev:Int} {m:Nat} (h:m<MS.length)(h2:¬ MS[m].1≤ev):mY MS ev m=m:=by
 unfold mY
 rw [kV h,List.takeWhile_cons_of_neg Qp]
 simp
theorem Yg {MS:List Me} {ev:Int} {m:Nat} (h:MS.length≤m):mY MS ev m=m:=by
 unfold mY
 rw [qN h];simp
def QL(MS:List Me)(ev:Int)(s:ES):ES:=⟨if mY MS ev s.next=s.next then s.alt else [],mY MS ev s.next,s.out⟩
def ag5 (key:Int) (ev:Int) (sp:Int×Int×Int) (s:ES):ES :=
 if sp.2.1=aav key s.alt (sp.1,sp.2.2) then ⟨s.alt,s.next,s.out++[(ev,sp.1,sp.2.2,0)]⟩ else ⟨Ep (sp.1,sp.2.2) (sp.2.1+2) s.alt,s.next,s.out++[(ev,sp.1,sp.2.2,Jz sp.2.1)]⟩
def wH (key:Int) (MS:List Me) (s:ES) (n:Nt):ES:=ag5 key n.1 (oH n.2.2.1 key) (QL MS n.1 s)
def y9 (key:Int) (MS:List Me) (L:List Nt):ES:=L.foldl (wH key MS) ⟨[],0,[]⟩
def F8 (key:Int)(L:List Nt):Bool:=L.any fun n=>decide (BG n.2.2.1 key≠0)
def pO (p:aN)(key:Int):Int:=if aO p=0 then (if key < -4∨4 < key then 1 else if F8 key (bY p p.evs.length)=true then 10 else 0)else aO p
def Bl (p:aN) (key:Int):List Sf:=if pO p key=0 then (y9 key (nR p.evs p.evs.length) (bY p p.evs.length)).out else []
theorem Zn {q key:Int} (hk:-4≤key∧key≤4):BG q key=0∨BG q key=10:=by
 unfold BG
 by_cases h:0≤q∧q≤127
 ·rw [if_neg (fun x=>x h),if_neg (fun x=>x hk)]
  split
  ·exact .inl rfl
  ·exact .inr rfl
 ·rw [if_pos h];exact .inr rfl
theorem acD {q key:Int} (h:BG q key=0):-1≤(oH q key).2.1∧(oH q key).2.1≤1:=by
 unfold oH
 rw [if_pos h]
 cases hp:Wp q key with
 | none=>simp
 | some r =>
  have:=(uy (TD hp).1).1.2.1
  exact jy
theorem JU {key:Int} {MS:List Me}:∀ (L:List Nt) (s:ES),(∀ n∈L,BG n.2.2.1 key=0)→mX s.alt→mX (L.foldl (wH key MS) s).alt∧(L.foldl (wH key MS) s).out.length=s.out.length+L.length
 | [],s,_,h=>⟨h,rfl⟩
 | n::r,s,hl,h=>by
  have h1:mX (QL MS n.1 s).alt:=by unfold QL;dsimp only;split;exact h;exact mX.nil
  have h2:=acD (hl n (by simp))
  have h3:mX (wH key MS s n).alt∧(wH key MS s n).out.length=s.out.length+1:=by
   unfold wH ag5
   split
   ·exact ⟨h1,by simp [QL]⟩
   ·exact ⟨h1.upd _ ⟨by omega,by omega⟩,by simp [QL]⟩
  obtain ⟨h4,h5⟩:=JU r (wH key MS s n) (fun y hy=>hl y qV) h3.1
  rw [uJ]
  exact ⟨h4,by rw [h5,h3.2];simp;omega⟩
theorem Ah (p:aN) (hO:fH p) (key:Int):Ctg qc Tryz.prog 115 [eF p,.sc (.int .i64 key)] (.tu [.ls 4 ((Bl p key).map xO),.sc (.int .i64 (pO p key))]):=by
 have hn3:=hO.n3
 have hN:=zA p hO
 by_cases h0:aO p=0
 rotate_left
 ·have e1:pO p key=aO p:=if_neg h0
  have e2:Bl p key=[]:=if_neg (by rw [e1];exact h0)
  have e3:wK p=[]:=if_neg h0
  rw [e2,e1]
  rw [e3] at hN
  obtain ⟨E,hE⟩:∃ E,aO p=E:=⟨_,rfl⟩
  rw [hE] at hN h0 ⊢
  refine Ctg.intro jq Tryz.func115 rfl Tryz.ntmps115 (aP rfl) (aT rfl) fun w0 F0 hB=>?_;dsimp only [St.init,number,Nat.reduceAdd]
  refine mM ?_
  refine WL.vl rfl (bU Tryz.func178 hN) ?_
  exact aeZ
 have e3:wK p=bY p p.evs.length:=if_pos h0
 rw [h0,e3] at hN
 by_cases hk:key < -4∨4 < key
 ·have e1:pO p key=1:=by unfold pO;rw [if_pos h0,if_pos hk]
  have e2:Bl p key=[]:=if_neg (by rw [e1];decide)
  rw [e2,e1]
  have hk2:key < -4∨(¬ key < -4∧4 < key):=by omega
  rcases hk2 with hk2|hk2
  all_goals
   refine Ctg.intro jq Tryz.func115 rfl Tryz.ntmps115 (aP rfl) (aT rfl) fun w0 F0 hB=>?_;dsimp only [St.init,number,Nat.reduceAdd]
   refine mM ?_
   refine WL.vl rfl (bU Tryz.func178 hN) ?_
   refine wu ?_
   refine W.tr (Tr.nilR (t:=4) 4 rfl) ?_
   exact W.ret (finN rfl rfl rfl rfl)
 have hk2:-4≤key∧key≤4:=by omega
 have hMe:=rQ p hO
 have e4:aaY p=nR p.evs p.evs.length:=if_pos h0
 rw [e4,h0] at hMe
 have hml:=nS p.evs p.evs.length
 have hmb:=Kr p.evs p.evs.length
 have hnl:=wL hO h0
 have e1:pO p key=if F8 key (bY p p.evs.length)=true then 10 else 0:=by unfold pO;rw [if_pos h0,if_neg hk]
 have e2:Bl p key=if F8 key (bY p p.evs.length)=true then [] else (y9 key (nR p.evs p.evs.length) (bY p p.evs.length)).out:=by
  unfold Bl
  rw [e1]
  cases F8 key (bY p p.evs.length)<;>rfl
 rw [e1,e2]
 obtain ⟨L,hL⟩:∃ L,bY p p.evs.length=L:=⟨_,rfl⟩
 obtain ⟨MS,hMS⟩:∃ L,nR p.evs p.evs.length=L:=⟨_,rfl⟩
 rw [hL] at hN hnl ⊢
 rw [hMS] at hMe hml hmb ⊢
 refine Ctg.intro jq Tryz.func115 rfl Tryz.ntmps115 (aP rfl) (aT rfl) fun w0 F0 hB=>?_;dsimp only [St.init,number,Nat.reduceAdd]
 refine mM ?_
 refine WL.vl rfl (bU Tryz.func178 hN) ?_
 refine wu ?_
 refine WL.cto (truH _) [] rfl rfl (callF Tryz.func179 rfl rfl) (Oo key) rfl rfl rfl trivial rfl rfl rfl rfl ?_
 refine mM ?_
 refine WL.vl rfl (bU Tryz.func116 hMe) ?_
 refine mM ?_
 refine W.tr (Tr.nil (t:=12) 202 4 rfl rfl) ?_
 refine Qu ?_
 refine W.loop (fun k:Nat=>k≤L.length∧∀ n∈L.take k,BG n.2.2.1 key=0) (fun k=>⟨[(1,.sc (.int .i64 key)),(8,.pt 2 0 0),(9,.ls 3 (MS.map vH)),(12,.sl 3),(40,.ls 5 (L.map qo)),(41,.sc (.int .i64 L.length)),(42,.sc (.int .i64 k)),(11,.sc (.int .i64 ((y9 key MS (L.take k)).next:Nat)))],[(0,.box 30 (eF p).cells),(1,.opq (mapQ tJ (BH (y9 key MS (L.take k)).alt))),(2,.box 336 [.sc (.int .i64 key),.sl 1]),(3,.row 202 4 ((y9 key MS (L.take k)).out.map xO))],4⟩) (fun k=>L.length - k) 0 ⟨by omega,by simp⟩ (zqt id) fun k hk=>?_
 obtain ⟨hk1,hgood⟩:=hk
 obtain ⟨hA,hol⟩:=JU (key:=key) (MS:=MS) (L.take k) ⟨[],0,[]⟩ hgood mX.nil
 have hol:(y9 key MS (L.take k)).out.length≤8400:=by
  show (List.foldl (wH key MS) ⟨[],0,[]⟩ (L.take k)).out.length≤8400
  rw [hol];simp;omega
 by_cases hlt:k < L.length
 rotate_left
 ·obtain rfl:k=L.length:=by omega
  rw [fE] at hgood
  have hb:F8 key L=false:=by
   unfold F8
   rw [List.any_eq_false]
   intro n hn;simp [hgood n hn]
  rw [hb,fE]
  simp only [EI,if_false]
  refine wu ?_
  refine W.tr (Tr.freeze 3 rfl) ?_
  exact dY
 have htk:y9 key MS (L.take (k+1))=wH key MS (y9 key MS (L.take k)) L[k]:=by
  unfold y9;rw [gq hlt,Ew];rfl
 have hnk:∀ x∈L.take (k+1),x∈L.take k∨x=L[k]:=fun x hx=>by
  rw [gq hlt] at hx
  rcases List.mem_append.1 hx with hx|hx
  ·exact .inl hx
  ·exact .inr (List.mem_singleton.1 hx)
 have hA:mX (y9 key MS (L.take k)).alt:=hA
 obtain ⟨S,hS⟩:∃ S,y9 key MS (L.take k)=S:=⟨_,rfl⟩
 have hmem:L[k]∈L:=fA hlt
 refine wu ?_
 obtain ⟨n,hn⟩:∃ n,L[k]=n:=⟨_,rfl⟩
 rw [hS] at hA hol htk ⊢
 rw [hn] at htk hnk hmem ⊢
 refine W.loop (fun m:Nat×List (Ln×Int)=>m.1≤max MS.length S.next∧S.next≤m.1∧mY MS n.1 S.next=mY MS n.1 m.1∧m.2=if m.1=S.next then S.alt else []) (fun m=>⟨[(1,.sc (.int .i64 key)),(8,.pt 2 0 0),(9,.ls 3 (MS.map vH)),(12,.sl 3),(40,.ls 5 (L.map qo)),(41,.sc (.int .i64 L.length)),(42,.sc (.int .i64 k)),(14,.pt 4 0 0),(11,.sc (.int .i64 (m.1:Nat)))],[(0,.box 30 (eF p).cells),(1,.opq (mapQ tJ (BH m.2))),(2,.box 336 [.sc (.int .i64 key),.sl 1]),(3,.row 202 4 (S.out.map xO)),(4,.box 273 (qo n))],5⟩) (fun m=>max MS.length S.next - m.1) (S.next,S.alt) ⟨by dsimp only;omega,Nat.le_refl _,rfl,(if_pos rfl).symm⟩ (zqt id) fun m hm=>?_
 obtain ⟨m,al⟩:=m
 obtain ⟨hm1,hm2,hm3,hm4⟩:=hm
 dsimp only at hm1 hm2 hm3 hm4 ⊢
 by_cases hgo:∃ h:m < MS.length,MS[m].1≤n.1
 ·obtain ⟨h1,h2⟩:=hgo
  refine wu ?_
  refine iT ?_
  refine aio ?_
  refine wu ?_
  refine WL.cto (truH _) [1,2] rfl rfl (callF Tryz.func180 rfl rfl) (Lh key al) rfl rfl rfl ⟨⟨rfl,rfl,rfl⟩,⟨rfl,rfl,rfl⟩,trivial⟩ rfl rfl rfl rfl ?_
  refine wu ?_
  exact ⟨(m+1,[]),⟨by dsimp only;omega,by dsimp only;omega,hm3.trans (Df h1 h2),(if_neg (by dsimp only;omega)).symm⟩,by dsimp only;omega,(zqt id)⟩
 have hnext:mY MS n.1 S.next=m:=by
  exact adF
 have hcl:QL MS n.1 S=⟨al,m,S.out⟩:=by unfold QL;rw [hnext,hm4]
 have hal:mX al:=by rw [hm4];split;exact hA;exact mX.nil
 have hen:wH key MS S n=ag5 key n.1 (oH n.2.2.1 key) ⟨al,m,S.out⟩:=by unfold wH;rw [hcl]
 refine W.seq ?_
 refine W.seqM ⟨[(1,.sc (.int .i64 key)),(8,.pt 2 0 0),(9,.ls 3 (MS.map vH)),(12,.sl 3),(40,.ls 5 (L.map qo)),(41,.sc (.int .i64 L.length)),(42,.sc (.int .i64 k)),(14,.pt 4 0 0),(59,.sc (.bool false)),(11,.sc (.int .i64 (m:Nat)))],[(0,.box 30 (eF p).cells),(1,.opq (mapQ tJ (BH al))),(2,.box 336 [.sc (.int .i64 key),.sl 1]),(3,.row 202 4 (S.out.map xO)),(4,.box 273 (qo n))],5⟩ ?_ ?_
 ·have hno:MS.length≤m∨(∃ h:m < MS.length,¬ MS[m].1≤n.1):=by
   exact adL
  rcases hno with h|⟨h1,h2⟩
  all_goals
   refine iT ?_
   refine aio ?_
   refine (?_:Tr _ _ _)
   exact (zqt id)
 have hSp:=Pv n.2.2.1 key
 refine wu ?_
 refine WL.vl rfl (WV.callG hB rfl (callF Tryz.func106 rfl rfl) rfl rfl hSp) ?_
 rcases Zn (q:=n.2.2.1) hk2 with hx|hx
 rotate_left
 ·have hb:F8 key L=true:=by
   unfold F8
   rw [List.any_eq_true]
   exact ⟨n,hmem,by rw [hx];decide⟩
  rw [hb,hx]
  simp only [if_true]
  exact aeZ
 have al5:=acD hx
 rw [hx]
 obtain ⟨sp,hsp⟩:∃ sp,oH n.2.2.1 key=sp:=⟨_,rfl⟩
 rw [hsp] at al5 hen ⊢
 have ajX:∀ x∈L.take (k+1),BG x.2.2.1 key=0:=fun x hx2=>by
  rcases hnk x hx2 with h|h
  ·exact hgood x h
  ·rw [h];exact hx
 refine wu ?_
 refine W.dm3 [false,false,false,false,true,false] [5,7] aK aK aK FD ?_
 refine Qs ?_
 refine DMK.ct (truH _) [1,2] rfl rfl (callF Tryz.func181 rfl rfl) (Le key al sp.1 sp.2.2 hk2 hal) rfl rfl rfl ⟨⟨rfl,rfl,rfl⟩,⟨rfl,rfl,rfl⟩,trivial⟩ rfl rfl rfl rfl FD ?_
 refine Qs ?_
 refine mM ?_
 (refine W.cond rfl (fun hif=>?_) (fun hif=>?_)<;>(try simp only [bD,bK,dM,dN,dn,dO] at hif))
 ·have hne:¬ sp.2.1=aav key al (sp.1,sp.2.2):=by first|exact hif|(intro e;exact hif e)|omega
  have hput:wH key MS S n=⟨Ep (sp.1,sp.2.2) (sp.2.1+2) al,m,S.out++[(n.1,sp.1,sp.2.2,Jz sp.2.1)]⟩:=by rw [hen];exact if_neg hne
  have hr:S.out.map xO++[xO (n.1,sp.1,sp.2.2,Jz sp.2.1)]=(S.out++[(n.1,sp.1,sp.2.2,Jz sp.2.1)]).map xO:=by simp
  refine mM ?_
  refine WL.vl rfl (WV.call rfl (callF Tryz.func182 rfl rfl) rfl rfl (afE sp.2.1)) ?_
  refine mM ?_
  refine WL.cto (truH _) [1,2] rfl rfl (callF Tryz.func183 rfl rfl) (TG key al sp.1 sp.2.2 sp.2.1 al5) rfl rfl rfl ⟨⟨rfl,rfl,rfl⟩,⟨rfl,rfl,rfl⟩,trivial⟩ rfl rfl rfl rfl ?_
  exact aiY
 ·have heq:sp.2.1=aav key al (sp.1,sp.2.2):=by first|exact hif|omega
  have hput:wH key MS S n=⟨al,m,S.out++[(n.1,sp.1,sp.2.2,0)]⟩:=by rw [hen];exact if_pos heq
  have hr:S.out.map xO++[xO (n.1,sp.1,sp.2.2,0)]=(S.out++[(n.1,sp.1,sp.2.2,0)]).map xO:=by simp
  exact aiY
def ZU(a:Int):List UInt8:=if a=0 then []else if a=1 then [35]else if a=2 then [98]else [61]
def sfT (x:Sf):List UInt8:=cut BA x.2.1 (x.2.1+1)++ZU x.2.2.2++Lib.itoa x.2.2.1
def Jy(x:Sf):Prop:=(0≤x.2.1∧x.2.1≤6)∧I64 x.2.2.1∧(0≤x.2.2.2∧x.2.2.2≤3)
theorem Zq (x:Sf) (h:Jy x):Ctg qc Tryz.prog 117 [.ag (xO x)] (.sc (.string (bs (sfT x)))):=by
 obtain ⟨e,l,o,a⟩:=x
 obtain ⟨⟨h1,h2⟩,hI,h3,h4⟩:=h
 dsimp only at h1 h2 hI h3 h4
 have hl3:=jL (n:=o) (by unfold I64 at hI;omega)
 have hI:=zn o hI
 have hT:sfT (e,l,o,a)=cut BA l (l+1)++ZU a++Lib.itoa o:=rfl
 have hl1:(cut [67,68,69,70,71,65,66] l (l+1)).length≤1:=JL (l:=l)
 have hcb:0≤l∧l≤l+1∧l+1≤(BA.length:Int):=⟨h1,by omega,by simp [BA];omega⟩
 have hsl:(ZU a).length≤1:=by unfold ZU;split<;>(try split)<;>(try split)<;>simp
 have hcat:(cut [67,68,69,70,71,65,66] l (l+1)++ZU a).length≤2:=by rw [bJ];omega
 rw [hT]
 obtain ⟨io,hio⟩:∃ z,Lib.itoa o=z:=⟨_,rfl⟩
 rw [hio] at hl3 hI ⊢
 have ajt:(a=0∧ZU a=[])∨(a=1∧ZU a=[35])∨(a=2∧ZU a=[98])∨(a=3∧ZU a=[61]):=by
  have:a=0∨a=1∨a=2∨a=3:=by omega
  rcases this with h|h|h|h<;>subst h<;>simp [ZU]
 rcases ajt with ⟨ha,hs⟩|⟨ha,hs⟩|⟨ha,hs⟩|⟨ha,hs⟩
 all_goals
  rw [hs] at hcat hsl ⊢
  subst ha
  dsimp only [xO]
  refine Ctg.intro jq Tryz.func117 rfl Tryz.ntmps117 (aP rfl) (aT rfl) fun w0 F0 hB=>?_;dsimp only [St.init,number,Nat.reduceAdd]
  refine amB ?_
  refine iT ?_
  refine adf ?_
  refine DK.vl rfl (cutV_of rfl hcb) ?_
  refine adf ?_
  refine DK.vl rfl (WV.callG hB rfl (callF Tryz.func108 rfl rfl) rfl rfl hI) ?_
  refine adf ?_
  skip
  (first|refine (?_:W _ _ _ _ _)|refine (?_:WL _ _ _ _ _ _)|skip)
  try dsimp only [St.put,Nat.reduceAdd]
  exact W.ret vJ
theorem aaR (sep:List UInt8) (l:List (List UInt8)) (h1:l.length≤100000) (h2:(Lib.join l sep).length≤100000000):Ctr Tryz.prog 111 [.ls 1 (l.map eStr),.sc (.string (bs sep))] (.sc (.string (bs (Lib.join l sep)))):=by
 intro w F vs hF hR
 match vs,hR.1 with
 | [v,v2],_ =>
  obtain rfl:=(hR.2 1 _ v2 rfl rfl).sc_eq
  obtain ⟨A,c,rfl,hrd,hc⟩:=uo (n:=1) (f:=fun t=>[Value.string (bs t)]) hF aj (fun _=>rfl) (fun x j u h=>by
   match j with
   | 0=>cases h;rfl
   | j+1=>simp at h) (hR.2 0 _ v rfl rfl)
  have fin:∀ e w',e=Ending.returned (.string (bs (Lib.join l sep)))→Below w.heap.size w w'→∃ v F',e=.returned v∧Below w.heap.size w w'∧View.le F F'∧(∀ p u,F' p=some u→w'.cell? p=some u)∧(∀ p u,F' p=some u→F p=some u∨w.heap.size≤p.block)∧RP F' (.sc (.string (bs (Lib.join l sep)))) v :=
   fun e w' he hb=>⟨_,F,he,hb,fun _ _ h=>h,fun p u x=>by rw [hb.cell (cell_block (hF p u x))];exact hF p u x,fun _ _ h=>.inl h,.sc _⟩
  by_cases h0:l.length=0
  ·obtain rfl:=kU h0
   exact (strings_Join_none A c (bs sep) w).mono fun e w' ⟨he,hw⟩=>fin e w' he (hw ▸ Below.refl _ _)
  ·obtain ⟨ad,had,hlt,hcell⟩:=hrd (by simp;omega)
   subst had
   have hsp:ad.spot=none:=by
    exact aiR
   obtain ⟨bk,off,sp⟩:=ad
   simp only at hsp hlt
   subst hsp
   have hm:(l.map bs).map (fun b=>b.data.toList)=l:=by
    exact adT
   have:=strings_Join bk off c (l.map bs) (bs sep) w (fun j x hx=>?_) hlt (by simp;omega) (by simpa using hc) (by rw [hm,bs_data];omega)
   ·rw [hm,bs_data,dH] at this
    exact this.mono fun e w' ⟨he,hb⟩=>fin e w' he hb
   ·exact aiV
def mAt (MS:List Me):Nat→Nat
 | 0=>0
 | k+1=>mY MS k (mAt MS k)
def Wj (L:List Sf):Nat→List Sf
 | 0=>L
 | k+1=>(Wj L k).dropWhile fun x=>decide (x.1=(k:Int))
def VI (L:List Sf)(k:Nat):List (List UInt8):=((Wj L k).takeWhile fun x=>decide (x.1=(k:Int))).map sfT
def evT (L:List Sf)(k:Nat)(e:Ev):List UInt8:=if VI L k=[] then (if e.tie=true then [126] else [37]) else Lib.join (VI L k) [43]
def ajC (MS:List Me)(k:Nat):Nat:=(((MS[mAt MS (k+1)-1]?).map fun x:Me=>x.1).getD 0).toNat
def akT (evs:List Ev)(MS:List Me)(k:Nat):Int:=aJ evs k-aJ evs (ajC MS k)
def edR (evs:List Ev)(MS:List Me)(L:List Sf)(c:List UInt8)(k:Nat)(e:Ev):List UInt8 :=
 Lib.itoa (mAt MS (k+1):Nat)++[58]++Lib.itoa (akT evs MS k)++[32]++evT L k e++[32,59,32]++c++[10]
def edN (s:Int)(p:aN)(MS:List Me)(L:List Sf)(k:Nat):List UInt8:=(match p.evs[k]? with
 | some e=>edR p.evs MS L (colS s p k e) k e
 | none=>[])
def Xw(s:Int)(p:aN)(MS:List Me)(L:List Sf):Nat→List UInt8
 | 0=>[]
 | k+1=>Xw s p MS L k++edN s p MS L k
def Qy(s:Int)(p:aN)(key:Int):Int:=if 1≤s∧s≤4 then(if pO p key≠0 then pO p key else if jB s p=[]then 0 else 31)else 30
def ZO (s:Int) (p:aN) (key:Int):List UInt8:=if Qy s p key=0 then Xw s p (nR p.evs p.evs.length) (Bl p key) p.evs.length else []
theorem aap {s:Int} {p:aN} {MS:List Me} {L:List Sf} {k:Nat} (h:k<p.evs.length):edN s p MS L k=edR p.evs MS L (colS s p k p.evs[k]) k p.evs[k]:=by unfold edN;rw [aB h]
theorem KW (L:List Sf):∀ k,(∀ x∈Wj L k,x∈L)∧(Wj L k).length≤L.length
 | 0=>⟨fun _ h=>h,Nat.le_refl _⟩
 | k+1=>by
  obtain ⟨h1,h2⟩:=KW L k
  refine ⟨fun x hx=>h1 x ((List.dropWhile_sublist _).subset hx),?_⟩
  have:=(List.dropWhile_sublist (fun x:Sf=>decide (x.1=(k:Int))) (l:=Wj L k)).length_le
  unfold Wj
  omega
theorem ahl {x:Sf} (h:Jy x):(sfT x).length≤22:=by
 have h1:(cut BA x.2.1 (x.2.1+1)).length≤1:=JL
 have h2:(ZU x.2.2.2).length≤1:=by unfold ZU;split<;>(try split)<;>(try split)<;>simp
 have h3:=jL (n:=x.2.2.1) (by have:=h.2.1;unfold I64 at this;omega)
 unfold sfT
 exact UU
theorem xU (sep:List UInt8)(hs:sep.length≤1):∀ (l:List (List UInt8)),(∀ t∈l,t.length≤22)→(Lib.joinTail sep l).length≤23*l.length
 | [],_=>by simp [Lib.joinTail]
 | a::r,h=>by
  have h1:=h a (by simp)
  have h2:=xU sep hs r fun t ht=>h t (by simp [ht])
  unfold Lib.joinTail at h2 ⊢
  rw [qM,AA,bJ,bJ,bW]
  omega
theorem NY (sep:List UInt8)(hs:sep.length≤1)(l:List (List UInt8))(h:∀ t∈l,t.length≤22):(Lib.join l sep).length≤23*l.length:=by
 cases l with
 | nil=>rw [Lib.join_nil];simp
 | cons x r =>
  rw [Lib.join_cons,bJ,bW]
  have h1:=h x (by simp)
  have h2:=xU sep hs r fun t ht=>h t (by simp [ht])
  omega
theorem Kt {L:List Sf} (h:∀ x∈L,Jy x) (hl:L.length≤8400) (k:Nat):(VI L k).length≤8400∧∀ t∈VI L k,t.length≤22:=by
 obtain ⟨h1,h2⟩:=KW L k
 have h3:=Ez (fun x:Sf=>decide (x.1=(k:Int))) (l:=Wj L k)
 refine ⟨?_,fun t ht=>?_⟩
 ·unfold VI
  rw [dH]
  have:=h3.length_le
  omega
 ·unfold VI at ht
  obtain ⟨x,hx,rfl⟩:=List.mem_map.1 ht
  exact ahl (h x (h1 x (h3.subset hx)))
theorem af2 {L:List Sf} (h:∀ x∈L,Jy x) (hl:L.length≤8400) (k:Nat) (e:Ev):(evT L k e).length≤200000:=by
 obtain ⟨h1,h2⟩:=Kt h hl k
 have h3:=NY [43] (by simp) (VI L k) h2
 unfold evT
 split
 ·split<;>simp
 ·omega
theorem afF(a:Int):0≤Jz a∧Jz a≤3:=by unfold Jz;split<;>(try split)<;>omega
theorem acE {q key:Int} (h:BG q key=0) (ev a:Int) (ha:0≤a∧a≤3):Jy (ev,(oH q key).1,(oH q key).2.2,a):=by
 have hI:∀ z:Int,-1≤z∧z≤9→I64 z:=fun z hz=>by unfold I64;omega
 unfold oH
 rw [if_pos h]
 cases hp:Wp q key with
 | none=>exact ⟨⟨ni 0,by show (0:Int)≤6;decide⟩,hI 0 ⟨by decide,by decide⟩,ha⟩
 | some r =>
  have:=(uy (TD hp).1).1
  exact ⟨this.1,hI _ this.2.2,ha⟩
theorem Vk {key:Int} {MS:List Me}:∀ (L:List Nt)(s:ES),(∀ n∈L,BG n.2.2.1 key=0)→(∀ x∈s.out,Jy x)→∀ x∈(L.foldl (wH key MS) s).out,Jy x
 | [],s,_,h=>h
 | n::r,s,hl,h=>by
  rw [uJ]
  refine Vk r _ (fun y hy=>hl y qV) fun x hx=>?_
  have hn:=hl n (by simp)
  unfold wH ag5 at hx
  split at hx
  ·rcases List.mem_append.1 hx with hx|hx
   ·exact h x hx
   ·rw [vZ] at hx;subst hx;exact acE hn _ _ (by decide)
  ·rcases List.mem_append.1 hx with hx|hx
   ·exact h x hx
   ·rw [vZ] at hx;subst hx;exact acE hn _ _ (afF _)
theorem Vj {p:aN} (hO:fH p) {key:Int} (h:pO p key=0):aO p=0∧(∀ x∈Bl p key,Jy x)∧(Bl p key).length≤8400:=by
 have h0:aO p=0:=by
  by_cases h1:aO p=0
  ·exact h1
  ·unfold pO at h;rw [if_neg h1] at h;exact absurd h h1
 have hb:F8 key (bY p p.evs.length)=false:=by
  unfold pO at h
  rw [if_pos h0] at h
  split at h
  ·cases h
  ·cases hq:F8 key (bY p p.evs.length) with
   | false=>rfl
   | true=>rw [hq] at h;cases h
 have hall:∀ n∈bY p p.evs.length,BG n.2.2.1 key=0:=fun n hn=>by
  have:=(List.any_eq_false.1 hb) n hn
  exact jy
 have e:Bl p key=(y9 key (nR p.evs p.evs.length) (bY p p.evs.length)).out:=if_pos h
 rw [e]
 refine ⟨h0,Vk _ _ hall (fun x hx=>by cases hx),?_⟩
 have h2:=(JU (key:=key) (MS:=nR p.evs p.evs.length) _ ⟨[],0,[]⟩ hall mX.nil).2
 have h3:=wL hO h0
 unfold y9
 rw [h2]
 simp;omega
theorem wF (t:Int)(x:Me)(r:List Me):∃ y q,sH t (x::r)=y::q∧y.1=x.1:=by
 cases r with
 | nil=>exact⟨_,_,rfl,rfl⟩
 | cons z q=>exact⟨_,_,rfl,rfl⟩
theorem Oi (evs:List Ev):∀ k,∃ x r,nR evs (k+1)=x::r∧x.1=0
 | 0=>by
  obtain ⟨y,q,h1,h2⟩:=wF (zO 0 (evs.take 1)) (0,0,0) []
  exact ⟨y,q,h1,h2⟩
 | k+1=>by
  obtain ⟨x,r,h1,h2⟩:=Oi evs k
  rw [nR]
  split
  ·rw [h1]
   obtain ⟨y,q,h3,h4⟩:=wF (zO 0 (evs.take (k+1+1))) x (r++[(((k+1:Nat):Int),0,0)])
   exact ⟨y,q,h3,h4.trans h2⟩
  ·rw [h1]
   obtain ⟨y,q,h3,h4⟩:=wF (zO 0 (evs.take (k+1+1))) x r
   exact ⟨y,q,h3,h4.trans h2⟩
theorem sQ {α:Type} {f:α→Bool}:∀ {l:List α} {q:Nat},q≤l.length→(∀ x∈l.take q,f x=true)→(∀ h:q<l.length,f l[q]=false)→l.takeWhile f=l.take q∧l.dropWhile f=l.drop q
 | [],q,h,_,_=>by simp at h;simp
 | x::r,0,h,h1,h2=>by
  have:=h2 (by simp)
  simp at this
  simp [Ey,List.dropWhile_cons,this]
 | x::r,q+1,h,h1,h2=>by
  have hx:=h1 x (by simp)
  obtain ⟨a,b⟩:=sQ (l:=r) (q:=q) uT (fun y hy=>h1 y qV) (fun hq=>by have:=h2 Js;simpa using this)
  simp [Ey,List.dropWhile_cons,hx,a,b]
theorem Y4 (l:List (List UInt8)) (hl:l.length≤1000000):Cto truB 0 Tryz.prog 162 [.sl 0] [(0,.row 9 1 (l.map bg))] 1 (.tu []) [(0,.row 9 1 (l.reverse.map bg))] 1:=by
 refine Cto.intro truS Tryz.func162 rfl Tryz.ntmps162 (aP rfl) rfl fun w0 F0 fp pg hB=>?_
 refine jw ?_
 have hml:(l.map bg).length=l.length:=dH _
 refine mO ?_
 refine W.loop (fun k:Nat=>2*k≤l.length) (fun k=>⟨[(0,.sl 0),(2,.sc (.int .i64 (k:Int))),(3,.sc (.int .i64 ((l.length:Int) - 1 - (k:Int))))],[(0,.row 9 1 ((iU l k).map bg))],1⟩) (fun k=>l.length - 2*k) 0 (by omega) (by rw [show (l.length:Int) - 1 - ((0:Nat):Int)=(l.length:Int) - 1 by omega];exact (mP (fun q=>q) (by repeat (first|exact trivial|refine ⟨⟨?_,?_,?_⟩,?_⟩|rfl|exact congrArg (fun q=>some (AO.row _ _ q)) (by rw [abl]))) rfl)) fun k hk=>?_
 by_cases hlt:2*k+1 < l.length
 rotate_left
 ·rw [RI (l:=l) (k:=k) (by omega)]
  refine mO ?_
  exact rF (σ':=⟨[],[(0,.row 9 1 (l.reverse.map bg))],1⟩) (zqt id) (rE rfl rfl rfl rfl rfl)
 have z0:((k:Int)).toNat=k:=dB k
 have z1:((l.length:Int) - 1 - (k:Int)).toNat=l.length - 1 - k:=by omega
 obtain ⟨x,hx⟩:∃ z,l[k]' aj=z:=⟨_,rfl⟩
 obtain ⟨y,hy⟩:∃ z,l[l.length - 1 - k]' aj=z:=⟨_,rfl⟩
 have r0:((iU l k).map bg)[((k:Int)).toNat]?=some (bg x):=by rw [z0,bC,YC hlt,hx];rfl
 have r1:((iU l k).map bg)[((l.length:Int) - 1 - (k:Int)).toNat]?=some (bg y):=by rw [z1,bC,YB hlt,hy];rfl
 have r2:(((iU l k).map bg).set ((k:Int)).toNat (bg y))[((l.length:Int) - 1 - (k:Int)).toNat]?=some (bg y):=by
  rw [lF (by omega)];exact r1
 have r3:(((iU l k).map bg).set ((k:Int)).toNat (bg y)).set ((l.length:Int) - 1 - (k:Int)).toNat (bg x)=(iU l (k+1)).map bg:=by
  rw [z0,z1,← abm hlt,Az,Az,hx,hy]
 obtain ⟨D,hD⟩:∃ z,(iU l k).map bg=z:=⟨_,rfl⟩
 have hDl:D.length=l.length:=by rw [← hD,dH,jf]
 rw [hD] at r0 r1 r2 r3 ⊢
 refine mO ?_
 refine W.drawT 14 aK aK aK ?_
 refine WA.dt [false,false,false,false,false,false,false,false,false,false,false,false,false,true] [] [0] 13 aK aK aK trivial ⟨rfl,trivial⟩ ?_
 refine DTK.st rfl aK rfl ?_
 refine DTK.st rfl aK rfl ?_
 refine gQ ?_
 refine ade ?_
 refine DTK.ldr rfl aK rfl r1 rfl rfl ?_
 refine ade ?_
 refine DTK.ldr rfl aK rfl r0 rfl rfl ?_
 refine DTK.ixs rfl aK rfl ⟨by omega,by omega⟩ ?_
 refine DTK.sto rfl rfl rfl rfl rfl rfl rfl rfl rfl rfl rfl rfl (put_row r0 Jo rfl) rfl trivial (fun h=>by cases h) ?_
 refine DTK.nil ?_
 refine ⟨rfl,?_⟩
 refine (?_:WL _ _ _ _ _ _)
 refine mO ?_
 refine WL.sto rfl rfl rfl rfl r2 Jo ?_
 refine mO ?_
 refine ⟨k+1,by omega,by omega,?_⟩
 rw [show (l.length:Int) - 1 - (k:Int) - 1=(l.length:Int) - 1 - ((k+1:Nat):Int) by omega]
 exact (mP (fun q=>q) (by repeat (first|exact trivial|refine ⟨⟨?_,?_,?_⟩,?_⟩|rfl|exact congrArg (fun q=>some (AO.row _ _ q)) r3)) rfl)
end
end Go.Proofs.YthohlofpphjofaaGreatDoor
