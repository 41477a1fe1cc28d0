/- The reader of the program: the first two lines. -/
import Derived.Test.YthohlofpphjofaaGreatDoorNrFGq
set_option maxHeartbeats 8000000
set_option maxRecDepth 100000
set_option linter.unusedVariables false
set_option linter.unusedSimpArgs false
namespace Go.Proofs.YthohlofpphjofaaGreatDoor
theorem MN {p:Prop}(h:p:=by
 refine amN ?_
 exact dY):p:=h
theorem aeB {p:Prop}(h:p:=by
 unfold dX
 refine jv ?_
 refine WL.cto (truH _) [0,1,2] rfl rfl (callF Tryz.func42 rfl rfl) hc rfl rfl rfl ⟨⟨rfl,rfl,rfl⟩,trivial⟩ rfl rfl rfl rfl ?_
 refine jv ?_
 refine WL.vl rfl (bU Tryz.func89 hcp) ?_
 refine jv ?_
 refine WL.vl rfl (bU Tryz.func90 hps) ?_
 refine jv ?_
 exact FV):p:=h
theorem aeo {p:Prop}(h:p:=by
 split
 ·rfl
 ·split
  ·rfl
  ·split
   ·rfl
   ·split<;>rfl):p:=h
theorem MF {p:Prop}(h:p:=by
 exact .inr ⟨rfl,by decide⟩):p:=h
theorem adg {p q:Prop}(k:q)(h:aS q→p:=by
 intro hq
 refine jv ?_
 refine WL.op rfl (WO.store rfl rfl rfl rfl rfl rfl hcB hcl rfl h1B rfl) ?_
 dsimp only [St.upd]
 refine jv ?_
 exact hq.k):p:=h ⟨k⟩
theorem amN {p q:Prop}(k:q)(h:aS q→p:=by
 intro hq
 refine lH ?_
 refine W.tr (Tr.nilC 0 0 3 rfl rfl rfl) ?_
 refine W.tr (Tr.nilC 0 1 1 rfl rfl rfl) ?_
 exact hq.k):p:=h ⟨k⟩
section
open Go.RowKit
theorem zX:∀ {L a b:List (List UInt8)},jH L=some (a,b)→L=a++[58]::b∧∀ w∈a,w≠[58]
 | [],_,_,h=>by cases h
 | w::r,a,b,h=>by
  unfold jH at h
  by_cases e:w=[58]
  ·rw [if_pos e]at h
   cases h
   exact⟨by rw [e];rfl,fun x hx=>by cases hx⟩
  ·rw [if_neg e]at h
   obtain⟨⟨a',b'⟩,h1,h2⟩:=Option.map_eq_some_iff.1 h
   cases h2
   obtain⟨h3,h4⟩:=zX h1
   refine⟨by rw [h3];rfl,fun x hx=>?_⟩
   rcases List.mem_cons.1 hx with rfl|k
   ·exact e
   ·exact h4 x k
theorem zW:∀ {L:List (List UInt8)},jH L=none→∀ w∈L,w≠[58]
 | [],_,_,h=>by cases h
 | w::r,h,x,hx=>by
  unfold jH at h
  by_cases e:w=[58]
  ·rw [if_pos e]at h;cases h
  ·rw [if_neg e]at h
   have h1:jH r=none:=by
    cases hc:jH r with
    | none=>rfl
    | some y=>rw [hc]at h;cases h
   rcases List.mem_cons.1 hx with rfl|k
   ·exact e
   ·exact zW h1 x k
theorem Ic:∀ {a:List (List UInt8)} {k:Nat} (hk:k<a.length),(∀ j (hj:j<a.length),j<k→(eu a[j]).2=0)→(eu a[k]).2≠0→jZ a=(eu a[k]).2
 | w::r,0,_,_,h=>by unfold jZ;rw [if_pos uT];rfl
 | w::r,k+1,hk,h0,h=>by
  have:=h0 0 (by simp) (by omega)
  simp only [uK]at this
  unfold jZ
  rw [if_neg (by rw [this];decide),Ic (k:=k) sW (fun j hj hjk=>h0 (j+1) yR (by omega)) uT]
  rfl
theorem Ie:∀ {a:List (List UInt8)},(∀ j (hj:j<a.length),(eu a[j]).2=0)→jZ a=0
 | [],_=>rfl
 | w::r,h=>by
  have:=h 0 (by simp)
  simp only [uK]at this
  unfold jZ
  rw [if_neg (by rw [this];decide)]
  exact Ie fun j hj=>h (j+1) yR
theorem Ik:∀ {a:List (List UInt8)} {k:Nat} (hk:k<a.length),bT a[k]=none→mV a=4
 | w::r,0,_,h=>by
  unfold mV
  have h:bT w=none:=h
  rw [h];rfl
 | w::r,k+1,hk,h=>by
  unfold mV
  rw [Ik (k:=k) sW uT]
  split<;>rfl
theorem Il:∀ {a:List (List UInt8)},(∀ j (hj:j<a.length),(bT a[j]).isSome=true)→mV a=0
 | [],_=>rfl
 | w::r,h=>by
  have h1:=h 0 (by simp)
  simp only [uK]at h1
  unfold mV
  rw [if_pos h1]
  exact Il fun j hj=>h (j+1) yR
def sK (a:List (List UInt8)):List Crs:=a.map fun w=>(eu w).1
def sO (b:List (List UInt8)):List Int:=b.map fun w=>(((bT w).getD 0:Nat):Int)
section
variable {t:List UInt8} {a b:List (List UInt8)}
theorem Yv (h:jH (aV 32 t)=none):aA t=(([],[]),4):=by unfold aA jI;rw [h];rfl
theorem abg (h:jH (aV 32 t)=some (a,b))(e:jZ a≠0):aA t=(([],[]),jZ a):=by
 have:jI t=(([],[]),jZ a):=by unfold jI;rw [h];dsimp only;rw [if_pos e]
 unfold aA;rw [this];dsimp only;rw [if_pos e]
theorem abh (h:jH (aV 32 t)=some (a,b))(e:jZ a=0)(e2:mV b=4):aA t=(([],[]),4):=by
 have:jI t=(([],[]),4):=by unfold jI;rw [h];dsimp only;rw [if_neg (by rw [e];decide),e2];rfl
 unfold aA;rw [this];rfl
theorem abj (h:jH (aV 32 t)=some (a,b)) (e:jZ a=0) (e2:mV b=0):aA t=if gB (sK a) (sO b)≠0 then (([],[]),gB (sK a) (sO b))else ((sK a,sO b),0):=by
 have:jI t=((sK a,sO b),0):=by unfold jI;rw [h];dsimp only;rw [if_neg (by rw [e];decide),if_neg (by rw [e2];decide)];rfl
 unfold aA;rw [this];rfl
end
theorem abO (t:List UInt8) (ht:t.length≤400000):Ctg jQ Tryz.prog 91 [.sc (.string (bs t))] (.tu [.ag (oJ (aA t).1.1 (aA t).1.2),.sc (.int .i64 (aA t).2)]):=by
 have hW:=yH 32 t aj
 have hwb:=nJ 32 t
 have hwl:(aV 32 t).length≤500000:=by
  exact adP
 cases zk:jH (aV 32 t) with
 | none =>
  have hI:=CV (aV 32 t) [58] (zW zk) aj
  rw [Yv zk]
  refine Ctg.intro iG Tryz.func91 rfl Tryz.ntmps91 (aP rfl) (aT rfl) fun w0 F0 hB=>?_;dsimp only [St.init,number,Nat.reduceAdd]
  refine lH ?_
  refine WL.vl rfl (WV.callG hB rfl (callF Tryz.func38 rfl rfl) rfl rfl hW) ?_
  refine lH ?_
  refine WL.vl rfl (bU Tryz.func158 hI) ?_
  exact MN
 | some ab =>
 obtain ⟨a,b⟩:=ab
 obtain ⟨hL,hno⟩:=zX zk
 have hI:=CU a b [58] hno (by rw [hL] at hwl;simp at hwl;omega)
 have hal:a.length+b.length+1≤500000:=by rw [hL] at hwl;simp at hwl;omega
 have hba:∀ w∈a,w.length≤400000:=fun w hw=>by
  have:=hwb w (by rw [hL];simp [hw]);omega
 have hbb:∀ w∈b,w.length≤400000:=fun w hw=>by
  have:=hwb w (by rw [hL];simp [hw]);omega
 rw [hL] at hW
 obtain ⟨L,hLL⟩:∃ z,(a++[58]::b).map bg=z:=⟨_,rfl⟩
 have hLl:L.length=a.length+b.length+1:=by rw [← hLL];simp;omega
 have hp1:prt L 0 a.length=a.map bg:=by
  unfold prt
  rw [← hLL];simp
 have hp2:prt L ((a.length:Int)+1) L.length=b.map bg:=by
  unfold prt
  rw [← hLL,show ((a.length:Int)+1).toNat=a.length+1 by omega,dB,fE,gK,show a.length+1=(a.map bg).length+1 by rw [dH],List.drop_append]
  simp
 rw [hLL] at hW hI
 have hml:(a.map bg).length=a.length:=dH _
 have apB:(b.map bg).length=b.length:=dH _
 refine Ctg.intro iG Tryz.func91 rfl Tryz.ntmps91 (aP rfl) (aT rfl) fun w0 F0 hB=>?_;dsimp only [St.init,number,Nat.reduceAdd]
 refine lH ?_
 refine WL.vl rfl (WV.callG hB rfl (callF Tryz.func38 rfl rfl) rfl rfl hW) ?_
 refine lH ?_
 refine WL.vl rfl (bU Tryz.func158 hI) ?_
 refine lH ?_
 refine WL.part_ rfl rfl ⟨by omega,by omega,by omega⟩ hp1 ?_
 refine lH ?_
 refine W.tr (Tr.nilBox 117 3 (k:=1) (j:=0) rfl rfl rfl rfl) ?_
 refine W.tr (Tr.nilBox 3 1 (k:=1) (j:=1) rfl rfl rfl rfl) ?_
 dsimp only [St.upd,St.new,St.put,Nat.reduceAdd]
 refine W.loop (fun k:Nat=>k≤a.length∧∀ j (hj:j < a.length),j < k→(eu a[j]).2=0) (fun k=>⟨[(2,.pt 0 0 0),(4,.ls 1 L),(5,.sc (.int .i64 (a.length:Int))),(6,.pt 1 0 0),(25,.ls 1 (a.map bg)),(26,.sc (.int .i64 (a.length:Int))),(27,.sc (.int .i64 (k:Int)))],
  [(0,.box 27 [.sc (.slice none 0 0),.sc (.slice none 0 0)]),(1,.box 27 [.sl 2,.sl 3]),(2,.row 117 3 ((sK (a.take k)).map aW)),(3,.row 3 1 [])],4⟩) (fun k=>a.length - k) 0 ⟨by omega,fun j hj h=>absurd h aj⟩ (zqt id) fun k hk=>?_
 obtain ⟨hk,hall⟩:=hk
 by_cases hlt:k < a.length
 ·have ZQ:=YS a[k] (by have:=hba a[k] (fA hlt);omega)
  have hbad:=Ic hlt hall
  have hnx:(eu a[k]).2=0→∀ j (hj:j < a.length),j < k+1→(eu a[j]).2=0:=fun h j hj hjk=>by
   exact Xd
  have hrow:(sK (a.take (k+1))).map aW=(sK (a.take k)).map aW++[aW (eu a[k]).1]:=by
   unfold sK
   exact afv
  obtain ⟨R,hR⟩:∃ z,(sK (a.take k)).map aW=z:=⟨_,rfl⟩
  have hRl:R.length≤500000:=by rw [← hR];unfold sK;rw [dH,dH,jR];omega
  obtain ⟨⟨⟨c1,c2,c3⟩,e⟩,hce⟩:∃ z,eu a[k]=z:=⟨_,rfl⟩
  rw [hce] at ZQ hbad hnx hrow
  rw [hR] at hrow ⊢
  unfold aW at ZQ
  dsimp only at ZQ hbad hnx
  clear hall
  by_cases he:e=0
  rotate_left
  ·rw [abg zk (by rw [hbad he];exact he),hbad he]
   refine lH ?_
   refine WL.vl rfl (WV.callG hB rfl (callF Tryz.func159 rfl rfl) rfl rfl ZQ) ?_
   exact MN
  ·subst he
   refine lH ?_
   refine WL.vl rfl (WV.callG hB rfl (callF Tryz.func159 rfl rfl) rfl rfl ZQ) ?_
   refine lH ?_
   refine ⟨k+1,⟨by omega,hnx rfl⟩,by omega,?_⟩
   rw [hrow]
   exact (mP (fun q=>bif Nat.beq q 2 then 6 else q) BK rfl)
 obtain rfl:k=a.length:=by omega
 have herr:=Ie fun j hj=>hall j hj hj
 rw [fE]
 clear hall hk hlt
 refine lH ?_
 refine WL.part_ rfl rfl ⟨by omega,by omega,by omega⟩ hp2 ?_
 refine lH ?_
 have hcl:(sK a).length=a.length:=dH _
 obtain ⟨CS,hCS⟩:∃ z,sK a=z:=⟨_,rfl⟩
 rw [hCS] at hcl ⊢
 refine W.loop (fun k:Nat=>k≤b.length∧∀ j (hj:j < b.length),j < k→(bT b[j]).isSome=true) (fun k=>⟨[(2,.pt 0 0 0),(6,.pt 1 0 0),(50,.ls 1 (b.map bg)),(51,.sc (.int .i64 (b.length:Int))),(52,.sc (.int .i64 (k:Int)))],
  [(0,.box 27 [.sc (.slice none 0 0),.sc (.slice none 0 0)]),(1,.box 27 [.sl 2,.sl 3]),(2,.row 117 3 (CS.map aW)),(3,.row 3 1 ((sO (b.take k)).map eInt))],4⟩) (fun k=>b.length - k) 0 ⟨by omega,fun j hj h=>absurd h aj⟩ (zqt id) fun k hk=>?_
 obtain ⟨hk,hall⟩:=hk
 by_cases hlt:k < b.length
 ·have ZQ:=DV b[k] (by have:=hbb b[k] (fA hlt);omega)
  have hbad:=Ik hlt
  have hnx:(bT b[k]).isSome=true→∀ j (hj:j < b.length),j < k+1→(bT b[j]).isSome=true:=fun h j hj hjk=>by
   exact Xd
  have hrow:(sO (b.take (k+1))).map eInt=(sO (b.take k)).map eInt++[eInt (((bT b[k]).getD 0:Nat):Int)]:=by
   unfold sO
   exact afv
  obtain ⟨R,hR⟩:∃ z,(sO (b.take k)).map eInt=z:=⟨_,rfl⟩
  have hRl:R.length≤500000:=by rw [← hR];unfold sO;rw [dH,dH,jR];omega
  rw [hR] at hrow ⊢
  clear hall
  cases he:bT b[k] with
  | none =>
   rw [abh zk herr (hbad he)]
   rw [he] at ZQ
   refine lH ?_
   refine WL.vl rfl (bU Tryz.func160 ZQ) ?_
   exact MN
  | some v =>
   rw [he] at ZQ hrow hnx
   have hrow:(sO (b.take (k+1))).map eInt=R++[eInt (v:Int)]:=hrow
   have ZQ:Ctr Tryz.prog 160 [.sc (.string (bs b[k]))] (.tu [.sc (.int .i64 (v:Int)),.sc (.bool true)]):=ZQ
   refine lH ?_
   refine WL.vl rfl (bU Tryz.func160 ZQ) ?_
   refine lH ?_
   refine ⟨k+1,⟨by omega,hnx rfl⟩,by omega,?_⟩
   rw [hrow]
   exact (mP (fun q=>bif Nat.beq q 3 then 5 else q) BK rfl)
 obtain rfl:k=b.length:=by omega
 have hstp:=Il fun j hj=>hall j hj hj
 rw [fE]
 clear hall hk hlt
 have ajI:=abj zk herr hstp
 rw [hCS] at ajI
 obtain ⟨ST,hST⟩:∃ z,sO b=z:=⟨_,rfl⟩
 rw [hST] at ajI ⊢
 have hC:=rO CS ST
 unfold oJ at hC
 rw [ajI]
 refine W.tr (Tr.freeze 2 rfl) ?_
 refine W.tr (Tr.freeze 3 rfl) ?_
 by_cases he:gB CS ST=0
 ·rw [he] at hC
  rw [he,if_neg (by decide)]
  refine lH ?_
  refine WL.vl rfl (bU Tryz.func103 hC) ?_
  refine lH ?_
  exact dY
 ·rw [if_pos he]
  obtain ⟨E,hE⟩:∃ z,gB CS ST=z:=⟨_,rfl⟩
  rw [hE] at hC he ⊢
  refine lH ?_
  refine WL.vl rfl (bU Tryz.func103 hC) ?_
  exact MN
def nU(l:List UInt8):Int×Int:=if(nm1 == l)=true then(1,0)else if(nm2 == l)=true then(2,0)else if(nm3 == l)=true then(3,0)else if(nm4 == l)=true then(4,0)else(0,4)
theorem agN (l:List UInt8):psV l=.tuple #[.int .u8 (nU l).1,.int .i64 (nU l).2]:=by
 unfold psV nU
 exact aeo
theorem Oz(l:List UInt8):((nU l).2=4∧(nU l).1=0)∨((nU l).2=0∧1≤(nU l).1∧(nU l).1≤4):=by
 unfold nU
 split
 ·exact MF
 ·split
  ·exact MF
  ·split
   ·exact MF
   ·split
    ·exact MF
    ·exact .inl ⟨rfl,rfl⟩
def Dq:List UInt8:=[116,97,98,108,97,116,117,114,101,32]
theorem tZ {p l:List UInt8}:bM p l=decide (l.take p.length=p):=by
 unfold bM
 by_cases h:l.take p.length=p
 ·rw [fQ h,List.isPrefixOf_iff_prefix]
  rw [← h];exact List.take_prefix _ _
 ·rw [dW h]
  cases hb:p.isPrefixOf l with
  | false=>rfl
  | true =>
   obtain⟨u,rfl⟩:=List.isPrefixOf_iff_prefix.1 hb
   exact absurd List.take_left h
theorem YG {l:List UInt8} (h:bM Dq l=false):iV l=none:=by
 rw [tZ]at h
 exact if_neg (show ¬ l.take 10=[116,97,98,108,97,116,117,114,101,32]from yK h)
theorem YE {l:List UInt8} (h:bM Dq l=true):iV l=if (nU (l.drop 10)).2=0 then some (nU (l.drop 10)).1 else none:=by
 rw [tZ]at h
 unfold iV
 rw [if_pos (show l.take 10=[116,97,98,108,97,116,117,114,101,32]from nC h)]
 obtain⟨d,hd⟩:∃ z,l.drop 10=z:=⟨_,rfl⟩
 rw [hd]
 unfold nU nm1 nm2 nm3 nm4
 simp only [Je]
 exact aeo
theorem V6 (l:List UInt8):Ctr Tryz.prog 90 [.sc (.string (bs l))] (.tu [.sc (.int .u8 (nU l).1),.sc (.int .i64 (nU l).2)]) :=
 Ctr.vS (v:=psV l) rfl (fun F=>by rw [agN];exact D6 rfl) fun w=>zC l w
def tY (L:List (List UInt8)) (cl:Bool):UR :=
 if je L cl 0=false then .er (cZ 1 4) else
 match iV (L.getD 0 []) with
 | none=>.er (cZ 1 4)
 | some s =>
  if je L cl 1=false then .er (cZ 2 4) else
  if (aA (L.getD 1 [])).2≠0 then .er (cZ 2 (aA (L.getD 1 [])).2) else
  .ok (.tu []) [(0,dX (.int .u8 s) (aU s) ((aA (L.getD 1 [])).1.1.map aW) ((aA (L.getD 1 [])).1.2.map eInt) 2 (L.map bg) cl)] 4
theorem ajT (L:List (List UInt8)) (cl:Bool) (hl:L.length≤400000) (hw:∀ w∈L,w.length≤400000) :
  Ctu jQ sZ Tryz.prog 39 [.pt 0 0 0] [(0,dX (.int .u8 0) .nilIface [] [] 0 (L.map bg) cl)] 3 (tY L cl):=by
 have hn0:=Rn (.int .u8 0) .nilIface [] [] L cl 0 aj aj
 have hwd:∀ k,(L.getD k []).length≤400000:=fun k=>by
  rw [dI]
  by_cases h:k < L.length
  ·rw [aB h];exact hw _ (fA h)
  ·rw [TY (by omega)];simp
 have hcp:=GV (L.getD 0 []) Dq (by have:=hwd 0;omega)
 refine Ctu.intro iG Tryz.func39 rfl Tryz.ntmps39 (aP rfl) rfl fun w0 F0 fp pg hB=>?_
 unfold tY
 refine jw ?_
 cases hx:je L cl 0 with
 | false =>
  rw [if_pos rfl]
  have hc:=hn0.er_ (by rw [hx];rfl)
  unfold dX
  refine jv ?_
  refine WL.ctp (truH _) [0,1,2] rfl rfl (callF Tryz.func42 rfl rfl) hc rfl rfl rfl ⟨⟨rfl,rfl,rfl⟩,trivial⟩ ?_
  rfl
 | true =>
 rw [if_neg (by decide)]
 have hc:=hn0.ok_ (by rw [hx];rfl)
 rw [show ((0:Nat):Int)+1=1 from rfl,show ((0:Nat):Int)=0 from rfl] at hc
 obtain ⟨l0,hl0⟩:∃ z,L.getD 0 []=z:=⟨_,rfl⟩
 rw [hl0] at hc hcp ⊢
 cases hp:bM Dq l0 with
 | false =>
  have hps:=V6 l0
  rw [YG hp]
  rw [hp] at hcp
  exact aeB
 | true =>
 rw [hp,if_pos rfl] at hcp
 obtain ⟨nm,hnm⟩:∃ z,l0.drop 10=z:=⟨_,rfl⟩
 have hcp:Ctr Tryz.prog 89 [.sc (.string (bs l0)),.sc (.string (bs Dq))] (.tu [.sc (.string (bs nm)),.sc (.bool true)]):=by rw [← hnm];exact hcp
 rw [YE hp,hnm]
 have hps:=V6 nm
 rcases Oz nm with ⟨e1,e2⟩|⟨e1,e2,e3⟩
 ·rw [e1,e2] at hps
  rw [e1,if_neg (by decide)]
  dsimp only
  exact aeB
 rw [e1] at hps
 rw [if_pos e1]
 obtain ⟨s,hs⟩:∃ z,(nU nm).1=z:=⟨_,rfl⟩
 rw [hs] at hps e2 e3 ⊢
 dsimp only
 have hof:=Ag s
 rw [fQ ⟨e2,e3⟩] at hof
 have hcB:(AV.sc (aU s)).cellB=true:=by rcases bI ⟨e2,e3⟩ with rfl|rfl|rfl|rfl<;>rfl
 have hcl:(AV.sc (aU s)).cells=[AV.sc (aU s)]:=by rcases bI ⟨e2,e3⟩ with rfl|rfl|rfl|rfl<;>rfl
 have h1B:[AV.sc (aU s)].all AV.oneB=true:=by rcases bI ⟨e2,e3⟩ with rfl|rfl|rfl|rfl<;>rfl
 have hn1:=Rn (.int .u8 s) (aU s) [] [] L cl 1 aj (by
  unfold je at hx
  simp only [dw,bD] at hx
  omega)
 cases hx1:je L cl 1 with
 | false =>
  rw [if_pos rfl]
  have hc1:=hn1.er_ (by rw [hx1];rfl)
  rw [show ((1:Nat):Int)+1=2 from rfl,show ((1:Nat):Int)=1 from rfl] at hc1
  unfold dX
  refine jv ?_
  refine WL.cto (truH _) [0,1,2] rfl rfl (callF Tryz.func42 rfl rfl) hc rfl rfl rfl ⟨⟨rfl,rfl,rfl⟩,trivial⟩ rfl rfl rfl rfl ?_
  refine jv ?_
  refine WL.vl rfl (bU Tryz.func89 hcp) ?_
  refine jv ?_
  refine WL.vl rfl (bU Tryz.func90 hps) ?_
  refine jv ?_
  refine WL.vl rfl (bU Tryz.func50 hof) ?_
  refine adg ?_
  refine WL.ctp (truH _) [0,1,2] rfl rfl (callF Tryz.func42 rfl rfl) hc1 rfl rfl rfl ⟨⟨rfl,rfl,rfl⟩,trivial⟩ ?_
  rfl
 | true =>
 rw [if_neg (by decide)]
 have hc1:=hn1.ok_ (by rw [hx1];rfl)
 rw [show ((1:Nat):Int)+1=2 from rfl,show ((1:Nat):Int)=1 from rfl] at hc1
 have hP:=abO (L.getD 1 []) (hwd 1)
 obtain ⟨l1,hl1⟩:∃ z,L.getD 1 []=z:=⟨_,rfl⟩
 rw [hl1] at hc1 hP ⊢
 obtain ⟨⟨⟨cs,st⟩,e⟩,hins⟩:∃ z,aA l1=z:=⟨_,rfl⟩
 rw [hins] at hP ⊢
 unfold oJ at hP
 dsimp only at hP ⊢
 by_cases he:e=0
 ·subst he
  rw [if_neg (by decide)]
  unfold dX
  refine jv ?_
  refine WL.cto (truH _) [0,1,2] rfl rfl (callF Tryz.func42 rfl rfl) hc rfl rfl rfl ⟨⟨rfl,rfl,rfl⟩,trivial⟩ rfl rfl rfl rfl ?_
  refine jv ?_
  refine WL.vl rfl (bU Tryz.func89 hcp) ?_
  refine jv ?_
  refine WL.vl rfl (bU Tryz.func90 hps) ?_
  refine jv ?_
  refine WL.vl rfl (bU Tryz.func50 hof) ?_
  refine adg ?_
  refine WL.cto (truH _) [0,1,2] rfl rfl (callF Tryz.func42 rfl rfl) hc1 rfl rfl rfl ⟨⟨rfl,rfl,rfl⟩,trivial⟩ rfl rfl rfl rfl ?_
  refine jv ?_
  refine WL.vl rfl (WV.callG hB rfl (callF Tryz.func91 rfl rfl) rfl rfl hP) ?_
  refine jv ?_
  exact QFinM.sub (rE rfl rfl rfl rfl rfl) ⟨rfl,trivial⟩
 ·rw [if_pos he]
  unfold dX
  refine jv ?_
  refine WL.cto (truH _) [0,1,2] rfl rfl (callF Tryz.func42 rfl rfl) hc rfl rfl rfl ⟨⟨rfl,rfl,rfl⟩,trivial⟩ rfl rfl rfl rfl ?_
  refine jv ?_
  refine WL.vl rfl (bU Tryz.func89 hcp) ?_
  refine jv ?_
  refine WL.vl rfl (bU Tryz.func90 hps) ?_
  refine jv ?_
  refine WL.vl rfl (bU Tryz.func50 hof) ?_
  refine adg ?_
  refine WL.cto (truH _) [0,1,2] rfl rfl (callF Tryz.func42 rfl rfl) hc1 rfl rfl rfl ⟨⟨rfl,rfl,rfl⟩,trivial⟩ rfl rfl rfl rfl ?_
  refine jv ?_
  refine WL.vl rfl (WV.callG hB rfl (callF Tryz.func91 rfl rfl) rfl rfl hP) ?_
  refine jv ?_
  exact FV
end
end Go.Proofs.YthohlofpphjofaaGreatDoor
