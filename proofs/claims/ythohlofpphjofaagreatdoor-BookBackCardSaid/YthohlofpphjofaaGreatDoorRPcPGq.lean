/- ParseCell of the reference: the plain part. -/
import Derived.Test.YthohlofpphjofaaGreatDoorRq5Gq
import Derived.Test.YthohlofpphjofaaGreatDoorJnGq
import Derived.Test.YthohlofpphjofaaGreatDoorFBbGq
set_option maxHeartbeats 4000000
set_option maxRecDepth 100000
set_option linter.unusedVariables false
set_option linter.unusedSimpArgs false
namespace Go.Proofs.YthohlofpphjofaaGreatDoor
section
open Go.RowKit
theorem ajy (p:aN) (hO:fH p) (h0:aO p=0):Ctr Tryz.prog 267 [Nu p] (.sc (.int .i64 (aJ p.evs p.evs.length))):=by
 have hn:=hO.n3
 have hl:(iw p.evs p.evs.length).length=p.evs.length+1:=l9 _ _
 have he:Nu p=.ag [.ls 3 (p.cs.map aW),.ls 1 (p.st.map eInt),.ls 6 (p.evs.map iq),.ls 1 ((iw p.evs p.evs.length).map eInt)]:=by unfold Nu akv;rw [if_pos h0]
 rw [he]
 refine jc Tryz.func267 Tryz.ntmps267 fun w0 F0=>?_;dsimp only [St.init,number,Nat.reduceAdd]
 refine amG ?_
 refine W.ret (fin1 rfl rfl (acu ?_) rfl)
 simp [iw]
def ahq (p:aN):List AV:=[.ls 3 (p.cs.map aW),.ls 1 (p.st.map eInt),.ls 6 (p.evs.map iq),.ls 1 ((iw p.evs p.evs.length).map eInt)]
theorem JO {p:aN} (h0:aO p=0):Nu p=.ag (ahq p):=by unfold Nu akv ahq;rw [if_pos h0]
theorem ahw (p:aN) (hO:fH p) (h0:aO p=0) (i:Nat) (h:Int) (hh:0≤h) (hi:i+h.toNat+1≤p.evs.length) :
  Ctr Tryz.prog 268 [Nu p,.sc (.int .i64 i),.sc (.int .i64 h)] (.sc (.int .i64 ((lq p.evs (i+h.toNat+1):Int) - 1))):=by
 have hn:=hO.n3
 rw [JO h0]
 unfold ahq
 obtain ⟨q,rfl⟩:∃ q:Nat,h=q:=⟨h.toNat,by omega⟩
 simp only [dB] at hi ⊢
 refine jc Tryz.func268 Tryz.ntmps268 fun w0 F0=>?_;dsimp only [St.init,number,Nat.reduceAdd]
 refine ac6 ?_
 refine W.loop (fun m:Nat=>i+q≤m∧m+1≤p.evs.length∧lq p.evs (i+q+1)=lq p.evs (m+1)) (fun m=>⟨[(3,.pt 0 0 0),(7,.sc (.int .i64 m))],[(0,.box 328 [.ls 3 (p.cs.map aW),.ls 1 (p.st.map eInt),.ls 6 (p.evs.map iq),.ls 1 ((iw p.evs p.evs.length).map eInt)])],1⟩) (fun m=>p.evs.length - m) (i+q) ⟨Nat.le_refl _,by omega,rfl⟩ (zqt id) fun m hm=>?_
 obtain ⟨hm1,hm2,hm3⟩:=hm
 have ez:((m:Int)+1).toNat=m+1:=by omega
 by_cases hlt:m+1 < p.evs.length
 ·refine air ?_
  (refine W.cond rfl (fun hif=>?_) (fun hif=>?_)<;>(try simp only [bD,bK,dM,dN,dn,dO] at hif))
  ·refine ac6 ?_
   exact ⟨m+1,⟨by omega,by omega,by rw [hm3,Zu hlt hif]⟩,by omega,(zqt id)⟩
  ·rw [show ((lq p.evs (i+q+1):Int) - 1)=m by rw [hm3,acJ hlt hif];omega]
   refine ac6 ?_
   exact W.ret vJ
 ·refine air ?_
  refine W.ret (fin1 rfl rfl (acu ?_) rfl)
  rw [hm3,Zt (by omega)];omega
theorem Ze (m:Nat→Nat→Bool):∀ (n c a b:Nat),ng m c n=some (a,b)→c≤a∧a<c+n∧b≤18∧m a b=true:=by
 intro n
 induction n with
 | zero=>intro c a b h;cases h
 | succ n ih =>
  grind[xw,mD]
theorem vT {s aQ:Int} (l:List UInt8)(h:aC s aQ=0) :
  (∃ c f:Nat,placeOf s aQ l=((c:Int),(f:Int),0)∧(1≤c∧c≤14)∧f≤18∧dU s aQ c=true∧rS s c f=l)∨placeOf s aQ l=(0,0,4):=by
 cases e:ng (Gw s aQ l) 1 14 with
 | none=>simp_all[yw]
 | some cf =>
  obtain⟨c,f⟩:=cf
  obtain⟨x,y,z,m⟩:=Ze _ _ _ _ _ e
  grind[Gw,rV]
theorem kD {s aQ:Int} (h:aC s aQ=0):1≤s∧s≤4:=by
 grind[aC]
theorem abU {s aQ L:Int} {l:List UInt8} {c f r g h:Nat} (hsp:aC s aQ=0)(a:BF s aQ L l c f r g h) :
  1≤(rS s c f).length∧(rS s c f).length≤l.length∧placeOf s aQ (l.take (rS s c f).length)=((c:Int),(f:Int),0):=by
 obtain⟨a1,a2,a3,a4⟩:=a
 obtain⟨a5,a6,a7⟩:=su a4
 grind[kD,lU,dZ,rS,sG,cellS,yY,Ld]
end
end Go.Proofs.YthohlofpphjofaaGreatDoor
