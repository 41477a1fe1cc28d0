/- Check of a piece: the reference, over trees. -/
import Derived.Test.YthehkchjdkdbiaaGreatDoorYQKq
import Derived.Test.YthehkchjdkdbiaaGreatDoorSmKq
set_option maxHeartbeats 8000000
set_option maxRecDepth 100000
set_option linter.unusedVariables false
set_option linter.unusedSimpArgs false
namespace Go.Proofs.YthehkchjdkdbiaaGreatDoor
open Go.RowKit
section
variable {p:Prop}
theorem TY(h:p:=by
 refine kT ?_
 exact uX):p:=h
theorem alQ(h:p:=by
 refine Xz ?_
 refine DK.vl rfl (bZ Tryz.func102 hLo) ?_
 exact TM):p:=h
theorem Ny(h:p:=by
 refine MR ?_
 exact W.ret vS):p:=h
theorem alA(h:p:=by
 refine jl Tryz.func57 Tryz.ntmps57 fun w0 F0=>?_;dsimp only [St.init,number,Nat.reduceAdd]
 refine kT ?_
 refine WL.vl rfl (bZ Tryz.func113 hR) ?_
 exact zY):p:=h
theorem TM(h:p:=by
 refine ajQ ?_
 exact W.ret vS):p:=h
theorem aj1(h:p:=by
 refine Xz ?_
 refine DK.vl rfl (bZ Tryz.func102 hLo) ?_
 refine ajQ ?_
 exact ⟨k+1,⟨by omega,hE⟩,by omega,(zqt id)⟩):p:=h
theorem aro(h:p:=by
 refine jl Tryz.func15 Tryz.ntmps15 fun w0 F0=>?_;dsimp only [St.init,number,Nat.reduceAdd]
 refine MR ?_
 refine WL.vl rfl (bZ Tryz.func56 hI) ?_
 refine MR ?_
 exact W.ret vS):p:=h
theorem zY(h:p:=by
 refine kT ?_
 exact W.ret vS):p:=h
end
theorem ajQ {p q:Prop}(k:q)(h:aP q→p:=by
 intro hq
 refine Xz ?_
 refine kT ?_
 exact hq.k):p:=h ⟨k⟩
def lastOf (l:List Stp) (k:Nat):Int:=if k=0 then 0 else (l.getD (k-1) (0,0,0,0,0)).1
theorem Ve {l:List Stp} {k:Nat} (h:k<l.length):lastOf l (k+1)=l[k].1:=by
 unfold lastOf
 rw [if_neg (by omega),Nat.add_sub_cancel,oP,aI h];rfl
theorem adD {p:aS} {i:Int} {e:Ev} (h:gZ e.val e.dot e.three=false∨(i=0∧e.val=0)):AY p i e=20:=if_pos h
theorem agr {p:aS} {i:Int} {e:Ev} (h:¬ (gZ e.val e.dot e.three=false∨(i=0∧e.val=0)))(h1:e.tie=true∧(0<e.stops.length∨i=0)):AY p i e=21:=by unfold AY;rw [if_neg h,if_pos h1]
theorem Ym {p:aS} {i:Int} {e:Ev} (h:¬ (gZ e.val e.dot e.three=false∨(i=0∧e.val=0)))(h1:¬ (e.tie=true∧(0<e.stops.length∨i=0))):AY p i e=gK p i 0 e.stops:=by unfold AY;rw [if_neg h,if_neg h1]
theorem ae4 (p:aS) (i:Nat) (hi:i < p.evs.length) (hO:jm p):aU Tryz.prog 57 [bK p,.sc (.int .i64 i)] (.sc (.int .i64 (AY p i p.evs[i]))):=by
 have h20:=hO.n4 i hi
 have hn3:=hO.n3
 have hn1:=hO.n1
 have hR:=ZJ p.evs[i].val p.evs[i].dot p.evs[i].three
 by_cases hA:gZ p.evs[i].val p.evs[i].dot p.evs[i].three=false∨((i:Int)=0∧p.evs[i].val=0)
 ·rw [adD hA]
  by_cases hs:gZ p.evs[i].val p.evs[i].dot p.evs[i].three=false
  ·rw [hs] at hR
   exact alA
  ·obtain ⟨h1,h2⟩:=hA.resolve_left hs
   rw [show gZ p.evs[i].val p.evs[i].dot p.evs[i].three=true by simpa using hs] at hR
   exact alA
 have hs:gZ p.evs[i].val p.evs[i].dot p.evs[i].three=true:=by
  cases h:gZ p.evs[i].val p.evs[i].dot p.evs[i].three with
  | true=>rfl
  | false=>exact absurd (.inl h) hA
 rw [hs] at hR
 refine jl Tryz.func57 Tryz.ntmps57 fun w0 F0=>?_;dsimp only [St.init,number,Nat.reduceAdd]
 refine kT ?_
 refine WL.apL ⟨[(1,.sc (.int .i64 i)),(2,.pt 0 0 0),(5,.pt 1 0 0)],[(0,.box 30 (bK p).cells),(1,.box 90 (dI p.evs[i]))],2⟩ ?_ ?_
 ·refine WL.vl rfl (bZ Tryz.func113 hR) ?_
  by_cases h1:(i:Int)=0
  ·have h2:¬ p.evs[i].val=0:=fun h=>hA (.inr ⟨h1,h⟩)
   exact TY
  ·exact TY
 by_cases hB:p.evs[i].tie=true∧(0 < p.evs[i].stops.length∨(i:Int)=0)
 ·rw [agr hA hB]
  obtain ⟨h1,h2⟩:=hB
  refine kT ?_
  rw [h1]
  by_cases h3:0 < p.evs[i].stops.length
  ·exact zY
  ·have h4:=h2.resolve_left h3
   exact zY
 rw [Ym hA hB]
 refine kT ?_
 refine WL.apL ⟨[(1,.sc (.int .i64 i)),(2,.pt 0 0 0),(5,.pt 1 0 0)],[(0,.box 30 (bK p).cells),(1,.box 90 (dI p.evs[i]))],2⟩ ?_ ?_
 ·cases h1:p.evs[i].tie with
  | true =>
   have h2:¬ 0 < p.evs[i].stops.length:=fun h=>hB ⟨h1,.inl h⟩
   have h3:¬ (i:Int)=0:=fun h=>hB ⟨h1,.inr h⟩
   exact TY
  | false =>
   exact TY
 obtain ⟨l,hl⟩:∃ l,p.evs[i].stops=l:=⟨_,rfl⟩
 have hev:dI p.evs[i]=[.sc (.bool p.evs[i].bar),.sc (.int .i64 p.evs[i].val),.sc (.bool p.evs[i].dot),.sc (.bool p.evs[i].three),.sc (.bool p.evs[i].tie),.ls 5 (l.map aC)]:=by rw [← hl];rfl
 rw [hl] at h20
 rw [hev,hl]
 refine kT ?_
 refine W.loop (fun k:Nat=>k≤l.length∧gK p i 0 l=gK p i (lastOf l k) (l.drop k)) (fun k=>⟨[(1,.sc (.int .i64 i)),(2,.pt 0 0 0),(5,.pt 1 0 0),(6,.sc (.int .i64 k))],[(0,.box 30 (bK p).cells),(1,.box 90 [.sc (.bool p.evs[i].bar),.sc (.int .i64 p.evs[i].val),.sc (.bool p.evs[i].dot),.sc (.bool p.evs[i].three),.sc (.bool p.evs[i].tie),.ls 5 (l.map aC)])],2⟩) (fun k=>l.length - k) 0 ⟨by omega,rfl⟩ (zqt id) fun k hk=>?_
 obtain ⟨hk,hE⟩:=hk
 by_cases hlt:k < l.length
 rotate_left
 ·obtain rfl:k=l.length:=by omega
  rw [List.drop_length] at hE
  rw [show gK p i 0 l=0 from hE]
  exact zY
 rw [Qc hlt] at hE
 have hls:=Ve hlt
 have hLo:=aiE p hO i l[k].1
 have avP:∀ h:0 < k,lastOf l k=(l[k - 1]' au).1:=fun h=>by
  unfold lastOf
  rw [if_neg (by omega),oP,aI (by omega)];rfl
 have asG:k=0→lastOf l k=0:=fun h=>if_pos h
 by_cases c1:l[k].1 < 1∨(p.cs.length:Int) < l[k].1
 ·rw [FY c1,if_pos (by decide)] at hE
  rw [hE]
  by_cases c:l[k].1 < 1
  ·exact zY
  ·have c':l[k].1 > (p.cs.length:Int):=by omega
   exact zY
 have c1a:¬ l[k].1 < 1:=by omega
 have c1b:¬ l[k].1 > (p.cs.length:Int):=by omega
 have hck:(l[k].1 - 1).toNat < p.cs.length:=by omega
 have hfe:dJ p.cs l[k].1=p.cs[(l[k].1 - 1).toNat].2.1:=by
  have:=BQ hck
  rw [← this];congr 1;omega
 refine kT ?_
 by_cases c2:l[k].2.1 < 0∨dJ p.cs l[k].1 < l[k].2.1
 ·rw [CW c1 c2,if_pos (by decide)] at hE
  rw [hE]
  rw [hfe] at c2
  by_cases c:l[k].2.1 < 0
  ·refine W.OE bD bD ?_
   exact TM
  ·have c':l[k].2.1 > p.cs[(l[k].1 - 1).toNat].2.1:=by omega
   refine iF ?_
   exact TM
 have c2a:¬ l[k].2.1 < 0:=by omega
 have c2b:¬ l[k].2.1 > p.cs[(l[k].1 - 1).toNat].2.1:=by rw [← hfe];omega
 refine iF ?_
 refine ajQ ?_
 refine W.meet ⟨[(1,.sc (.int .i64 i)),(2,.pt 0 0 0),(5,.pt 1 0 0),(6,.sc (.int .i64 k)),(7,.pt 2 0 0),(93,.sc (.bool (decide (l[k].1≤lastOf l k))))],[(0,.box 30 (bK p).cells),(1,.box 90 [.sc (.bool p.evs[i].bar),.sc (.int .i64 p.evs[i].val),.sc (.bool p.evs[i].dot),.sc (.bool p.evs[i].three),.sc (.bool p.evs[i].tie),.ls 5 (l.map aC)]),(2,.box 69 (aC l[k]))],3⟩ ?_ ?_
 ·by_cases h0:k=0
  ·rw [asG h0,cZ (by omega)]
   have h0':¬ (k:Int) > 0:=by omega
   refine iF ?_
   refine Xz ?_
   exact uX
  ·rw [avP (by omega)]
   have h0':(k:Int) > 0:=by omega
   have ek:((k:Int) - 1).toNat=k - 1:=by omega
   refine iF ?_
   refine Xz ?_
   simp only [ek]
   exact uX
 by_cases c3:l[k].1≤lastOf l k
 ·rw [Hy c1 c2 c3,if_pos (by decide)] at hE
  rw [hE,dG c3]
  exact zY
 rw [cZ c3]
 by_cases c4:(l[k].2.2.1 < 0∨3 < l[k].2.2.1)∨(l[k].2.2.2.1 < 0∨4 < l[k].2.2.2.1)
 ·rw [tY c1 c2 c3 c4,if_pos (by decide)] at hE
  rw [hE]
  by_cases d1:l[k].2.2.1 < 0
  ·exact zY
  by_cases d2:l[k].2.2.1 > 3
  ·exact zY
  by_cases d3:l[k].2.2.2.1 < 0
  ·exact zY
  ·have d4:l[k].2.2.2.1 > 4:=by omega
   exact zY
 have d1:¬ l[k].2.2.1 < 0:=by omega
 have d2:¬ l[k].2.2.1 > 3:=by omega
 have d3:¬ l[k].2.2.2.1 < 0:=by omega
 have d4:¬ l[k].2.2.2.1 > 4:=by omega
 refine kT ?_
 obtain ⟨z,hz⟩:∃ z:Int,(ah p.evs i l[k].1:Int)=z:=⟨_,rfl⟩
 rw [hz] at hLo
 by_cases c5:(l[k].2.2.2.2 < 0∨(ah p.evs i l[k].1:Int) < l[k].2.2.2.2)∨(0 < l[k].2.2.2.2∧l[k].2.1=0)
 ·rw [xY c1 c2 c3 c4 c5,if_pos (by decide)] at hE
  rw [hE]
  rw [hz] at c5
  by_cases e1:l[k].2.2.2.2 < 0
  ·refine W.OE bD bD ?_
   exact TM
  by_cases e2:l[k].2.2.2.2 > z
  ·refine W.OE bD bD ?_
   exact alQ
  ·have e3:l[k].2.2.2.2 > 0:=by omega
   have e4:l[k].2.1=0:=by omega
   refine iF ?_
   exact alQ
 have hok:gQ p i l[k] (lastOf l k)=0:=zF c1 c2 c3 c4 c5
 rw [hok,if_neg (by decide),← hls] at hE
 rw [hz] at c5
 have e1:¬ l[k].2.2.2.2 < 0:=by omega
 have e2:¬ l[k].2.2.2.2 > z:=by omega
 by_cases e3:l[k].2.2.2.2 > 0
 ·have e4:¬ l[k].2.1=0:=by omega
  refine iF ?_
  exact aj1
 ·refine W.OE bD bD ?_
  exact aj1
theorem ae3 (p:aS) (hO:jm p):aU Tryz.prog 15 [bK p] (.sc (.int .i64 (aV p))):=by
 have hn3:=hO.n3
 have hI:=Sl p.cs p.st
 by_cases h0:fU p.cs p.st=0
 rotate_left
 ·rw [Wy h0]
  obtain ⟨E,hE⟩:∃ E,fU p.cs p.st=E:=⟨_,rfl⟩
  rw [hE] at hI h0 ⊢
  exact aro
 rw [h0] at hI
 by_cases h4:400 < p.evs.length
 ·rw [PN (by omega) h4]
  have h4':(p.evs.length:Int) > 400:=by omega
  exact aro
 rw [Wx (by omega) h4]
 refine jl Tryz.func15 Tryz.ntmps15 fun w0 F0=>?_;dsimp only [St.init,number,Nat.reduceAdd]
 refine MR ?_
 refine WL.vl rfl (bZ Tryz.func56 hI) ?_
 refine MR ?_
 refine W.loop (fun k:Nat=>k≤p.evs.length∧yL p 0 p.evs=yL p k (p.evs.drop k)) (fun k=>⟨[(1,.pt 0 0 0),(4,.sc (.int .i64 k))],[(0,.box 30 (bK p).cells)],1⟩) (fun k=>p.evs.length - k) 0 ⟨by omega,rfl⟩ (zqt id) fun k hk=>?_
 obtain ⟨hk,hE⟩:=hk
 by_cases hlt:k < p.evs.length
 rotate_left
 ·obtain rfl:k=p.evs.length:=by omega
  rw [List.drop_length] at hE
  rw [show yL p 0 p.evs=0 from hE]
  exact Ny
 rw [abk hlt] at hE
 have hEv:=ae4 p k hlt hO
 obtain ⟨z,hz⟩:∃ z,AY p k p.evs[k]=z:=⟨_,rfl⟩
 rw [hz] at hE hEv
 refine MR ?_
 refine WL.vl rfl (bZ Tryz.func57 hEv) ?_
 by_cases hz0:z=0
 ·rw [if_neg (by omega)] at hE
  refine MR ?_
  exact ⟨k+1,⟨by omega,hE⟩,by omega,(zqt id)⟩
 ·rw [if_pos hz0] at hE
  rw [hE]
  exact Ny
end Go.Proofs.YthehkchjdkdbiaaGreatDoor
