/- Check of a piece: the reference, over trees. -/
import Derived.Test.YthehkchjdkdbiaaGreatDoorGXGq
set_option maxHeartbeats 8000000
set_option maxRecDepth 100000
set_option linter.unusedVariables false
set_option linter.unusedSimpArgs false
namespace Go.Proofs.YthehkchjdkdbiaaGreatDoor
open Go.RowKit
def lastOf (l:List Stp) (k:Nat):Int:=if k=0 then 0 else (l.getD (k-1) (0,0,0,0,0)).1
theorem lastOf_succ {l:List Stp} {k:Nat} (h:k<l.length):lastOf l (k+1)=l[k].1:=by
 unfold lastOf
 rw [if_neg (by omega),Nat.add_sub_cancel,List.getD_eq_getElem?_getD,List.getElem?_eq_getElem h];rfl
theorem evE_sign' {p:Pce} {i:Int} {e:Ev} (h:sgOk e.val e.dot e.three=false∨(i=0∧e.val=0)):evE p i e=20:=if_pos h
theorem evE_tie' {p:Pce} {i:Int} {e:Ev} (h:¬ (sgOk e.val e.dot e.three=false∨(i=0∧e.val=0)))(h1:e.tie=true∧(0<e.stops.length∨i=0)):evE p i e=21:=by unfold evE;rw [if_neg h,if_pos h1]
theorem evE_stops' {p:Pce} {i:Int} {e:Ev} (h:¬ (sgOk e.val e.dot e.three=false∨(i=0∧e.val=0)))(h1:¬ (e.tie=true∧(0<e.stops.length∨i=0))):evE p i e=stopsE p i 0 e.stops:=by unfold evE;rw [if_neg h,if_neg h1]
theorem rEvent_FS (p:Pce) (i:Nat) (hi:i < p.evs.length) (hO:PcOk p):Ctr Tryz.prog 57 [ePce p,.sc (.int .i64 i)] (.sc (.int .i64 (evE p i p.evs[i]))):=by
 have h20:=hO.n4 i hi
 have hn3:=hO.n3
 have hn1:=hO.n1
 have hR:=rRight2_FS p.evs[i].val p.evs[i].dot p.evs[i].three
 by_cases hA:sgOk p.evs[i].val p.evs[i].dot p.evs[i].three=false∨((i:Int)=0∧p.evs[i].val=0)
 ·rw [evE_sign' hA]
  by_cases hs:sgOk p.evs[i].val p.evs[i].dot p.evs[i].three=false
  ·rw [hs] at hR
   refine zqe Tryz.func57 Tryz.ntmps57 fun w0 F0=>?_;dsimp only [St.init,number,Nat.reduceAdd]
   refine zqg55 ?_
   refine WL.vl rfl (zqc Tryz.func113 hR) ?_
   refine zqg55 ?_
   exact W.ret zqr
  ·obtain ⟨h1,h2⟩:=hA.resolve_left hs
   rw [show sgOk p.evs[i].val p.evs[i].dot p.evs[i].three=true by simpa using hs] at hR
   refine zqe Tryz.func57 Tryz.ntmps57 fun w0 F0=>?_;dsimp only [St.init,number,Nat.reduceAdd]
   refine zqg55 ?_
   refine WL.vl rfl (zqc Tryz.func113 hR) ?_
   refine zqg55 ?_
   exact W.ret zqr
 have hs:sgOk p.evs[i].val p.evs[i].dot p.evs[i].three=true:=by
  cases h:sgOk p.evs[i].val p.evs[i].dot p.evs[i].three with
  | true=>rfl
  | false=>exact absurd (.inl h) hA
 rw [hs] at hR
 refine zqe Tryz.func57 Tryz.ntmps57 fun w0 F0=>?_;dsimp only [St.init,number,Nat.reduceAdd]
 refine zqg55 ?_
 refine WL.meet2 ⟨[(1,.sc (.int .i64 i)),(2,.pt 0 0 0),(5,.pt 1 0 0)],[(0,.box 30 (ePce p).cells),(1,.box 90 (eEv p.evs[i]))],2⟩ ?_ ?_
 ·refine WL.vl rfl (zqc Tryz.func113 hR) ?_
  by_cases h1:(i:Int)=0
  ·have h2:¬ p.evs[i].val=0:=fun h=>hA (.inr ⟨h1,h⟩)
   refine zqg55 ?_
   refine (?_:Tr _ _ _)
   exact (zqt id)
  ·refine zqg55 ?_
   refine (?_:Tr _ _ _)
   exact (zqt id)
 by_cases hB:p.evs[i].tie=true∧(0 < p.evs[i].stops.length∨(i:Int)=0)
 ·rw [evE_tie' hA hB]
  obtain ⟨h1,h2⟩:=hB
  refine zqg55 ?_
  rw [h1]
  by_cases h3:0 < p.evs[i].stops.length
  ·refine zqg55 ?_
   exact W.ret zqr
  ·have h4:=h2.resolve_left h3
   refine zqg55 ?_
   exact W.ret zqr
 rw [evE_stops' hA hB]
 refine zqg55 ?_
 refine WL.meet2 ⟨[(1,.sc (.int .i64 i)),(2,.pt 0 0 0),(5,.pt 1 0 0)],[(0,.box 30 (ePce p).cells),(1,.box 90 (eEv p.evs[i]))],2⟩ ?_ ?_
 ·cases h1:p.evs[i].tie with
  | true =>
   have h2:¬ 0 < p.evs[i].stops.length:=fun h=>hB ⟨h1,.inl h⟩
   have h3:¬ (i:Int)=0:=fun h=>hB ⟨h1,.inr h⟩
   refine zqg55 ?_
   refine (?_:Tr _ _ _)
   exact (zqt id)
  | false =>
   refine zqg55 ?_
   refine (?_:Tr _ _ _)
   exact (zqt id)
 obtain ⟨l,hl⟩:∃ l,p.evs[i].stops=l:=⟨_,rfl⟩
 have hev:eEv p.evs[i]=[.sc (.bool p.evs[i].bar),.sc (.int .i64 p.evs[i].val),.sc (.bool p.evs[i].dot),.sc (.bool p.evs[i].three),.sc (.bool p.evs[i].tie),.ls 5 (l.map eStp)]:=by rw [← hl];rfl
 rw [hl] at h20
 rw [hev,hl]
 refine zqg55 ?_
 refine W.loop (fun k:Nat=>k≤l.length∧stopsE p i 0 l=stopsE p i (lastOf l k) (l.drop k)) (fun k=>⟨[(1,.sc (.int .i64 i)),(2,.pt 0 0 0),(5,.pt 1 0 0),(6,.sc (.int .i64 k))],[(0,.box 30 (ePce p).cells),(1,.box 90 [.sc (.bool p.evs[i].bar),.sc (.int .i64 p.evs[i].val),.sc (.bool p.evs[i].dot),.sc (.bool p.evs[i].three),.sc (.bool p.evs[i].tie),.ls 5 (l.map eStp)])],2⟩) (fun k=>l.length - k) 0 ⟨by omega,rfl⟩ (zqt id) fun k hk=>?_
 obtain ⟨hk,hE⟩:=hk
 by_cases hlt:k < l.length
 rotate_left
 ·obtain rfl:k=l.length:=by omega
  rw [List.drop_length] at hE
  rw [show stopsE p i 0 l=0 from hE]
  refine zqg55 ?_
  exact W.ret zqr
 rw [stopsE_at hlt] at hE
 have hls:=lastOf_succ hlt
 have hLo:=rLong_FS p hO i l[k].1
 have hprev:∀ h:0 < k,lastOf l k=(l[k - 1]' zqo).1:=fun h=>by
  unfold lastOf
  rw [if_neg (by omega),List.getD_eq_getElem?_getD,List.getElem?_eq_getElem (by omega)];rfl
 have hlast0:k=0→lastOf l k=0:=fun h=>if_pos h
 by_cases c1:l[k].1 < 1∨(p.cs.length:Int) < l[k].1
 ·rw [stopE_crs c1,if_pos (by decide)] at hE
  rw [hE]
  by_cases c:l[k].1 < 1
  ·refine zqg55 ?_
   exact W.ret zqr
  ·have c':l[k].1 > (p.cs.length:Int):=by omega
   refine zqg55 ?_
   exact W.ret zqr
 have c1a:¬ l[k].1 < 1:=by omega
 have c1b:¬ l[k].1 > (p.cs.length:Int):=by omega
 have hck:(l[k].1 - 1).toNat < p.cs.length:=by omega
 have hfe:fretsOf p.cs l[k].1=p.cs[(l[k].1 - 1).toNat].2.1:=by
  have:=fretsOf_at hck
  rw [← this];congr 1;omega
 refine zqg55 ?_
 by_cases c2:l[k].2.1 < 0∨fretsOf p.cs l[k].1 < l[k].2.1
 ·rw [stopE_fret c1 c2,if_pos (by decide)] at hE
  rw [hE]
  rw [hfe] at c2
  by_cases c:l[k].2.1 < 0
  ·refine W.drawK zqk zqk ?_
   refine zqg56 ?_
   refine zqg55 ?_
   exact W.ret zqr
  ·have c':l[k].2.1 > p.cs[(l[k].1 - 1).toNat].2.1:=by omega
   refine W.drawK zqk zqk ?_
   refine zqg56 ?_
   refine zqg55 ?_
   exact W.ret zqr
 have c2a:¬ l[k].2.1 < 0:=by omega
 have c2b:¬ l[k].2.1 > p.cs[(l[k].1 - 1).toNat].2.1:=by rw [← hfe];omega
 refine W.drawK zqk zqk ?_
 refine zqg56 ?_
 refine zqg55 ?_
 refine W.meet ⟨[(1,.sc (.int .i64 i)),(2,.pt 0 0 0),(5,.pt 1 0 0),(6,.sc (.int .i64 k)),(7,.pt 2 0 0),(93,.sc (.bool (decide (l[k].1≤lastOf l k))))],[(0,.box 30 (ePce p).cells),(1,.box 90 [.sc (.bool p.evs[i].bar),.sc (.int .i64 p.evs[i].val),.sc (.bool p.evs[i].dot),.sc (.bool p.evs[i].three),.sc (.bool p.evs[i].tie),.ls 5 (l.map eStp)]),(2,.box 69 (eStp l[k]))],3⟩ ?_ ?_
 ·by_cases h0:k=0
  ·rw [hlast0 h0,decide_eq_false (by omega)]
   have h0':¬ (k:Int) > 0:=by omega
   refine W.drawK zqk zqk ?_
   refine zqg56 ?_
   refine (?_:Tr _ _ _)
   exact (zqt id)
  ·rw [hprev (by omega)]
   have h0':(k:Int) > 0:=by omega
   have ek:((k:Int) - 1).toNat=k - 1:=by omega
   refine W.drawK zqk zqk ?_
   refine zqg56 ?_
   simp only [ek]
   refine (?_:Tr _ _ _)
   exact (zqt id)
 by_cases c3:l[k].1≤lastOf l k
 ·rw [stopE_order c1 c2 c3,if_pos (by decide)] at hE
  rw [hE,decide_eq_true c3]
  refine zqg55 ?_
  exact W.ret zqr
 rw [decide_eq_false c3]
 by_cases c4:(l[k].2.2.1 < 0∨3 < l[k].2.2.1)∨(l[k].2.2.2.1 < 0∨4 < l[k].2.2.2.1)
 ·rw [stopE_mark c1 c2 c3 c4,if_pos (by decide)] at hE
  rw [hE]
  by_cases d1:l[k].2.2.1 < 0
  ·refine zqg55 ?_
   exact W.ret zqr
  by_cases d2:l[k].2.2.1 > 3
  ·refine zqg55 ?_
   exact W.ret zqr
  by_cases d3:l[k].2.2.2.1 < 0
  ·refine zqg55 ?_
   exact W.ret zqr
  ·have d4:l[k].2.2.2.1 > 4:=by omega
   refine zqg55 ?_
   exact W.ret zqr
 have d1:¬ l[k].2.2.1 < 0:=by omega
 have d2:¬ l[k].2.2.1 > 3:=by omega
 have d3:¬ l[k].2.2.2.1 < 0:=by omega
 have d4:¬ l[k].2.2.2.1 > 4:=by omega
 refine zqg55 ?_
 obtain ⟨z,hz⟩:∃ z:Int,(longestN p.evs i l[k].1:Int)=z:=⟨_,rfl⟩
 rw [hz] at hLo
 by_cases c5:(l[k].2.2.2.2 < 0∨(longestN p.evs i l[k].1:Int) < l[k].2.2.2.2)∨(0 < l[k].2.2.2.2∧l[k].2.1=0)
 ·rw [stopE_hold c1 c2 c3 c4 c5,if_pos (by decide)] at hE
  rw [hE]
  rw [hz] at c5
  by_cases e1:l[k].2.2.2.2 < 0
  ·refine W.drawK zqk zqk ?_
   refine zqg56 ?_
   refine zqg55 ?_
   exact W.ret zqr
  by_cases e2:l[k].2.2.2.2 > z
  ·refine W.drawK zqk zqk ?_
   refine zqg56 ?_
   refine DK.vl rfl (zqc Tryz.func102 hLo) ?_
   refine zqg56 ?_
   refine zqg55 ?_
   exact W.ret zqr
  ·have e3:l[k].2.2.2.2 > 0:=by omega
   have e4:l[k].2.1=0:=by omega
   refine W.drawK zqk zqk ?_
   refine zqg56 ?_
   refine DK.vl rfl (zqc Tryz.func102 hLo) ?_
   refine zqg56 ?_
   refine zqg55 ?_
   exact W.ret zqr
 have hok:stopE p i l[k] (lastOf l k)=0:=stopE_ok c1 c2 c3 c4 c5
 rw [hok,if_neg (by decide),← hls] at hE
 rw [hz] at c5
 have e1:¬ l[k].2.2.2.2 < 0:=by omega
 have e2:¬ l[k].2.2.2.2 > z:=by omega
 by_cases e3:l[k].2.2.2.2 > 0
 ·have e4:¬ l[k].2.1=0:=by omega
  refine W.drawK zqk zqk ?_
  refine zqg56 ?_
  refine DK.vl rfl (zqc Tryz.func102 hLo) ?_
  refine zqg56 ?_
  refine zqg55 ?_
  exact ⟨k+1,⟨by omega,hE⟩,by omega,(zqt id)⟩
 ·refine W.drawK zqk zqk ?_
  refine zqg56 ?_
  refine DK.vl rfl (zqc Tryz.func102 hLo) ?_
  refine zqg56 ?_
  refine zqg55 ?_
  exact ⟨k+1,⟨by omega,hE⟩,by omega,(zqt id)⟩
theorem rCheck_FS (p:Pce) (hO:PcOk p):Ctr Tryz.prog 15 [ePce p] (.sc (.int .i64 (pceE p))):=by
 have hn3:=hO.n3
 have hI:=rInsCheck_FS p.cs p.st
 by_cases h0:insE p.cs p.st=0
 rotate_left
 ·rw [pceE_ins h0]
  obtain ⟨E,hE⟩:∃ E,insE p.cs p.st=E:=⟨_,rfl⟩
  rw [hE] at hI h0 ⊢
  refine zqe Tryz.func15 Tryz.ntmps15 fun w0 F0=>?_;dsimp only [St.init,number,Nat.reduceAdd]
  refine zqg45 ?_
  refine WL.vl rfl (zqc Tryz.func56 hI) ?_
  refine zqg45 ?_
  exact W.ret zqr
 rw [h0] at hI
 by_cases h4:400 < p.evs.length
 ·rw [pceE_many (by omega) h4]
  have h4':(p.evs.length:Int) > 400:=by omega
  refine zqe Tryz.func15 Tryz.ntmps15 fun w0 F0=>?_;dsimp only [St.init,number,Nat.reduceAdd]
  refine zqg45 ?_
  refine WL.vl rfl (zqc Tryz.func56 hI) ?_
  refine zqg45 ?_
  exact W.ret zqr
 rw [pceE_evs (by omega) h4]
 refine zqe Tryz.func15 Tryz.ntmps15 fun w0 F0=>?_;dsimp only [St.init,number,Nat.reduceAdd]
 refine zqg45 ?_
 refine WL.vl rfl (zqc Tryz.func56 hI) ?_
 refine zqg45 ?_
 refine W.loop (fun k:Nat=>k≤p.evs.length∧evsE p 0 p.evs=evsE p k (p.evs.drop k)) (fun k=>⟨[(1,.pt 0 0 0),(4,.sc (.int .i64 k))],[(0,.box 30 (ePce p).cells)],1⟩) (fun k=>p.evs.length - k) 0 ⟨by omega,rfl⟩ (zqt id) fun k hk=>?_
 obtain ⟨hk,hE⟩:=hk
 by_cases hlt:k < p.evs.length
 rotate_left
 ·obtain rfl:k=p.evs.length:=by omega
  rw [List.drop_length] at hE
  rw [show evsE p 0 p.evs=0 from hE]
  refine zqg45 ?_
  exact W.ret zqr
 rw [evsE_at hlt] at hE
 have hEv:=rEvent_FS p k hlt hO
 obtain ⟨z,hz⟩:∃ z,evE p k p.evs[k]=z:=⟨_,rfl⟩
 rw [hz] at hE hEv
 refine zqg45 ?_
 refine WL.vl rfl (zqc Tryz.func57 hEv) ?_
 by_cases hz0:z=0
 ·rw [if_neg (by omega)] at hE
  refine zqg45 ?_
  exact ⟨k+1,⟨by omega,hE⟩,by omega,(zqt id)⟩
 ·rw [if_pos hz0] at hE
  rw [hE]
  refine zqg45 ?_
  exact W.ret zqr
end Go.Proofs.YthehkchjdkdbiaaGreatDoor
