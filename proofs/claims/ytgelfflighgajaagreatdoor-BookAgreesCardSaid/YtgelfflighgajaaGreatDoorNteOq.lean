/- sound: the notes of a piece. -/
import Derived.Test.YtgelfflighgajaaGreatDoorFZOq
import Derived.Test.YtgelfflighgajaaGreatDoorG3Oq
import Derived.Test.YtgelfflighgajaaGreatDoorVaPOq
set_option maxHeartbeats 8000000
set_option maxRecDepth 100000
set_option linter.unusedVariables false
set_option linter.unusedSimpArgs false
namespace Go.Proofs.YtgelfflighgajaaGreatDoor
open Go.RowKit
theorem stopAll_ok {s:NS} (h:NsOk s)(t:Int):∀ k,NsOk (stopAll t k s)∧(stopAll t k s).out.length=s.out.length
 | 0=>⟨h,rfl⟩
 | k+1=>by
  obtain⟨h1,h2⟩:=stopAll_ok h t k
  obtain⟨h3,h4⟩:=stopN_ok h1 k t
  exact⟨h3,h4.trans h2⟩
theorem addN_ok {p:Pce} {i:Nat} {x:Stp} {s:NS} (h:NsOk s)(hx:1≤x.1∧x.1≤14)(hl:s.out.length<10000):NsOk (addN p i x s)∧(addN p i x s).out.length=s.out.length+1:=by
 obtain⟨h1,h2⟩:=stopN_ok h x.1.toNat (onsAt p.evs i)
 unfold addN
 refine⟨⟨?_,fun c=>?_,by simp;omega⟩,by simp;omega⟩
 ·dsimp only
  split
  ·exact h1.len
  ·simpa using h1.len
 ·have h3:=h1.rng c
  dsimp only
  rw [List.length_append]
  split
  ·simp only [List.length_singleton];omega
  ·by_cases e:x.1.toNat=c
   ·subst e
    simp only [List.getD_eq_getElem?_getD]
    rw [List.getElem?_set_self (by rw [h1.len];omega)]
    simp;omega
   ·simp only [List.getD_eq_getElem?_getD]at h3 ⊢
    rw [List.getElem?_set_ne e]
    simp only [List.length_singleton];omega
theorem addQ_ok {p:Pce} {k:Nat} {l:List Stp} {s:NS} (h:NsOk s) (hx:∀ x∈l,1≤x.1∧x.1≤14) (hl:s.out.length+l.length<10000):∀ q,q≤l.length→NsOk (addQ p k l s q)∧(addQ p k l s q).out.length=s.out.length+q
 | 0,_=>⟨h,rfl⟩
 | q+1,hq=>by
  obtain ⟨h1,h2⟩:=addQ_ok h hx hl q zqo
  have e:addQ p k l s (q+1)=addN p k l[q] (addQ p k l s q):=by
   show (match l[q]? with|some x=>addN p k x (addQ p k l s q)|none=>addQ p k l s q)=_
   rw [List.getElem?_eq_getElem (by omega)]
  rw [e]
  obtain ⟨h3,h4⟩:=addN_ok (p:=p) (i:=k) h1 (hx l[q] (List.getElem_mem _)) (by omega)
  exact ⟨h3,by omega⟩
theorem openN_ok {p:Pce} {k:Nat} {e:Ev} {s:NS} (h:NsOk s):NsOk (openN p k e s)∧(openN p k e s).out.length=s.out.length:=by
 unfold openN
 split
 ·exact stopAll_ok h _ 15
 ·exact⟨h,rfl⟩
theorem nts_at {p:Pce} {k:Nat} (hk:k<p.evs.length):nts p (k+1)=addQ p k p.evs[k].stops (openN p k p.evs[k] (nts p k)) p.evs[k].stops.length:=by
 show (match p.evs[k]? with|some e=>_|none=>_)=_
 rw [List.getElem?_eq_getElem hk]
theorem prsQ_at {p:Pce} {k:Nat} (hk:k<p.evs.length):prsQ p (k+1)=prsQ p k++p.evs[k].stops.map (prsN p k):=by
 show (match p.evs[k]? with|some e=>_|none=>_)=_
 rw [List.getElem?_eq_getElem hk]
theorem nts_ok {p:Pce} (hO:PcOk p) (h0:pceE p=0):∀ k,k≤p.evs.length→NsOk (nts p k)∧(nts p k).out.length≤20*k
 | 0,_=>⟨⟨by simp [nts],fun c=>by
   have e:(nts p 0).ring.getD c 0=0:=by
    show (List.replicate 15 (0:Int)).getD c 0=0
    rw [List.getD_eq_getElem?_getD,List.getElem?_replicate]
    split<;>rfl
   rw [e];exact ⟨Int.le_refl 0,Int.le_refl 0⟩,by simp [nts]⟩,by simp [nts]⟩
 | k+1,hk=>by
  obtain ⟨h1,h2⟩:=nts_ok hO h0 k zqo
  have hk':k<p.evs.length:=by omega
  have hn:=hO.n3
  have h20:=hO.n4 k hk'
  obtain ⟨h3,h4⟩:=openN_ok (p:=p) (k:=k) (e:=p.evs[k]) h1
  obtain ⟨h5,h6⟩:=addQ_ok (p:=p) (k:=k) h3 (fun x hx=>⟨((evOk_of h0 hk').stops x hx).crs.1,((evOk_of h0 hk').stops x hx).c14⟩) zqo p.evs[k].stops.length (Nat.le_refl _)
  rw [nts_at hk']
  exact ⟨h5,by omega⟩
theorem prsQ_len {p:Pce} (hO:PcOk p):∀ k,k≤p.evs.length→(prsQ p k).length≤20*k
 | 0,_=>by simp [prsQ]
 | k+1,hk=>by
  have h1:=prsQ_len hO k zqo
  have h20:=hO.n4 k zqo
  rw [prsQ_at (by omega)]
  simp;omega
theorem stopZ_FS (z:Int)(t:Int)(s:NS)(hz:1≤z∧z≤14)(h:NsOk s) :
  Cto truB 0 Tryz.prog 230 [.sc (.int .i64 z),.sc (.int .i64 t),.pt 0 0 0,.pt 1 0 0]
   [(0,.box 328 (eRing s.ring)),(1,.box 227 [.sl 2]),(2,.row 233 5 (s.out.map eNt))] 3 (.tu [])
   [(0,.box 328 (eRing (stopN z.toNat t s).ring)),(1,.box 227 [.sl 2]),(2,.row 233 5 ((stopN z.toNat t s).out.map eNt))] 3:=by
 obtain⟨c,rfl⟩:∃ c:Nat,z=c:=⟨z.toNat,by omega⟩
 rw [Int.toNat_natCast]
 exact stop_FS c t s zqo h
theorem onsL_at {evs:List Ev} {n i:Nat} (h:i≤n):(onsL evs n)[i]?=some (onsAt evs i):=by
 unfold onsL
 rw [List.getElem?_map,List.getElem?_range (by omega)];rfl
theorem onsL_get {evs:List Ev} {n i:Nat} (h:i≤n)(h2:i<(onsL evs n).length):(onsL evs n)[i]=onsAt evs i:=by
 have:=onsL_at (evs:=evs) h
 rw [List.getElem?_eq_getElem h2] at this
 exact Option.some.inj this
theorem notes_FS (p:Pce) (hO:PcOk p) (h0:pceE p=0):Ctr Tryz.prog 209 [eSnd p] (.tu [.ls 5 ((nts p p.evs.length).out.map eNt),.ls 5 ((prsQ p p.evs.length).map eNt)]):=by
 have hn:=hO.n3
 have hl:(onsL p.evs p.evs.length).length=p.evs.length+1:=onsL_length _ _
 have hE:=end_FS p hO h0
 have hSt:=stay_FS p hO h0
 obtain ⟨hI,hn4,_⟩:=pceE_zero h0
 obtain ⟨i1,i2,i3,i4,i5⟩:=insE_len hI
 rw [eSnd_ok h0] at hE hSt ⊢
 unfold sndL at hE hSt ⊢
 refine zqe Tryz.func209 Tryz.ntmps209 fun w0 F0=>?_;dsimp only [St.init,number,Nat.reduceAdd]
 repeat refine W.go rfl ?_
 refine (?_:WL _ _ _ _ _ _)
 refine WL.vl rfl (WV.mkf rfl rfl) ?_
 repeat (first|refine W.go rfl ?_|refine WL.ev rfl ?_|refine WL.len rfl rfl zql ?_)
 refine (?_:W _ _ _ _ _)
 refine W.tr (Tr.nilBox (k:=1) (j:=0) 233 5 rfl rfl rfl rfl) ?_
 refine W.tr (Tr.nil (t:=5) 332 5 rfl rfl) ?_
 dsimp only [St.put,St.new,St.upd,Nat.reduceAdd]
 refine W.loop (fun k:Nat=>k≤p.evs.length) (fun k=>⟨[(1,.pt 0 0 0),(4,.pt 1 0 0),(5,.sl 4),(6,.pt 2 0 0),(7,.fn 230 [.pt 2 0 0,.pt 1 0 0]),(20,.ls 6 (p.evs.map eEv)),(21,.sc (.int .i64 p.evs.length)),(22,.sc (.int .i64 k))],[(0,.box 294 [.ls 3 (p.cs.map eCrs),.ls 1 (p.st.map eInt),.ls 6 (p.evs.map eEv),.ls 1 ((onsL p.evs p.evs.length).map eInt)]),(1,.box 227 [.sl 3]),(2,.box 328 (eRing (nts p k).ring)),(3,.row 233 5 ((nts p k).out.map eNt)),(4,.row 332 5 ((prsQ p k).map eNt))],5⟩) (fun k=>p.evs.length - k) 0 zqo (zqt id) fun k hk=>?_
 obtain ⟨hok,hsz⟩:=nts_ok hO h0 k hk
 have hpl:=prsQ_len hO k hk
 by_cases hlt:k < p.evs.length
 rotate_left
 ·obtain rfl:k=p.evs.length:=by omega
  repeat (first|refine W.gob rfl ?_|refine WL.nil ?_|refine WL.bf rfl rfl rfl zqo ?_|refine WL.e1 rfl ?_|refine W.condF rfl ?_)
  refine (?_:W _ _ _ _ _)
  refine W.tr (Tr.freeze 3 rfl) ?_
  refine W.tr (Tr.freeze 4 rfl) ?_
  exact W.ret (finN rfl rfl rfl rfl)
 have h20:=hO.n4 k hlt
 have hev:=evOk_of h0 hlt
 have hons:(onsL p.evs p.evs.length)[k]' zqo=onsAt p.evs k:=onsL_get zqo _
 obtain ⟨hok2,hsz2⟩:=openN_ok (p:=p) (k:=k) (e:=p.evs[k]) hok
 repeat (first|refine W.gob rfl ?_|refine WL.nil ?_|refine WL.bt rfl rfl rfl zqo ?_|refine WL.e1 rfl ?_|refine WL.len rfl rfl zql ?_|refine WL.idx rfl rfl zqo zqm ?_|refine W.condT rfl ?_)
 refine (?_:WL _ _ _ _ _ _)
 rw [hons]
 refine WL.meet2 ⟨[(1,.pt 0 0 0),(4,.pt 1 0 0),(5,.sl 4),(6,.pt 2 0 0),(7,.fn 230 [.pt 2 0 0,.pt 1 0 0]),(20,.ls 6 (p.evs.map eEv)),(21,.sc (.int .i64 p.evs.length)),(22,.sc (.int .i64 k)),(8,.sc (.int .i64 k)),(9,.pt 5 0 0),(10,.sc (.int .i64 (onsAt p.evs k)))],[(0,.box 294 [.ls 3 (p.cs.map eCrs),.ls 1 (p.st.map eInt),.ls 6 (p.evs.map eEv),.ls 1 ((onsL p.evs p.evs.length).map eInt)]),(1,.box 227 [.sl 3]),(2,.box 328 (eRing (openN p k p.evs[k] (nts p k)).ring)),(3,.row 233 5 ((openN p k p.evs[k] (nts p k)).out.map eNt)),(4,.row 332 5 ((prsQ p k).map eNt)),(5,.box 36 (eEv p.evs[k]))],6⟩ ?_ ?_
 ·refine WL.partG rfl rfl rfl rfl (fun hp=>?_) (fun hp=>?_)
  ·have hp:=of_decide_eq_true hp
   repeat (first|refine WL.ev rfl ?_|refine WL.gyes rfl rfl rfl rfl ?_)
   refine (?_:W _ _ _ _ _)
   (refine W.cond rfl (fun hif=>?_) (fun hif=>?_)<;>(try simp only [decide_eq_true_eq,decide_eq_false_iff_not,Int.not_lt,Int.not_le,Bool.not_eq_true',Bool.not_eq_false'] at hif))
   ·have hr:restB p.evs[k]=true:=by unfold restB;simp [hif];exact List.eq_nil_of_length_eq_zero (by omega)
    have ho:openN p k p.evs[k] (nts p k)=stopAll (onsAt p.evs k) 15 (nts p k):=if_pos hr
    rw [ho]
    repeat refine W.go rfl ?_
    refine (?_:W _ _ _ _ _)
    refine W.loop (fun c:Nat=>c≤15) (fun c=>⟨[(1,.pt 0 0 0),(4,.pt 1 0 0),(5,.sl 4),(6,.pt 2 0 0),(7,.fn 230 [.pt 2 0 0,.pt 1 0 0]),(20,.ls 6 (p.evs.map eEv)),(21,.sc (.int .i64 p.evs.length)),(22,.sc (.int .i64 k)),(8,.sc (.int .i64 k)),(9,.pt 5 0 0),(10,.sc (.int .i64 (onsAt p.evs k))),(41,.sc (.int .i64 c))],[(0,.box 294 [.ls 3 (p.cs.map eCrs),.ls 1 (p.st.map eInt),.ls 6 (p.evs.map eEv),.ls 1 ((onsL p.evs p.evs.length).map eInt)]),(1,.box 227 [.sl 3]),(2,.box 328 (eRing (stopAll (onsAt p.evs k) c (nts p k)).ring)),(3,.row 233 5 ((stopAll (onsAt p.evs k) c (nts p k)).out.map eNt)),(4,.row 332 5 ((prsQ p k).map eNt)),(5,.box 36 (eEv p.evs[k]))],6⟩) (fun c=>15 - c) 0 zqo (zqt id) fun c hc=>?_
    by_cases hc2:c < 15
    ·repeat (first|refine W.gob rfl ?_|refine WL.nil ?_|refine WL.bt rfl rfl rfl zqo ?_|refine WL.e1 rfl ?_|refine W.condT rfl ?_)
     refine (?_:WL _ _ _ _ _ _)
     refine WL.cto (truH _) [2,1,3] rfl rfl (callF Tryz.func230 rfl rfl) (stop_FS c (onsAt p.evs k) _ hc2 (stopAll_ok hok _ c).1) rfl rfl rfl ⟨⟨rfl,rfl,rfl⟩,⟨rfl,rfl,rfl⟩,⟨rfl,rfl,rfl⟩,trivial⟩ rfl rfl rfl rfl ?_
     repeat (first|refine W.gob rfl ?_|refine WL.nil ?_|refine WL.e1 rfl ?_|refine WL.ar rfl rfl (by unfold I64;omega) ?_)
     exact ⟨c+1,by omega,by omega,(zqt id)⟩
    ·obtain rfl:c=15:=by omega
     repeat (first|refine W.gob rfl ?_|refine WL.nil ?_|refine WL.bf rfl rfl rfl zqo ?_|refine W.condF rfl ?_)
     refine (?_:Tr _ _ _)
     exact (zqt id)
   ·have ho:openN p k p.evs[k] (nts p k)=nts p k:=if_neg (by unfold restB;simp [hif])
    rw [ho]
    repeat refine W.go rfl ?_
    refine (?_:Tr _ _ _)
    exact (zqt id)
  ·have hp:=of_decide_eq_false hp
   have ho:openN p k p.evs[k] (nts p k)=nts p k:=if_neg (by unfold restB;simp;intro h;rw [h] at hp;exact absurd rfl hp)
   rw [ho]
   repeat (first|refine W.go rfl ?_|refine WL.ev rfl ?_|refine WL.opno rfl rfl rfl rfl rfl rfl rfl ?_|refine W.condF rfl ?_)
   refine (?_:Tr _ _ _)
   exact (zqt id)
 repeat (first|refine W.go rfl ?_|refine WL.ev rfl ?_|refine WL.len rfl rfl zql ?_)
 refine (?_:W _ _ _ _ _)
 have hst:∀ x∈p.evs[k].stops,1≤x.1∧x.1≤14:=fun x hx=>⟨(hev.stops x hx).crs.1,(hev.stops x hx).c14⟩
 obtain ⟨S0,hS0⟩:∃ S0,openN p k p.evs[k] (nts p k)=S0:=⟨_,rfl⟩
 rw [hS0] at hok2 hsz2 ⊢
 refine W.loop (fun q:Nat=>q≤p.evs[k].stops.length) (fun q=>⟨[(1,.pt 0 0 0),(4,.pt 1 0 0),(5,.sl 4),(6,.pt 2 0 0),(7,.fn 230 [.pt 2 0 0,.pt 1 0 0]),(20,.ls 6 (p.evs.map eEv)),(21,.sc (.int .i64 p.evs.length)),(22,.sc (.int .i64 k)),(8,.sc (.int .i64 k)),(9,.pt 5 0 0),(10,.sc (.int .i64 (onsAt p.evs k))),(50,.ls 5 (p.evs[k].stops.map eStp)),(51,.sc (.int .i64 p.evs[k].stops.length)),(52,.sc (.int .i64 q))],[(0,.box 294 [.ls 3 (p.cs.map eCrs),.ls 1 (p.st.map eInt),.ls 6 (p.evs.map eEv),.ls 1 ((onsL p.evs p.evs.length).map eInt)]),(1,.box 227 [.sl 3]),(2,.box 328 (eRing (addQ p k p.evs[k].stops S0 q).ring)),(3,.row 233 5 ((addQ p k p.evs[k].stops S0 q).out.map eNt)),(4,.row 332 5 ((prsQ p k++(p.evs[k].stops.take q).map (prsN p k)).map eNt)),(5,.box 36 (eEv p.evs[k]))],6⟩) (fun q=>p.evs[k].stops.length - q) 0 (by omega) (zqu (fun q=>q) (by repeat (first|exact trivial|refine ⟨⟨?_,?_,?_⟩,?_⟩|rfl|exact congrArg (fun q=>some (AO.row _ _ q)) rfl|exact congrArg (fun q=>some (AO.row _ _ q)) (by simp))) rfl) fun q hq=>?_
 obtain ⟨hok3,hsz3⟩:=addQ_ok (p:=p) (k:=k) hok2 hst zqo q hq
 by_cases hqlt:q < p.evs[k].stops.length
 rotate_left
 ·obtain rfl:q=p.evs[k].stops.length:=by omega
  repeat (first|refine W.gob rfl ?_|refine WL.nil ?_|refine WL.bf rfl rfl rfl zqo ?_|refine WL.e1 rfl ?_|refine WL.ar rfl rfl (by unfold I64;omega) ?_|refine W.condF rfl ?_)
  refine ⟨k+1,by omega,by omega,?_⟩
  rw [nts_at hlt,hS0,prsQ_at hlt]
  exact (zqu (fun q=>q) (by repeat (first|exact trivial|refine ⟨⟨?_,?_,?_⟩,?_⟩|rfl|exact congrArg (fun q=>some (AO.row _ _ q)) rfl|exact congrArg (fun q=>some (AO.row _ _ q)) (by rw [List.take_length]))) rfl)
 obtain ⟨S,hS⟩:∃ S,addQ p k p.evs[k].stops S0 q=S:=⟨_,rfl⟩
 have hadd:addQ p k p.evs[k].stops S0 (q+1)=addN p k p.evs[k].stops[q] S:=by
  show (match p.evs[k].stops[q]? with|some x=>addN p k x (addQ p k p.evs[k].stops S0 q)|none=>addQ p k p.evs[k].stops S0 q)=_
  rw [List.getElem?_eq_getElem hqlt,hS]
 have htk:p.evs[k].stops.take (q+1)=p.evs[k].stops.take q++[p.evs[k].stops[q]]:=List.take_succ_eq_append_getElem hqlt
 have hso:=hev.stops _ (List.getElem_mem hqlt)
 rw [hS] at hok3 hsz3 ⊢
 repeat (first|refine W.gob rfl ?_|refine WL.nil ?_|refine WL.bt rfl rfl rfl zqo ?_|refine WL.e1 rfl ?_|refine WL.idx rfl rfl zqo zqm ?_|refine W.condT rfl ?_)
 refine (?_:WL _ _ _ _ _ _)
 obtain ⟨x,hx⟩:∃ x,p.evs[k].stops[q]=x:=⟨_,rfl⟩
 rw [hx] at hadd htk hso ⊢
 have hc1:=hso.crs
 have hc2:=hso.c14
 refine WL.cto (truH _) [2,1,3] rfl rfl (callF Tryz.func230 rfl rfl) (stopZ_FS x.1 (onsAt p.evs k) S ⟨by omega,by omega⟩ hok3) rfl rfl rfl ⟨⟨rfl,rfl,rfl⟩,⟨rfl,rfl,rfl⟩,⟨rfl,rfl,rfl⟩,trivial⟩ rfl rfl rfl rfl ?_
 obtain ⟨hok4,hsz4⟩:=stopN_ok hok3 x.1.toNat (onsAt p.evs k)
 obtain ⟨S1,hS1⟩:∃ S1,stopN x.1.toNat (onsAt p.evs k) S=S1:=⟨_,rfl⟩
 rw [hS1] at hok4 hsz4 ⊢
 refine WL.tr (σ':=⟨[(1,.pt 0 0 0),(4,.pt 1 0 0),(5,.sl 4),(6,.pt 2 0 0),(7,.fn 230 [.pt 2 0 0,.pt 1 0 0]),(20,.ls 6 (p.evs.map eEv)),(21,.sc (.int .i64 p.evs.length)),(22,.sc (.int .i64 k)),(8,.sc (.int .i64 k)),(9,.pt 5 0 0),(10,.sc (.int .i64 (onsAt p.evs k))),(50,.ls 5 (p.evs[k].stops.map eStp)),(51,.sc (.int .i64 p.evs[k].stops.length)),(52,.sc (.int .i64 q)),(13,.pt 6 0 0)],[(0,.box 294 [.ls 3 (p.cs.map eCrs),.ls 1 (p.st.map eInt),.ls 6 (p.evs.map eEv),.ls 1 ((onsL p.evs p.evs.length).map eInt)]),(1,.box 227 [.sl 3]),(2,.box 328 (eRing S1.ring)),(3,.row 233 5 (S1.out.map eNt)),(4,.row 332 5 ((prsQ p k++(p.evs[k].stops.take q).map (prsN p k)).map eNt)),(5,.box 36 (eEv p.evs[k])),(6,.box 100 (eStp x))],7⟩) (zqt id) ?_
 have hAt:=pAt_FS p.cs p.st x.1 x.2.1 hI hc1 hso.fret
 repeat (first|refine W.gob rfl ?_|refine WL.nil ?_|refine WL.e1 rfl ?_)
 refine (?_:WL _ _ _ _ _ _)
 refine WL.vl rfl (zqc Tryz.func231 hAt) ?_
 repeat (first|refine W.gob rfl ?_|refine WL.nil ?_|refine WL.e1 rfl ?_)
 refine (?_:W _ _ _ _ _)
 refine W.dmT2 9 [false,false,false,false,false,false,false,false,true] [0,6] zqk zqk zqk zqk zqk (by repeat constructor) ?_
 repeat refine DMK.st rfl rfl ?_
 refine DMK.v0 rfl (zqc Tryz.func232 hE) ?_
 repeat refine DMK.st rfl rfl ?_
 refine DMK.al rfl rfl rfl rfl (by repeat constructor) ?_
 repeat refine DMK.nil ?_
 refine ⟨rfl,?_⟩
 repeat (first|refine W.go rfl ?_|refine WL.ev rfl ?_)
 refine (?_:W _ _ _ _ _)
 have eout:(addN p k x S).out=S1.out++[noteN p k x]:=by unfold addN;rw [hS1]
 have hL:k+x.2.2.2.2.toNat+1≤p.evs.length:=by have:=longestN_end hlt x.1;have:=hso.hold;omega
 refine W.meet ⟨[(1,.pt 0 0 0),(4,.pt 1 0 0),(5,.sl 4),(6,.pt 2 0 0),(7,.fn 230 [.pt 2 0 0,.pt 1 0 0]),(20,.ls 6 (p.evs.map eEv)),(21,.sc (.int .i64 p.evs.length)),(22,.sc (.int .i64 k)),(8,.sc (.int .i64 k)),(9,.pt 5 0 0),(10,.sc (.int .i64 (onsAt p.evs k))),(50,.ls 5 (p.evs[k].stops.map eStp)),(51,.sc (.int .i64 p.evs[k].stops.length)),(52,.sc (.int .i64 q)),(13,.pt 6 0 0),(16,.pt 7 0 0)],[(0,.box 294 [.ls 3 (p.cs.map eCrs),.ls 1 (p.st.map eInt),.ls 6 (p.evs.map eEv),.ls 1 ((onsL p.evs p.evs.length).map eInt)]),(1,.box 227 [.sl 3]),(2,.box 328 (eRing (addN p k x S).ring)),(3,.row 233 5 (S1.out.map eNt)),(4,.row 332 5 ((prsQ p k++(p.evs[k].stops.take q).map (prsN p k)).map eNt)),(5,.box 36 (eEv p.evs[k])),(6,.box 100 (eStp x)),(7,.box 233 (eNt (noteN p k x)))],8⟩ ?_ ?_
 ·(refine W.cond rfl (fun hif=>?_) (fun hif=>?_)<;>(try simp only [decide_eq_true_eq,decide_eq_false_iff_not,Int.not_lt,Int.not_le,Bool.not_eq_true',Bool.not_eq_false'] at hif))
  ·have en:noteN p k x=((k:Int),x.1,pitN p.cs p.st x.1 x.2.1,onsAt p.evs k,onsAt p.evs (stayN p.evs (k+x.2.2.2.2.toNat+1))):=by unfold noteN;rw [if_pos hif]
   have er:(addN p k x S).ring=S1.ring:=by unfold addN;rw [hS1,if_pos hif]
   rw [en,er]
   have hsy:=hSt k x.2.2.2.2 hso.hold.1 hL
   have hj:=stayN_le hL
   obtain ⟨J,hJ⟩:∃ J,stayN p.evs (k+x.2.2.2.2.toNat+1)=J:=⟨_,rfl⟩
   rw [hJ] at hsy hj ⊢
   have eJ:∀ h,(onsL p.evs p.evs.length)[((J:Int) - 1+1).toNat]'h=onsAt p.evs J:=fun h=>by
    have e:((J:Int) - 1+1).toNat=J:=by omega
    simp only [e];exact onsL_get hj.2 _
   refine W.dkT 11 zqk zqk zqk zqk ?_
   repeat refine DK.st rfl ?_
   refine DK.vl rfl (zqc Tryz.func233 hsy) ?_
   repeat (first|refine DK.st rfl ?_|refine DK.ar rfl rfl (by unfold I64;omega) ?_|refine DK.idx rfl rfl zqo zqm ?_|refine DK.nil ?_)
   simp only [eJ]
   refine ⟨trivial,?_⟩
   repeat refine WL.ev rfl ?_
   refine (?_:Tr _ _ _)
   exact (zqt id)
  ·have en:noteN p k x=((k:Int),x.1,pitN p.cs p.st x.1 x.2.1,onsAt p.evs k,onsAt p.evs p.evs.length):=by unfold noteN;rw [if_neg (by omega)]
   have er:(addN p k x S).ring=S1.ring.set x.1.toNat (S1.out.length+1):=by unfold addN;rw [hS1,if_neg (by omega)]
   rw [en,er]
   have hb4:=hok4.big
   repeat (first|refine W.gob rfl ?_|refine WL.e1 rfl ?_|refine WL.ar rfl rfl (by unfold I64;omega) ?_|refine WL.len rfl rfl zql ?_)
   refine (?_:WL _ _ _ _ _ _)
   refine WL.idp rfl rfl ⟨by omega,by omega⟩ (show 0+x.1.toNat*1=x.1.toNat by omega) ?_
   refine WL.stx rfl rfl rfl rfl (by rw [eRing_len];omega) ?_
   rw [eRing_set (by rw [hok4.len];omega)]
   repeat refine WL.nil ?_
   refine (?_:Tr _ _ _)
   exact (zqt id)
 have hb4:=hok4.big
 have h1:S1.out.map eNt++[eNt (noteN p k x)]=(addN p k x S).out.map eNt:=by rw [eout];simp
 have h2:(prsQ p k++(p.evs[k].stops.take q).map (prsN p k)).map eNt++[eNt (prsN p k x)]=(prsQ p k++(p.evs[k].stops.take q++[x]).map (prsN p k)).map eNt:=by simp
 repeat (first|refine W.go rfl ?_|refine WL.ev rfl ?_|refine WL.ar rfl rfl (by unfold I64;omega) ?_|refine WL.app rfl rfl rfl zqs ?_)
 refine ⟨q+1,by omega,by omega,?_⟩
 rw [hadd,htk]
 exact (zqu (fun q=>bif Nat.beq q 3 then 9 else bif Nat.beq q 4 then 11 else q) (by repeat (first|exact trivial|refine ⟨⟨?_,?_,?_⟩,?_⟩|rfl|exact congrArg (fun q=>some (AO.row _ _ q)) h1|exact congrArg (fun q=>some (AO.row _ _ q)) h2)) rfl)
end Go.Proofs.YtgelfflighgajaaGreatDoor
