/- Append of a piece and an empty one on the same instrument (the program): the piece in new memory. -/
import Derived.Test.YtaeelcfjkhfpkaaGreatG7Rq
import Derived.Test.YtaeelcfjkhfpkaaGreatFZRq
import Derived.Test.YtaeelcfjkhfpkaaGreatPnRq
import Derived.Test.YtaeelcfjkhfpkaaGreatSmIRq
set_option maxHeartbeats 8000000
set_option maxRecDepth 100000
set_option linter.unusedVariables false
set_option linter.unusedSimpArgs false
namespace Go.Proofs.YtaeelcfjkhfpkaaGreat
section
open Go.RowKit
theorem eLk_sc(l:List Lck):∀ r∈l.map eLk,∀ av∈r,∃ z,av=.sc z:=fun r hr av hav=>by
 obtain⟨x,_,rfl⟩:=List.mem_map.1 hr
 simp only [eLk,List.mem_cons,List.not_mem_nil,or_false]at hav
 rcases hav with rfl|rfl|rfl<;>exact⟨_,rfl⟩
theorem lksR_len (s:Int) {p:Pce} (hO:PcOk p):(lksR s p).length≤27000:=by
 unfold lksR
 split
 ·exact lksTo_len s hO _ (Nat.le_refl _)
 ·simp
theorem pLacksO (s:Int) (p:Pce) (hO:PcOk p):Cto truB 0 Tryz.prog 46 [.sc (.int .u8 s),ePce p] [] 0 (.tu [.sl 0,.sc (.int .i64 (lksE s p))]) [(0,.row 72 3 ((lksR s p).map eLk))] 1:=by
 have hn3:=hO.n3
 have hCh:=pCheck_FS p hO
 have hPk:=fun (hs:1≤s∧s≤4) (h0:pceE p=0) k (hk2:k < p.evs.length)=>plack_FS s hs p k hk2 hO (stopsIn_of h0 k hk2)
 have hP:ePce p=.ag [.ls 3 (p.cs.map eCrs),.ls 1 (p.st.map eInt),.ls 6 (p.evs.map eEv)]:=rfl
 refine Cto.intro truS Tryz.func46 rfl Tryz.ntmps46 (Nat.le_of_ble_eq_true rfl) rfl fun w0 F0 fp pg hB=>?_
 dsimp only [number,Nat.reduceAdd]
 repeat refine W.go rfl ?_
 refine (?_:WL _ _ _ _ _ _)
 refine WL.vl rfl (WV.call rfl (callF Tryz.func92 rfl rfl) rfl rfl (of_FS s)) ?_
 repeat (first|refine W.go rfl ?_|refine WL.ev rfl ?_)
 refine (?_:W _ _ _ _ _)
 (refine W.cond rfl (fun hif=>?_) (fun hif=>?_)<;>(try simp only [decide_eq_true_eq,decide_eq_false_iff_not,Int.not_lt,Int.not_le,Bool.not_eq_true',Bool.not_eq_false'] at hif))
 ·have hs:¬ (1≤s∧s≤4):=by simpa using hif
  rw [(lks_bad hs).1,(lks_bad hs).2]
  repeat refine W.go rfl ?_
  refine (?_:W _ _ _ _ _)
  refine W.tr (Tr.nil (t:=4) 72 3 rfl rfl) ?_
  refine W.tr (σ':=⟨[(4,.sl 0),(5,.sc (.int .i64 30))],[(0,.row 72 3 [])],1⟩) (zqu (fun q=>bif Nat.beq q 0 then 1 else q) (by repeat (first|exact trivial|refine ⟨⟨?_,?_,?_⟩,?_⟩|rfl|exact congrArg (fun q=>some (AO.row _ _ q)) (by first|rfl|(simp;done)|(simp [eInt];done)|(simp [eLk];done)))) rfl) ?_
  exact W.ret (finM rfl rfl rfl rfl rfl)
 have hs:1≤s∧s≤4:=by simpa using hif
 repeat refine W.go rfl ?_
 refine (?_:WL _ _ _ _ _ _)
 refine WL.vl rfl (zqc Tryz.func45 hCh) ?_
 repeat (first|refine W.go rfl ?_|refine WL.ev rfl ?_)
 refine (?_:W _ _ _ _ _)
 (refine W.cond rfl (fun hif=>?_) (fun hif=>?_)<;>(try simp only [decide_eq_true_eq,decide_eq_false_iff_not,Int.not_lt,Int.not_le,Bool.not_eq_true',Bool.not_eq_false'] at hif))
 ·have h0:pceE p≠0:=by simpa using hif
  rw [(lks_err hs h0).1,(lks_err hs h0).2]
  repeat refine W.go rfl ?_
  refine (?_:W _ _ _ _ _)
  refine W.tr (Tr.nil (t:=4) 72 3 rfl rfl) ?_
  refine W.tr (σ':=⟨[(4,.sl 0),(5,.sc (.int .i64 (pceE p)))],[(0,.row 72 3 [])],1⟩) (zqu (fun q=>bif Nat.beq q 0 then 1 else q) (by repeat (first|exact trivial|refine ⟨⟨?_,?_,?_⟩,?_⟩|rfl|exact congrArg (fun q=>some (AO.row _ _ q)) (by first|rfl|(simp;done)|(simp [eInt];done)|(simp [eLk];done)))) rfl) ?_
  exact W.ret (finM rfl rfl rfl rfl rfl)
 have h0:pceE p=0:=by simpa using hif
 have hPk:=hPk hs h0
 rw [(lks_ok hs h0).1,(lks_ok hs h0).2]
 repeat (first|refine W.go rfl ?_|refine WL.ev rfl ?_|refine WL.len rfl rfl zql ?_)
 refine (?_:W _ _ _ _ _)
 refine W.tr (Tr.nil (t:=9) 72 3 rfl rfl) ?_
 refine W.loop (fun k:Nat=>k≤p.evs.length) (fun k=>⟨[(3,.pt 0 0 0),(6,.sc (sysV s)),(9,.sl 1),(25,.sc (.int .i64 p.evs.length)),(26,.sc (.int .i64 k))],[(0,.box 29 (ePce p).cells),(1,.row 72 3 ((lksTo s p k).map eLk))],2⟩) (fun k=>p.evs.length - k) 0 zqo (zqt id) fun k hk=>?_
 repeat refine W.go rfl ?_
 refine (?_:W _ _ _ _ _)
 (refine W.cond rfl (fun hif=>?_) (fun hif=>?_)<;>(try simp only [decide_eq_true_eq,decide_eq_false_iff_not,Int.not_lt,Int.not_le,Bool.not_eq_true',Bool.not_eq_false'] at hif))
 ·have hk2:k < p.evs.length:=by omega
  have hl1:=lksTo_len s hO k hk
  have hl2:=lackE_len s p k p.evs[k] (hO.n4 k hk2)
  have hrow:(lksTo s p k).map eLk++(lackE s p k p.evs[k]).map eLk=(lksTo s p (k+1)).map eLk:=by rw [lksTo_at s p hk2,List.map_append]
  repeat refine W.go rfl ?_
  refine (?_:WL _ _ _ _ _ _)
  refine WL.vl rfl (WV.call rfl (callF Tryz.func96 rfl rfl) rfl rfl (hPk k hk2)) ?_
  repeat (first|refine W.go rfl ?_|refine WL.ev rfl ?_|refine WL.ar rfl rfl (by unfold I64;omega) ?_|refine WL.app rfl rfl rfl zqs ?_)
  exact ⟨k+1,by omega,by omega,(zqu (fun q=>bif Nat.beq q 1 then 2 else q) (by repeat (first|exact trivial|refine ⟨⟨?_,?_,?_⟩,?_⟩|rfl|exact congrArg (fun q=>some (AO.row _ _ q)) hrow)) rfl)⟩
 ·have he:k=p.evs.length:=by omega
  subst he
  repeat refine W.go rfl ?_
  refine (?_:W _ _ _ _ _)
  refine W.tr (σ':=⟨[(4,.sl 0),(5,.sc (.int .i64 0))],[(0,.row 72 3 ((lksTo s p p.evs.length).map eLk))],1⟩) (zqu (fun q=>bif Nat.beq q 0 then 1 else q) (by repeat (first|exact trivial|refine ⟨⟨?_,?_,?_⟩,?_⟩|rfl|exact congrArg (fun q=>some (AO.row _ _ q)) (by first|rfl|(simp;done)|(simp [eInt];done)|(simp [eLk];done)))) rfl) ?_
  exact W.ret (finM rfl rfl rfl rfl rfl)
theorem red4O (s:Int) (p:Pce) (hO:PcOk p):(lksR s p).length≤30000∧Cto truB 0 Tryz.prog 56 [ePce p,.pr [.sc (.int .u8 s)]] [] 0 (.sl 0) [(0,.row 72 3 ((lksR s p).map eLk))] 1:=by
 have hL:=pLacksO s p hO
 refine ⟨by have:=lksR_len s hO;omega,?_⟩
 have hP:ePce p=.ag [.ls 3 (p.cs.map eCrs),.ls 1 (p.st.map eInt),.ls 6 (p.evs.map eEv)]:=rfl
 rw [hP] at hL ⊢
 refine Cto.intro truS Tryz.func56 rfl Tryz.ntmps56 (Nat.le_of_ble_eq_true rfl) rfl fun w0 F0 fp pg hB=>?_
 dsimp only [number,Nat.reduceAdd]
 repeat refine W.go rfl ?_
 refine (?_:WL _ _ _ _ _ _)
 refine WL.cto (truH _) [] rfl rfl (callF Tryz.func46 rfl rfl) hL rfl rfl rfl trivial rfl rfl rfl rfl ?_
 repeat (first|refine W.go rfl ?_|refine WL.ev rfl ?_)
 refine (?_:W _ _ _ _ _)
 refine W.tr (σ':=⟨[(3,.sl 0)],[(0,.row 72 3 ((lksR s p).map eLk))],1⟩) (zqu (fun q=>bif Nat.beq q 0 then 1 else q) (by repeat (first|exact trivial|refine ⟨⟨?_,?_,?_⟩,?_⟩|rfl|exact congrArg (fun q=>some (AO.row _ _ q)) (by first|rfl|(simp;done)|(simp [eInt];done)|(simp [eLk];done)))) rfl) ?_
 exact W.ret (finM rfl rfl rfl rfl rfl)
theorem carry1_FS (y:Stp) (x:Lck):Ctr Tryz.prog 109 [.ag (eStp y),.pr (eLk x)] (.sc (.bool (y.1 == x.2.1))):=by
 refine zqe Tryz.func109 Tryz.ntmps109 fun w0 F0=>?_;dsimp only [St.init,number,Nat.reduceAdd]
 repeat refine W.go rfl ?_
 refine (?_:W _ _ _ _ _)
 refine W.ret (fin1 rfl rfl (sc_bool ?_) rfl)
 rfl
theorem idxK_FS (l:List Stp) (x:Lck) (hl:l.length≤100000):Ctr Tryz.prog 108 [.ls 5 (l.map eStp),.fn 109 [.pr (eLk x)]] (.sc (.int .i64 (ixB (fun z:Stp=>z.1 == x.2.1) l))):=by
 refine zqe Tryz.func108 Tryz.ntmps108 fun w0 F0=>?_;dsimp only [St.init,number,Nat.reduceAdd]
 repeat (first|refine W.go rfl ?_|refine WL.ev rfl ?_|refine WL.len rfl rfl zql ?_)
 refine (?_:W _ _ _ _ _)
 refine W.loop (fun k:Nat=>k≤l.length∧∀ i (hi:i < k) (h:i < l.length),(l[i].1 == x.2.1)=false) (fun k=>⟨[(0,.ls 5 (l.map eStp)),(1,.fn 109 [.pr (eLk x)]),(7,.sc (.int .i64 l.length)),(8,.sc (.int .i64 k))],[],0⟩) (fun k=>l.length - k) 0 ⟨by omega,fun i hi=>by omega⟩ (zqt id) fun k hk=>?_
 obtain ⟨hk,hno⟩:=hk
 by_cases hlt:k < l.length
 ·repeat (first|refine W.gob rfl ?_|refine WL.nil ?_|refine WL.bt rfl rfl rfl zqo ?_|refine WL.e1 rfl ?_|refine WL.idx rfl rfl zqo zqm ?_|refine W.condT rfl ?_)
  refine (?_:WL _ _ _ _ _ _)
  refine WL.vl rfl (WV.callV (truH _) rfl (callF Tryz.func109 rfl rfl) rfl rfl rfl rfl rfl (carry1_FS l[k] x).g) ?_
  cases he:l[k].1 == x.2.1 with
  | true =>
   rw [ixB_at (t:=fun z:Stp=>z.1 == x.2.1) hlt he fun i hi=>hno i hi (by omega)]
   repeat (first|refine W.gob rfl ?_|refine WL.nil ?_|refine WL.e1 rfl ?_|refine W.condT rfl ?_)
   refine (?_:W _ _ _ _ _)
   exact W.ret zqr
  | false =>
   repeat (first|refine W.gob rfl ?_|refine WL.nil ?_|refine WL.e1 rfl ?_|refine WL.ar rfl rfl (by unfold I64;omega) ?_|refine W.condF rfl ?_)
   exact ⟨k+1,⟨by omega,fun i hi h=>by
    by_cases e:i=k
    ·subst e;exact he
    ·exact hno i zqo h⟩,by omega,(zqt id)⟩
 ·rw [ixB_no (t:=fun z:Stp=>z.1 == x.2.1) fun i hi=>hno i (by omega) hi]
  repeat (first|refine W.gob rfl ?_|refine WL.nil ?_|refine WL.bf rfl rfl rfl zqo ?_|refine WL.e1 rfl ?_|refine W.condF rfl ?_)
  refine (?_:W _ _ _ _ _)
  exact W.ret zqr
end
section
open Go.RowKit
theorem yDTK_rd {P:Program} {C:Cx} {σ:St} {o:Oper} {d:Tmp} {ops:Array Oper} {rest:List Oper} {Q:Exit→St→Prop} {mem:List Bool} {Mc McB:List (Nat×AO)} {e0 nk0 k:Nat} {av:AV} (hd:wrB mem C.N k o=some d) (hs:msSub Mc σ.M) (hsB:Nat.blt k e0=true→msSub McB σ.M) (h:∀ t,(∀ q∈o.looksAt ops,look q t=look q σ.t)→WV P C o ⟨t,σ.M,σ.nk⟩ av) (K:DTK P C ops mem Mc McB e0 nk0 (k+1) rest (σ.put d av) Q):DTK P C ops mem Mc McB e0 nk0 k (o::rest) σ Q:=by
 obtain ⟨a,b,c,e⟩:=wrB_of hd
 exact DTK.of_m a b (Nat.ble_eq_true_of_le (Nat.le_refl _)) hs hsB ⟨c,fun t H=>WO.of_wv b e (h t H)⟩ K
theorem yDTK_bs {P:Program} {C:Cx} {σ:St} {o:Oper} {d:Tmp} {ops:Array Oper} {rest:List Oper} {Q:Exit→St→Prop} {mem:List Bool} {Mc McB:List (Nat×AO)} {e0 nk0 k:Nat} {T:TypeId} {parts:Array (Nat×Operand)} {z:Value} {places:List (Nat×Nat)} {avs l:List AV} (hd:wrB mem C.N k o=some d) (ho:o.op=.build T parts) (hz:(P.info? T).bind (·.zero)=some z) (hpl:placesB P T=some places)
  (hx:σ.evs (parts.toList.map (·.2))=some avs) (hl:fillA places (z.cells.toList.map .sc) (pairUp parts.toList avs)=some l) (hs:msSub Mc σ.M) (hsB:Nat.blt k e0=true→msSub McB σ.M) (K:DTK P C ops mem Mc McB e0 nk0 (k+1) rest (σ.put d (.ag l)) Q):DTK P C ops mem Mc McB e0 nk0 k (o::rest) σ Q :=
 yDTK_rd hd hs hsB (fun t H=>WV.build ho hz hpl ((evs_agree H fun x hx=>by rw [ho];simp only [Op.operands];simpa using hx).trans hx) hl) K
theorem mapC_G (evs:List Ev) (hn:evs.length≤1000) (h20:∀ e∈evs,e.stops.length≤20) :
  Cto truB 0 Tryz.prog 102 [.ls 6 (evs.map eEv),.sc (.func (.func 103) #[] #[])] [] 0 (.sl 0) [(0,.row 45 6 (evs.map eEv))] 1:=by
 refine Cto.intro truS Tryz.func102 rfl Tryz.ntmps102 (Nat.le_of_ble_eq_true rfl) rfl fun w0 F0 fp pg hB=>?_
 dsimp only [number,Nat.reduceAdd]
 repeat (first|refine W.go rfl ?_|refine WL.ev rfl ?_|refine WL.len rfl rfl zql ?_)
 refine (?_:W _ _ _ _ _)
 refine W.tr (Tr.nil (t:=5) 45 6 rfl rfl) ?_
 dsimp only [St.put,St.new,St.upd,Nat.reduceAdd]
 refine (?_:W _ _ _ _ _)
 refine W.loop (fun k:Nat=>k≤evs.length) (fun k=>⟨[(1,.sc (.func (.func 103) #[] #[])),(5,.sl 0),(8,.ls 6 (evs.map eEv)),(9,.sc (.int .i64 evs.length)),(10,.sc (.int .i64 k))],[(0,.row 45 6 ((evs.take k).map eEv))],1⟩) (fun k=>evs.length - k) 0 zqo (zqt id) fun k hk=>?_
 by_cases hlt:k < evs.length
 ·have hC:=pCopied_FS evs[k] (by have:=h20 _ (List.getElem_mem hlt);omega)
  have hrow:(evs.take k).map eEv++[eEv evs[k]]=(evs.take (k+1)).map eEv:=take_map_succ hlt
  have hl:((evs.take k).map eEv).length=k:=by rw [List.length_map,List.length_take];omega
  obtain ⟨R,hR⟩:∃ z,(evs.take k).map eEv=z:=⟨_,rfl⟩
  rw [hR] at hrow hl ⊢
  repeat (first|refine W.gob rfl ?_|refine WL.nil ?_|refine WL.bt rfl rfl rfl zqo ?_|refine WL.e1 rfl ?_|refine WL.idx rfl rfl zqo zqm ?_|refine W.condT rfl ?_)
  refine (?_:WL _ _ _ _ _ _)
  refine WL.vl rfl (WV.callV (truH _) rfl (callF Tryz.func103 rfl rfl) rfl rfl rfl rfl rfl hC.g) ?_
  repeat (first|refine W.gob rfl ?_|refine WL.nil ?_|refine WL.e1 rfl ?_|refine WL.ar rfl rfl (by unfold I64;omega) ?_|refine WL.app rfl rfl rfl zqs ?_)
  refine ⟨k+1,by omega,by omega,?_⟩
  exact (zqu (fun q=>bif Nat.beq q 0 then 3 else q) (by repeat (first|exact trivial|refine ⟨⟨?_,?_,?_⟩,?_⟩|rfl|exact congrArg (fun q=>some (AO.row _ _ q)) hrow)) rfl)
 ·obtain rfl:k=evs.length:=by omega
  rw [List.take_length]
  repeat (first|refine W.gob rfl ?_|refine WL.nil ?_|refine WL.bf rfl rfl rfl zqo ?_|refine WL.e1 rfl ?_|refine W.condF rfl ?_)
  refine (?_:W _ _ _ _ _)
  refine W.tr (σ':=⟨[(4,.sl 0)],[(0,.row 45 6 (evs.map eEv))],1⟩) (zqt id) ?_
  exact W.ret (finM rfl rfl rfl rfl rfl)
theorem mapC_0:Ctr Tryz.prog 102 [.ls 6 [],.sc (.func (.func 103) #[] #[])] (.ls 6 []):=by
 refine zqe Tryz.func102 Tryz.ntmps102 fun w0 F0=>?_;dsimp only [St.init,number,Nat.reduceAdd]
 repeat (first|refine W.go rfl ?_|refine WL.ev rfl ?_|refine WL.len rfl rfl zql ?_)
 refine (?_:W _ _ _ _ _)
 refine W.loop (fun u:Unit=>True) (fun _=>⟨[(1,.sc (.func (.func 103) #[] #[])),(5,.sc (.slice none 0 0)),(8,.ls 6 []),(9,.sc (.int .i64 0)),(10,.sc (.int .i64 0))],[],0⟩) (fun _=>0) () trivial (zqt id) fun u hu=>?_
 repeat (first|refine W.gob rfl ?_|refine WL.nil ?_|refine WL.bf rfl rfl rfl zqo ?_|refine WL.e1 rfl ?_|refine W.condF rfl ?_)
 refine (?_:W _ _ _ _ _)
 refine W.tr (Tr.nilLs (t:=4) 6 rfl) ?_
 exact W.ret zqr
theorem sameI_self (cs:List (Int×Int×Bool))(st:List Int):sameI cs st cs st=true:=by
 unfold sameI
 simp
theorem pAppend_FS (p:Pce) (hO:PcOk p) (h0:pceE p=0):Ctr Tryz.prog 49 [ePce p,.ag [.ls 3 (p.cs.map eCrs),.ls 1 (p.st.map eInt),.ls 6 []]] (.tu [ePce p,.sc (.int .i64 0)]):=by
 have hC:=pCheck_FS p hO
 rw [h0] at hC
 have hE0:pceE ⟨p.cs,p.st,[]⟩=0:=by
  unfold pceE
  rw [if_neg (by simpa using (pceE_zero h0).1),if_neg (by show ¬ 400 < 0;omega)];rfl
 have hC2:=pCheck_FS ⟨p.cs,p.st,[]⟩ ⟨hO.n1,hO.n2,Nat.zero_le _,fun k hk=>by cases hk⟩
 rw [hE0] at hC2
 have hC2:Ctr Tryz.prog 45 [.ag [.ls 3 (p.cs.map eCrs),.ls 1 (p.st.map eInt),.ls 6 []]] (.sc (.int .i64 0)):=hC2
 have hC:Ctr Tryz.prog 45 [.ag [.ls 3 (p.cs.map eCrs),.ls 1 (p.st.map eInt),.ls 6 (p.evs.map eEv)]] (.sc (.int .i64 0)):=hC
 have hS:=pSameI_FS p.cs p.st p.cs p.st hO.n1 hO.n2 hO.n1 hO.n2
 rw [sameI_self] at hS
 have hS:Ctr Tryz.prog 81 [.ag [.ls 3 (p.cs.map eCrs),.ls 1 (p.st.map eInt)],.ag [.ls 3 (p.cs.map eCrs),.ls 1 (p.st.map eInt)]] (.sc (.bool true)):=hS
 have hI:=copiedIns_FS p.cs p.st hO.n1 hO.n2
 have hI:Ctr Tryz.prog 101 [.ag [.ls 3 (p.cs.map eCrs),.ls 1 (p.st.map eInt)]] (.ag [.ls 3 (p.cs.map eCrs),.ls 1 (p.st.map eInt)]):=hI
 obtain ⟨_,h400,_⟩:=pceE_zero h0
 have hM:=mapC_G p.evs zqo fun e he=>by
  obtain ⟨i,hi,rfl⟩:=List.getElem_of_mem he
  exact hO.n4 i hi
 have hEl:(p.evs.map eEv).length=p.evs.length:=List.length_map _
 have hnil:([]:List (List AV)).length=0:=rfl
 show Ctr Tryz.prog 49 [.ag [.ls 3 (p.cs.map eCrs),.ls 1 (p.st.map eInt),.ls 6 (p.evs.map eEv)],.ag [.ls 3 (p.cs.map eCrs),.ls 1 (p.st.map eInt),.ls 6 []]] (.tu [.ag [.ls 3 (p.cs.map eCrs),.ls 1 (p.st.map eInt),.ls 6 (p.evs.map eEv)],.sc (.int .i64 0)])
 obtain ⟨EV,hEV⟩:∃ z,p.evs.map eEv=z:=⟨_,rfl⟩
 rw [hEV] at hC hM hEl ⊢
 refine zqe Tryz.func49 Tryz.ntmps49 fun w0 F0=>?_;dsimp only [St.init,number,Nat.reduceAdd]
 repeat refine W.go rfl ?_
 refine (?_:WL _ _ _ _ _ _)
 refine WL.vl rfl (zqc Tryz.func45 hC) ?_
 repeat (first|refine W.gob rfl ?_|refine WL.nil ?_|refine WL.nf rfl rfl rfl zqo ?_|refine WL.e1 rfl ?_|refine W.condF rfl ?_)
 refine (?_:WL _ _ _ _ _ _)
 refine WL.vl rfl (zqc Tryz.func45 hC2) ?_
 repeat (first|refine W.gob rfl ?_|refine WL.nil ?_|refine WL.nf rfl rfl rfl zqo ?_|refine WL.e1 rfl ?_|refine W.condF rfl ?_)
 refine (?_:WL _ _ _ _ _ _)
 refine WL.vl rfl (zqc Tryz.func81 hS) ?_
 repeat (first|refine W.gob rfl ?_|refine WL.nil ?_|refine WL.bf rfl rfl rfl zqo ?_|refine WL.e1 rfl ?_|refine WL.ar rfl rfl (by unfold I64;omega) ?_|refine WL.len rfl rfl zql ?_|refine W.condF rfl ?_)
 refine (?_:W _ _ _ _ _)
 refine W.of_wa zqk ?_
 refine WA.dt [false,false,false,false,false,true,false,false,false,true,true,true,false] [0,1] [0,1] 11 zqk zqk zqk ⟨rfl,rfl,trivial⟩ ⟨rfl,rfl,trivial⟩ ?_
 refine DTK.st rfl zqk rfl ?_
 refine DTK.st rfl zqk rfl ?_
 refine DTK.v0 rfl (zqc Tryz.func101 hI) ?_
 refine DTK.st rfl zqk rfl ?_
 refine DTK.st rfl zqk rfl ?_
 refine DTK.ct (truH _) [] rfl rfl (callF Tryz.func102 rfl rfl) hM rfl rfl rfl trivial rfl rfl rfl rfl ⟨rfl,rfl,trivial⟩ (fun _=>⟨rfl,rfl,trivial⟩) ?_
 refine DTK.st rfl zqk rfl ?_
 refine DTK.st rfl zqk rfl ?_
 refine DTK.v0 rfl (zqc Tryz.func102 mapC_0) ?_
 refine DTK.ap rfl rfl (by show EV.length+0≤1000000000;omega) ⟨rfl,rfl,trivial⟩ (fun _=>⟨rfl,rfl,trivial⟩) ?_
 refine yDTK_bs rfl rfl rfl rfl rfl rfl ⟨rfl,rfl,trivial⟩ (fun _=>⟨rfl,rfl,trivial⟩) ?_
 refine DTK.sto rfl rfl rfl rfl rfl rfl rfl rfl rfl rfl rfl rfl rfl rfl ⟨rfl,rfl,trivial⟩ (fun h=>by cases h) ?_
 refine DTK.v0 rfl (stepV_of rfl rfl) ?_
 refine DTK.nil ?_
 refine (?_:W _ _ _ _ _)
 rw [List.append_nil]
 refine W.tr (Tr.freeze 4 rfl) ?_
 exact W.ret (finN rfl rfl rfl rfl)
end
end Go.Proofs.YtaeelcfjkhfpkaaGreat
