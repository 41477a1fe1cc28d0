/- Plain of the reference: each sign written. -/
import Derived.Test.YtaeelcfjkhfpkaaGreatZ1Tq
import Derived.Test.YtaeelcfjkhfpkaaGreatZ3Tq
import Derived.Test.YtaeelcfjkhfpkaaGreatPnTq
set_option maxHeartbeats 8000000
set_option maxRecDepth 100000
set_option linter.unusedVariables false
set_option linter.unusedSimpArgs false
namespace Go.Proofs.YtaeelcfjkhfpkaaGreat
section
open Go.RowKit
theorem zsym_FS (s:Int)(hs:1≤s∧s≤4)(c f:Int)(hc:1≤c∧c≤14)(hf:0≤f∧f≤18):Ctr Tryz.prog 111 [.sc (.int .u8 s),.sc (.int .i64 c),.sc (.int .i64 f)] (.sc (.string (bs (rS s c f)))) :=
 Ctr.of_sc (v:=.string (bs (rS s c f))) rfl (fun _=>.sc _) fun w=>rsymbol_any s c f w hs hc hf
theorem zSymbol_FS (s:Int) (hs:1≤s∧s≤4) (c f:Int) (hc:1≤c∧c≤14) (hf:0≤f∧f≤18) (hne:rS s c f≠[]) :
  Ctr Tryz.prog 60 [.sc (.int .u8 s),.ag [.sc (.int .i64 c),.sc (.int .i64 f)]] (.tu [.sc (.string (bs (rS s c f))),.sc (.int .i64 0)]):=by
 refine zqe Tryz.func60 Tryz.ntmps60 fun w0 F0=>?_;dsimp only [St.init,number,Nat.reduceAdd]
 repeat (first|refine W.gob rfl ?_|refine WL.nil ?_|refine WL.e1 rfl ?_)
 refine (?_:WL _ _ _ _ _ _)
 refine WL.vl rfl (WV.call rfl (callF Tryz.func58 rfl rfl) rfl rfl (known_FS s)) ?_
 repeat (first|refine WL.nil ?_|refine WL.e1 rfl ?_)
 refine (?_:W _ _ _ _ _)
 (refine W.cond rfl (fun hif=>?_) (fun hif=>?_)<;>(try simp only [decide_eq_true_eq,decide_eq_false_iff_not,Int.not_lt,Int.not_le,Bool.not_eq_true',Bool.not_eq_false'] at hif))
 ·omega
 repeat (first|refine W.gob rfl ?_|refine WL.nil ?_|refine WL.bf rfl rfl rfl zqo ?_|refine WL.e1 rfl ?_|refine WL.gyes rfl rfl rfl rfl ?_|refine W.condF rfl ?_)
 refine (?_:WL _ _ _ _ _ _)
 refine WL.vl rfl (WV.call rfl (callF Tryz.func111 rfl rfl) rfl rfl (zsym_FS s hs c f hc hf)) ?_
 repeat (first|refine W.gob rfl ?_|refine WL.nil ?_|refine WL.e1 rfl ?_)
 refine (?_:W _ _ _ _ _)
 (refine W.cond rfl (fun hif=>?_) (fun hif=>?_)<;>(try simp only [decide_eq_true_eq,decide_eq_false_iff_not,Int.not_lt,Int.not_le,Bool.not_eq_true',Bool.not_eq_false'] at hif))
 ·exact absurd (by simpa using hif) hne
 repeat (first|refine W.gob rfl ?_|refine WL.nil ?_|refine WL.e1 rfl ?_)
 refine (?_:W _ _ _ _ _)
 exact W.ret (fin2 rfl rfl rfl rfl rfl rfl rfl)
theorem rSymX_FS (s:Int) (hs:1≤s∧s≤4) (c f:Int) (hc:1≤c∧c≤14) (hf:0≤f∧f≤18):∃ T,Ctr Tryz.prog 60 [.sc (.int .u8 s),.ag [.sc (.int .i64 c),.sc (.int .i64 f)]] (.tu [.sc (.string (bs T)),.sc (.int .i64 (if pOk s c f=true then 0 else 31))]):=by
 have l1:=(sym_law s c f hs hc hf).1
 by_cases hne:rS s c f=[]
 ·refine ⟨[],?_⟩
  rw [if_neg (by rw [l1,hne];simp)]
  have h:=zsym_FS s hs c f hc hf
  rw [hne] at h
  refine zqe Tryz.func60 Tryz.ntmps60 fun w0 F0=>?_;dsimp only [St.init,number,Nat.reduceAdd]
  repeat (first|refine W.gob rfl ?_|refine WL.nil ?_|refine WL.e1 rfl ?_)
  refine (?_:WL _ _ _ _ _ _)
  refine WL.vl rfl (WV.call rfl (callF Tryz.func58 rfl rfl) rfl rfl (known_FS s)) ?_
  repeat (first|refine WL.nil ?_|refine WL.e1 rfl ?_)
  refine (?_:W _ _ _ _ _)
  (refine W.cond rfl (fun hif=>?_) (fun hif=>?_)<;>(try simp only [decide_eq_true_eq,decide_eq_false_iff_not,Int.not_lt,Int.not_le,Bool.not_eq_true',Bool.not_eq_false'] at hif))
  ·omega
  repeat (first|refine W.gob rfl ?_|refine WL.nil ?_|refine WL.bf rfl rfl rfl zqo ?_|refine WL.e1 rfl ?_|refine WL.gyes rfl rfl rfl rfl ?_|refine W.condF rfl ?_)
  refine (?_:WL _ _ _ _ _ _)
  refine WL.vl rfl (zqc Tryz.func111 h) ?_
  repeat (first|refine W.gob rfl ?_|refine WL.nil ?_|refine WL.e1 rfl ?_|refine W.condT rfl ?_)
  refine (?_:W _ _ _ _ _)
  exact W.ret (fin2 rfl rfl rfl rfl rfl rfl rfl)
 ·refine ⟨rS s c f,?_⟩
  rw [if_pos (by rw [l1];simpa using hne)]
  exact zSymbol_FS s hs c f hc hf hne
end
section
open Go.RowKit
theorem rCopyO_FS (p:Pce) (hO:PcOk p):Cto truB 0 Tryz.prog 15 [ePce p] [] 0 (.ag [.ls 3 (p.cs.map eCrs),.ls 1 (p.st.map eInt),.sl 0])
  [(0,.row 45 6 (p.evs.map eEv)),(1,.box 29 [.ls 3 (p.cs.map eCrs),.ls 1 (p.st.map eInt),.sl 0])] 2:=by
 have hn3:=hO.n3
 refine Cto.intro truS Tryz.func15 rfl Tryz.ntmps15 (Nat.le_of_ble_eq_true rfl) rfl fun w0 F0 fp pg hB=>?_
 dsimp only [number,Nat.reduceAdd]
 repeat refine W.go rfl ?_
 refine (?_:WL _ _ _ _ _ _)
 refine WL.vl rfl (WV.call rfl (callF Tryz.func35 rfl rfl) rfl rfl (insCopy_FS p.cs p.st hO.n1 hO.n2)) ?_
 repeat (first|refine W.go rfl ?_|refine WL.ev rfl ?_)
 refine (?_:W _ _ _ _ _)
 refine W.tr (Tr.nilBox (k:=2) (j:=2) 45 6 rfl rfl rfl rfl) ?_
 refine W.loop (fun k:Nat=>k≤p.evs.length) (fun k=>⟨[(1,.pt 0 0 0),(2,.pt 1 0 0),(3,.pt 2 0 0),(4,.sc (.int .i64 k))],[(0,.box 29 [.ls 3 (p.cs.map eCrs),.ls 1 (p.st.map eInt),.ls 6 (p.evs.map eEv)]),(1,.box 29 [.sc (.slice none 0 0),.sc (.slice none 0 0),.sc (.slice none 0 0)]),(2,.box 29 [.ls 3 (p.cs.map eCrs),.ls 1 (p.st.map eInt),.sl 3]),(3,.row 45 6 ((p.evs.take k).map eEv))],4⟩) (fun k=>p.evs.length - k) 0 zqo (zqt id) fun k hk=>?_
 by_cases hk2:k < p.evs.length
 ·have h20:=hO.n4 k hk2
  repeat (first|refine W.gob rfl ?_|refine WL.nil ?_|refine WL.bt rfl rfl rfl zqo ?_|refine WL.e1 rfl ?_|refine WL.len rfl rfl zql ?_|refine WL.idx rfl rfl zqo zqm ?_|refine WL.app rfl rfl rfl zqs ?_|refine W.condT rfl ?_)
  refine (?_:WL _ _ _ _ _ _)
  refine WL.tr (Tr.freeze 6 rfl) ?_
  repeat (first|refine W.go rfl ?_|refine WL.ev rfl ?_|refine WL.ar rfl rfl (by unfold I64;omega) ?_|refine WL.app rfl rfl rfl zqs ?_)
  exact ⟨k+1,by omega,by omega,(zqu (fun q=>bif Nat.beq q 3 then 8 else q) (by repeat (first|exact trivial|refine ⟨⟨?_,?_,?_⟩,?_⟩|rfl|exact congrArg (fun q=>some (AO.row _ _ q)) (take_map_succ hk2))) rfl)⟩
 ·obtain rfl:k=p.evs.length:=by omega
  rw [List.take_length]
  repeat (first|refine W.gob rfl ?_|refine WL.nil ?_|refine WL.bf rfl rfl rfl zqo ?_|refine WL.e1 rfl ?_|refine WL.len rfl rfl zql ?_|refine W.condF rfl ?_)
  refine (?_:W _ _ _ _ _)
  refine W.tr (σ':=⟨[(2,.pt 1 0 0)],[(0,.row 45 6 (p.evs.map eEv)),(1,.box 29 [.ls 3 (p.cs.map eCrs),.ls 1 (p.st.map eInt),.sl 0])],2⟩) (zqu (fun q=>bif Nat.beq q 0 then 3 else q) (by repeat (first|exact trivial|refine ⟨⟨?_,?_,?_⟩,?_⟩|rfl|exact congrArg (fun q=>some (AO.row _ _ q)) (by first|rfl|(simp;done)|(simp [eInt];done)|(simp [eLk];done)))) rfl) ?_
  exact W.ret (finM rfl rfl rfl rfl rfl)
theorem plK_len {evs:List Ev} {k:Nat} (h:k≤evs.length):(plN evs k++evs.drop k).length=evs.length:=by rw [List.length_append,plN_length h,List.length_drop];omega
theorem plK_at {evs:List Ev} {k:Nat} (h:k<evs.length):((plN evs k++evs.drop k).map eEv)[k]?=some (eEv evs[k]):=by
 have e:(plN evs k++evs.drop k)[k]?=some evs[k]:=by
  rw [List.getElem?_append_right (by rw [plN_length (by omega)];exact Nat.le_refl _),plN_length (by omega),Nat.sub_self,List.getElem?_drop]
  simp [h]
 rw [List.getElem?_map,e];rfl
theorem plK_set {evs:List Ev} {k:Nat} (h:k<evs.length):((plN evs k++evs.drop k).map eEv).set k (putL 1 (eSig (sgF evs (k+1))) (eEv evs[k]))=(plN evs (k+1)++evs.drop (k+1)).map eEv:=by
 have e:putL 1 (eSig (sgF evs (k+1))) (eEv evs[k])=eEv (sgW evs[k] (sgF evs (k+1))):=rfl
 rw [e,← List.map_set,plN_at h]
 congr 1
 have hl:(plN evs k).length=k:=plN_length zqo
 rw [List.set_append_right _ _ (by omega),hl,Nat.sub_self,List.drop_eq_getElem_cons h,List.set_cons_zero,List.append_assoc];rfl
theorem sgL_at {evs:List Ev} {k n:Nat} (h:k<n):((sgL evs n).map eSig)[k]?=some (eSig (sgF evs (k+1))):=by
 unfold sgL
 rw [List.getElem?_map,List.getElem?_map,List.getElem?_range h];rfl
theorem rPlain_FS (p:Pce) (hO:PcOk p):Ctr Tryz.prog 33 [ePce p] (.tu [ePce (plP p),.sc (.int .i64 (pceE p))]):=by
 have hC:=rCheck_FS p hO
 have hn3:=hO.n3
 by_cases h0:pceE p=0
 rotate_left
 ·have e1:plP p=noP:=if_neg h0
  rw [e1]
  obtain ⟨E,hE⟩:∃ E,pceE p=E:=⟨_,rfl⟩
  rw [hE] at hC h0 ⊢
  refine zqe Tryz.func33 Tryz.ntmps33 fun w0 F0=>?_;dsimp only [St.init,number,Nat.reduceAdd]
  repeat refine W.go rfl ?_
  refine (?_:WL _ _ _ _ _ _)
  refine WL.vl rfl (zqc Tryz.func20 hC) ?_
  repeat (first|refine W.gob rfl ?_|refine WL.nil ?_|refine WL.nt rfl rfl rfl zqo ?_|refine WL.e1 rfl ?_|refine W.condT rfl ?_)
  refine (?_:W _ _ _ _ _)
  refine W.tr (Tr.nilC 1 0 3 rfl rfl rfl) ?_
  refine W.tr (Tr.nilC 1 1 1 rfl rfl rfl) ?_
  refine W.tr (Tr.nilC 1 2 6 rfl rfl rfl) ?_
  exact W.ret (finN rfl rfl rfl rfl)
 have e1:plP p=⟨p.cs,p.st,plN p.evs p.evs.length⟩:=if_pos h0
 have hF:=rForces_FS p hO
 have hsl:=sgL_length p.evs p.evs.length
 rw [e1,h0]
 rw [h0] at hC
 obtain ⟨SL,hSL⟩:∃ z,(sgL p.evs p.evs.length).map eSig=z:=⟨_,rfl⟩
 have hSLl:SL.length=p.evs.length:=by rw [← hSL,List.length_map,hsl]
 rw [hSL] at hF
 refine zqe Tryz.func33 Tryz.ntmps33 fun w0 F0=>?_;dsimp only [St.init,number,Nat.reduceAdd]
 repeat refine W.go rfl ?_
 refine (?_:WL _ _ _ _ _ _)
 refine WL.vl rfl (zqc Tryz.func20 hC) ?_
 repeat (first|refine W.gob rfl ?_|refine WL.nil ?_|refine WL.nf rfl rfl rfl zqo ?_|refine WL.e1 rfl ?_|refine W.condF rfl ?_)
 refine (?_:WL _ _ _ _ _ _)
 refine WL.cto (truH _) [] rfl rfl (callF Tryz.func15 rfl rfl) (rCopyO_FS p hO) rfl rfl rfl trivial rfl rfl rfl rfl ?_
 repeat (first|refine W.go rfl ?_|refine WL.ev rfl ?_)
 refine (?_:WL _ _ _ _ _ _)
 refine WL.vl rfl (zqc Tryz.func79 hF) ?_
 repeat (first|refine W.go rfl ?_|refine WL.ev rfl ?_)
 refine (?_:W _ _ _ _ _)
 refine W.loop (fun k:Nat=>k≤p.evs.length) (fun k=>⟨[(2,.pt 1 0 0),(5,.pt 2 0 0),(6,.ls 3 SL),(7,.sc (.int .i64 k))],[(1,.box 29 [.sc (.slice none 0 0),.sc (.slice none 0 0),.sc (.slice none 0 0)]),(2,.box 29 [.ls 3 (p.cs.map eCrs),.ls 1 (p.st.map eInt),.sl 3]),(3,.row 45 6 ((plN p.evs k++p.evs.drop k).map eEv))],4⟩) (fun k=>p.evs.length - k) 0 (by omega) (zqu (fun q=>bif Nat.beq q 2 then 4 else bif Nat.beq q 3 then 2 else q) (by repeat (first|exact trivial|refine ⟨⟨?_,?_,?_⟩,?_⟩|rfl|exact congrArg (fun q=>some (AO.row _ _ q)) (by simp [plN]))) rfl) fun k hk=>?_
 have hkl:=plK_len hk
 by_cases hlt:k < p.evs.length
 ·have hat:=plK_at hlt
  have hset:=plK_set hlt
  have hsg:=sgL_at (evs:=p.evs) hlt
  rw [hSL] at hsg
  obtain ⟨R,hR⟩:∃ z,plN p.evs k++p.evs.drop k=z:=⟨_,rfl⟩
  rw [hR] at hkl hat hset ⊢
  repeat (first|refine W.gob rfl ?_|refine WL.nil ?_|refine WL.bt rfl rfl rfl zqo ?_|refine WL.e1 rfl ?_|refine WL.len rfl rfl zql ?_|refine W.condT rfl ?_)
  refine (?_:W _ _ _ _ _)
  refine W.dkT 9 zqk zqk zqk zqk ?_
  repeat refine DK.st rfl ?_
  refine DK.idx rfl rfl (by omega) (r:=eSig (sgF p.evs (k+1))) (by rw [Int.toNat_natCast];exact hsg) ?_
  repeat (first|refine DK.st rfl ?_|refine DK.ixs rfl rfl zqs ?_|refine DK.nil ?_)
  refine ⟨rfl,?_⟩
  rw [Int.toNat_natCast]
  refine WL.sto rfl rfl rfl rfl hat (by show 1+3≤6;omega) ?_
  repeat (first|refine W.go rfl ?_|refine WL.nil ?_|refine WL.ev rfl ?_|refine WL.ar rfl rfl (by unfold I64;omega) ?_)
  exact ⟨k+1,by omega,by omega,(zqu (fun q=>q) (by repeat (first|exact trivial|refine ⟨⟨?_,?_,?_⟩,?_⟩|rfl|exact congrArg (fun q=>some (AO.row _ _ q)) hset)) rfl)⟩
 ·obtain rfl:k=p.evs.length:=by omega
  rw [List.drop_length,List.append_nil]
  repeat (first|refine W.gob rfl ?_|refine WL.nil ?_|refine WL.bf rfl rfl rfl zqo ?_|refine WL.e1 rfl ?_|refine WL.len rfl rfl zql ?_|refine W.condF rfl ?_)
  refine (?_:W _ _ _ _ _)
  refine W.tr (Tr.freeze 3 rfl) ?_
  exact W.ret (finN rfl rfl rfl rfl)
end
end Go.Proofs.YtaeelcfjkhfpkaaGreat
