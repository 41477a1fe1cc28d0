/- How big a piece is; the look at the examples. -/
import Derived.Test.YtaeelcfjkhfpkaaGreatEQRq
import Derived.Test.YtaeelcfjkhfpkaaGreatBigRq
import Derived.Test.YtaeelcfjkhfpkaaGreatPl4Rq
set_option maxHeartbeats 4000000
set_option maxRecDepth 100000
set_option linter.unusedVariables false
set_option linter.unusedSimpArgs false
namespace Go.Proofs.YtaeelcfjkhfpkaaGreat
section
open Go.RowKit
theorem pcCopy_FS (p:Pce) (hO:PcOk p):Ctr Tryz.prog 15 [ePce p] (ePce p):=by
 refine zqe Tryz.func15 Tryz.ntmps15 fun w0 F0=>?_
 have hn3:=hO.n3
 repeat refine W.go rfl ?_
 refine (?_:WL _ _ _ _ _ _)
 refine WL.vl rfl (WV.call rfl (callF Tryz.func35 rfl rfl) rfl rfl (insCopy_FS p.cs p.st hO.n1 hO.n2)) ?_
 repeat (first|refine W.go rfl ?_|refine WL.ev rfl ?_)
 refine (?_:W _ _ _ _ _)
 refine W.tr (Tr.nilBox (k:=2) (j:=2) 45 6 rfl rfl rfl rfl) ?_
 refine W.loop (fun k:Nat=>k≤p.evs.length) (fun k=>⟨[(1,.pt 0 0 0),(2,.pt 1 0 0),(3,.pt 2 0 0),(4,.sc (.int .i64 k))],[(0,.box 29 [.ls 3 (p.cs.map eCrs),.ls 1 (p.st.map eInt),.ls 6 (p.evs.map eEv)]),(1,.box 29 [.sc (.slice none 0 0),.sc (.slice none 0 0),.sc (.slice none 0 0)]),(2,.box 29 [.ls 3 (p.cs.map eCrs),.ls 1 (p.st.map eInt),.sl 3]),(3,.row 45 6 ((p.evs.take k).map eEv))],4⟩) (fun k=>p.evs.length - k) 0 zqo (zqt id) fun k hk=>?_
 repeat (first|refine W.go rfl ?_|refine WL.ev rfl ?_|refine WL.len rfl rfl zql ?_)
 refine (?_:W _ _ _ _ _)
 (refine W.cond rfl (fun hif=>?_) (fun hif=>?_)<;>(try simp only [decide_eq_true_eq,decide_eq_false_iff_not,Int.not_lt,Int.not_le,Bool.not_eq_true',Bool.not_eq_false'] at hif))
 ·have hk2:k < p.evs.length:=by omega
  have h20:=hO.n4 k hk2
  repeat (first|refine W.go rfl ?_|refine WL.ev rfl ?_|refine WL.idx rfl rfl zqo zqm ?_|refine WL.app rfl rfl rfl zqs ?_)
  refine (?_:WL _ _ _ _ _ _)
  refine WL.tr (Tr.freeze 6 rfl) ?_
  repeat (first|refine W.go rfl ?_|refine WL.ev rfl ?_|refine WL.ar rfl rfl (by unfold I64;omega) ?_|refine WL.app rfl rfl rfl zqs ?_)
  refine ⟨k+1,by omega,by omega,zqu (fun q=>bif Nat.beq q 3 then 8 else q) (by repeat (first|exact trivial|refine ⟨⟨?_,?_,?_⟩,?_⟩|exact congrArg (fun r=>some (AO.row _ _ r)) (take_map_succ hk2)|rfl)) rfl⟩
 ·have he:k=p.evs.length:=by omega
  subst he
  repeat refine W.go rfl ?_
  refine (?_:W _ _ _ _ _)
  refine W.tr (Tr.freeze 3 rfl) ?_
  refine W.ret (fin_cell rfl rfl rfl rfl rfl rfl ?_ rfl)
  show AV.ag [_,_,.ls 6 ((p.evs.take p.evs.length).map eEv)]=ePce p
  rw [List.take_length]
  rfl
end
section
open Go.RowKit
attribute [local go_sem]mk_bs bs_size bs_toList bs_append bs_extract
attribute [local simp]run_cut run_cut_to run_cut_from run_add_bs
theorem phas_1 (n:Int)(w:World):Calls Tryz.prog 182 #[.agg #[],.int .i64 n] w (Ret (.bool (if (1:Int)=3 then n != 8 else if (1:Int)=4 then n == 8 else true)) w):=by
 go_enter Tryz.func182,Tryz.ntmps182
 go_wp2
 go_ret
 exact Ret.mk' rfl zqb
end
section
open Go.RowKit
attribute [local go_sem]mk_bs bs_size bs_toList bs_append bs_extract
attribute [local simp]run_cut run_cut_to run_cut_from run_add_bs
theorem pright_1 (n:Int)(w:World)(h:0≤n∧n≤3) :
  Calls Tryz.prog 187 #[.agg #[],.int .i64 n] w (Ret (.tuple #[.string (bs (rR 1 n)),.bool (okR 1 n)]) w):=by
 have h4:n=0∨n=1∨n=2∨n=3:=by omega
 clear h
 rcases h4 with rfl|rfl|rfl|rfl
 all_goals
  go_enter Tryz.func187,Tryz.ntmps187
  go_wp2
  go_ret2
  exact Ret.mk' rfl zqb
theorem pgrace_1 (n:Int)(w:World)(h:0≤n∧n≤4) :
  Calls Tryz.prog 181 #[.agg #[],.int .i64 n] w (Ret (.tuple #[.string (bs (rG 1 n)),.bool (okG 1 n)]) w):=by
 have h4:n=0∨n=1∨n=2∨n=3∨n=4:=by omega
 clear h
 rcases h4 with rfl|rfl|rfl|rfl|rfl
 all_goals
  go_enter Tryz.func181,Tryz.ntmps181
  go_wp2
  go_ret2
  exact Ret.mk' rfl zqb
theorem phold_1 (n L:Int)(w:World)(h:0≤n∧n≤15) :
  Calls Tryz.prog 183 #[.agg #[],.int .i64 n,.int .i64 L] w (Ret (.tuple #[.string (bs (pH 1 n L)),.bool (okH 1 n L)]) w):=by
 obtain⟨hn0,hn1⟩:=h
 by_cases h0:n=0
 ·subst h0
  go_enter Tryz.func183,Tryz.ntmps183
  go_wp2
  go_ret2
  exact Ret.mk' rfl zqb
 ·have hb:(n == 0)=false:=by simp;exact h0
  have e0:pH 1 n L=rH 1 n L:=if_neg h0
  have e1:okH 1 n L=!(rH 1 n L).isEmpty:=by unfold okH;rw [hb];rfl
  rw [e0,e1]
  have e2:rH 1 n L=95::dig2 n.toNat:=if_pos rfl
  have hl:([95]:List UInt8).length+(dig2 n.toNat).length≤9223372036854775807:=by have:=dig2_len n.toNat;simp;omega
  have hl':1+(dig2 n.toNat).length≤9223372036854775807:=by have:=dig2_len n.toNat;omega
  rw [e2]
  clear e0 e1 e2
  go_enter Tryz.func183,Tryz.ntmps183
  go_wp2_with (go_at_call 190;refine (itoa_any _ _ hn0 (by omega)).mono ?_;rintro e w'⟨rfl,hw⟩;rw [hw];clear hw)
  go_ret2
  exact Ret.mk' rfl zqb
theorem pcell_1 (c f r g h L:Int) (w:World) (hc:1≤c∧c≤14) (hf:0≤f∧f≤18) (hr:0≤r∧r≤3) (hg:0≤g∧g≤4) (hh:0≤h∧h≤15) :
  Calls Tryz.prog 105 #[(.iface 167 (.agg #[])),.agg #[.int .i64 c,.int .i64 f,.int .i64 r,.int .i64 g,.int .i64 h],.int .i64 L] w
   (Ret (.tuple #[.string (bs (cellS 1 c f r g h L)),.bool (cellOk 1 c f r g h L)]) w):=by
 have a1:=(pS_len 1 c f (by decide) hc hf).1
 have a2:=rR_len 1 r
 have a3:=rG_len 1 g
 have a4:=pH_len 1 h L
 have b1:(pS 1 c f).length+(rR 1 r).length≤9223372036854775807:=by omega
 have b2:(pS 1 c f).length+(rR 1 r).length+(rG 1 g).length≤9223372036854775807:=by omega
 have b2':(pS 1 c f).length+((rR 1 r).length+(rG 1 g).length)≤9223372036854775807:=by omega
 have b3:(pS 1 c f).length+(rR 1 r).length+(rG 1 g).length+(pH 1 h L).length≤9223372036854775807:=by omega
 have b3':(pS 1 c f).length+((rR 1 r).length+((rG 1 g).length+(pH 1 h L).length))≤9223372036854775807:=by omega
 have b3c:(pS 1 c f).length+((rR 1 r).length+(rG 1 g).length)+(pH 1 h L).length≤9223372036854775807:=by omega
 clear a1 a2 a3 a4
 unfold cellS cellOk
 go_enter Tryz.func105,Tryz.ntmps105
 go_wp2_with (first
  | (go_at_call 188;refine (psym_1 _ _ _ hc hf).mono ?_;rintro e w1 ⟨rfl,hb1⟩;have k1:=(Blk.new _ _ _).after hb1;have x1:w1.cell? ⟨w.heap.size,2,none⟩=some (.int .i64 r):=k1.cell 2;have K1:=Lib.hid k1;clear k1)
  | (go_at_call 187;refine (pright_1 _ _ hr).mono ?_;rintro e w2 ⟨rfl,hb2⟩;have k2:=K1.out.after hb2;have x2:w2.cell? ⟨w.heap.size,3,none⟩=some (.int .i64 g):=k2.cell 3;have K2:=Lib.hid k2;clear k2)
  | (go_at_call 181;refine (pgrace_1 _ _ hg).mono ?_;rintro e w3 ⟨rfl,hb3⟩;have k3:=K2.out.after hb3;have x3:w3.cell? ⟨w.heap.size,4,none⟩=some (.int .i64 h):=k3.cell 4;have K3:=Lib.hid k3;clear k3)
  | (go_at_call 183;refine (phold_1 _ _ _ hh).mono ?_;rintro e w4 ⟨rfl,hb4⟩))
 all_goals go_ret2
 all_goals exact Ret.mk' (by simp [*]) zqb
end
section
open Go.RowKit
theorem pcOk_of2 {p:Pce} (h:bigB p=false):PcOk p:=by
 unfold bigB at h
 simp only [Bool.or_eq_false_iff,decide_eq_false_iff_not,List.any_eq_false]at h
 obtain⟨h1,h2,h3,h4⟩:=h
 refine⟨by omega,by omega,by omega,fun k hk=>?_⟩
 have:=h4 _ (List.getElem_mem hk)
 simp at this
 exact this
theorem big_FS (p:Pce):Ctr Tryz.prog 25 [ePce p] (.sc (.bool (bigB p))) :=
 Ctr.of_pc (pre:=[]) (post:=[]) rfl rfl (fun _=>.sc _) fun w M hM=>big_any M p w hM
end
end Go.Proofs.YtaeelcfjkhfpkaaGreat
