/- Copy of a piece, over trees. -/
import Derived.Test.YtaeelcfjkhfpkaaGreatSpSq
import Derived.Test.YtaeelcfjkhfpkaaGreatMk4Sq
import Derived.Test.YtaeelcfjkhfpkaaGreatFJSq
set_option maxHeartbeats 8000000
set_option maxRecDepth 100000
set_option linter.unusedVariables false
set_option linter.unusedSimpArgs false
namespace Go.Proofs.YtaeelcfjkhfpkaaGreat
section
open Go.RowKit
attribute [local go_sem]mk_bs bs_size bs_toList bs_append bs_extract
attribute [local simp]run_cut run_cut_to run_cut_from run_add_bs
theorem pright_2 (n:Int)(w:World)(h:0≤n∧n≤3) :
  Calls Tryz.prog 224 #[.agg #[],.int .i64 n] w (Ret (.tuple #[.string (bs (rR 2 n)),.bool (okR 2 n)]) w):=by
 have h4:n=0∨n=1∨n=2∨n=3:=by omega
 clear h
 rcases h4 with rfl|rfl|rfl|rfl
 all_goals
  go_enter Tryz.func224,Tryz.ntmps224
  go_wp2
  go_ret2
  exact Ret.mk' rfl zqb
theorem pgrace_2 (n:Int)(w:World)(h:0≤n∧n≤4) :
  Calls Tryz.prog 219 #[.agg #[],.int .i64 n] w (Ret (.tuple #[.string (bs (rG 2 n)),.bool (okG 2 n)]) w):=by
 have h4:n=0∨n=1∨n=2∨n=3∨n=4:=by omega
 clear h
 rcases h4 with rfl|rfl|rfl|rfl|rfl
 all_goals
  go_enter Tryz.func219,Tryz.ntmps219
  go_wp2
  go_ret2
  exact Ret.mk' rfl zqb
theorem phold_2 (n L:Int) (w:World) (h:0≤n∧n≤15) :
  Calls Tryz.prog 218 #[.agg #[],.int .i64 n,.int .i64 L] w (Ret (.tuple #[.string (bs (pH 2 n L)),.bool (okH 2 n L)]) w):=by
 obtain ⟨hn0,hn1⟩:=h
 by_cases h0:n=0
 ·subst h0
  go_enter Tryz.func218,Tryz.ntmps218
  go_wp2
  go_ret2
  exact Ret.mk' rfl zqb
 ·have hb:(n == 0)=false:=by simp;exact h0
  have e0:pH 2 n L=rH 2 n L:=if_neg h0
  have e1:okH 2 n L=!(rH 2 n L).isEmpty:=by unfold okH;rw [hb];rfl
  rw [e0,e1]
  by_cases hL:n=L
  ·have e2:rH 2 n L=[42]:=by unfold rH;rw [if_neg (by decide),if_pos ⟨by decide,hL⟩]
   have hbL:(n == L)=true:=by simpa using hL
   rw [e2]
   clear e0 e1 e2 hL
   go_enter Tryz.func218,Tryz.ntmps218
   go_wp2
   go_ret2
   exact Ret.mk' rfl zqb
  ·have e2:rH 2 n L=[]:=by unfold rH;rw [if_neg (by decide),if_neg (fun h=>hL h.2)]
   have hbL:(n == L)=false:=by simpa using hL
   rw [e2]
   clear e0 e1 e2 hL
   go_enter Tryz.func218,Tryz.ntmps218
   go_wp2
   go_ret2
   exact Ret.mk' rfl zqb
theorem pcell_2 (c f r g h L:Int) (w:World) (hc:1≤c∧c≤14) (hf:0≤f∧f≤18) (hr:0≤r∧r≤3) (hg:0≤g∧g≤4) (hh:0≤h∧h≤15) :
  Calls Tryz.prog 105 #[(.iface 171 (.agg #[])),.agg #[.int .i64 c,.int .i64 f,.int .i64 r,.int .i64 g,.int .i64 h],.int .i64 L] w
   (Ret (.tuple #[.string (bs (cellS 2 c f r g h L)),.bool (cellOk 2 c f r g h L)]) w):=by
 have a1:=(pS_len 2 c f (by decide) hc hf).1
 have a2:=rR_len 2 r
 have a3:=rG_len 2 g
 have a4:=pH_len 2 h L
 have b1:(pS 2 c f).length+(rR 2 r).length≤9223372036854775807:=by omega
 have b2:(pS 2 c f).length+(rR 2 r).length+(rG 2 g).length≤9223372036854775807:=by omega
 have b2':(pS 2 c f).length+((rR 2 r).length+(rG 2 g).length)≤9223372036854775807:=by omega
 have b3:(pS 2 c f).length+(rR 2 r).length+(rG 2 g).length+(pH 2 h L).length≤9223372036854775807:=by omega
 have b3':(pS 2 c f).length+((rR 2 r).length+((rG 2 g).length+(pH 2 h L).length))≤9223372036854775807:=by omega
 have b3c:(pS 2 c f).length+((rR 2 r).length+(rG 2 g).length)+(pH 2 h L).length≤9223372036854775807:=by omega
 clear a1 a2 a3 a4
 unfold cellS cellOk
 go_enter Tryz.func105,Tryz.ntmps105
 go_wp2_with (first
  | (go_at_call 225;refine (psym_2 _ _ _ hc hf).mono ?_;rintro e w1 ⟨rfl,hb1⟩;have k1:=(Blk.new _ _ _).after hb1;have x1:w1.cell? ⟨w.heap.size,2,none⟩=some (.int .i64 r):=k1.cell 2;have K1:=Lib.hid k1;clear k1)
  | (go_at_call 224;refine (pright_2 _ _ hr).mono ?_;rintro e w2 ⟨rfl,hb2⟩;have k2:=K1.out.after hb2;have x2:w2.cell? ⟨w.heap.size,3,none⟩=some (.int .i64 g):=k2.cell 3;have K2:=Lib.hid k2;clear k2)
  | (go_at_call 219;refine (pgrace_2 _ _ hg).mono ?_;rintro e w3 ⟨rfl,hb3⟩;have k3:=K2.out.after hb3;have x3:w3.cell? ⟨w.heap.size,4,none⟩=some (.int .i64 h):=k3.cell 4;have K3:=Lib.hid k3;clear k3)
  | (go_at_call 218;refine (phold_2 _ _ _ hh).mono ?_;rintro e w4 ⟨rfl,hb4⟩))
 all_goals go_ret2
 all_goals exact Ret.mk' (by simp [*]) zqb
end
section
open Go.RowKit
theorem rRight2_FS (v:Int)(d t:Bool):Ctr Tryz.prog 116 [.ag [.sc (.int .i64 v),.sc (.bool d),.sc (.bool t)]] (.sc (.bool (sgOk v d t))):=by
 intro w F vs hF hR
 match vs,hR.1 with
 | [x],_ =>
  obtain⟨cs,rfl,h1,h2⟩:∃ cs:Array Value,x=.agg cs∧cs.size=3∧∀ (i:Nat)av u,[AV.sc (.int .i64 v),.sc (.bool d),.sc (.bool t)][i]?=some av→cs[i]?=some u→RP F av u:=by
   cases hR.2 0 _ x rfl rfl with|ag l cs a b=>exact⟨cs,rfl,a,b⟩
  have g:∀ i (h:i<3),cs[i]?=some (cs[i]'(by omega)):=fun i h=>Array.getElem?_eq_getElem (by omega)
  have e:cs=#[.int .i64 v,.bool d,.bool t]:=by
   apply Array.ext (by simp [h1])
   intro i hi hi2
   match i,(show i<3 by omega)with
   | 0,_=>exact (h2 0 _ _ rfl (g 0 zqo)).sc_eq
   | 1,_=>exact (h2 1 _ _ rfl (g 1 zqo)).sc_eq
   | 2,_=>exact (h2 2 _ _ rfl (g 2 zqo)).sc_eq
  subst e
  exact (right_any v d t w).mono fun e w'⟨he,hb⟩=>⟨_,F,he,hb,fun _ _ h=>h,fun p u x=>by rw [hb.cell (cell_block (hF p u x))];exact hF p u x,fun _ _ h=>.inl h,.sc _⟩
theorem ev_of_rp {F:View} {w:World} {e:Ev} {v:Value} (hF:∀ p u,F p=some u→w.cell? p=some u)(r:RP F (.ag (eEv e)) v):∃ S c,v=evVal e S c:=by
 obtain⟨cs,rfl,h1,h2⟩:∃ cs:Array Value,v=.agg cs∧cs.size=6∧∀ (i:Nat) av u,(eEv e)[i]?=some av→cs[i]?=some u→RP F av u:=by
  cases r with|ag l cs a b=>exact⟨cs,rfl,a,b⟩
 have g:∀ i (h:i<6),cs[i]?=some (cs[i]'(by omega)):=fun i h=>Array.getElem?_eq_getElem (by omega)
 obtain⟨A,c,e5,_,_⟩:=stps_of_rp hF (h2 5 _ _ rfl (g 5 zqo))
 refine⟨A,c,?_⟩
 unfold evVal
 congr 1
 apply Array.ext (by simp [h1])
 intro i hi hi2
 match i,(show i<6 by omega) with
 | 0,_=>exact (h2 0 _ _ rfl (g 0 zqo)).sc_eq
 | 1,_=>exact (h2 1 _ _ rfl (g 1 zqo)).sc_eq
 | 2,_=>exact (h2 2 _ _ rfl (g 2 zqo)).sc_eq
 | 3,_=>exact (h2 3 _ _ rfl (g 3 zqo)).sc_eq
 | 4,_=>exact (h2 4 _ _ rfl (g 4 zqo)).sc_eq
 | 5,_=>exact e5
theorem rest_FS (e:Ev):Ctr Tryz.prog 64 [.ag (eEv e)] (.sc (.bool (restB e))):=by
 intro w F vs hF hR
 match vs,hR.1 with
 | [v],_ =>
  obtain⟨S,c,rfl⟩:=ev_of_rp hF (hR.2 0 _ v rfl rfl)
  exact (rRest_any e S c w).mono fun e w'⟨he,hb⟩=>⟨_,F,he,hb,fun _ _ h=>h,fun p u x=>by rw [hb.cell (cell_block (hF p u x))];exact hF p u x,fun _ _ h=>.inl h,.sc _⟩
theorem rLong_FS (p:Pce) (hO:PcOk p) (i x:Int):Ctr Tryz.prog 66 [ePce p,.sc (.int .i64 i),.sc (.int .i64 x)] (.sc (.int .i64 (longestN p.evs i x))) :=
 Ctr.of_pc (pre:=[]) (post:=[.sc (.int .i64 i),.sc (.int .i64 x)]) rfl rfl (fun _=>.sc _) fun w M hM=>rLongest_any M p i x w hM hO
end
section
open Go.RowKit
theorem pcCopy_FS (p:Pce) (hO:PcOk p):Ctr Tryz.prog 15 [ePce p] (ePce p):=by
 refine zqe Tryz.func15 Tryz.ntmps15 fun w0 F0=>?_
 have hn3:=hO.n3
 repeat refine W.go rfl ?_
 refine (?_:WL _ _ _ _ _ _)
 refine WL.vl rfl (WV.call rfl (callF Tryz.func35 rfl rfl) rfl rfl (insCopy_FS p.cs p.st hO.n1 hO.n2)) ?_
 repeat (first|refine W.go rfl ?_|refine WL.ev rfl ?_)
 refine (?_:W _ _ _ _ _)
 refine W.tr (Tr.nilBox (k:=2) (j:=2) 45 6 rfl rfl rfl rfl) ?_
 refine W.loop (fun k:Nat=>k≤p.evs.length) (fun k=>⟨[(1,.pt 0 0 0),(2,.pt 1 0 0),(3,.pt 2 0 0),(4,.sc (.int .i64 k))],[(0,.box 29 [.ls 3 (p.cs.map eCrs),.ls 1 (p.st.map eInt),.ls 6 (p.evs.map eEv)]),(1,.box 29 [.sc (.slice none 0 0),.sc (.slice none 0 0),.sc (.slice none 0 0)]),(2,.box 29 [.ls 3 (p.cs.map eCrs),.ls 1 (p.st.map eInt),.sl 3]),(3,.row 45 6 ((p.evs.take k).map eEv))],4⟩) (fun k=>p.evs.length - k) 0 zqo (zqt id) fun k hk=>?_
 repeat (first|refine W.go rfl ?_|refine WL.ev rfl ?_|refine WL.len rfl rfl zql ?_)
 refine (?_:W _ _ _ _ _)
 (refine W.cond rfl (fun hif=>?_) (fun hif=>?_)<;>(try simp only [decide_eq_true_eq,decide_eq_false_iff_not,Int.not_lt,Int.not_le,Bool.not_eq_true',Bool.not_eq_false'] at hif))
 ·have hk2:k < p.evs.length:=by omega
  have h20:=hO.n4 k hk2
  repeat (first|refine W.go rfl ?_|refine WL.ev rfl ?_|refine WL.idx rfl rfl zqo zqm ?_|refine WL.app rfl rfl rfl zqs ?_)
  refine (?_:WL _ _ _ _ _ _)
  refine WL.tr (Tr.freeze 6 rfl) ?_
  repeat (first|refine W.go rfl ?_|refine WL.ev rfl ?_|refine WL.ar rfl rfl (by unfold I64;omega) ?_|refine WL.app rfl rfl rfl zqs ?_)
  refine ⟨k+1,by omega,by omega,zqu (fun q=>bif Nat.beq q 3 then 8 else q) (by repeat (first|exact trivial|refine ⟨⟨?_,?_,?_⟩,?_⟩|exact congrArg (fun r=>some (AO.row _ _ r)) (take_map_succ hk2)|rfl)) rfl⟩
 ·have he:k=p.evs.length:=by omega
  subst he
  repeat refine W.go rfl ?_
  refine (?_:W _ _ _ _ _)
  refine W.tr (Tr.freeze 3 rfl) ?_
  refine W.ret (fin_cell rfl rfl rfl rfl rfl rfl ?_ rfl)
  show AV.ag [_,_,.ls 6 ((p.evs.take p.evs.length).map eEv)]=ePce p
  rw [List.take_length]
  rfl
end
end Go.Proofs.YtaeelcfjkhfpkaaGreat
