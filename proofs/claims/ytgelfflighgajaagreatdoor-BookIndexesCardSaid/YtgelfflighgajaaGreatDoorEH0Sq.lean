/- The reference's small functions over trees: Right, Longest, Rest. -/
import Derived.Test.YtgelfflighgajaaGreatDoorOnSq
import Derived.Test.YtgelfflighgajaaGreatDoorBigSq
set_option maxHeartbeats 8000000
set_option maxRecDepth 100000
set_option linter.unusedVariables false
set_option linter.unusedSimpArgs false
namespace Go.Proofs.YtgelfflighgajaaGreatDoor
section
open Go.RowKit
theorem pOnsets_bad (M:PM)(p:Pce)(w:World)(hP:PcAt w w.heap.size M p)(hO:PcOk p)(h0:pceE p≠0):Calls Tryz.prog 111 #[pcValue M p] w (Ret (.tuple #[.slice none 0 0,.int .i64 (pceE p)]) w):=by
 have hC:=fun (w':World)(hb:Below w.heap.size w w')=>pCheck_any M p w' (hP.after hb) hO
 obtain⟨E,hE⟩:∃ E,pceE p=E:=⟨_,rfl⟩
 rw [hE] at hC h0 ⊢
 obtain⟨A1,A2,A3,c1,c2,c3⟩:=M
 unfold pcValue at *
 simp only at *
 have HC:=Lib.hid hC
 have e1:(E == 0)=false:=by simpa using h0
 have e2:(E != 0)=true:=by simpa using h0
 clear hC hP hO h0 hE
 go_enter Tryz.func111,Tryz.ntmps111
 go_wp2_with (go_at_call 52;refine (HC.out _ zqb).mono ?_;rintro e' w1⟨rfl,hb1⟩;have k1:=(Blk.new _ _ _).after hb1;have l1:w.heap.size < w1.heap.size:=k1.lt;clear k1)
 go_ret2
 exact Ret.mk' rfl zqb
theorem pMeasures_bad (M:PM)(p:Pce)(w:World)(hP:PcAt w w.heap.size M p)(hO:PcOk p)(h0:pceE p≠0):Calls Tryz.prog 112 #[pcValue M p] w (Ret (.tuple #[.slice none 0 0,.int .i64 (pceE p)]) w):=by
 have hC:=fun (w':World)(hb:Below w.heap.size w w')=>pCheck_any M p w' (hP.after hb) hO
 obtain⟨E,hE⟩:∃ E,pceE p=E:=⟨_,rfl⟩
 rw [hE] at hC h0 ⊢
 obtain⟨A1,A2,A3,c1,c2,c3⟩:=M
 unfold pcValue at *
 simp only at *
 have HC:=Lib.hid hC
 have e1:(E == 0)=false:=by simpa using h0
 have e2:(E != 0)=true:=by simpa using h0
 clear hC hP hO h0 hE
 go_enter Tryz.func112,Tryz.ntmps112
 go_wp2_with (go_at_call 52;refine (HC.out _ zqb).mono ?_;rintro e' w1⟨rfl,hb1⟩;have k1:=(Blk.new _ _ _).after hb1;have l1:w.heap.size < w1.heap.size:=k1.lt;clear k1)
 go_ret2
 exact Ret.mk' rfl zqb
end
section
open Go.RowKit
attribute [local go_sem]mk_bs bs_size bs_toList bs_append bs_extract
attribute [local simp]run_cut run_cut_to run_cut_from run_add_bs
theorem rright_any (s n:Int)(w:World)(hs:1≤s∧s≤4)(h:0≤n∧n≤3) :
  Calls Tryz.prog 201 #[.int .u8 s,.int .i64 n] w fun e w'=>e=.returned (.string (bs (rR s n)))∧w'=w:=by
 have h4:n=0∨n=1∨n=2∨n=3:=by omega
 have s4:s=1∨s=2∨s=3∨s=4:=by omega
 clear h hs
 rcases h4 with rfl|rfl|rfl|rfl<;>rcases s4 with rfl|rfl|rfl|rfl
 all_goals
  go_enter Tryz.func201,Tryz.ntmps201
  go_wp2
  go_ret
  exact⟨rfl,rfl⟩
theorem rgrace_any (s n:Int)(w:World)(hs:1≤s∧s≤4)(h:0≤n∧n≤4) :
  Calls Tryz.prog 202 #[.int .u8 s,.int .i64 n] w fun e w'=>e=.returned (.string (bs (rG s n)))∧w'=w:=by
 have h4:n=0∨n=1∨n=2∨n=3∨n=4:=by omega
 have s4:s=1∨s=2∨s=3∨s=4:=by omega
 clear h hs
 rcases h4 with rfl|rfl|rfl|rfl|rfl<;>rcases s4 with rfl|rfl|rfl|rfl
 all_goals
  go_enter Tryz.func202,Tryz.ntmps202
  go_wp2
  go_ret
  exact⟨rfl,rfl⟩
theorem digAll:((List.range 10).all fun n=>cut [48,49,50,51,52,53,54,55,56,57] ((n:Nat):Int) (((n:Nat):Int)+1) == [UInt8.ofNat (48+n)])=true:=by decide +kernel
theorem digOne (n:Int)(h:0≤n∧n≤9):cut [48,49,50,51,52,53,54,55,56,57] n (n+1)=[UInt8.ofNat (48+n.toNat)]:=by
 obtain⟨k,rfl⟩:=Int.eq_ofNat_of_zero_le h.1
 have h1:=digAll
 rw [List.all_eq_true] at h1
 have:=h1 k (List.mem_range.2 (by omega))
 simpa using this
theorem decimal_one (n:Int) (w:World) (h:0≤n∧n≤9) :
  Calls Tryz.prog 189 #[.int .i64 n] w fun e w'=>e=.returned (.string (bs (dig2 n.toNat)))∧w'=w:=by
 obtain ⟨h0,h1⟩:=h
 have e:dig2 n.toNat=cut [48,49,50,51,52,53,54,55,56,57] n (n+1):=by
  rw [digOne n ⟨h0,h1⟩];unfold dig2;rw [if_pos (by omega)]
 rw [e]
 have hm:n % 10=n:=by omega
 have g1:n≤n+1:=by omega
 have g2:n+1≤10:=by omega
 have g3:n<10:=by omega
 clear e
 go_enter Tryz.func189,Tryz.ntmps189
 go_wp2
 go_ret
 exact ⟨rfl,rfl⟩
theorem decimal_two (n:Int) (w:World) (h:10≤n∧n≤99) :
  Calls Tryz.prog 189 #[.int .i64 n] w fun e w'=>e=.returned (.string (bs (dig2 n.toNat)))∧w'=w:=by
 obtain ⟨h0,h1⟩:=h
 have e:dig2 n.toNat=dig2 (n/10).toNat++cut [48,49,50,51,52,53,54,55,56,57] (n % 10) (n % 10+1):=by
  rw [digOne (n % 10) (by omega)]
  unfold dig2
  rw [if_neg (by omega),if_pos (by omega)]
  rw [show (n/10).toNat=n.toNat/10 from by omega,show (n % 10).toNat=n.toNat % 10 from by omega]
  rfl
 rw [e]
 have g0:0≤n % 10:=by omega
 have g0':0≤n:=by omega
 have g1:n % 10≤n % 10+1:=by omega
 have g2:n % 10+1≤10:=by omega
 have g2':n % 10≤9:=by omega
 have g3:¬ n < 10:=by omega
 have g4:¬ n < 0:=by omega
 have hd:0≤n/10∧n/10≤9:=by omega
 have hl:(dig2 (n/10).toNat).length+(cut [48,49,50,51,52,53,54,55,56,57] (n % 10) (n % 10+1)).length≤9223372036854775807:=by
  have:=dig2_len (n/10).toNat
  rw [digOne (n % 10) (by omega)];simp;omega
 clear e
 go_enter Tryz.func189,Tryz.ntmps189
 go_wp2_with (go_at_call 189;refine (decimal_one _ _ hd).mono ?_;rintro e w' ⟨rfl,hw⟩;rw [hw];clear hw)
 go_ret
 exact ⟨rfl,rfl⟩
theorem decimal_any (n:Int) (w:World) (h:0≤n∧n≤99) :
  Calls Tryz.prog 189 #[.int .i64 n] w fun e w'=>e=.returned (.string (bs (dig2 n.toNat)))∧w'=w:=by
 by_cases h9:n≤9
 ·exact decimal_one n w ⟨h.1,h9⟩
 ·exact decimal_two n w ⟨by omega,h.2⟩
theorem rhold_any (s n L:Int) (w:World) (hs:1≤s∧s≤4) (h:0≤n∧n≤99) :
  Calls Tryz.prog 203 #[.int .u8 s,.int .i64 n,.int .i64 L] w fun e w'=>e=.returned (.string (bs (rH s n L)))∧w'=w:=by
 have s4:s=1∨s=2∨s=3∨s=4:=by omega
 clear hs
 rcases s4 with rfl|rfl|rfl|rfl
 ·have e2:rH 1 n L=95::dig2 n.toNat:=if_pos rfl
  have hl':1+(dig2 n.toNat).length≤9223372036854775807:=by have:=dig2_len n.toNat;omega
  rw [e2]
  clear e2
  go_enter Tryz.func203,Tryz.ntmps203
  go_wp2_with (go_at_call 189;refine (decimal_any _ _ h).mono ?_;rintro e w' ⟨rfl,hw⟩;rw [hw];clear hw)
  go_ret
  exact ⟨rfl,rfl⟩
 ·by_cases hL:n=L
  ·have e2:rH 2 n L=[42]:=by unfold rH;rw [if_neg (by decide),if_pos ⟨by decide,hL⟩]
   have hbL:(n == L)=true:=by simpa using hL
   rw [e2]
   clear e2 hL
   go_enter Tryz.func203,Tryz.ntmps203
   go_wp2
   go_ret
   exact ⟨rfl,rfl⟩
  ·have e2:rH 2 n L=[]:=by unfold rH;rw [if_neg (by decide),if_neg (fun h=>hL h.2)]
   have hbL:(n == L)=false:=by simpa using hL
   rw [e2]
   clear e2 hL
   go_enter Tryz.func203,Tryz.ntmps203
   go_wp2
   go_ret
   exact ⟨rfl,rfl⟩
 ·have e2:rH 3 n L=[]:=rfl
  rw [e2]
  clear e2
  go_enter Tryz.func203,Tryz.ntmps203
  go_wp2
  go_ret
  exact ⟨rfl,rfl⟩
 ·by_cases hL:n=L
  ·have e2:rH 4 n L=[42]:=by unfold rH;rw [if_neg (by decide),if_pos ⟨by decide,hL⟩]
   have hbL:(n == L)=true:=by simpa using hL
   rw [e2]
   clear e2 hL
   go_enter Tryz.func203,Tryz.ntmps203
   go_wp2
   go_ret
   exact ⟨rfl,rfl⟩
  ·have e2:rH 4 n L=[]:=by unfold rH;rw [if_neg (by decide),if_neg (fun h=>hL h.2)]
   have hbL:(n == L)=false:=by simpa using hL
   rw [e2]
   clear e2 hL
   go_enter Tryz.func203,Tryz.ntmps203
   go_wp2
   go_ret
   exact ⟨rfl,rfl⟩
end
section
open Go.RowKit
theorem rRight2_FS (v:Int)(d t:Bool):Ctr Tryz.prog 137 [.ag [.sc (.int .i64 v),.sc (.bool d),.sc (.bool t)]] (.sc (.bool (sgOk v d t))):=by
 intro w F vs hF hR
 match vs,hR.1 with
 | [x],_ =>
  obtain⟨cs,rfl,h1,h2⟩:∃ cs:Array Value,x=.agg cs∧cs.size=3∧∀ (i:Nat)av u,[AV.sc (.int .i64 v),.sc (.bool d),.sc (.bool t)][i]?=some av→cs[i]?=some u→RP F av u:=by
   cases hR.2 0 _ x rfl rfl with|ag l cs a b=>exact⟨cs,rfl,a,b⟩
  have g:∀ i (h:i<3),cs[i]?=some (cs[i]'(by omega)):=fun i h=>Array.getElem?_eq_getElem (by omega)
  have e:cs=#[.int .i64 v,.bool d,.bool t]:=by
   apply Array.ext (by simp [h1])
   intro i hi hi2
   match i,(show i<3 by omega)with
   | 0,_=>exact (h2 0 _ _ rfl (g 0 (by omega))).sc_eq
   | 1,_=>exact (h2 1 _ _ rfl (g 1 (by omega))).sc_eq
   | 2,_=>exact (h2 2 _ _ rfl (g 2 (by omega))).sc_eq
  subst e
  exact (right_any v d t w).mono fun e w'⟨he,hb⟩=>⟨_,F,he,hb,fun _ _ h=>h,fun p u x=>by rw [hb.cell (cell_block (hF p u x))];exact hF p u x,fun _ _ h=>.inl h,.sc _⟩
theorem ev_of_rp {F:View} {w:World} {e:Ev} {v:Value} (hF:∀ p u,F p=some u→w.cell? p=some u)(r:RP F (.ag (eEv e)) v):∃ S c,v=evVal e S c:=by
 obtain⟨cs,rfl,h1,h2⟩:∃ cs:Array Value,v=.agg cs∧cs.size=6∧∀ (i:Nat) av u,(eEv e)[i]?=some av→cs[i]?=some u→RP F av u:=by
  cases r with|ag l cs a b=>exact⟨cs,rfl,a,b⟩
 have g:∀ i (h:i<6),cs[i]?=some (cs[i]'(by omega)):=fun i h=>Array.getElem?_eq_getElem (by omega)
 obtain⟨A,c,e5,_,_⟩:=stps_of_rp hF (h2 5 _ _ rfl (g 5 (by omega)))
 refine⟨A,c,?_⟩
 unfold evVal
 congr 1
 apply Array.ext (by simp [h1])
 intro i hi hi2
 match i,(show i<6 by omega) with
 | 0,_=>exact (h2 0 _ _ rfl (g 0 (by omega))).sc_eq
 | 1,_=>exact (h2 1 _ _ rfl (g 1 (by omega))).sc_eq
 | 2,_=>exact (h2 2 _ _ rfl (g 2 (by omega))).sc_eq
 | 3,_=>exact (h2 3 _ _ rfl (g 3 (by omega))).sc_eq
 | 4,_=>exact (h2 4 _ _ rfl (g 4 (by omega))).sc_eq
 | 5,_=>exact e5
theorem rest_FS (e:Ev):Ctr Tryz.prog 147 [.ag (eEv e)] (.sc (.bool (restB e))):=by
 intro w F vs hF hR
 match vs,hR.1 with
 | [v],_ =>
  obtain⟨S,c,rfl⟩:=ev_of_rp hF (hR.2 0 _ v rfl rfl)
  exact (rRest_any e S c w).mono fun e w'⟨he,hb⟩=>⟨_,F,he,hb,fun _ _ h=>h,fun p u x=>by rw [hb.cell (cell_block (hF p u x))];exact hF p u x,fun _ _ h=>.inl h,.sc _⟩
theorem rLong_FS (p:Pce) (hO:PcOk p) (i x:Int):Ctr Tryz.prog 86 [ePce p,.sc (.int .i64 i),.sc (.int .i64 x)] (.sc (.int .i64 (longestN p.evs i x))) :=
 Ctr.of_pc (pre:=[]) (post:=[.sc (.int .i64 i),.sc (.int .i64 x)]) rfl rfl (fun _=>.sc _) fun w M hM=>rLongest_any M p i x w hM hO
end
end Go.Proofs.YtgelfflighgajaaGreatDoor
