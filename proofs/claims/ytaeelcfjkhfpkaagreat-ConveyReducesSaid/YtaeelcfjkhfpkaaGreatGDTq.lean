/- A walk that knows values as trees: a load of a whole row of which one cell is open. -/
import Derived.Test.YtaeelcfjkhfpkaaGreatLngTq
import Derived.Test.YtaeelcfjkhfpkaaGreatFXTq
set_option maxHeartbeats 8000000
set_option maxRecDepth 100000
set_option linter.unusedVariables false
set_option linter.unusedSimpArgs false
namespace Go.Proofs.YtaeelcfjkhfpkaaGreat
section
open Go.RowKit
attribute [local go_sem]mk_bs bs_size bs_toList bs_append bs_extract
attribute [local simp]run_cut run_cut_to run_cut_from run_add_bs
theorem known_any (n:Int) (w:World):Calls Tryz.prog 58 #[.int .u8 n] w fun e w'=>e=.returned (.bool (decide (1≤n∧n≤4)))∧w'=w:=by
 by_cases h:1≤n∧n≤4
 ·rw [decide_eq_true h]
  obtain ⟨h1,h4⟩:=h
  go_enter Tryz.func58,Tryz.ntmps58
  go_wp2
  go_ret
  exact ⟨rfl,rfl⟩
 ·rw [decide_eq_false h]
  by_cases h1:1≤n
  ·have h4:¬ n≤4:=fun h4=>h ⟨h1,h4⟩
   clear h
   go_enter Tryz.func58,Tryz.ntmps58
   go_wp2
   go_ret
   exact ⟨rfl,rfl⟩
  ·clear h
   go_enter Tryz.func58,Tryz.ntmps58
   go_wp2
   go_ret
   exact ⟨rfl,rfl⟩
theorem frenchFret_any (f:Int)(w:World)(h0:0≤f)(h1:f≤18) :
  Calls Tryz.prog 140 #[.int .i64 f] w fun e w'=>e=.returned (.string (bs (cut frLetters f (f+1))))∧w'=w:=by
 have g1:f≤f+1:=by omega
 have g2:f+1≤19:=by omega
 have g3:0≤f+1:=by omega
 unfold frLetters
 go_enter Tryz.func140,Tryz.ntmps140
 go_wp2
 go_ret
 exact⟨rfl,rfl⟩
theorem rfigure_any (f:Int)(w:World)(h0:0≤f)(h1:f≤10) :
  Calls Tryz.prog 141 #[.int .i64 f] w fun e w'=>e=.returned (.string (bs (cut figLetters f (f+1))))∧w'=w:=by
 have g1:f≤f+1:=by omega
 have g2:f+1≤11:=by omega
 have g3:0≤f+1:=by omega
 unfold figLetters
 go_enter Tryz.func141,Tryz.ntmps141
 go_wp2
 go_ret
 exact⟨rfl,rfl⟩
theorem rgerman_any (c f:Int) (w:World) (hc:1≤c∧c≤6) (hf:0≤f∧f≤10) :
  Calls Tryz.prog 142 #[.int .i64 c,.int .i64 f] w fun e w'=>e=.returned (.string (bs (rge c f)))∧w'=w:=by
 obtain ⟨hc0,hc1⟩:=hc
 obtain ⟨hf0,hf1⟩:=hf
 have g1:f≤f+1:=by omega
 have g2:f+1≤11:=by omega
 have g3:0≤f+1:=by omega
 by_cases h6:c=6
 ·subst h6
  go_enter Tryz.func142,Tryz.ntmps142
  go_wp2
  go_ret
  exact ⟨rfl,rfl⟩
 ·have hb1:(c == 6)=false:=by simp;exact h6
  by_cases h0:f=0
  ·subst h0
   have k1:0≤5-c:=by omega
   have k1':c≤5:=by omega
   have k2:5-c≤6-c:=by omega
   have k3:6-c≤5:=by omega
   have e1:rge c 0=cut [49,50,51,52,53] (5-c) (6-c):=by unfold rge;rw [if_neg h6,if_pos rfl]
   rw [e1]
   go_enter Tryz.func142,Tryz.ntmps142
   go_wp2
   go_ret
   exact ⟨rfl,rfl⟩
  ·have hb2:(f == 0)=false:=by simp;exact h0
   have k0:0≤5*((f-1) % 5)+5-c:=by omega
   have k0':c≤5*((f-1) % 5)+5:=by omega
   have k1:5*((f-1) % 5)+5-c≤5*((f-1) % 5)+6-c:=by omega
   have k2:5*((f-1) % 5)+6-c≤25:=by omega
   have kl:=cut_length [97,98,99,100,101,102,103,104,105,107,108,109,110,111,112,113,114,115,116,118,120,121,122,38,57] (5*((f-1) % 5)+5-c) (5*((f-1) % 5)+6-c)
   have kl':(cut [97,98,99,100,101,102,103,104,105,107,108,109,110,111,112,113,114,115,116,118,120,121,122,38,57] (5*((f-1) % 5)+5-c) (5*((f-1) % 5)+6-c)).length+(cut [97,98,99,100,101,102,103,104,105,107,108,109,110,111,112,113,114,115,116,118,120,121,122,38,57] (5*((f-1) % 5)+5-c) (5*((f-1) % 5)+6-c)).length≤9223372036854775807:=by
    have:([97,98,99,100,101,102,103,104,105,107,108,109,110,111,112,113,114,115,116,118,120,121,122,38,57]:List UInt8).length=25:=rfl
    omega
   clear kl
   by_cases h5:5<f
   ·have e1:rge c f=cut rsmall (5*((f-1) % 5)+5-c) (5*((f-1) % 5)+6-c)++cut rsmall (5*((f-1) % 5)+5-c) (5*((f-1) % 5)+6-c):=by unfold rge;rw [if_neg h6,if_neg h0,if_pos h5]
    rw [e1]
    unfold rsmall
    go_enter Tryz.func142,Tryz.ntmps142
    go_wp2
    go_ret
    exact ⟨rfl,rfl⟩
   ·have e1:rge c f=cut rsmall (5*((f-1) % 5)+5-c) (5*((f-1) % 5)+6-c):=by unfold rge;rw [if_neg h6,if_neg h0,if_neg h5]
    rw [e1]
    unfold rsmall
    go_enter Tryz.func142,Tryz.ntmps142
    go_wp2
    go_ret
    exact ⟨rfl,rfl⟩
theorem rsymbol_1 (c f:Int) (w:World) (hc:1≤c∧c≤14) (hf:0≤f∧f≤18) :
  Calls Tryz.prog 111 #[.int .u8 1,.int .i64 c,.int .i64 f] w (Ret (.string (bs (rS 1 c f))) w):=by
 obtain ⟨hc0,hc1⟩:=hc
 obtain ⟨hf0,hf1⟩:=hf
 by_cases h7:c≤7
 ·have e1:rS 1 c f=cut frLetters f (f+1):=by unfold rS;rw [if_pos rfl,if_pos h7]
  rw [e1]
  go_enter Tryz.func111,Tryz.ntmps111
  go_wp2_with (go_at_call 140;refine (frenchFret_any _ _ hf0 hf1).mono ?_;rintro e w' ⟨rfl,rfl⟩)
  go_ret
  exact Ret.mk' rfl zqb
 ·by_cases h10:c≤10
  ·have e1:rS 1 c f=cut [47,47,47] 0 (c - 7)++cut frLetters f (f+1):=by unfold rS;rw [if_pos rfl,if_neg h7,if_pos h10]
   rw [e1]
   have g0:0≤c - 7:=by omega
   have g0':7≤c:=by omega
   have g1:c - 7≤3:=by omega
   have gl:(cut [47,47,47] 0 (c - 7)).length+(cut frLetters f (f+1)).length≤9223372036854775807:=by
    have a:=cut_length [47,47,47] 0 (c - 7)
    have b:=cut_length frLetters f (f+1)
    have a':([47,47,47]:List UInt8).length=3:=rfl
    have b':frLetters.length=19:=rfl
    omega
   have w1:IntKind.i64.wrap (c - 7)=c - 7:=IntWalk.i64_in _ zqo
   go_enter Tryz.func111,Tryz.ntmps111
   go_wp2_with fail
   go_quiet ((go_at_call 140;exact Calls.quiet_of_same (frenchFret_any _ _ hf0 hf1)))
   go_wp2_with fail
   go_ret
   exact Ret.mk' rfl zqb
  ·by_cases h0:f=0
   ·subst h0
    have e1:rS 1 c 0=cut [52,53,54,55] (c - 11) (c - 10):=by unfold rS;rw [if_pos rfl,if_neg h7,if_neg h10,if_pos rfl]
    have g0:0≤c - 11:=by omega
    have g0':11≤c:=by omega
    have g1:c - 11≤c - 10:=by omega
    have g2:c - 10≤4:=by omega
    rw [e1]
    go_enter Tryz.func111,Tryz.ntmps111
    go_wp2_with fail
    go_ret
    exact Ret.mk' rfl zqb
   ·have e1:rS 1 c f=[]:=by unfold rS;rw [if_pos rfl,if_neg h7,if_neg h10,if_neg h0]
    have hb:(f == 0)=false:=by simp;exact h0
    rw [e1]
    go_enter Tryz.func111,Tryz.ntmps111
    go_wp2_with fail
    go_ret
    exact Ret.mk' rfl zqb
theorem rsymbol_4 (c f:Int) (w:World) (hc:1≤c∧c≤14) (hf:0≤f∧f≤18) :
  Calls Tryz.prog 111 #[.int .u8 4,.int .i64 c,.int .i64 f] w (Ret (.string (bs (rS 4 c f))) w):=by
 obtain ⟨hc0,hc1⟩:=hc
 obtain ⟨hf0,hf1⟩:=hf
 by_cases h6:c≤6
 ·by_cases h10:f≤10
  ·have e1:rS 4 c f=rge c f:=by unfold rS;rw [if_neg (by decide),if_pos rfl,if_pos ⟨h6,h10⟩]
   rw [e1]
   go_enter Tryz.func111,Tryz.ntmps111
   go_wp2_with (go_at_call 142;refine (rgerman_any _ _ _ ⟨hc0,h6⟩ ⟨hf0,h10⟩).mono ?_;rintro e w' ⟨rfl,rfl⟩)
   go_ret
   exact Ret.mk' rfl zqb
  ·have e1:rS 4 c f=[]:=by unfold rS;rw [if_neg (by decide),if_pos rfl,if_neg (fun h=>h10 h.2)]
   rw [e1]
   go_enter Tryz.func111,Tryz.ntmps111
   go_wp2_with fail
   go_ret
   exact Ret.mk' rfl zqb
 ·have e1:rS 4 c f=[]:=by unfold rS;rw [if_neg (by decide),if_pos rfl,if_neg (fun h=>h6 h.1)]
  rw [e1]
  go_enter Tryz.func111,Tryz.ntmps111
  go_wp2_with fail
  go_ret
  exact Ret.mk' rfl zqb
theorem rsymbol_fig (s c f:Int) (w:World) (hs:s=2∨s=3) (hc:1≤c∧c≤14) (hf:0≤f∧f≤18) (h6:c≤6) (h10:f≤10) :
  Calls Tryz.prog 111 #[.int .u8 s,.int .i64 c,.int .i64 f] w (Ret (.string (bs (rS s c f))) w):=by
 obtain ⟨hc0,hc1⟩:=hc
 obtain ⟨hf0,hf1⟩:=hf
 have e1:rS s c f=cut figLetters f (f+1):=by unfold rS;rw [if_neg (by omega),if_neg (by omega),if_pos ⟨h6,h10⟩]
 rw [e1]
 rcases hs with rfl|rfl
 all_goals
  clear e1
  go_enter Tryz.func111,Tryz.ntmps111
  go_wp2_with (go_at_call 141;refine (rfigure_any _ _ hf0 h10).mono ?_;rintro e w' ⟨rfl,rfl⟩)
  go_ret
  exact Ret.mk' rfl zqb
theorem rsymbol_3n (c f:Int) (w:World) (h:¬ (c≤6∧f≤10)) :
  Calls Tryz.prog 111 #[.int .u8 3,.int .i64 c,.int .i64 f] w (Ret (.string (bs (rS 3 c f))) w):=by
 have e1:rS 3 c f=[]:=by unfold rS;rw [if_neg (by decide),if_neg (by decide),if_neg h,if_neg (by simp)]
 rw [e1]
 by_cases h6:c≤6
 ·have h10:¬ f≤10:=fun k=>h ⟨h6,k⟩
  clear h
  go_enter Tryz.func111,Tryz.ntmps111
  go_wp2_with fail
  go_ret
  exact Ret.mk' rfl zqb
 ·clear h
  go_enter Tryz.func111,Tryz.ntmps111
  go_wp2_with fail
  go_ret
  exact Ret.mk' rfl zqb
theorem rsymbol_2n (c f:Int) (w:World) (hc:1≤c∧c≤14) (h:¬ (c≤6∧f≤10)) :
  Calls Tryz.prog 111 #[.int .u8 2,.int .i64 c,.int .i64 f] w (Ret (.string (bs (rS 2 c f))) w):=by
 obtain ⟨hc0,hc1⟩:=hc
 by_cases h6:c≤6
 ·have e1:rS 2 c f=[]:=by unfold rS;rw [if_neg (by decide),if_neg (by decide),if_neg h,if_neg (by omega)]
  have h10:¬ f≤10:=fun k=>h ⟨h6,k⟩
  rw [e1]
  clear h
  go_enter Tryz.func111,Tryz.ntmps111
  go_wp2_with fail
  go_ret
  exact Ret.mk' rfl zqb
 ·clear h
  have h6':6 < c:=by omega
  by_cases h0:f=0
  ·subst h0
   have e1:rS 2 c 0=itOuter c:=by unfold rS;rw [if_neg (by decide),if_neg (by decide),if_neg (by omega),if_pos (by omega)]
   rw [e1]
   have:c=7∨c=8∨c=9∨c=10∨c=11∨c=12∨c=13∨c=14:=by omega
   rcases this with rfl|rfl|rfl|rfl|rfl|rfl|rfl|rfl
   all_goals
    clear e1
    go_enter Tryz.func111,Tryz.ntmps111
    go_wp2_with fail
    go_ret
    exact Ret.mk' rfl zqb
  ·have e1:rS 2 c f=[]:=by unfold rS;rw [if_neg (by decide),if_neg (by decide),if_neg (by omega),if_neg (by omega)]
   have hb:(f == 0)=false:=by simp;exact h0
   rw [e1]
   go_enter Tryz.func111,Tryz.ntmps111
   go_wp2_with fail
   go_ret
   exact Ret.mk' rfl zqb
theorem rsymbol_any (s c f:Int)(w:World)(hs:1≤s∧s≤4)(hc:1≤c∧c≤14)(hf:0≤f∧f≤18) :
  Calls Tryz.prog 111 #[.int .u8 s,.int .i64 c,.int .i64 f] w (Ret (.string (bs (rS s c f))) w):=by
 have:s=1∨s=2∨s=3∨s=4:=by omega
 rcases this with rfl|rfl|rfl|rfl
 ·exact rsymbol_1 c f w hc hf
 ·by_cases h:c≤6∧f≤10
  ·exact rsymbol_fig 2 c f w (.inl rfl) hc hf h.1 h.2
  ·exact rsymbol_2n c f w hc h
 ·by_cases h:c≤6∧f≤10
  ·exact rsymbol_fig 3 c f w (.inr rfl) hc hf h.1 h.2
  ·exact rsymbol_3n c f w h
 ·exact rsymbol_4 c f w hc hf
end
section
def symOne(s c f:Nat):Bool:=(pOk s c f == !(rS s c f).isEmpty) && (!pOk s c f|| pS s c f == rS s c f)
theorem symAll:((List.range' 1 4).all fun s=>(List.range' 1 14).all fun c=>(List.range 19).all fun f=>symOne s c f)=true:=by
 decide +kernel
theorem sym_law (s c f:Int)(hs:1≤s∧s≤4)(hc:1≤c∧c≤14)(hf:0≤f∧f≤18) :
  pOk s c f=!(rS s c f).isEmpty∧(pOk s c f=true→pS s c f=rS s c f):=by
 obtain⟨s,rfl⟩:=Int.eq_ofNat_of_zero_le (show 0≤s by omega)
 obtain⟨c,rfl⟩:=Int.eq_ofNat_of_zero_le (show 0≤c by omega)
 obtain⟨f,rfl⟩:=Int.eq_ofNat_of_zero_le hf.1
 have h:=symAll
 rw [List.all_eq_true]at h
 have h1:=h s (List.mem_range'_1.2 zqo)
 rw [List.all_eq_true]at h1
 have h2:=h1 c (List.mem_range'_1.2 zqo)
 rw [List.all_eq_true]at h2
 have h3:=h2 f (List.mem_range.2 zqo)
 unfold symOne at h3
 simp only [Bool.and_eq_true,beq_iff_eq,Bool.or_eq_true,Bool.not_eq_true']at h3
 refine⟨h3.1,fun hk=>?_⟩
 rcases h3.2 with h4|h4
 ·rw [hk]at h4;cases h4
 ·exact h4
end
section
open Go.RowKit
theorem ev_of_rp {F:View} {w:World} {e:Ev} {v:Value} (hF:∀ p u,F p=some u→w.cell? p=some u)(r:RP F (.ag (eEv e)) v):∃ S c,v=evVal e S c:=by
 obtain⟨cs,rfl,h1,h2⟩:∃ cs:Array Value,v=.agg cs∧cs.size=6∧∀ (i:Nat) av u,(eEv e)[i]?=some av→cs[i]?=some u→RP F av u:=by
  cases r with|ag l cs a b=>exact⟨cs,rfl,a,b⟩
 have g:∀ i (h:i<6),cs[i]?=some (cs[i]'(by omega)):=fun i h=>Array.getElem?_eq_getElem (by omega)
 obtain⟨A,c,e5,_,_⟩:=stps_of_rp hF (h2 5 _ _ rfl (g 5 zqo))
 refine⟨A,c,?_⟩
 unfold evVal
 congr 1
 apply Array.ext (by simp [h1])
 intro i hi hi2
 match i,(show i<6 by omega) with
 | 0,_=>exact (h2 0 _ _ rfl (g 0 zqo)).sc_eq
 | 1,_=>exact (h2 1 _ _ rfl (g 1 zqo)).sc_eq
 | 2,_=>exact (h2 2 _ _ rfl (g 2 zqo)).sc_eq
 | 3,_=>exact (h2 3 _ _ rfl (g 3 zqo)).sc_eq
 | 4,_=>exact (h2 4 _ _ rfl (g 4 zqo)).sc_eq
 | 5,_=>exact e5
theorem rest_FS (e:Ev):Ctr Tryz.prog 64 [.ag (eEv e)] (.sc (.bool (restB e))):=by
 intro w F vs hF hR
 match vs,hR.1 with
 | [v],_ =>
  obtain⟨S,c,rfl⟩:=ev_of_rp hF (hR.2 0 _ v rfl rfl)
  exact (rRest_any e S c w).mono fun e w'⟨he,hb⟩=>⟨_,F,he,hb,fun _ _ h=>h,fun p u x=>by rw [hb.cell (cell_block (hF p u x))];exact hF p u x,fun _ _ h=>.inl h,.sc _⟩
end
section
open Go.RowKit
attribute [local go_sem]mk_bs bs_size bs_toList bs_append bs_extract
attribute [local simp]run_cut run_cut_to run_cut_from run_add_bs
theorem rright_any (s n:Int)(w:World)(hs:1≤s∧s≤4)(h:0≤n∧n≤3) :
  Calls Tryz.prog 112 #[.int .u8 s,.int .i64 n] w fun e w'=>e=.returned (.string (bs (rR s n)))∧w'=w:=by
 have h4:n=0∨n=1∨n=2∨n=3:=by omega
 have s4:s=1∨s=2∨s=3∨s=4:=by omega
 clear h hs
 rcases h4 with rfl|rfl|rfl|rfl<;>rcases s4 with rfl|rfl|rfl|rfl
 all_goals
  go_enter Tryz.func112,Tryz.ntmps112
  go_wp2
  go_ret
  exact⟨rfl,rfl⟩
theorem rgrace_any (s n:Int)(w:World)(hs:1≤s∧s≤4)(h:0≤n∧n≤4) :
  Calls Tryz.prog 113 #[.int .u8 s,.int .i64 n] w fun e w'=>e=.returned (.string (bs (rG s n)))∧w'=w:=by
 have h4:n=0∨n=1∨n=2∨n=3∨n=4:=by omega
 have s4:s=1∨s=2∨s=3∨s=4:=by omega
 clear h hs
 rcases h4 with rfl|rfl|rfl|rfl|rfl<;>rcases s4 with rfl|rfl|rfl|rfl
 all_goals
  go_enter Tryz.func113,Tryz.ntmps113
  go_wp2
  go_ret
  exact⟨rfl,rfl⟩
theorem digAll:((List.range 10).all fun n=>cut [48,49,50,51,52,53,54,55,56,57] ((n:Nat):Int) (((n:Nat):Int)+1) == [UInt8.ofNat (48+n)])=true:=by decide +kernel
theorem digOne (n:Int)(h:0≤n∧n≤9):cut [48,49,50,51,52,53,54,55,56,57] n (n+1)=[UInt8.ofNat (48+n.toNat)]:=by
 obtain⟨k,rfl⟩:=Int.eq_ofNat_of_zero_le h.1
 have h1:=digAll
 rw [List.all_eq_true] at h1
 have:=h1 k (List.mem_range.2 zqo)
 simpa using this
theorem decimal_one (n:Int) (w:World) (h:0≤n∧n≤9) :
  Calls Tryz.prog 143 #[.int .i64 n] w fun e w'=>e=.returned (.string (bs (dig2 n.toNat)))∧w'=w:=by
 obtain ⟨h0,h1⟩:=h
 have e:dig2 n.toNat=cut [48,49,50,51,52,53,54,55,56,57] n (n+1):=by
  rw [digOne n ⟨h0,h1⟩];unfold dig2;rw [if_pos (by omega)]
 rw [e]
 have hm:n % 10=n:=by omega
 have g1:n≤n+1:=by omega
 have g2:n+1≤10:=by omega
 have g3:n<10:=by omega
 clear e
 go_enter Tryz.func143,Tryz.ntmps143
 go_wp2
 go_ret
 exact ⟨rfl,rfl⟩
theorem decimal_two (n:Int) (w:World) (h:10≤n∧n≤99) :
  Calls Tryz.prog 143 #[.int .i64 n] w fun e w'=>e=.returned (.string (bs (dig2 n.toNat)))∧w'=w:=by
 obtain ⟨h0,h1⟩:=h
 have e:dig2 n.toNat=dig2 (n/10).toNat++cut [48,49,50,51,52,53,54,55,56,57] (n % 10) (n % 10+1):=by
  rw [digOne (n % 10) (by omega)]
  unfold dig2
  rw [if_neg (by omega),if_pos (by omega)]
  rw [show (n/10).toNat=n.toNat/10 from by omega,show (n % 10).toNat=n.toNat % 10 from by omega]
  rfl
 rw [e]
 have g0:0≤n % 10:=by omega
 have g0':0≤n:=by omega
 have g1:n % 10≤n % 10+1:=by omega
 have g2:n % 10+1≤10:=by omega
 have g2':n % 10≤9:=by omega
 have g3:¬ n < 10:=by omega
 have g4:¬ n < 0:=by omega
 have hd:0≤n/10∧n/10≤9:=by omega
 have hl:(dig2 (n/10).toNat).length+(cut [48,49,50,51,52,53,54,55,56,57] (n % 10) (n % 10+1)).length≤9223372036854775807:=by
  have:=dig2_len (n/10).toNat
  rw [digOne (n % 10) (by omega)];simp;omega
 clear e
 go_enter Tryz.func143,Tryz.ntmps143
 go_wp2_with (go_at_call 143;refine (decimal_one _ _ hd).mono ?_;rintro e w' ⟨rfl,hw⟩;rw [hw];clear hw)
 go_ret
 exact ⟨rfl,rfl⟩
theorem decimal_any (n:Int) (w:World) (h:0≤n∧n≤99) :
  Calls Tryz.prog 143 #[.int .i64 n] w fun e w'=>e=.returned (.string (bs (dig2 n.toNat)))∧w'=w:=by
 by_cases h9:n≤9
 ·exact decimal_one n w ⟨h.1,h9⟩
 ·exact decimal_two n w ⟨by omega,h.2⟩
theorem rhold_any (s n L:Int) (w:World) (hs:1≤s∧s≤4) (h:0≤n∧n≤99) :
  Calls Tryz.prog 114 #[.int .u8 s,.int .i64 n,.int .i64 L] w fun e w'=>e=.returned (.string (bs (rH s n L)))∧w'=w:=by
 have s4:s=1∨s=2∨s=3∨s=4:=by omega
 clear hs
 rcases s4 with rfl|rfl|rfl|rfl
 ·have e2:rH 1 n L=95::dig2 n.toNat:=if_pos rfl
  have hl':1+(dig2 n.toNat).length≤9223372036854775807:=by have:=dig2_len n.toNat;omega
  rw [e2]
  clear e2
  go_enter Tryz.func114,Tryz.ntmps114
  go_wp2_with (go_at_call 143;refine (decimal_any _ _ h).mono ?_;rintro e w' ⟨rfl,hw⟩;rw [hw];clear hw)
  go_ret
  exact ⟨rfl,rfl⟩
 ·by_cases hL:n=L
  ·have e2:rH 2 n L=[42]:=by unfold rH;rw [if_neg (by decide),if_pos ⟨by decide,hL⟩]
   have hbL:(n == L)=true:=by simpa using hL
   rw [e2]
   clear e2 hL
   go_enter Tryz.func114,Tryz.ntmps114
   go_wp2
   go_ret
   exact ⟨rfl,rfl⟩
  ·have e2:rH 2 n L=[]:=by unfold rH;rw [if_neg (by decide),if_neg (fun h=>hL h.2)]
   have hbL:(n == L)=false:=by simpa using hL
   rw [e2]
   clear e2 hL
   go_enter Tryz.func114,Tryz.ntmps114
   go_wp2
   go_ret
   exact ⟨rfl,rfl⟩
 ·have e2:rH 3 n L=[]:=rfl
  rw [e2]
  clear e2
  go_enter Tryz.func114,Tryz.ntmps114
  go_wp2
  go_ret
  exact ⟨rfl,rfl⟩
 ·by_cases hL:n=L
  ·have e2:rH 4 n L=[42]:=by unfold rH;rw [if_neg (by decide),if_pos ⟨by decide,hL⟩]
   have hbL:(n == L)=true:=by simpa using hL
   rw [e2]
   clear e2 hL
   go_enter Tryz.func114,Tryz.ntmps114
   go_wp2
   go_ret
   exact ⟨rfl,rfl⟩
  ·have e2:rH 4 n L=[]:=by unfold rH;rw [if_neg (by decide),if_neg (fun h=>hL h.2)]
   have hbL:(n == L)=false:=by simpa using hL
   rw [e2]
   clear e2 hL
   go_enter Tryz.func114,Tryz.ntmps114
   go_wp2
   go_ret
   exact ⟨rfl,rfl⟩
end
section
open Go.RowKit
def wants(s c f r g h L:Int):List Int :=
 if rS s c f=[]then [1]else(if okR s r=true then []else [2])++(if okG s g=true then []else [3])++(if okH s h L=true then []else [4])
theorem wants_FS (s c f r g h L:Int) (hs:1≤s∧s≤4) (hc:1≤c∧c≤14) (hf:0≤f∧f≤18) (hr:0≤r∧r≤3) (hg:0≤g∧g≤4) (hh:0≤h∧h≤99) :
  Ctr Tryz.prog 63 [.sc (.int .u8 s),.ag (eStp (c,f,r,g,h)),.sc (.int .i64 L)] (.ls 1 ((wants s c f r g h L).map eInt)):=by
 refine zqe Tryz.func63 Tryz.ntmps63 fun w0 F0=>?_;dsimp only [St.init,number,Nat.reduceAdd]
 repeat refine W.go rfl ?_
 refine (?_:WL _ _ _ _ _ _)
 refine WL.vl rfl (WV.call rfl (callF Tryz.func111 rfl rfl) rfl rfl (Ctr.of_sc (v:=.string (bs (rS s c f))) rfl (fun _=>.sc _) fun w=>rsymbol_any s c f w hs hc hf)) ?_
 repeat refine WL.ev rfl ?_
 refine (?_:W _ _ _ _ _)
 (refine W.cond rfl (fun hif=>?_) (fun hif=>?_)<;>(try simp only [decide_eq_true_eq,decide_eq_false_iff_not,Int.not_lt,Int.not_le,Bool.not_eq_true',Bool.not_eq_false'] at hif))
 ·have e:wants s c f r g h L=[1]:=if_pos (by simpa using hif)
  rw [e]
  repeat refine W.go rfl ?_
  refine (?_:W _ _ _ _ _)
  refine W.tr (Tr.freeze 1 rfl) ?_
  exact W.ret zqr
 ·have hne:=hif
  have e:wants s c f r g h L=(if okR s r=true then [] else [2])++(if okG s g=true then [] else [3])++(if okH s h L=true then [] else [4]):=if_neg (by simpa using hne)
  rw [e]
  obtain ⟨l1,e1⟩:∃ l,(if okR s r=true then [] else [2]:List Int)=l:=⟨_,rfl⟩
  obtain ⟨l2,e2⟩:∃ l,(if okG s g=true then [] else [3]:List Int)=l:=⟨_,rfl⟩
  obtain ⟨l3,e3⟩:∃ l,(if okH s h L=true then [] else [4]:List Int)=l:=⟨_,rfl⟩
  rw [e1,e2,e3]
  have b1:l1.length≤1:=by rw [← e1];split<;>simp
  have b2:l2.length≤1:=by rw [← e2];split<;>simp
  have b3:l3.length≤1:=by rw [← e3];split<;>simp
  repeat refine W.go rfl ?_
  refine (?_:WL _ _ _ _ _ _)
  refine WL.tr (Tr.nil (t:=7) 3 1 rfl rfl) ?_
  dsimp only [St.put,St.new,Nat.reduceAdd]
  refine WL.meet2 ⟨[(0,.sc (.int .u8 s)),(2,.sc (.int .i64 L)),(4,.pt 0 0 0),(7,.sl 1)],[(0,.box 48 (eStp (c,f,r,g,h))),(1,.row 3 1 (l1.map eInt))],2⟩ ?_ ?_
  ·refine WL.partG rfl rfl rfl rfl (fun hp=>?_) (fun hp=>?_)
   ·have hp:0 < r:=of_decide_eq_true hp
    repeat (first|refine WL.ev rfl ?_|refine WL.gyes rfl rfl rfl rfl ?_)
    refine (?_:WL _ _ _ _ _ _)
    refine WL.vl rfl (WV.call rfl (callF Tryz.func112 rfl rfl) rfl rfl (Ctr.of_sc (v:=.string (bs (rR s r))) rfl (fun _=>.sc _) fun w=>(rright_any s r w hs hr).mono fun e w2 ⟨he,hw⟩=>⟨he,hw ▸ Below.refl _ _⟩)) ?_
    repeat (first|refine WL.ev rfl ?_|refine WL.gyes rfl rfl rfl rfl ?_)
    refine (?_:W _ _ _ _ _)
    have hv0:(r == 0)=false:=by simp;omega
    (refine W.cond rfl (fun hif=>?_) (fun hif=>?_)<;>(try simp only [decide_eq_true_eq,decide_eq_false_iff_not,Int.not_lt,Int.not_le,Bool.not_eq_true',Bool.not_eq_false'] at hif))
    ·obtain rfl:l1=[2]:=by
      rw [← e1,if_neg]
      unfold okR
      rw [hv0,show rR s r=[] by simpa using hif];decide
     repeat (first|refine W.go rfl ?_|refine WL.ev rfl ?_|refine WL.app rfl rfl rfl zqs ?_)
     refine (?_:Tr _ _ _)
     exact (zqu (fun q=>bif Nat.beq q 1 then 3 else q) (by repeat (first|exact trivial|refine ⟨⟨?_,?_,?_⟩,?_⟩|rfl|exact congrArg (fun q=>some (AO.row _ _ q)) (by first|rfl|(simp;done)|(simp [eInt];done)|(simp [eLk];done)))) rfl)
    ·obtain rfl:l1=[]:=by
      rw [← e1,if_pos]
      unfold okR
      rw [hv0,Bool.false_or]
      have:rR s r≠[]:=by simpa using hif
      simpa using this
     repeat refine W.go rfl ?_
     refine (?_:Tr _ _ _)
     exact (zqu (fun q=>q) (by repeat (first|exact trivial|refine ⟨⟨?_,?_,?_⟩,?_⟩|rfl|exact congrArg (fun q=>some (AO.row _ _ q)) (by first|rfl|(simp;done)|(simp [eInt];done)|(simp [eLk];done)))) rfl)
   ·have hp:¬ 0 < r:=of_decide_eq_false hp
    obtain rfl:l1=[]:=by
     rw [← e1,if_pos]
     obtain rfl:r=0:=by omega
     rfl
    repeat (first|refine W.go rfl ?_|refine WL.ev rfl ?_|refine WL.opno rfl rfl rfl rfl rfl rfl rfl ?_|refine W.condF rfl ?_)
    refine (?_:Tr _ _ _)
    exact (zqu (fun q=>q) (by repeat (first|exact trivial|refine ⟨⟨?_,?_,?_⟩,?_⟩|rfl|exact congrArg (fun q=>some (AO.row _ _ q)) (by first|rfl|(simp;done)|(simp [eInt];done)|(simp [eLk];done)))) rfl)
  ·repeat refine W.go rfl ?_
   refine (?_:WL _ _ _ _ _ _)
   refine WL.meet2 ⟨[(0,.sc (.int .u8 s)),(2,.sc (.int .i64 L)),(4,.pt 0 0 0),(7,.sl 1)],[(0,.box 48 (eStp (c,f,r,g,h))),(1,.row 3 1 (l1.map eInt++l2.map eInt))],2⟩ ?_ ?_
   ·refine WL.partG rfl rfl rfl rfl (fun hp=>?_) (fun hp=>?_)
    ·have hp:0 < g:=of_decide_eq_true hp
     repeat (first|refine WL.ev rfl ?_|refine WL.gyes rfl rfl rfl rfl ?_)
     refine (?_:WL _ _ _ _ _ _)
     refine WL.vl rfl (WV.call rfl (callF Tryz.func113 rfl rfl) rfl rfl (Ctr.of_sc (v:=.string (bs (rG s g))) rfl (fun _=>.sc _) fun w=>(rgrace_any s g w hs hg).mono fun e w2 ⟨he,hw⟩=>⟨he,hw ▸ Below.refl _ _⟩)) ?_
     repeat (first|refine WL.ev rfl ?_|refine WL.gyes rfl rfl rfl rfl ?_)
     refine (?_:W _ _ _ _ _)
     have hv0:(g == 0)=false:=by simp;omega
     (refine W.cond rfl (fun hif=>?_) (fun hif=>?_)<;>(try simp only [decide_eq_true_eq,decide_eq_false_iff_not,Int.not_lt,Int.not_le,Bool.not_eq_true',Bool.not_eq_false'] at hif))
     ·obtain rfl:l2=[3]:=by
       rw [← e2,if_neg]
       unfold okG
       rw [hv0,show rG s g=[] by simpa using hif];decide
      repeat (first|refine W.go rfl ?_|refine WL.ev rfl ?_|refine WL.app rfl rfl rfl zqs ?_)
      refine (?_:Tr _ _ _)
      exact (zqu (fun q=>bif Nat.beq q 1 then 3 else q) (by repeat (first|exact trivial|refine ⟨⟨?_,?_,?_⟩,?_⟩|rfl|exact congrArg (fun q=>some (AO.row _ _ q)) (by first|rfl|(simp;done)|(simp [eInt];done)|(simp [eLk];done)))) rfl)
     ·obtain rfl:l2=[]:=by
       rw [← e2,if_pos]
       unfold okG
       rw [hv0,Bool.false_or]
       have:rG s g≠[]:=by simpa using hif
       simpa using this
      repeat refine W.go rfl ?_
      refine (?_:Tr _ _ _)
      exact (zqu (fun q=>q) (by repeat (first|exact trivial|refine ⟨⟨?_,?_,?_⟩,?_⟩|rfl|exact congrArg (fun q=>some (AO.row _ _ q)) (by first|rfl|(simp;done)|(simp [eInt];done)|(simp [eLk];done)))) rfl)
    ·have hp:¬ 0 < g:=of_decide_eq_false hp
     obtain rfl:l2=[]:=by
      rw [← e2,if_pos]
      obtain rfl:g=0:=by omega
      rfl
     repeat (first|refine W.go rfl ?_|refine WL.ev rfl ?_|refine WL.opno rfl rfl rfl rfl rfl rfl rfl ?_|refine W.condF rfl ?_)
     refine (?_:Tr _ _ _)
     exact (zqu (fun q=>q) (by repeat (first|exact trivial|refine ⟨⟨?_,?_,?_⟩,?_⟩|rfl|exact congrArg (fun q=>some (AO.row _ _ q)) (by first|rfl|(simp;done)|(simp [eInt];done)|(simp [eLk];done)))) rfl)
   ·repeat refine W.go rfl ?_
    refine (?_:WL _ _ _ _ _ _)
    refine WL.meet2 ⟨[(0,.sc (.int .u8 s)),(2,.sc (.int .i64 L)),(4,.pt 0 0 0),(7,.sl 1)],[(0,.box 48 (eStp (c,f,r,g,h))),(1,.row 3 1 (l1.map eInt++l2.map eInt++l3.map eInt))],2⟩ ?_ ?_
    ·refine WL.partG rfl rfl rfl rfl (fun hp=>?_) (fun hp=>?_)
     ·have hp:0 < h:=of_decide_eq_true hp
      repeat (first|refine WL.ev rfl ?_|refine WL.gyes rfl rfl rfl rfl ?_)
      refine (?_:WL _ _ _ _ _ _)
      refine WL.vl rfl (WV.call rfl (callF Tryz.func114 rfl rfl) rfl rfl (Ctr.of_sc (v:=.string (bs (rH s h L))) rfl (fun _=>.sc _) fun w=>(rhold_any s h L w hs hh).mono fun e w2 ⟨he,hw⟩=>⟨he,hw ▸ Below.refl _ _⟩)) ?_
      repeat (first|refine WL.ev rfl ?_|refine WL.gyes rfl rfl rfl rfl ?_)
      refine (?_:W _ _ _ _ _)
      have hv0:(h == 0)=false:=by simp;omega
      (refine W.cond rfl (fun hif=>?_) (fun hif=>?_)<;>(try simp only [decide_eq_true_eq,decide_eq_false_iff_not,Int.not_lt,Int.not_le,Bool.not_eq_true',Bool.not_eq_false'] at hif))
      ·obtain rfl:l3=[4]:=by
        rw [← e3,if_neg]
        unfold okH
        rw [hv0,show rH s h L=[] by simpa using hif];decide
       repeat (first|refine W.go rfl ?_|refine WL.ev rfl ?_|refine WL.app rfl rfl rfl zqs ?_)
       refine (?_:Tr _ _ _)
       exact (zqu (fun q=>bif Nat.beq q 1 then 3 else q) (by repeat (first|exact trivial|refine ⟨⟨?_,?_,?_⟩,?_⟩|rfl|exact congrArg (fun q=>some (AO.row _ _ q)) (by first|rfl|(simp;done)|(simp [eInt];done)|(simp [eLk];done)))) rfl)
      ·obtain rfl:l3=[]:=by
        rw [← e3,if_pos]
        unfold okH
        rw [hv0,Bool.false_or]
        have:rH s h L≠[]:=by simpa using hif
        simpa using this
       repeat refine W.go rfl ?_
       refine (?_:Tr _ _ _)
       exact (zqu (fun q=>q) (by repeat (first|exact trivial|refine ⟨⟨?_,?_,?_⟩,?_⟩|rfl|exact congrArg (fun q=>some (AO.row _ _ q)) (by first|rfl|(simp;done)|(simp [eInt];done)|(simp [eLk];done)))) rfl)
     ·have hp:¬ 0 < h:=of_decide_eq_false hp
      obtain rfl:l3=[]:=by
       rw [← e3,if_pos]
       obtain rfl:h=0:=by omega
       rfl
      repeat (first|refine W.go rfl ?_|refine WL.ev rfl ?_|refine WL.opno rfl rfl rfl rfl rfl rfl rfl ?_|refine W.condF rfl ?_)
      refine (?_:Tr _ _ _)
      exact (zqu (fun q=>q) (by repeat (first|exact trivial|refine ⟨⟨?_,?_,?_⟩,?_⟩|rfl|exact congrArg (fun q=>some (AO.row _ _ q)) (by first|rfl|(simp;done)|(simp [eInt];done)|(simp [eLk];done)))) rfl)
    ·repeat refine W.go rfl ?_
     refine (?_:W _ _ _ _ _)
     refine W.tr (Tr.freeze 1 rfl) ?_
     exact W.ret (fin1 rfl rfl (show AV.ls 1 (l1.map eInt++l2.map eInt++l3.map eInt)=_ by rw [List.map_append,List.map_append]) rfl)
end
section
open Go.RowKit
section
variable {P:Program} {C:Cx} {σ:St} {o:Oper} {d:Tmp} {ops:Array Oper} {rest:List Oper} {Q:Exit→St→Prop}
theorem WV.ldaQ {T T' n:Nat} {x:Operand} {k i hj:Nat} {rows:List (List AV)} {r l':List AV} {y:AV} (ho:o.op=.load T x) (hT:aggB P T=some true) (hn:sizeB P T=some n) (hx:σ.ev x=some (.pt k i 0)) (hk:look k σ.M=some (.rwo T' n rows i hj y)) (hr:rows[i]?=some r) (hl:r.set hj y=l') (hlen:l'.length=n) (hw:l'.all (fun av=>!av.own)=true):WV P C o σ (.ag l'):=by
 have key:∀ G a w,Ok C σ G a w→∀ (m:Nat) av,l'[m]?=some av→∃ u,w.cell? ((⟨G.b k,i*G.n k,none⟩:Addr).add m)=some u∧R G av u∧Bd σ.nk av:=fun G a w ok m av hm=>by
  obtain ⟨hn2,hg,hR⟩:=(ok.ob k _ hk).2.2
  have hbd:Bd σ.nk y:=(ok.ob k _ hk).2.1
  have hlt:m<r.length:=by
   have:=(List.getElem?_eq_some_iff.1 hm).1
   rw [← hl,List.length_set] at this;exact this
  obtain ⟨u,hu,ψ,hX⟩:=hR.cell_at hg hr (List.getElem?_eq_getElem hlt)
  have how:av.own=false:=by simpa using List.all_eq_true.1 hw av (List.mem_of_getElem? hm)
  refine ⟨u,by rw [add_flat,hn2];exact hu,?_⟩
  unfold XQ at hX
  rw [← hl] at hm
  by_cases e:m=hj
  ·subst e
   rw [List.getElem?_set_self hlt] at hm
   cases hm
   rw [if_pos ⟨rfl,rfl⟩] at hX
   exact ⟨hX,hbd⟩
  ·rw [List.getElem?_set_ne (fun h=>e h.symm),List.getElem?_eq_getElem hlt] at hm
   cases hm
   rw [if_neg (fun h=>e h.2)] at hX
   have hp:=hX.p how
   exact ⟨.pu _ _ hp,hp.bd _⟩
 have hat:∀ m,m<n→∃ av,l'[m]?=some av:=fun m hm=>⟨_,List.getElem?_eq_getElem (by omega)⟩
 refine WV.val (fun G a w ok=>.ag _ fun m av hm=>by obtain ⟨_,_,_,h⟩:=key G a w ok m av hm;exact h) fun G a w ok=>?_
 obtain ⟨p,e,h1,h2,h3⟩:=(ok.evr hx).2.pt_of
 obtain rfl:=addr_eq h1 h2 h3
 rw [Nat.add_zero] at e
 obtain ⟨cs,hcl,hcq⟩:=list_ofT (fun m u=>w.cell? ((⟨G.b k,i*G.n k,none⟩:Addr).add m)=some u∧∀ av,l'[m]?=some av→R G av u) n fun m hm=>by
  obtain ⟨av,hav⟩:=hat m hm
  obtain ⟨u,hu,hr2,_⟩:=key G a w ok m av hav
  exact ⟨u,hu,fun av2 h=>by rw [hav] at h;cases h;exact hr2⟩
 exact ⟨.agg cs.toArray,by unfold execOp;simp [ho,e,run_loadN hT hn hcl fun j v h=>(hcq j v h).1],.ag _ _ (by simp [hcl,hlen]) fun m av u hm hu=>(hcq m u (by simpa using hu)).2 av hm⟩
end
end
end Go.Proofs.YtaeelcfjkhfpkaaGreat
