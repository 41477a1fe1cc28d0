/- Marks, holds and what a system lacks of a stop: the reference. -/
import Derived.Test.YtaeelcfjkhfpkaaGreatEYSq
set_option maxHeartbeats 1600000
set_option maxRecDepth 100000
set_option linter.unusedVariables false
set_option linter.unusedSimpArgs false
namespace Go.Proofs.YtaeelcfjkhfpkaaGreat
section
def rR(s n:Int):List UInt8:=if n=1∧s≠3 then [46]else if n=2∧s=1 then [58]else if n=3∧s=1 then [39]else []
def rG(s n:Int):List UInt8 :=
 if s=1∧1≤n∧n≤4 then cut [44,94,35,40] (n-1) n else if s=2∧n=1 then [116] else if(s=2∨s=4)∧n=3 then [35] else []
def rH(s n L:Int):List UInt8:=if s=1 then 95::dig2 n.toNat else if(s=2∨s=4)∧n=L then [42]else []
def pH(s n L:Int):List UInt8:=if n=0 then []else rH s n L
def okR(s n:Int):Bool:=n == 0|| !(rR s n).isEmpty
def okG(s n:Int):Bool:=n == 0|| !(rG s n).isEmpty
def okH(s n L:Int):Bool:=n == 0|| !(rH s n L).isEmpty
def cellS(s c f r g h L:Int):List UInt8:=pS s c f++rR s r++rG s g++pH s h L
def cellOk(s c f r g h L:Int):Bool:=pOk s c f && okR s r && okG s g && okH s h L
theorem rR_len(s n:Int):(rR s n).length≤1:=by
 unfold rR;split
 ·decide
 ·split
  ·decide
  ·split<;>decide
theorem rG_len(s n:Int):(rG s n).length≤4:=by
 unfold rG;split
 ·exact cut_length _ _ _
 ·split
  ·decide
  ·split<;>decide
theorem dig2_len(n:Nat):(dig2 n).length≤2:=by unfold dig2;split<;>simp
theorem rH_len(s n L:Int):(rH s n L).length≤3:=by
 unfold rH;split
 ·have:=dig2_len n.toNat;simp;omega
 ·split<;>decide
theorem pH_len(s n L:Int):(pH s n L).length≤3:=by
 unfold pH;split
 ·decide
 ·exact rH_len s n L
theorem symLenAll:((List.range' 1 4).all fun s=>(List.range' 1 14).all fun c=>(List.range 19).all fun f=>decide ((pS (s:Nat) (c:Nat) (f:Nat)).length≤4∧(rS (s:Nat) (c:Nat) (f:Nat)).length≤4))=true:=by
 decide +kernel
theorem pS_len (s c f:Int)(hs:1≤s∧s≤4)(hc:1≤c∧c≤14)(hf:0≤f∧f≤18):(pS s c f).length≤4∧(rS s c f).length≤4:=by
 obtain⟨s,rfl⟩:=Int.eq_ofNat_of_zero_le (show 0≤s by omega)
 obtain⟨c,rfl⟩:=Int.eq_ofNat_of_zero_le (show 0≤c by omega)
 obtain⟨f,rfl⟩:=Int.eq_ofNat_of_zero_le hf.1
 have h:=symLenAll
 rw [List.all_eq_true]at h
 have h1:=h s (List.mem_range'_1.2 zqo)
 rw [List.all_eq_true]at h1
 have h2:=h1 c (List.mem_range'_1.2 zqo)
 rw [List.all_eq_true]at h2
 exact of_decide_eq_true (h2 f (List.mem_range.2 zqo))
end
section
open Go.RowKit
attribute [local go_sem]mk_bs bs_size bs_toList bs_append bs_extract
attribute [local simp]run_cut run_cut_to run_cut_from run_add_bs
theorem ticks_bad (v:Int)(d t:Bool)(w:World)(h:v < 1∨7 < v∨(d && t)=true):Calls Tryz.prog 121 #[.agg #[.int .i64 v,.bool d,.bool t]] w (Ret (.int .i64 0) w):=by
 by_cases h1:v < 1
 ·clear h
  go_enter Tryz.func121,Tryz.ntmps121
  go_wp2
  go_ret
  exact Ret.mk' rfl zqb
 ·by_cases h2:7 < v
  ·clear h
   go_enter Tryz.func121,Tryz.ntmps121
   go_wp2
   go_ret
   exact Ret.mk' rfl zqb
  ·have h3:d=true∧t=true:=by
    rcases h with h|h|h
    ·exact absurd h h1
    ·exact absurd h h2
    ·simpa using h
   obtain⟨rfl,rfl⟩:=h3
   clear h
   go_enter Tryz.func121,Tryz.ntmps121
   go_wp2
   go_ret
   exact Ret.mk' rfl zqb
theorem ticks_good (v:Int)(d t:Bool)(w:World)(hv:1≤v∧v≤7)(h:(d && t)=false):Calls Tryz.prog 121 #[.agg #[.int .i64 v,.bool d,.bool t]] w (Ret (.int .i64 (tkV v d t)) w):=by
  have h7:v=1∨v=2∨v=3∨v=4∨v=5∨v=6∨v=7:=by omega
  clear hv
  cases d<;>cases t
  all_goals first
    | (exfalso;revert h;decide)
    | (clear h
       rcases h7 with rfl|rfl|rfl|rfl|rfl|rfl|rfl
       all_goals
         go_enter Tryz.func121,Tryz.ntmps121
         go_wp2
         go_ret
         exact Ret.mk' rfl zqb)
theorem ticks_any (v:Int) (d t:Bool) (w:World):Calls Tryz.prog 121 #[.agg #[.int .i64 v,.bool d,.bool t]] w (Ret (.int .i64 (tkV v d t)) w):=by
 by_cases h:v<1∨7<v∨(d && t)=true
 ·have e:tkV v d t=0:=if_pos h
  rw [e];exact ticks_bad v d t w h
 ·exact ticks_good v d t w zqo (by cases hd:(d && t) with|false=>rfl|true=>exact absurd (.inr (.inr hd)) h)
end
section
open Go.RowKit
attribute [local go_sem]mk_bs bs_size bs_toList bs_append bs_extract
attribute [local simp]run_cut run_cut_to run_cut_from run_add_bs
theorem rright_any (s n:Int)(w:World)(hs:1≤s∧s≤4)(h:0≤n∧n≤3) :
  Calls Tryz.prog 112 #[.int .u8 s,.int .i64 n] w fun e w'=>e=.returned (.string (bs (rR s n)))∧w'=w:=by
 have h4:n=0∨n=1∨n=2∨n=3:=by omega
 have s4:s=1∨s=2∨s=3∨s=4:=by omega
 clear h hs
 rcases h4 with rfl|rfl|rfl|rfl<;>rcases s4 with rfl|rfl|rfl|rfl
 all_goals
  go_enter Tryz.func112,Tryz.ntmps112
  go_wp2
  go_ret
  exact⟨rfl,rfl⟩
theorem rgrace_any (s n:Int)(w:World)(hs:1≤s∧s≤4)(h:0≤n∧n≤4) :
  Calls Tryz.prog 113 #[.int .u8 s,.int .i64 n] w fun e w'=>e=.returned (.string (bs (rG s n)))∧w'=w:=by
 have h4:n=0∨n=1∨n=2∨n=3∨n=4:=by omega
 have s4:s=1∨s=2∨s=3∨s=4:=by omega
 clear h hs
 rcases h4 with rfl|rfl|rfl|rfl|rfl<;>rcases s4 with rfl|rfl|rfl|rfl
 all_goals
  go_enter Tryz.func113,Tryz.ntmps113
  go_wp2
  go_ret
  exact⟨rfl,rfl⟩
theorem digAll:((List.range 10).all fun n=>cut [48,49,50,51,52,53,54,55,56,57] ((n:Nat):Int) (((n:Nat):Int)+1) == [UInt8.ofNat (48+n)])=true:=by decide +kernel
theorem digOne (n:Int)(h:0≤n∧n≤9):cut [48,49,50,51,52,53,54,55,56,57] n (n+1)=[UInt8.ofNat (48+n.toNat)]:=by
 obtain⟨k,rfl⟩:=Int.eq_ofNat_of_zero_le h.1
 have h1:=digAll
 rw [List.all_eq_true] at h1
 have:=h1 k (List.mem_range.2 zqo)
 simpa using this
theorem decimal_one (n:Int) (w:World) (h:0≤n∧n≤9) :
  Calls Tryz.prog 143 #[.int .i64 n] w fun e w'=>e=.returned (.string (bs (dig2 n.toNat)))∧w'=w:=by
 obtain ⟨h0,h1⟩:=h
 have e:dig2 n.toNat=cut [48,49,50,51,52,53,54,55,56,57] n (n+1):=by
  rw [digOne n ⟨h0,h1⟩];unfold dig2;rw [if_pos (by omega)]
 rw [e]
 have hm:n % 10=n:=by omega
 have g1:n≤n+1:=by omega
 have g2:n+1≤10:=by omega
 have g3:n<10:=by omega
 clear e
 go_enter Tryz.func143,Tryz.ntmps143
 go_wp2
 go_ret
 exact ⟨rfl,rfl⟩
theorem decimal_two (n:Int) (w:World) (h:10≤n∧n≤99) :
  Calls Tryz.prog 143 #[.int .i64 n] w fun e w'=>e=.returned (.string (bs (dig2 n.toNat)))∧w'=w:=by
 obtain ⟨h0,h1⟩:=h
 have e:dig2 n.toNat=dig2 (n/10).toNat++cut [48,49,50,51,52,53,54,55,56,57] (n % 10) (n % 10+1):=by
  rw [digOne (n % 10) (by omega)]
  unfold dig2
  rw [if_neg (by omega),if_pos (by omega)]
  rw [show (n/10).toNat=n.toNat/10 from by omega,show (n % 10).toNat=n.toNat % 10 from by omega]
  rfl
 rw [e]
 have g0:0≤n % 10:=by omega
 have g0':0≤n:=by omega
 have g1:n % 10≤n % 10+1:=by omega
 have g2:n % 10+1≤10:=by omega
 have g2':n % 10≤9:=by omega
 have g3:¬ n < 10:=by omega
 have g4:¬ n < 0:=by omega
 have hd:0≤n/10∧n/10≤9:=by omega
 have hl:(dig2 (n/10).toNat).length+(cut [48,49,50,51,52,53,54,55,56,57] (n % 10) (n % 10+1)).length≤9223372036854775807:=by
  have:=dig2_len (n/10).toNat
  rw [digOne (n % 10) (by omega)];simp;omega
 clear e
 go_enter Tryz.func143,Tryz.ntmps143
 go_wp2_with (go_at_call 143;refine (decimal_one _ _ hd).mono ?_;rintro e w' ⟨rfl,hw⟩;rw [hw];clear hw)
 go_ret
 exact ⟨rfl,rfl⟩
theorem decimal_any (n:Int) (w:World) (h:0≤n∧n≤99) :
  Calls Tryz.prog 143 #[.int .i64 n] w fun e w'=>e=.returned (.string (bs (dig2 n.toNat)))∧w'=w:=by
 by_cases h9:n≤9
 ·exact decimal_one n w ⟨h.1,h9⟩
 ·exact decimal_two n w ⟨by omega,h.2⟩
theorem rhold_any (s n L:Int) (w:World) (hs:1≤s∧s≤4) (h:0≤n∧n≤99) :
  Calls Tryz.prog 114 #[.int .u8 s,.int .i64 n,.int .i64 L] w fun e w'=>e=.returned (.string (bs (rH s n L)))∧w'=w:=by
 have s4:s=1∨s=2∨s=3∨s=4:=by omega
 clear hs
 rcases s4 with rfl|rfl|rfl|rfl
 ·have e2:rH 1 n L=95::dig2 n.toNat:=if_pos rfl
  have hl':1+(dig2 n.toNat).length≤9223372036854775807:=by have:=dig2_len n.toNat;omega
  rw [e2]
  clear e2
  go_enter Tryz.func114,Tryz.ntmps114
  go_wp2_with (go_at_call 143;refine (decimal_any _ _ h).mono ?_;rintro e w' ⟨rfl,hw⟩;rw [hw];clear hw)
  go_ret
  exact ⟨rfl,rfl⟩
 ·by_cases hL:n=L
  ·have e2:rH 2 n L=[42]:=by unfold rH;rw [if_neg (by decide),if_pos ⟨by decide,hL⟩]
   have hbL:(n == L)=true:=by simpa using hL
   rw [e2]
   clear e2 hL
   go_enter Tryz.func114,Tryz.ntmps114
   go_wp2
   go_ret
   exact ⟨rfl,rfl⟩
  ·have e2:rH 2 n L=[]:=by unfold rH;rw [if_neg (by decide),if_neg (fun h=>hL h.2)]
   have hbL:(n == L)=false:=by simpa using hL
   rw [e2]
   clear e2 hL
   go_enter Tryz.func114,Tryz.ntmps114
   go_wp2
   go_ret
   exact ⟨rfl,rfl⟩
 ·have e2:rH 3 n L=[]:=rfl
  rw [e2]
  clear e2
  go_enter Tryz.func114,Tryz.ntmps114
  go_wp2
  go_ret
  exact ⟨rfl,rfl⟩
 ·by_cases hL:n=L
  ·have e2:rH 4 n L=[42]:=by unfold rH;rw [if_neg (by decide),if_pos ⟨by decide,hL⟩]
   have hbL:(n == L)=true:=by simpa using hL
   rw [e2]
   clear e2 hL
   go_enter Tryz.func114,Tryz.ntmps114
   go_wp2
   go_ret
   exact ⟨rfl,rfl⟩
  ·have e2:rH 4 n L=[]:=by unfold rH;rw [if_neg (by decide),if_neg (fun h=>hL h.2)]
   have hbL:(n == L)=false:=by simpa using hL
   rw [e2]
   clear e2 hL
   go_enter Tryz.func114,Tryz.ntmps114
   go_wp2
   go_ret
   exact ⟨rfl,rfl⟩
end
end Go.Proofs.YtaeelcfjkhfpkaaGreat
