/- The text of an instrument, read: plain words (for NotationReads: instrument.Parse on both sides). -/
import Derived.Test.YthohlofpphjofaaGreatDoorNamesGq
import Derived.Lib.AtoiAll
set_option maxHeartbeats 1600000
set_option maxRecDepth 100000
set_option linter.unusedVariables false
set_option linter.unusedSimpArgs false
namespace Go.Proofs.YthohlofpphjofaaGreatDoor
theorem aea {p:Prop}(h:p:=by
 rcases List.mem_cons.1 hy with rfl|k
 ·exact h
 ·exact hn y k):p:=h
theorem Xb {p:Prop}(h:p:=by
 have:=cut_length [66,83,77,67,81,88,68] (v - 1) v
 simp at this;omega):p:=h
theorem W9 {p:Prop}(h:p:=by
 rcases h8 with rfl|rfl|rfl|rfl|rfl|rfl|rfl|rfl
 all_goals first
   | (exfalso;revert hz;decide)
   | (clear hz
      simp only [Ar,yG]
      go_enter Tryz.func110,Tryz.ntmps110
      go_wp2_with fail
      go_ret2
      exact Ret.mk' rfl jD)):p:=h
section
open Go.RowKit
attribute [local go_sem]mk_bs bs_size bs_toList bs_append bs_extract
attribute [local simp]run_cut run_cut_to run_cut_from run_add_bs
theorem SN (n:Int)(w:World):Calls Tryz.prog 315 #[.agg #[],.int .i64 n] w (Ret (.bool (if (1:Int)=3 then n != 8 else if (1:Int)=4 then n == 8 else true)) w):=by
 go_enter Tryz.func315,Tryz.ntmps315
 exact xE
theorem akF (v:Int) (w:World) (hv:1≤v∧v≤7) :
  Calls Tryz.prog 110 #[(.iface 170 (.agg #[])),.agg #[.int .i64 v,.bool false,.bool true]] w (Ret (.tuple #[.string (bs (tW v 2)),.bool (vV 1 v 2)]) w):=by
 obtain ⟨hv1,hv7⟩:=hv
 have e1:tW v 2=cut [66,83,77,67,81,88,68] (v - 1) v++[51]:=by unfold tW;rw [if_neg (by omega)];rfl
 have e2:vV 1 v 2=decide ((1:Int)≠4):=by unfold vV;rw [if_neg (by omega)];rfl
 have H5:=Lib.hid (SN 5)
 rw [e1,e2]
 have hb1:(v == 0)=false:=by simp;omega
 have g0:0≤v - 1:=by omega
 have g1:v - 1≤v:=by omega
 have gl:(cut [66,83,77,67,81,88,68] (v - 1) v).length+1≤9223372036854775807:=by
  exact Xb
 have w1:IntKind.i64.wrap (v - 1)=v - 1:=IntWalk.i64_in _ aj
 clear e1 e2
 go_enter Tryz.func110,Tryz.ntmps110
 go_wp2_with fail
 go_region_held3 (fun w'=>w'.cell? ⟨w.heap.size,0,none⟩=some (.int .i64 v))
  (first|(simp [bc];done)|go_keep)
  ((go_at_call 315;refine (H5.out _).mono ?_;rintro e w' ⟨rfl,hb⟩;obtain ⟨bc,bf⟩:=bcell hb))
 go_wp2_with fail
 go_ret2
 exact Ret.mk' (by simp) jD
theorem amj (v:Int) (i:Nat) (w:World) (hv:0≤v∧v≤7) (hi:i≤2) (hz:v=0→i=0) :
    Calls Tryz.prog 110 #[(.iface 170 (.agg #[])),.agg #[.int .i64 v,.bool (Ar i),.bool (yG i)]] w (Ret (.tuple #[.string (bs (tW v i)),.bool (vV 1 v i)]) w):=by
  have h3:i=0∨i=1∨i=2:=by omega
  have h8:v=0∨v=1∨v=2∨v=3∨v=4∨v=5∨v=6∨v=7:=by omega
  have H6:=Lib.hid (SN 6)
  have HV:=Lib.hid hv
  clear hi hv
  rcases h3 with rfl|rfl|rfl
  · rcases h8 with rfl|rfl|rfl|rfl|rfl|rfl|rfl|rfl
    all_goals
      clear hz
      simp only [Ar,yG]
      go_enter Tryz.func110,Tryz.ntmps110
      go_wp2_with (go_at_call 315;refine (H6.out _).mono ?_;rintro e w' ⟨rfl,hb⟩)
      go_ret2
      exact Ret.mk' rfl jD
  · exact W9
  · exact akF v w ⟨by have:=HV.out;by_cases h0:v=0<;>omega,HV.out.2⟩
theorem SQ (n:Int)(w:World):Calls Tryz.prog 331 #[.agg #[],.int .i64 n] w (Ret (.bool (if (2:Int)=3 then n != 8 else if (2:Int)=4 then n == 8 else true)) w):=by
 go_enter Tryz.func331,Tryz.ntmps331
 exact xE
theorem akG (v:Int) (w:World) (hv:1≤v∧v≤7) :
  Calls Tryz.prog 110 #[(.iface 174 (.agg #[])),.agg #[.int .i64 v,.bool false,.bool true]] w (Ret (.tuple #[.string (bs (tW v 2)),.bool (vV 2 v 2)]) w):=by
 obtain ⟨hv1,hv7⟩:=hv
 have e1:tW v 2=cut [66,83,77,67,81,88,68] (v - 1) v++[51]:=by unfold tW;rw [if_neg (by omega)];rfl
 have e2:vV 2 v 2=decide ((2:Int)≠4):=by unfold vV;rw [if_neg (by omega)];rfl
 have H5:=Lib.hid (SQ 5)
 rw [e1,e2]
 have hb1:(v == 0)=false:=by simp;omega
 have g0:0≤v - 1:=by omega
 have g1:v - 1≤v:=by omega
 have gl:(cut [66,83,77,67,81,88,68] (v - 1) v).length+1≤9223372036854775807:=by
  exact Xb
 have w1:IntKind.i64.wrap (v - 1)=v - 1:=IntWalk.i64_in _ aj
 clear e1 e2
 go_enter Tryz.func110,Tryz.ntmps110
 go_wp2_with fail
 go_region_held3 (fun w'=>w'.cell? ⟨w.heap.size,0,none⟩=some (.int .i64 v))
  (first|(simp [bc];done)|go_keep)
  ((go_at_call 331;refine (H5.out _).mono ?_;rintro e w' ⟨rfl,hb⟩;obtain ⟨bc,bf⟩:=bcell hb))
 go_wp2_with fail
 go_ret2
 exact Ret.mk' (by simp) jD
theorem amk (v:Int) (i:Nat) (w:World) (hv:0≤v∧v≤7) (hi:i≤2) (hz:v=0→i=0) :
    Calls Tryz.prog 110 #[(.iface 174 (.agg #[])),.agg #[.int .i64 v,.bool (Ar i),.bool (yG i)]] w (Ret (.tuple #[.string (bs (tW v i)),.bool (vV 2 v i)]) w):=by
  have h3:i=0∨i=1∨i=2:=by omega
  have h8:v=0∨v=1∨v=2∨v=3∨v=4∨v=5∨v=6∨v=7:=by omega
  have H6:=Lib.hid (SQ 6)
  have HV:=Lib.hid hv
  clear hi hv
  rcases h3 with rfl|rfl|rfl
  · rcases h8 with rfl|rfl|rfl|rfl|rfl|rfl|rfl|rfl
    all_goals
      clear hz
      simp only [Ar,yG]
      go_enter Tryz.func110,Tryz.ntmps110
      go_wp2_with (go_at_call 331;refine (H6.out _).mono ?_;rintro e w' ⟨rfl,hb⟩)
      go_ret2
      exact Ret.mk' rfl jD
  · exact W9
  · exact akG v w ⟨by have:=HV.out;by_cases h0:v=0<;>omega,HV.out.2⟩
theorem SV (n:Int)(w:World):Calls Tryz.prog 338 #[.agg #[],.int .i64 n] w (Ret (.bool (if (3:Int)=3 then n != 8 else if (3:Int)=4 then n == 8 else true)) w):=by
 go_enter Tryz.func338,Tryz.ntmps338
 exact xE
theorem akH (v:Int) (w:World) (hv:1≤v∧v≤7) :
  Calls Tryz.prog 110 #[(.iface 176 (.agg #[])),.agg #[.int .i64 v,.bool false,.bool true]] w (Ret (.tuple #[.string (bs (tW v 2)),.bool (vV 3 v 2)]) w):=by
 obtain ⟨hv1,hv7⟩:=hv
 have e1:tW v 2=cut [66,83,77,67,81,88,68] (v - 1) v++[51]:=by unfold tW;rw [if_neg (by omega)];rfl
 have e2:vV 3 v 2=decide ((3:Int)≠4):=by unfold vV;rw [if_neg (by omega)];rfl
 have H5:=Lib.hid (SV 5)
 rw [e1,e2]
 have hb1:(v == 0)=false:=by simp;omega
 have g0:0≤v - 1:=by omega
 have g1:v - 1≤v:=by omega
 have gl:(cut [66,83,77,67,81,88,68] (v - 1) v).length+1≤9223372036854775807:=by
  exact Xb
 have w1:IntKind.i64.wrap (v - 1)=v - 1:=IntWalk.i64_in _ aj
 clear e1 e2
 go_enter Tryz.func110,Tryz.ntmps110
 go_wp2_with fail
 go_region_held3 (fun w'=>w'.cell? ⟨w.heap.size,0,none⟩=some (.int .i64 v))
  (first|(simp [bc];done)|go_keep)
  ((go_at_call 338;refine (H5.out _).mono ?_;rintro e w' ⟨rfl,hb⟩;obtain ⟨bc,bf⟩:=bcell hb))
 go_wp2_with fail
 go_ret2
 exact Ret.mk' (by simp) jD
theorem aml (v:Int) (i:Nat) (w:World) (hv:0≤v∧v≤7) (hi:i≤2) (hz:v=0→i=0) :
    Calls Tryz.prog 110 #[(.iface 176 (.agg #[])),.agg #[.int .i64 v,.bool (Ar i),.bool (yG i)]] w (Ret (.tuple #[.string (bs (tW v i)),.bool (vV 3 v i)]) w):=by
  have h3:i=0∨i=1∨i=2:=by omega
  have h8:v=0∨v=1∨v=2∨v=3∨v=4∨v=5∨v=6∨v=7:=by omega
  have H6:=Lib.hid (SV 6)
  have HV:=Lib.hid hv
  clear hi hv
  rcases h3 with rfl|rfl|rfl
  · rcases h8 with rfl|rfl|rfl|rfl|rfl|rfl|rfl|rfl
    all_goals
      clear hz
      simp only [Ar,yG]
      go_enter Tryz.func110,Tryz.ntmps110
      go_wp2_with (go_at_call 338;refine (H6.out _).mono ?_;rintro e w' ⟨rfl,hb⟩)
      go_ret2
      exact Ret.mk' rfl jD
  · exact W9
  · exact akH v w ⟨by have:=HV.out;by_cases h0:v=0<;>omega,HV.out.2⟩
theorem SX (n:Int)(w:World):Calls Tryz.prog 346 #[.agg #[],.int .i64 n] w (Ret (.bool (if (4:Int)=3 then n != 8 else if (4:Int)=4 then n == 8 else true)) w):=by
 go_enter Tryz.func346,Tryz.ntmps346
 exact xE
theorem akI (v:Int) (w:World) (hv:1≤v∧v≤7) :
  Calls Tryz.prog 110 #[(.iface 178 (.agg #[])),.agg #[.int .i64 v,.bool false,.bool true]] w (Ret (.tuple #[.string (bs (tW v 2)),.bool (vV 4 v 2)]) w):=by
 obtain ⟨hv1,hv7⟩:=hv
 have e1:tW v 2=cut [66,83,77,67,81,88,68] (v - 1) v++[51]:=by unfold tW;rw [if_neg (by omega)];rfl
 have e2:vV 4 v 2=decide ((4:Int)≠4):=by unfold vV;rw [if_neg (by omega)];rfl
 have H5:=Lib.hid (SX 5)
 rw [e1,e2]
 have hb1:(v == 0)=false:=by simp;omega
 have g0:0≤v - 1:=by omega
 have g1:v - 1≤v:=by omega
 have gl:(cut [66,83,77,67,81,88,68] (v - 1) v).length+1≤9223372036854775807:=by
  exact Xb
 have w1:IntKind.i64.wrap (v - 1)=v - 1:=IntWalk.i64_in _ aj
 clear e1 e2
 go_enter Tryz.func110,Tryz.ntmps110
 go_wp2_with fail
 go_region_held3 (fun w'=>w'.cell? ⟨w.heap.size,0,none⟩=some (.int .i64 v))
  (first|(simp [bc];done)|go_keep)
  ((go_at_call 346;refine (H5.out _).mono ?_;rintro e w' ⟨rfl,hb⟩;obtain ⟨bc,bf⟩:=bcell hb))
 go_wp2_with fail
 go_ret2
 exact Ret.mk' (by simp) jD
theorem amm (v:Int) (i:Nat) (w:World) (hv:0≤v∧v≤7) (hi:i≤2) (hz:v=0→i=0) :
    Calls Tryz.prog 110 #[(.iface 178 (.agg #[])),.agg #[.int .i64 v,.bool (Ar i),.bool (yG i)]] w (Ret (.tuple #[.string (bs (tW v i)),.bool (vV 4 v i)]) w):=by
  have h3:i=0∨i=1∨i=2:=by omega
  have h8:v=0∨v=1∨v=2∨v=3∨v=4∨v=5∨v=6∨v=7:=by omega
  have H6:=Lib.hid (SX 6)
  have HV:=Lib.hid hv
  clear hi hv
  rcases h3 with rfl|rfl|rfl
  · rcases h8 with rfl|rfl|rfl|rfl|rfl|rfl|rfl|rfl
    all_goals
      clear hz
      simp only [Ar,yG]
      go_enter Tryz.func110,Tryz.ntmps110
      go_wp2_with (go_at_call 346;refine (H6.out _).mono ?_;rintro e w' ⟨rfl,hb⟩)
      go_ret2
      exact Ret.mk' rfl jD
  · exact W9
  · exact akI v w ⟨by have:=HV.out;by_cases h0:v=0<;>omega,HV.out.2⟩
end
section
def yV(s:Int)(l:List UInt8)(v i:Nat):Bool:=(v != 0|| i == 0) && (vV s v i && tW v i == l)
def jm (m:Nat→Nat→Bool)(v n:Nat):Option (Nat×Nat):=(List.range' v n).findSome? fun v=>((List.range 3).find? (m v)).map fun i=>(v,i)
theorem Zh (m:Nat→Nat→Bool)(v n i:Nat)(h:(List.range 3).find? (m v)=some i):jm m v (n+1)=some (v,i):=by
 grind[jm,Fg]
theorem acy (m:Nat→Nat→Bool)(v n:Nat)(h:(List.range 3).find? (m v)=none):jm m v (n+1)=jm m (v+1) n:=by
 simp_all[jm,Fg]
theorem Vo(m:Nat→Bool):(List.range 3).find? m=if m 0=true then some 0 else if m 1=true then some 1 else if m 2=true then some 2 else none:=by
 have:List.range 3=[0,1,2]:=rfl
 grind
def mg:List (Nat×Nat):=[(1,1),(1,0),(2,1),(1,2),(2,0),(3,1),(2,2),(3,0),(4,1),(3,2),(4,0),(5,1),(4,2),(5,0),(6,1),(5,2),(6,0),(7,1),(6,2),(7,0),(7,2),(0,0)]
def Tm(s:Int)(l:List UInt8)(p:Nat×Nat):Bool:=!l.isEmpty && rW s p.1 p.2 == l
def qF:List (Nat×Nat):=(List.range 8).flatMap fun v=>(List.range 3).map fun i=>(v,i)
theorem NI {α:Type} (L L':List α)(p p':α→Bool)(h1:∀ x∈L,p x=true→x∈L'∧p' x=true)(h2:∀ x∈L',p' x=true→x∈L∧p x=true)
  (hu:∀ x∈L',∀ y∈L',p' x=true→p' y=true→x=y):L.find? p=L'.find? p':=by
 cases hL:L.find? p with
 | none =>
  grind
 | some x =>
  have hm:=List.mem_of_find?_eq_some hL
  have hp:=List.find?_some hL
  obtain⟨a,b⟩:=h1 x hm hp
  cases hL':L'.find? p'<;>grind
theorem Au:(mg.all fun x=>mg.all fun y=>!(tW x.1 x.2 == tW y.1 y.2)|| x == y)=true:=by decide +kernel
theorem Zj:(mg.all fun x=>qF.contains x && (x.1 != 0|| x.2 == 0))=true:=by decide +kernel
theorem Zk:(qF.all fun x=>!(x.1 != 0|| x.2 == 0)|| mg.contains x)=true:=by decide +kernel
theorem ahp:(mg.all fun x=>decide (x.1≤7))=true:=by decide +kernel
theorem Ec (m:Nat→Nat→Bool):jm m 0 8=qF.find? fun p=>m p.1 p.2:=by
 unfold jm qF
 have:∀ l:List Nat,(l.findSome? fun v=>((List.range 3).find? (m v)).map fun i=>(v,i))=(l.flatMap fun v=>(List.range 3).map fun i=>(v,i)).find? fun p=>m p.1 p.2:=by
  intro l
  induction l with
  | nil=>rfl
  | cons v r ih =>
   rw [List.findSome?_cons,LW,List.find?_append,ih,List.find?_map]
   have e:((fun p:Nat×Nat=>m p.1 p.2) ∘ fun i=>(v,i))=m v:=rfl
   grind
 simp_all[EM]
theorem YX (s:Int)(l:List UInt8):jm (yV s l) 0 8=mg.find? (Tm s l):=by
 rw [Ec]
 have hw:=Au
 have hsub:=Zj
 have hsup:=Zk
 have hv:=ahp
 rw [jS] at hw hsub hsup hv
 refine NI _ _ _ _ ?_ ?_ ?_
 ·grind[yV,ah5,Tm,rW]
 all_goals grind[Tm,rW,vV,yV]
theorem SL (s v:Int) (d t:Bool) (h:vk s v d t=0):jm (yV s (BX s v d t)) 0 8=some (v.toNat,oM d t)∧((v.toNat:Nat):Int)=v∧Ar (oM d t)=d∧yG (oM d t)=t:=by
 have hok:jo v d t=true:=by
  grind[vk]
 have hv7:0≤v∧v≤7:=by
  grind[jo]
 obtain ⟨n,rfl⟩:=dP hv7.1
 have hto:vV s n (oM d t)=true:=by
  grind[vk]
 have hr:(n,oM d t)∈mg∧Ar (oM d t)=d∧yG (oM d t)=t:=by
  have h8:n=0∨n=1∨n=2∨n=3∨n=4∨n=5∨n=6∨n=7:=by omega
  revert hok
  cases d<;>cases t<;>rcases h8 with rfl|rfl|rfl|rfl|rfl|rfl|rfl|rfl<;>decide
 refine ⟨?_,rfl,hr.2.1,hr.2.2⟩
 have ht:BX s n d t=tW n (oM d t):=by simp_all[BX]
 rw [ht,YX,dB]
 have hne:=ah5 n (oM d t) aj
 have he:(tW n (oM d t)).isEmpty=false:=by simpa using hne
 have hp:Tm s (tW n (oM d t)) (n,oM d t)=true:=by simp_all[Tm,rW]
 have hw:=Au
 rw [jS] at hw
 cases hf:mg.find? (Tm s (tW n (oM d t)))<;>grind[Tm,rW]
end
section
open Go.RowKit
def lQ (c:UInt8)(s:List (List UInt8)×List UInt8)(b:UInt8):List (List UInt8)×List UInt8:=if b=c then (s.1++[s.2],[])else (s.1,s.2++[b])
def aI (c:UInt8) (t:List UInt8):List (List UInt8)×List UInt8:=t.foldl (lQ c) ([],[])
def ak (c:UInt8)(ls:List (List UInt8))(tl:List UInt8):List UInt8:=ls.flatMap (fun l=>l++[c])++tl
def aH(c:UInt8)(l:List UInt8):Prop:=∀ b∈l,b≠c
theorem rX(c:UInt8)(tl:List UInt8):ak c [] tl=tl:=rfl
theorem aF (c:UInt8)(l:List UInt8)(ls:List (List UInt8))(tl:List UInt8):ak c (l::ls) tl=l++c::ak c ls tl:=by
 simp[ak]
theorem xu (c:UInt8):∀ (t:List UInt8) (ls:List (List UInt8)) (cur:List UInt8),ak c (t.foldl (lQ c) (ls,cur)).1 (t.foldl (lQ c) (ls,cur)).2=ak c ls cur++t
 | [],ls,cur=>by simp
 | b::r,ls,cur=>by
  by_cases h:b=c
  ·rw [uJ,show lQ c (ls,cur) b=(ls++[cur],[]) from if_pos h,xu c r]
   simp [ak,h]
  ·rw [uJ,show lQ c (ls,cur) b=(ls,cur++[b]) from if_neg h,xu c r]
   simp [ak]
theorem D8 (c:UInt8):∀ (t:List UInt8) (ls:List (List UInt8)) (cur:List UInt8),(∀ l∈ls,aH c l)→aH c cur→(∀ l∈(t.foldl (lQ c) (ls,cur)).1,aH c l)∧aH c (t.foldl (lQ c) (ls,cur)).2
 | [],ls,cur,h1,h2=>⟨h1,h2⟩
 | b::r,ls,cur,h1,h2=>by
  by_cases h:b=c
  ·rw [uJ,show lQ c (ls,cur) b=(ls++[cur],[]) from if_pos h]
   exact D8 c r _ _ (fun l hl=>by
    grind) (fun b hb=>by cases hb)
  ·rw [uJ,show lQ c (ls,cur) b=(ls,cur++[b]) from if_neg h]
   exact D8 c r _ _ h1 (fun x hx=>by
    rcases List.mem_append.1 hx with y|y
    ·exact h2 x y
    simp_all)
theorem zG (c:UInt8):∀ (l:List UInt8) (ls:List (List UInt8)) (cur:List UInt8),aH c l→l.foldl (lQ c) (ls,cur)=(ls,cur++l)
 | [],ls,cur,_=>by simp
 | b::r,ls,cur,h=>by
  rw [uJ,show lQ c (ls,cur) b=(ls,cur++[b]) from if_neg (h b (by simp)),zG c r _ _ (fun x hx=>h x (by grind))]
  simp
theorem D9 (c:UInt8):∀ (ls:List (List UInt8)) (tl:List UInt8) (a:List (List UInt8)),(∀ l∈ls,aH c l)→aH c tl→(ak c ls tl).foldl (lQ c) (a,[])=(a++ls,tl)
 | [],tl,a,_,h=>by simp_all[rX,zG]
 | l::ls,tl,a,h1,h2=>by
  rw [aF,Ew,zG c l _ _ (h1 l (by simp)),uJ,Qg,show lQ c (a,l) c=(a++[l],[]) from if_pos rfl,D9 c ls tl _ (fun x hx=>h1 x (by grind)) h2]
  simp
theorem iF (c:UInt8)(t:List UInt8):ak c (aI c t).1 (aI c t).2=t:=(xu c t [] []).trans rfl
theorem vg (c:UInt8) (t:List UInt8):(∀ l∈(aI c t).1,aH c l)∧aH c (aI c t).2:=D8 c t [] [] (fun l hl=>by cases hl) (fun b hb=>by cases hb)
theorem o8 {c:UInt8} {ls:List (List UInt8)} {tl:List UInt8} (h1:∀ l∈ls,aH c l)(h2:aH c tl):aI c (ak c ls tl)=(ls,tl):=by
 simp_all[aI,D9]
theorem og (c:UInt8)(r:List UInt8):∀ l:List UInt8,aH c l→Lib.index (l++c::r) [c]=(l.length:Int)
 | [],_=>by simp[Lib.index]
 | b::l,h=>by
  have ih:=og c r l (fun x hx=>h x (by grind))
  have hb:([c]:List UInt8).isPrefixOf (b::(l++c::r))=false:=by simp [List.isPrefixOf,Ne.symm (h b (by simp))]
  simp_all[Lib.index]
theorem vU (c:UInt8):∀ l:List UInt8,aH c l→Lib.index l [c]=-1
 | [],_=>by simp[Lib.index]
 | b::l,h=>by
  have ih:=vU c l (fun x hx=>h x (by grind))
  have hb:([c]:List UInt8).isPrefixOf (b::l)=false:=by simp [List.isPrefixOf,Ne.symm (h b (by simp))]
  simp_all[Lib.index]
theorem Za {c:UInt8} {l r:List UInt8} (h:aH c l):Lib.cut (l++c::r) [c]=(l,r,true):=by
 simp_all[og,Lib.cut]
theorem Zb {c:UInt8} {l:List UInt8} (h:aH c l):Lib.cut l [c]=(l,[],false):=by
 simp_all[vU,Lib.cut]
theorem Ak {c:UInt8} {l:List UInt8} (h:aH c l):Lib.count l [c]=0:=by
 rw [Lib.count_one,List.count_eq_zero]
 exact fun hc=>h c hc rfl
theorem pW (c:UInt8):∀ (ls:List (List UInt8))(tl:List UInt8),(∀ l∈ls,aH c l)→aH c tl→Lib.count (ak c ls tl) [c]=ls.length
 | [],tl,_,h=>by simp_all[rX,Ak]
 | l::ls,tl,h1,h2=>by
  have ih:=pW c ls tl (fun x hx=>h1 x (by grind)) h2
  have h0:=Ak (h1 l (by simp))
  simp_all[Lib.count_one,aF]
theorem uq (c:UInt8):∀ (ls:List (List UInt8))(tl:List UInt8),(∀ l∈ls,aH c l)→aH c tl→Lib.splitK [c] 0 ls.length (ak c ls tl)=ls++[tl]
 | [],tl,_,_=>rfl
 | l::ls,tl,h1,h2=>by
  have hi:=og c (ak c ls tl) l (h1 l (by simp))
  rw [aF,bW,Lib.splitK,hi,if_neg (by simp),dB]
  have e1:(l++c::ak c ls tl).take (l.length+0)=l:=List.take_left
  have e2:(l++c::ak c ls tl).drop (l.length+[c].length)=ak c ls tl:=by
   rw [show l++c::ak c ls tl=(l++[c])++ak c ls tl by simp,show l.length+[c].length=(l++[c]).length by simp];exact List.drop_left
  rw [e1,e2,uq c ls tl (fun x hx=>h1 x uQ) h2];rfl
def aV (c:UInt8)(t:List UInt8):List (List UInt8):=(aI c t).1++[(aI c t).2]
theorem KU (c:UInt8)(t:List UInt8):Lib.splitK [c] 0 (Lib.count t [c]) t=aV c t:=by
 grind[vg,iF,aV,uq,pW]
theorem rY(c:UInt8)(t:List UInt8):(aV c t).length=Lib.count t [c]+1:=by
 grind[vg,pW,iF,aV]
theorem Aq (c:UInt8) (l r:List UInt8) (h:aH c l):aV c (l++c::r)=l::aV c r:=by
 obtain ⟨h1,h2⟩:=vg c r
 have hj:=iF c r
 have e:l++c::r=ak c (l::(aI c r).1) (aI c r).2:=by rw [aF,hj]
 simp_all[aV,o8]
theorem Ea (c:UInt8) (l:List UInt8) (h:aH c l):aV c l=[l]:=by
 have:=o8 (ls:=[]) (fun x hx=>by cases hx) h
 simp_all[aV,rX]
theorem nJ (c:UInt8) (t:List UInt8):∀ w∈aV c t,w.length≤t.length:=by
 intro w hw
 have hj:=iF c t
 unfold aV at hw
 have hl:t.length=(ak c (aI c t).1 (aI c t).2).length:=by rw [hj]
 rw [hl]
 unfold ak
 rcases List.mem_append.1 hw with x|x
 ·obtain ⟨i,hi,rfl⟩:=List.mem_iff_getElem.1 x
  rw [bJ]
  have:((aI c t).1[i]++[c]).length≤((aI c t).1.flatMap fun l=>l++[c]).length:=by
   have:=List.sublist_flatten_of_mem (List.mem_map.2 ⟨_,fA hi,rfl⟩:(aI c t).1[i]++[c]∈(aI c t).1.map fun l=>l++[c])
   grind
  grind
 simp_all
def o7 (n:Nat):List UInt8→Option Nat
 | []=>some n
 | b::r=>if 48≤b.toNat∧b.toNat≤57 then o7 (10*n+(b.toNat-48)) r else none
def bT(w:List UInt8):Option Nat:=if w.length<1∨3<w.length∨(w.getD 0 0=48∧1<w.length)then none else o7 0 w
def ig (n:Nat):List UInt8:=if n<10 then [UInt8.ofNat (48+n)]else if n<100 then [UInt8.ofNat (48+n/10),UInt8.ofNat (48+n % 10)]else [UInt8.ofNat (48+n/100),UInt8.ofNat (48+n/10 % 10),UInt8.ofNat (48+n % 10)]
theorem nZ {n:Nat} (h:n<1000):Lib.itoa (n:Int)=ig n:=by
 unfold Lib.itoa
 rw [if_neg (by omega),dB]
 grind[ig,Lib.decDigits]
theorem PO:((List.range 1000).all fun n=>bT (ig n) == some n && (ig n).all (fun b=>b != 32 && b != 10) && decide ((ig n).length≤3))=true:=by decide +kernel
theorem D7 {n:Nat} (h:n<1000):bT (ig n)=some n∧aH 32 (ig n)∧aH 10 (ig n)∧(ig n).length≤3:=by
 have:=List.all_eq_true.1 PO n (List.mem_range.2 h)
 simp only [dw,Je,jS,bne_iff_ne,bD]at this
 exact⟨this.1.1,fun b hb=>(this.1.2 b hb).1,fun b hb=>(this.1.2 b hb).2,this.2⟩
def nX(b:UInt8):Nat:=([67,68,69,70,71,65,66]:List UInt8).idxOf b
def kT:List UInt8→Int×List UInt8
 | b::r=>if b=35 then(1,r)else if b=98 then(-1,r)else(0,b::r)
 | []=>(0,[])
def pV (r:List UInt8):Option Int :=
 if r=[45,49]then some (-1)else
 match r with
 | [b]=>if 48≤b.toNat∧b.toNat≤57 then some ((b.toNat:Int)-48)else none
 | _=>none
def fC (t:List UInt8):(Int×Int×Int)×Int :=
 match t with
 | []=>((0,0,0),4)
 | c::r =>
  if 7≤nX c then ((0,0,0),4)else
  match pV (kT r).2 with
  | none=>((0,0,0),4)
  | some o=>if gX (nX c) (kT r).1 o=true then (((nX c:Nat),(kT r).1,o),0)else ((0,0,0),10)
def DZ (t:List UInt8):Option (List UInt8×List UInt8) :=
 match aV 47 t with
 | a::b::r=>some (a,t.drop (a.length+1))
 | _=>none
def gZ(b:List UInt8):List UInt8×Bool:=if b.getLast?=some 43 then(b.dropLast,true)else(b,false)
def eu (t:List UInt8):(Int×Int×Bool)×Int :=
 match DZ t with
 | none=>((0,0,false),4)
 | some (a,b) =>
  if (fC a).2=4 then ((0,0,false),4)else
  match bT (gZ b).1 with
  | none=>((0,0,false),4)
  | some n=>if (fC a).2≠0 then ((0,0,false),(fC a).2)else ((tC (fC a).1.1 (fC a).1.2.1 (fC a).1.2.2,(n:Int),(gZ b).2),0)
theorem Tn(r:List UInt8):(kT r).2.length≤r.length:=by
 unfold kT
 grind
theorem IB {a b:List UInt8} (h:aH 47 a):DZ (a++47::b)=some (a,b):=by
 unfold DZ
 rw [Aq 47 a b h]
 obtain⟨x,y,hxy⟩:∃ x y,aV 47 b=x::y:=by
  have:=rY 47 b
  match hw:aV 47 b with
  | []=>simp_all
  | x::y=>exact⟨x,y,rfl⟩
 simp_all
theorem Y5 {t:List UInt8} (h:aH 47 t):DZ t=none:=by
 simp_all[DZ,Ea]
theorem PK:∀ t:List UInt8,(∃ a b,t=a++47::b∧aH 47 a)∨aH 47 t
 | []=>.inr fun b hb=>by cases hb
 | x::r=>by
  by_cases h:x=47
  ·exact .inl ⟨[],r,by simp [h],fun b hb=>by cases hb⟩
  ·rcases PK r with⟨a,b,e,hn⟩|hn
   ·refine .inl ⟨x::a,b,by simp [e],fun y hy=>?_⟩
    exact aea
   ·refine .inr fun y hy=>?_
    exact aea
def jH:List (List UInt8)→Option (List (List UInt8)×List (List UInt8))
 | []=>none
 | w::r=>if w=[58]then some ([],r)else (jH r).map fun x=>(w::x.1,x.2)
def jZ:List (List UInt8)→Int
 | []=>0
 | w::r=>if (eu w).2≠0 then (eu w).2 else jZ r
def mV:List (List UInt8)→Int
 | []=>0
 | w::r=>if (bT w).isSome then mV r else 4
def jI (t:List UInt8):(List (Int×Int×Bool)×List Int)×Int :=
 match jH (aV 32 t)with
 | none=>(([],[]),4)
 | some (a,b)=>if jZ a≠0 then (([],[]),jZ a)else if mV b≠0 then (([],[]),mV b)else ((a.map fun w=>(eu w).1,b.map fun w=>(((bT w).getD 0:Nat):Int)),0)
end
end Go.Proofs.YthohlofpphjofaaGreatDoor
