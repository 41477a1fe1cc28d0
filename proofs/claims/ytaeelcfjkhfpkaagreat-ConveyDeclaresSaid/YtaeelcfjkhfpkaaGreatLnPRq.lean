/- The line of a course: the plain part. -/
import Derived.Test.YtaeelcfjkhfpkaaGreatEFRq
import Derived.Test.YtaeelcfjkhfpkaaGreatCpIRq
import Derived.BigQuiet
set_option maxHeartbeats 1600000
set_option maxRecDepth 100000
set_option linter.unusedVariables false
set_option linter.unusedSimpArgs false
namespace Go.Proofs.YtaeelcfjkhfpkaaGreat
section
open Go.RowKit
def eStp (x:Stp):List AV:=[.sc (.int .i64 x.1),.sc (.int .i64 x.2.1),.sc (.int .i64 x.2.2.1),.sc (.int .i64 x.2.2.2.1),.sc (.int .i64 x.2.2.2.2)]
def eStps (l:List Stp):AV:=.ls 5 (l.map eStp)
def eEv (e:Ev):List AV:=[.sc (.bool e.bar),.sc (.int .i64 e.val),.sc (.bool e.dot),.sc (.bool e.three),.sc (.bool e.tie),eStps e.stops]
def eCrs (x:Int×Int×Bool):List AV:=[.sc (.int .i64 x.1),.sc (.int .i64 x.2.1),.sc (.bool x.2.2)]
def eInt (x:Int):List AV:=[.sc (.int .i64 x)]
def eIns (cs:List (Int×Int×Bool))(st:List Int):List AV:=[.ls 3 (cs.map eCrs),.ls 1 (st.map eInt)]
def ePce (p:Pce):AV:=.ag [.ls 3 (p.cs.map eCrs),.ls 1 (p.st.map eInt),.ls 6 (p.evs.map eEv)]
theorem map_at {α β:Type} {f:α→β} {l:List α} {k:Nat} (h:k<l.length):(l.map f)[((k:Nat):Int).toNat]?=some (f l[k]):=by rw [Int.toNat_natCast];simp [h]
theorem map_atZ {α β:Type} {f:α→β} {l:List α} {z:Int} (h0:0≤z)(h:z<l.length):(l.map f)[z.toNat]?=some (f (l[z.toNat]'(by omega))):=by
 have:z.toNat<l.length:=by omega
 simp [this]
theorem zqm {α:Type} {l:List α} {i:Nat} {x:Option α} (h:l[i]? = x:=by first|exact map_at (by omega)|exact map_atZ (by omega) (by omega)):l[i]? = x:=h
theorem take_map_succ {α β:Type} {f:α→β} {l:List α} {k:Nat} (h:k<l.length):(l.take k).map f++[f l[k]]=(l.take (k+1)).map f:=by
 rw [List.take_succ_eq_append_getElem h,List.map_append];rfl
theorem bd_all {l:List AV} (h:l.all AV.pu2=true):∀ (i:Nat) av,l[i]?=some av→Bd 0 av:=fun i av x=>pu2_bd (List.all_eq_true.1 h av (List.mem_of_getElem? x)) 0
theorem zqe {P:Program} {f:FuncId} {fn:Func} {c:Code} {args:List AV} {res:AV} (hf:P.funcs[f]? = some fn) {N:Nat} (hN:fn.ntmps = N) (h:∀ w0 F0,W P ⟨w0,F0,N,fun _ => False,0,G0⟩ c (St.init args) (QFin P fn ⟨w0,F0,N,fun _ => False,0,G0⟩ res)) (hb:fn.body = some c:=by rfl) (hn:args.length ≤ N:=by exact Nat.le_of_ble_eq_true rfl) (hp:args.all AV.pu2 = true:=by rfl):Ctr P f args res:=Ctr.intro hf hb hN hn (bd_all hp) h
theorem fin1 {P:Program} {fn:Func} {C:Cx} {σ:St} {t:Tmp} {av res:AV} (h:fn.results=#[.tmp t]) (ht:look t σ.t=some av) (he:av=res) (hp:res.pu2=true):QFin P fn C res .ret σ :=
 ⟨.inr rfl,Fin.one h (he ▸ ht) (pu2_bd hp 0)⟩
theorem zqr {P:Program} {fn:Func} {C:Cx} {σ:St} {t:Tmp} {av res:AV} (h:fn.results = #[.tmp t]:=by rfl) (ht:look t σ.t = some av:=by rfl) (he:av = res:=by rfl) (hp:res.pu2 = true:=by rfl):QFin P fn C res .ret σ:=fin1 h ht he hp
theorem fin2 {P:Program} {fn:Func} {C:Cx} {σ:St} {t u:Tmp} {a1 a2 r1 r2:AV} (h:fn.results=#[.tmp t,.tmp u]) (h1:look t σ.t=some a1) (h2:look u σ.t=some a2) (e1:a1=r1) (e2:a2=r2) (p1:r1.pu2=true) (p2:r2.pu2=true):QFin P fn C (.tu [r1,r2]) .ret σ :=
 ⟨.inr rfl,Fin.two h (e1 ▸ h1) (e2 ▸ h2) (pu2_bd p1 0) (pu2_bd p2 0)⟩
theorem sc_bool {a b:Bool} (h:a=b):AV.sc (.bool a)=.sc (.bool b):=by rw [h]
end
section
open Go.RowKit
attribute [local go_sem]mk_bs bs_size bs_toList bs_append bs_extract
attribute [local simp]run_cut run_cut_to run_cut_from run_add_bs
def frLetters:List UInt8:=[97,98,99,100,101,102,103,104,105,107,108,109,110,111,112,113,114,115,116]
def figLetters:List UInt8:=[48,49,50,51,52,53,54,55,56,57,120]
def rsmall:List UInt8:=[97,98,99,100,101,102,103,104,105,107,108,109,110,111,112,113,114,115,116,118,120,121,122,38,57]
def rge (c f:Int):List UInt8 :=
 if c=6 then cut [43,65,66,67,68,69,70,71,72,73,75] f (f+1)
 else if f=0 then cut [49,50,51,52,53] (5-c) (6-c)
 else if 5<f then cut rsmall (5*((f-1) % 5)+5-c) (5*((f-1) % 5)+6-c)++cut rsmall (5*((f-1) % 5)+5-c) (5*((f-1) % 5)+6-c)
 else cut rsmall (5*((f-1) % 5)+5-c) (5*((f-1) % 5)+6-c)
def itOuter (c:Int):List UInt8:=[[55],[56],[57],[120],[49,49],[49,50],[49,51],[49,52]].getD (c-7).toNat []
def rS (s c f:Int):List UInt8 :=
 if s=1 then
  (if c≤7 then cut frLetters f (f+1) else if c≤10 then cut [47,47,47] 0 (c-7)++cut frLetters f (f+1) else if f=0 then cut [52,53,54,55] (c-11) (c-10) else [])
 else if s=4 then (if c≤6∧f≤10 then rge c f else [])
 else if c≤6∧f≤10 then cut figLetters f (f+1) else if s=2∧6<c∧f=0 then itOuter c else []
end
section
open Go.RowKit
abbrev Lck:=Int×Int×Int
def lckCells(x:Lck):List Value:=[.int .i64 x.1,.int .i64 x.2.1,.int .i64 x.2.2]
def SayAt (w:World)(B0 b:Nat)(l:List Lck):Prop :=
 ∃ Q d,Blk w b 33 #[.slice Q l.length d]∧w.ownsRow B0 72 3 (.slice Q l.length d) l.length (l.map lckCells).flatten
end
section
open Go.RowKit
theorem insE_len {cs:List (Int×Int×Bool)} {st:List Int} (h:insE cs st=0):1≤cs.length∧cs.length≤14∧st.length≤18∧stepsBad 0 st=false∧crsE st cs=0:=by
 unfold insE at h
 by_cases h1:14<cs.length∨18<st.length
 ·rw [if_pos h1]at h;cases h
 ·rw [if_neg h1]at h
  by_cases h2:cs.length=0
  ·rw [if_pos h2]at h;cases h
  ·rw [if_neg h2]at h
   by_cases h3:stepsBad 0 st=true
   ·rw [if_pos h3]at h;cases h
   ·rw [if_neg h3]at h
    exact⟨by omega,by omega,by omega,by simpa using h3,h⟩
end
end Go.Proofs.YtaeelcfjkhfpkaaGreat
