/- Closed facts of the program that each card asks, each in a declaration of its own. -/
import Derived.Test.YthohlofpphjofaaGreatDoorFALq
import Derived.Test.YthohlofpphjofaaGreatDoorSpLq
import Derived.Test.YthohlofpphjofaaGreatDoorCards
import Derived.SevenTiedAt
set_option maxHeartbeats 1600000
set_option maxRecDepth 100000
set_option linter.unusedVariables false
set_option linter.unusedSimpArgs false
namespace Go.Proofs.YthohlofpphjofaaGreatDoor
theorem amo {p:Prop}(h:p:=by
 show w.heap.size<=(w.heap++os).size;rw [Array.size_append];omega):p:=h
theorem asz {p:Prop}(h:p:=by
 have:vs=xs:=DX (G:=⟨F,λ_=>0,λ_=>0,λ_=>undef,λ_ _=>False⟩) hs hR.1 λi av u a b=>.pu _ _ (hR.2 i av u a b);subst this;exact (h w F hB).mono λe w'⟨he,hb⟩=>⟨v,F,he,hb,λ_ _ h=>h,λp u x=>by rw [hb.cell (aQ (hF p u x))];exact hF p u x,λ_ _ h=>.inl h,hv F⟩):p:=h
section
open Go.RowKit
def ng (w:World) (F:View):Prop :=
 (∀ (i:Nat)v,bsL[i]?=some v→F ⟨1,i,none⟩=some (.int .i64 v))∧Lib.TabIs Tryz.prog w "internal/strconv.uint64pow10" .u64 Lib.pow10Tab ∧
 (∃ m,w.cell? ⟨2,0,none⟩=some (.int .i64 m))
def zo:Nat:=max 5 2+1
theorem ajj:Tryz.prog.globalNamed "internal/strconv.uint64pow10"=some 5:=by kernel_rfl
theorem aqi {w:World} {cs:Array Value} {s:String} {g:Nat} (hg:Tryz.prog.globalNamed s=some g)(h:w.var? Tryz.prog s=some cs):g<w.heap.size:=by
 unfold World.var? at h;rw [hg]at h;rcases FM g w.heap.size with h1|h1;.exact h1
 .simp [abt h1]at h
theorem Vr {w w':World} {b i:Nat} {v:Value} (h:w'.heap[b]?=w.heap[b]?) (hc:w.cell? ⟨b,i,none⟩=some v):w'.cell? ⟨b,i,none⟩=some v:=by
 unfold World.cell? at hc ⊢;rw [show w'.heap[(⟨b,i,none⟩:Addr).block]?=w.heap[(⟨b,i,none⟩:Addr).block]? from h];exact hc
theorem abd {w w':World} {s:String} {k:IntKind} {l:List Int} {g:Nat} (hg:Tryz.prog.globalNamed s=some g)(hb:w'.heap[g]?=w.heap[g]?)(h:Lib.TabIs Tryz.prog w s k l):Lib.TabIs Tryz.prog w' s k l:=by
 unfold Lib.TabIs World.var? at h ⊢;rw [hg]at h ⊢;simp only [Yy]at h ⊢;rw [hb];exact h
theorem jR:RN ng zo:=by
 refine⟨λw F h=>?_,λw w' F F' hb hF h=>?_⟩
 .obtain⟨h0,h1,⟨m,h3⟩⟩:=h;have a1:=aqi ajj h1;have a3:=aQ h3;unfold zo;omega
 .obtain⟨h0,h1,⟨m,h3⟩⟩:=h;exact⟨λi v x=>hF _ _ (h0 i v x),abd ajj (hb _ (by unfold zo;omega)) h1,⟨m,Vr (hb _ (by unfold zo;omega)) h3⟩⟩
theorem abb {z:Int} (h:0<=z/\z<=6):∀ w F,ng w F->F ⟨1,z.toNat,none⟩=some (.int .i64 (sU z)):=λw F hB=>hB.1 _ _ (acn h)
theorem jB.aao {B:World->View->Prop} {P:Program} {f:FuncId} {args:List AV} {xs:List Value} {res:AV} {v:Value} (hs:JW args=some xs)(hv:∀ F,RP F res v)(h:∀ w F,B w F->Calls P f xs.toArray w (iZ v w)):jB B P f args res:=by
 intro w F vs hB hF hR;exact asz
theorem aoZ (n:Int)(h:I64 n):jB ng Tryz.prog 108 [.sc (.int .i64 n)] (.sc (.string (bs (Lib.itoa n)))) :=jB.aao (v:=.string (bs (Lib.itoa n))) rfl (λ_=>.sc _) λw F hB=>(Tryz.strconv_Itoa n h.1 (by have:=h.2;omega) w hB.2.1).mono λe w'⟨he,k,os,hw⟩=>⟨he,by
  subst hw;refine⟨rfl,rfl,rfl,?_,λi hi=>?_⟩;.exact amo
  .show (w.heap++os)[i]?=w.heap[i]?;rw [FN hi]⟩
theorem jB.mono {B B':World->View->Prop} {P:Program} {f:FuncId} {args:List AV} {res:AV} (h:jB B P f args res)(hb:∀ w F,B' w F->B w F):jB B' P f args res:=λw F vs k=>h w F vs (hb w F k)
def Fz (w:World) (F:View):Prop :=
 (∀ (i:Nat)v,ftL[i]?=some v→F ⟨0,i,none⟩=some (.int .i64 v))∧(∀ (i:Nat)v,bsL[i]?=some v→F ⟨1,i,none⟩=some (.int .i64 v)) ∧
 Lib.TabIs Tryz.prog w "internal/strconv.uint64pow10" .u64 Lib.pow10Tab
def atx:Nat:=5+1
theorem XB:Tryz.prog.globalNamed "internal/strconv.uint64pow10"=some 5:=by kernel_rfl
theorem akw {w:World} {cs:Array Value} (h:w.var? Tryz.prog "internal/strconv.uint64pow10"=some cs):atx≤w.heap.size:=by
 unfold World.var? at h
 rw [XB]at h
 rcases FM 5 w.heap.size with h1|h1
 ·exact h1
 ·simp [abt h1]at h
theorem rO:RN Fz atx:=⟨λw F h=>akw h.2.2,λw w' F F' hb hF h=>⟨λi v x=>hF _ _ (h.1 i v x),λi v x=>hF _ _ (h.2.1 i v x),by
 have h3:=h.2.2;unfold Lib.TabIs World.var? at h3 ⊢;rw [XB]at h3 ⊢;simp only [Yy]at h3 ⊢;rw [hb _ (vw _)];exact h3⟩⟩
theorem abe {z:Int} (h:0<=z/\z<=6):∀ w F,Fz w F->F ⟨0,z.toNat,none⟩=some (.int .i64 (ftV z)):=λw F hB=>hB.1 _ _ (atu h)
theorem QK {z:Int} (h:0<=z/\z<=6):∀ w F,Fz w F->F ⟨1,z.toNat,none⟩=some (.int .i64 (sU z)):=λw F hB=>hB.2.1 _ _ (acn h)
theorem jB.nX {B:World->View->Prop} {P:Program} {f:FuncId} {args:List AV} {xs:List Value} {res:AV} {v:Value} (hs:JW args=some xs)(hv:∀ F,RP F res v)(h:∀ w F,B w F->Calls P f xs.toArray w (iZ v w)):jB B P f args res:=by
 intro w F vs hB hF hR;exact asz
theorem ZI (n:Int)(h:I64 n):jB Fz Tryz.prog 108 [.sc (.int .i64 n)] (.sc (.string (bs (Lib.itoa n)))) :=jB.nX (v:=.string (bs (Lib.itoa n))) rfl (λ_=>.sc _) λw F hB=>(Tryz.strconv_Itoa n h.1 (by have:=h.2;omega) w hB.2.2).mono λe w'⟨he,k,os,hw⟩=>⟨he,by
  subst hw;refine⟨rfl,rfl,rfl,?_,λi hi=>?_⟩;.exact amo
  .show (w.heap++os)[i]?=w.heap[i]?;rw [FN hi]⟩
def agE(w:World)(F:View):Prop:=Fz w F/\ng w F
theorem axW:RN agE (max atx zo):=⟨λw F h=>Nat.max_le.2 ⟨rO.1 w F h.1,jR.1 w F h.2⟩,λw w' F F' hb hF h=>⟨rO.2 w w' F F' (λi hi=>hb i (oD hi (Nat.le_max_left _ _))) hF h.1,jR.2 w w' F F' (λi hi=>hb i (oD hi (Nat.le_max_right _ _))) hF h.2⟩⟩
theorem jB.wB {P:Program} {f:FuncId} {args:List AV} {res:AV} (h:jB Fz P f args res):jB agE P f args res:=h.mono λ_ _ k=>k.1
theorem jB.wN {P:Program} {f:FuncId} {args:List AV} {res:AV} (h:jB ng P f args res):jB agE P f args res:=h.mono λ_ _ k=>k.2
end
section
structure jh(p:bV):Prop where
 n1:p.cs.length<=64n2:p.st.length<=64n3:p.evs.length<=420n4:∀ k(h:k<p.evs.length),p.evs[k].stops.length<=20
end
section
open Go.RowKit
abbrev YX:=Int×Int×Int
def aik(x:YX):List Value:=[.int .i64 x.1,.int .i64 x.2.1,.int .i64 x.2.2]
def av5 (w:World)(B0 b:Nat)(l:List YX):Prop :=∃ Q d,yV w b 56 #[.slice Q l.length d]/\w.ownsRow B0 136 3 (.slice Q l.length d) l.length (l.map aik).flatten
def xC(s c n:Int):Int:=if s=4 then 0 else if s=2 then n+1-c else c
theorem uG {cs:List (Int×Int×Bool)} {st:List Int} (h:jW cs st=0):1<=cs.length/\cs.length<=14/\st.length<=18/\iI 0 st=false/\Eh st cs=0:=by
 unfold jW at h;by_cases h1:14<cs.length\/18<st.length;.rw [if_pos h1]at h;cases h
 .rw [if_neg h1]at h;by_cases h2:cs.length=0;.rw [if_pos h2]at h;cases h
  .rw [if_neg h2]at h;by_cases h3:iI 0 st=true;.rw [if_pos h3]at h;cases h
   .rw [if_neg h3]at h;exact⟨by omega,by omega,by omega,by simpa using h3,h⟩
end
section
open Go
theorem aur:true=Tryz.pinned.checked.prog.looks []:=by kernel_rfl
theorem axq:Tryz.pinned.checked.prog.mainIs=some (Rows.notationReadsCard.stood.harness.1,Rows.notationReadsCard.stood.harness.2.toList):=by kernel_rfl
end
end Go.Proofs.YthohlofpphjofaaGreatDoor
