/- The closed facts of BookLoads' statement, each in a declaration of its own (the kernel frees what it holds at a declaration's end). -/
import Derived.Test.YthohlofpphjofaaGreatDoorK2Lq
import Derived.Test.YthohlofpphjofaaGreatDoorRMkLq
set_option maxHeartbeats 1600000
set_option maxRecDepth 100000
set_option linter.unusedVariables false
set_option linter.unusedSimpArgs false
namespace Go.Proofs.YthohlofpphjofaaGreatDoor
open Go.RowKit
theorem abJ {p:Prop}(h:p:=by
 go_enter Tryz.func86,Tryz.ntmps86;go_wp2;go_ret;exact⟨rfl,rfl⟩):p:=h
theorem YU {p:Prop}(h:p:=by
 go_enter Tryz.func50,Tryz.ntmps50;go_wp2;go_ret2;exact⟨rfl,rfl⟩):p:=h
def jV (cs:List (Int×Int×Bool)) (c:Int):Int:=(cs.getD (c.toNat-1) (0,0,false)).2.1
def lI(p:bV)(i:Int)(s:Stp)(last:Int):Int :=if s.1<1\/(p.cs.length:Int)<s.1 then 12 else if s.2.1<0\/jV p.cs s.1<s.2.1 then 13 else if s.1<=last then 22 else if(s.2.2.1<0\/3<s.2.2.1)\/(s.2.2.2.1<0\/4<s.2.2.2.1)then 23 else if(s.2.2.2.2<0\/(ak p.evs i s.1:Int)<s.2.2.2.2)\/(0<s.2.2.2.2/\s.2.1=0)then 24 else 0
def kN(p:bV)(i:Int):Int->List Stp->Int
 | _,[]=>0| last,s::r=>if lI p i s last≠0 then lI p i s last else kN p i s.1 r
def Vg(p:bV)(i:Int)(e:Ev):Int :=if qG e.val e.dot e.three=false\/(i=0/\e.val=0)then 20 else if e.tie=true/\(0<e.stops.length\/i=0)then 21 else kN p i 0 e.stops
def Kv (p:bV):Nat->List Ev->Int
 | _,[]=>0| i,e::r=>if Vg p i e≠0 then Vg p i e else Kv p (i+1) r
def bM(p:bV):Int:=if jW p.cs p.st≠0 then jW p.cs p.st else if 400<p.evs.length then 2 else Kv p 0 p.evs
theorem agz {p:bV} {i last:Int} {l:List Stp} {k:Nat} (h:k<l.length):kN p i last (l.drop k)=if lI p i l[k] last≠0 then lI p i l[k] last else kN p i l[k].1 (l.drop (k+1)):=by exact UQ
theorem aon {p:bV} {l:List Ev} {k:Nat} (h:k<l.length):Kv p k (l.drop k)=if Vg p k l[k]≠0 then Vg p k l[k]else Kv p (k+1) (l.drop (k+1)):=by exact UQ
section
variable {p:bV} {i last:Int} {s:Stp}
theorem agy(h:s.1<1\/(p.cs.length:Int)<s.1):lI p i s last=12:=if_pos h
theorem akf(h:¬ (s.1<1\/(p.cs.length:Int)<s.1))(h1:¬ (s.2.1<0\/jV p.cs s.1<s.2.1))(h2:¬ s.1<=last)(h3:¬ ((s.2.2.1<0\/3<s.2.2.1)\/(s.2.2.2.1<0\/4<s.2.2.2.1)))(h4:¬ ((s.2.2.2.2<0\/(ak p.evs i s.1:Int)<s.2.2.2.2)\/(0<s.2.2.2.2/\s.2.1=0))):lI p i s last=0:=by unfold lI;rw [if_neg h,if_neg h1,if_neg h2,if_neg h3,if_neg h4]
end
theorem KD {cs:List (Int×Int×Bool)} {q:Nat} (h:q<cs.length):jV cs ((q:Int)+1)=cs[q].2.1:=by
 unfold jV;have:((q:Int)+1).toNat-1=q:=by omega
 rw [this,dL,aO h];rfl
end Go.Proofs.YthohlofpphjofaaGreatDoor
namespace Go.Proofs.YthohlofpphjofaaGreatDoor
open Go.RowKit
theorem ajb {p:bV} (h:jW p.cs p.st≠0):bM p=jW p.cs p.st:=if_pos h
theorem afH {p:bV} (h:¬ jW p.cs p.st≠0)(h1:400<p.evs.length):bM p=2:=by simp_all[bM]
theorem aja {p:bV} (h:¬ jW p.cs p.st≠0)(h1:¬ 400<p.evs.length):bM p=Kv p 0 p.evs:=by simp_all[bM,if_neg]
end Go.Proofs.YthohlofpphjofaaGreatDoor
namespace Go.Proofs.YthohlofpphjofaaGreatDoor
open Go.RowKit
attribute [local go_sem]zQ dI jf je gq
attribute [local simp]tV jZ iK lG
theorem auE (n:Int)(w:World)(h:n<1\/4<n):Calls Tryz.prog 50 #[.int .u8 n] w λe w'=>e=.returned (.tuple #[.nilIface,.bool false])/\w=w':=by
 have h1:(n == 1)=false:=by simp;omega
 have h2:(n == 2)=false:=by simp;omega
 have h3:(n == 3)=false:=by simp;omega
 have h4:(n == 4)=false:=by simp;omega
 exact YU
theorem auO (c f:Int)(w:World)(hc:1<=c/\c<=14)(hf:0<=f/\f<=18) :Calls Tryz.prog 321 #[.agg #[],.agg #[.int .i64 c,.int .i64 f]] w (iZ (.tuple #[.string (bs (pS 1 c f)),.bool (Qu 1 c f)]) w):=aeK c f w hc hf
theorem auP (c f:Int)(w:World)(hc:1<=c/\c<=14)(hf:0<=f/\f<=18) :Calls Tryz.prog 336 #[.agg #[],.agg #[.int .i64 c,.int .i64 f]] w (iZ (.tuple #[.string (bs (pS 2 c f)),.bool (Qu 2 c f)]) w):=ae3 c f w hc hf
theorem auQ (c f:Int)(w:World)(hc:1<=c/\c<=14)(hf:0<=f/\f<=18) :Calls Tryz.prog 344 #[.agg #[],.agg #[.int .i64 c,.int .i64 f]] w (iZ (.tuple #[.string (bs (pS 3 c f)),.bool (Qu 3 c f)]) w):=agr c f w hf
theorem auR (c f:Int)(w:World)(hc:1<=c/\c<=14)(hf:0<=f/\f<=18) :Calls Tryz.prog 351 #[.agg #[],.agg #[.int .i64 c,.int .i64 f]] w (iZ (.tuple #[.string (bs (pS 4 c f)),.bool (Qu 4 c f)]) w):=aeN c f w hc hf
theorem aa6 (s c aI:Int)(w:World) :Calls Tryz.prog 86 #[.int .u8 s,.int .i64 c,.int .i64 aI] w λe w'=>e=.returned (.bool (fO s aI c))/\w'=w:=by
 by_cases h:0<aI
 .have e1:fO s aI c=(c == aI):=if_pos h;rw [e1];exact abJ
 .have e1:fO s aI c=(s == 4|| decide (6<c)):=if_neg h;rw [e1];by_cases h4:s=4
  .subst h4;exact abJ
  .have hb:(s == 4)=false:=by simp;exact h4
   exact abJ
end Go.Proofs.YthohlofpphjofaaGreatDoor
namespace Go.Proofs.YthohlofpphjofaaGreatDoor
open Go.RowKit
attribute [local go_sem]zQ dI jf je gq
attribute [local simp]tV jZ iK lG
theorem aAi (w:World):Calls Tryz.prog 50 #[.int .u8 1] w λe w'=>e=.returned (.tuple #[(.iface 170 (.agg #[])),.bool true])/\w=w':=by exact YU
end Go.Proofs.YthohlofpphjofaaGreatDoor
namespace Go.Proofs.YthohlofpphjofaaGreatDoor
def D6(s:Int)(l:List UInt8)(v i:Nat):Bool:=(v != 0|| i == 0) && (Ec s v i && tW v i == l)
def jP (m:Nat->Nat->Bool)(v n:Nat):Option (Nat×Nat):=(List.range' v n).findSome? λv=>((List.range 3).find? (m v)).map λi=>(v,i)
theorem agl (m:Nat->Nat->Bool)(v n i:Nat)(h:(List.range 3).find? (m v)=some i):jP m v (n+1)=some (v,i):=by grind[jP,FP]
theorem ajW (m:Nat->Nat->Bool)(v n:Nat)(h:(List.range 3).find? (m v)=none):jP m v (n+1)=jP m (v+1) n:=by simp_all[jP,FP]
theorem acH(m:Nat->Bool):(List.range 3).find? m=if m 0=true then some 0 else if m 1=true then some 1 else if m 2=true then some 2 else none:=by
 have:List.range 3=[0,1,2]:=rfl;grind
def dK:List (Nat×Nat):=[(1,1),(1,0),(2,1),(1,2),(2,0),(3,1),(2,2),(3,0),(4,1),(3,2),(4,0),(5,1),(4,2),(5,0),(6,1),(5,2),(6,0),(7,1),(6,2),(7,0),(7,2),(0,0)]
def Fa(s:Int)(l:List UInt8)(p:Nat×Nat):Bool:=!l.isEmpty && rW s p.1 p.2 == l
def xQ:List (Nat×Nat):=(List.range 8).flatMap λv=>(List.range 3).map λi=>(v,i)
theorem VI {α:Type} (L L':List α)(p p':α->Bool)(h1:∀ x∈L,p x=true->x∈L'/\p' x=true)(h2:∀ x∈L',p' x=true->x∈L/\p x=true)(hu:∀ x∈L',∀ y∈L',p' x=true->p' y=true->x=y):L.find? p=L'.find? p':=by cases hL:L.find? p with
 | none =>grind| some x =>
  have hm:=abw hL;have hp:=List.find?_some hL;obtain⟨a,b⟩:=h1 x hm hp;cases hL':L'.find? p'<;>grind
theorem X4:(dK.all λx=>dK.all λy=>!(tW x.1 x.2 == tW y.1 y.2)|| x == y)=true:=by decide +kernel
theorem agn:(dK.all λx=>xQ.contains x && (x.1 != 0|| x.2 == 0))=true:=by decide +kernel
theorem agp:(xQ.all λx=>!(x.1 != 0|| x.2 == 0)|| dK.contains x)=true:=by decide +kernel
theorem ap5:(dK.all λx=>decide (x.1<=7))=true:=by decide +kernel
theorem Na (m:Nat->Nat->Bool):jP m 0 8=xQ.find? λp=>m p.1 p.2:=by
 unfold jP xQ;have:∀ l:List Nat,(l.findSome? λv=>((List.range 3).find? (m v)).map λi=>(v,i))=(l.flatMap λv=>(List.range 3).map λi=>(v,i)).find? λp=>m p.1 p.2:=by
  intro l;induction l with
  | nil=>rfl| cons v r ih =>
   rw [List.findSome?_cons,NG,List.find?_append,ih,List.find?_map];have e:((λp:Nat×Nat=>m p.1 p.2) ∘ λi=>(v,i))=m v:=rfl;grind
 simp_all[Rj]
theorem afE (s:Int)(l:List UInt8):jP (D6 s l) 0 8=dK.find? (Fa s l):=by
 rw [Na];have hw:=X4;have hsub:=agn;have hsup:=agp;have hv:=ap5;rw [oW] at hw hsub hsup hv;refine VI _ _ _ _ ?_ ?_ ?_;.grind[D6,axZ,Fa,rW]
 all_goals grind[Fa,rW,Ec,D6]
end Go.Proofs.YthohlofpphjofaaGreatDoor
namespace Go.Proofs.YthohlofpphjofaaGreatDoor.bookLoads
open Go
theorem q1:(Rows.bookLoadsRow.inPlace == Tryz.pinned.checked.prog.inPlace 6)=true:=by kernel_rfl
theorem q2:(Rows.bookLoadsRow.unfollowed == Tryz.pinned.checked.prog.unfollowed 6)=true:=by kernel_rfl
theorem q3:(Rows.bookLoadsRow.recurses == Tryz.pinned.checked.prog.recurses 6)=true:=by kernel_rfl
theorem q4:(Rows.bookLoadsRow.named == Tryz.pinned.checked.prog.varsNamed 6)=true:=by kernel_rfl
theorem wf_:Rows.bookLoadsRow.wfByText (OpenSpec.ofChange Rows.bookLoadsSpec)=true:=by kernel_rfl
theorem awE:false=Rows.bookLoadsRow.goesBy Tryz.pinned.checked.prog:=by kernel_rfl
theorem closed:joinedFacts Tryz.pinned.checked.prog 6 Tryz.f6 Rows.bookLoadsSpec Rows.bookLoadsRow=true:=by
 unfold joinedFacts;rw [q1,q2,q3,q4];kernel_rfl
end Go.Proofs.YthohlofpphjofaaGreatDoor.bookLoads
