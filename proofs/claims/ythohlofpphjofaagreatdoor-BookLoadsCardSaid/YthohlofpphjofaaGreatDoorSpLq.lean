/- Notes of the staff, their names, the text of an instrument: plain words. -/
import Derived.Test.YthohlofpphjofaaGreatDoorEZLq
import Derived.Test.YthohlofpphjofaaGreatDoorEPLq
set_option maxHeartbeats 1600000
set_option maxRecDepth 100000
set_option linter.unusedVariables false
set_option linter.unusedSimpArgs false
namespace Go.Proofs.YthohlofpphjofaaGreatDoor
theorem abX {p:Prop}(h:p:=by exact⟨this,by unfold Uc;rw [this];rfl⟩):p:=h
theorem al0 {p:Prop}(h:p:=by rw [gy,dL,aO this];rfl):p:=h
section
open Go.RowKit
theorem SN:(Tryz.prog.info? 3).map (λi=>(i.zero,i.size,i.bytes))=some (some (.int .i64 0),1,8):=by kernel_rfl
section
variable {w w':World} {B size:Nat} {A:Option Addr} {l:List (List Value)}
theorem Rd.alloc (h:Rd w B size A l)(hB:B<=w.heap.size)(o:Obj):Rd (w.alloc o) B size A l:=h.keep λp hp=>World.cell?_alloc_lt w o p (by omega)
theorem Rd.setCell (h:Rd w B size A l) {p:Addr} (hB:B<=p.block)(u:Value):Rd (w.setCell p u) B size A l:=h.keep λq hq=>World.cell?_setCell_other w p q u (λe=>by subst e;omega)
theorem Rd.grown (h:Rd w B size A l) {row:Option Nat} (hg:w.grownBy w' row)(hB:B<=w.heap.size)(hr:∀ g,row=some g->B<=g):Rd w' B size A l:=h.keep λp hp=>World.cell?_of_block (hg.block p.block (by omega) (λe=>by have:=hr _ e.symm;omega))
theorem Pn.alloc {A1 A2:Option Addr} {cs:List (Int×Int×Bool)} {st:List Int} (h:Pn w B A1 A2 cs st)(hB:B<=w.heap.size)(o:Obj):Pn (w.alloc o) B A1 A2 cs st:=⟨h.1.alloc hB o,h.2.alloc hB o⟩
end
structure Ju (w:World)(B:Nat)(A1 A2:Option Addr)(cs:List (Int×Int×Bool))(st:List Int):Prop where out:Pn w B A1 A2 cs st
section
variable {w w':World} {B g:Nat} {A1 A2:Option Addr} {cs:List (Int×Int×Bool)} {st:List Int}
end
def bsL:List Int:=[0,2,4,5,7,9,11]
def ftL:List Int:=[0,2,4,-1,1,3,5]
def sU(l:Int):Int:=bsL.getD l.toNat 0
def ftV(l:Int):Int:=ftL.getD l.toNat 0
def BR(l al o:Int):Int:=12*(o+1)+sU l+al
def wo(l al o:Int):Prop:=(0<=l/\l<=6)/\(-1<=al/\al<=1)/\-1<=o/\o<=9
instance (l al o:Int):Decidable (wo l al o):=by unfold wo;exact inferInstance
def jQ (l al o:Int):Bool:=decide (wo l al o) && decide (0<=BR l al o/\BR l al o<=127)
def aa3(l al o:Int):Int:=if jQ l al o=true then BR l al o else 0
def aj1(l al o:Int):Int:=if jQ l al o=true then 0 else 10
theorem rZ {l al o:Int} (h:jQ l al o=true):aa3 l al o=BR l al o/\aj1 l al o=0:=⟨if_pos h,if_pos h⟩
theorem wV {l al o:Int} (h:jQ l al o=false):aa3 l al o=0/\aj1 l al o=10:=⟨if_neg CZ,if_neg CZ⟩
theorem QH {l al o:Int} (h:¬ wo l al o):jQ l al o=false:=by unfold jQ;rw [bW h];rfl
theorem X5 {l al o:Int} (h:wo l al o):jQ l al o=decide (0<=BR l al o/\BR l al o<=127):=by unfold jQ;rw [bQ h];rfl
theorem Nc {l al o:Int} (h:jQ l al o=true):wo l al o/\0<=BR l al o/\BR l al o<=127:=by
 unfold jQ at h;simpa using h
theorem as9:((List.range 7).all λk=>decide (0<=sU k/\sU k<=11))=true:=by decide
theorem Ee {l:Int} (h:0<=l/\l<=6):0<=sU l/\sU l<=11:=by
 obtain⟨k,rfl⟩:=kQ h.1;have:=List.all_eq_true.1 as9 k (List.mem_range.2 au);exact lS
theorem atw:((List.range 7).all λk=>decide (-1<=ftV k/\ftV k<=5))=true:=by decide
theorem atv {l:Int} (h:0<=l/\l<=6):-1<=ftV l/\ftV l<=5:=by
 obtain⟨k,rfl⟩:=kQ h.1;have:=List.all_eq_true.1 atw k (List.mem_range.2 au);exact lS
theorem acn {l:Int} (h:0<=l/\l<=6):bsL[l.toNat]?=some (sU l):=by
 obtain⟨k,rfl⟩:=kQ h.1;have:k<bsL.length:=by simp [bsL];omega
 unfold sU;exact al0
theorem atu {l:Int} (h:0<=l/\l<=6):ftL[l.toNat]?=some (ftV l):=by
 obtain⟨k,rfl⟩:=kQ h.1;have:k<ftL.length:=by simp [ftL];omega
 unfold ftV;exact al0
def aq3 (key l al:Int):Bool:=decide (key-3<=ftV l+7*al/\ftV l+7*al<=key+8)
def spC (p key l al o:Int):Bool:=aq3 key l al && (jQ l al o && decide (BR l al o=p))
def spO(p l al:Int):Int:=(p-al-sU l+12)/12-2
def spN (p key:Int) (n:Nat):Bool:=spC p key ((n/3:Nat):Int) (((n % 3:Nat):Int)-1) (spO p ((n/3:Nat):Int) (((n % 3:Nat):Int)-1))
def spP (p key:Int):Option (Int×Int×Int):=((List.range 21).find? (spN p key)).map λn=>(((n/3:Nat):Int),((n % 3:Nat):Int)-1,spO p ((n/3:Nat):Int) (((n % 3:Nat):Int)-1))
theorem aor {N n:Nat} {f:Nat->Bool} (h:∀ m,m<n->f m=false)(hn:f n=true)(hN:n<N):(List.range N).find? f=some n:=by
 rw [List.find?_range_eq_some];exact⟨hn,List.mem_range.2 hN,λm hm=>by simp [h m hm]⟩
theorem aos {N:Nat} {f:Nat->Bool} (h:∀ m,m<N->f m=false):(List.range N).find? f=none:=by
 rw [NJ];intro m hm;simp [h m (List.mem_range.1 hm)]
theorem aj2 {p key:Int} {r:Int×Int×Int} (h:spP p key=some r):jQ r.1 r.2.1 r.2.2=true/\BR r.1 r.2.1 r.2.2=p:=by
 unfold spP at h;obtain⟨n,h1,rfl⟩:=Option.map_eq_some_iff.1 h;have:=List.find?_some h1;unfold spN spC at this;simp only [gG,dH]at this;exact⟨this.2.1,this.2.2⟩
def JX(p key:Int):Int:=if ¬ (0<=p/\p<=127)then 10 else if ¬ (-4<=key/\key<=4)then 1 else if(spP p key).isSome=true then 0 else 10
def Uc (p key:Int):Int×Int×Int:=if JX p key=0 then (spP p key).getD (0,0,0)else (0,0,0)
def eSp (r:Int×Int×Int):AV:=.ag [.sc (.int .i64 r.1),.sc (.int .i64 r.2.1),.sc (.int .i64 r.2.2)]
theorem X6 {p key:Int} (h:¬ (0<=p/\p<=127)):JX p key=10/\Uc p key=(0,0,0):=by
 have:JX p key=10:=if_pos h;exact abX
theorem aj7 {p key:Int} (h:0<=p/\p<=127)(h2:¬ (-4<=key/\key<=4)):JX p key=1/\Uc p key=(0,0,0):=by
 have:JX p key=1:=by unfold JX;rw [if_neg (λk=>k h),if_pos h2]
 exact abX
theorem adE {p key:Int} (h:0<=p/\p<=127)(h2:-4<=key/\key<=4)(h3:spP p key=none):JX p key=10/\Uc p key=(0,0,0):=by
 have:JX p key=10:=by unfold JX;rw [if_neg (λk=>k h),if_neg (λk=>k h2),h3];rfl
 exact abX
theorem aqa {p key:Int} {r:Int×Int×Int} (h:0<=p/\p<=127)(h2:-4<=key/\key<=4)(h3:spP p key=some r):JX p key=0/\Uc p key=r:=by
 have:JX p key=0:=by unfold JX;rw [if_neg (λk=>k h),if_neg (λk=>k h2),h3];rfl
 exact⟨this,by unfold Uc;rw [if_pos this,h3];rfl⟩
def ZN:List UInt8:=[67,68,69,70,71,65,66]
def sgn(al:Int):List UInt8:=if al=1 then [35]else if al=-1 then [98]else []
def nmT (l al o:Int):List UInt8:=cut ZN l (l+1)++sgn al++Lib.itoa o
def ay5 (c:Int×Int×Bool):List UInt8:=nmT (Uc c.1 0).1 (Uc c.1 0).2.1 (Uc c.1 0).2.2++[47]++Lib.itoa c.2.1++(if c.2.2 then [43]else [])++[32]
def awl (cs:List (Int×Int×Bool)):List UInt8:=(cs.map ay5).flatten
def aAw(n:Int):List UInt8:=[32]++Lib.itoa n
def axY(st:List Int):List UInt8:=(st.map aAw).flatten
def fmT (cs:List (Int×Int×Bool))(st:List Int):List UInt8:=awl cs++[58]++axY st
theorem wI:∀ (k u:Nat),u<10 ^ (k+1)->(Lib.decDigits u).length<=k+1
 | 0,u,h=>by rw [Lib.decDigits,dif_pos yj];simp| k+1,u,h=>by
  rw [Lib.decDigits];split;.simp
  .have h2:u/10<10 ^ (k+1):=by rw [Nat.div_lt_iff_lt_mul (by omega)];rw [Nat.pow_succ] at h;exact h
   have:=wI k (u/10) h2;rw [dS];simp;omega
theorem Eu {n:Int} (h:-9223372036854775808<=n/\n<=9223372036854775807):(Lib.itoa n).length<=20:=by
 unfold Lib.itoa;split
 .have:=wI 18 n.natAbs au;simp;omega
 .have:=wI 18 n.toNat au;omega
end
end Go.Proofs.YthohlofpphjofaaGreatDoor
