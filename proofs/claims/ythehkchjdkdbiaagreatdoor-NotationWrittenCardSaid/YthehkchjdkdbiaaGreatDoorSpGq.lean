/- Notes of the staff, their names, the text of an instrument: plain words. -/
import Derived.Test.YthehkchjdkdbiaaGreatDoorG5Gq
set_option linter.unusedVariables false
set_option linter.unusedSimpArgs false
namespace Go.Proofs.YthehkchjdkdbiaaGreatDoor
open Go.RowKit
def bsL:List Int:=[0,2,4,5,7,9,11]
def ftL:List Int:=[0,2,4,-1,1,3,5]
def basV(l:Int):Int:=bsL.getD l.toNat 0
def ftV(l:Int):Int:=ftL.getD l.toNat 0
def sndV(l al o:Int):Int:=12*(o+1)+basV l+al
def sndIn(l al o:Int):Prop:=(0≤l∧l≤6)∧(-1≤al∧al≤1)∧-1≤o∧o≤9
instance (l al o:Int):Decidable (sndIn l al o):=by unfold sndIn;exact inferInstance
def sndOk (l al o:Int):Bool:=decide (sndIn l al o) && decide (0≤sndV l al o∧sndV l al o≤127)
def sndR(l al o:Int):Int:=if sndOk l al o=true then sndV l al o else 0
def sndX(l al o:Int):Int:=if sndOk l al o=true then 0 else 10
theorem snd_ok {l al o:Int} (h:sndOk l al o=true):sndR l al o=sndV l al o∧sndX l al o=0:=⟨if_pos h,if_pos h⟩
theorem snd_no {l al o:Int} (h:sndOk l al o=false):sndR l al o=0∧sndX l al o=10:=⟨if_neg (by simp [h]),if_neg (by simp [h])⟩
theorem sndOk_out {l al o:Int} (h:¬ sndIn l al o):sndOk l al o=false:=by unfold sndOk;rw [decide_eq_false h];rfl
theorem sndOk_in {l al o:Int} (h:sndIn l al o):sndOk l al o=decide (0≤sndV l al o∧sndV l al o≤127):=by unfold sndOk;rw [decide_eq_true h];rfl
theorem sndOk_of {l al o:Int} (h:sndOk l al o=true):sndIn l al o∧0≤sndV l al o∧sndV l al o≤127:=by
 unfold sndOk at h
 simpa using h
theorem bs_all:((List.range 7).all fun k=>decide (0≤basV k∧basV k≤11))=true:=by decide
theorem basV_bd {l:Int} (h:0≤l∧l≤6):0≤basV l∧basV l≤11:=by
 obtain⟨k,rfl⟩:=Int.eq_ofNat_of_zero_le h.1
 have:=List.all_eq_true.1 bs_all k (List.mem_range.2 zqo)
 simpa using this
theorem ft_all:((List.range 7).all fun k=>decide (-1≤ftV k∧ftV k≤5))=true:=by decide
theorem ftV_bd {l:Int} (h:0≤l∧l≤6):-1≤ftV l∧ftV l≤5:=by
 obtain⟨k,rfl⟩:=Int.eq_ofNat_of_zero_le h.1
 have:=List.all_eq_true.1 ft_all k (List.mem_range.2 zqo)
 simpa using this
theorem basV_at {l:Int} (h:0≤l∧l≤6):bsL[l.toNat]?=some (basV l):=by
 obtain⟨k,rfl⟩:=Int.eq_ofNat_of_zero_le h.1
 have:k<bsL.length:=by simp [bsL];omega
 unfold basV
 rw [Int.toNat_natCast,List.getD_eq_getElem?_getD,List.getElem?_eq_getElem this];rfl
theorem ftV_at {l:Int} (h:0≤l∧l≤6):ftL[l.toNat]?=some (ftV l):=by
 obtain⟨k,rfl⟩:=Int.eq_ofNat_of_zero_le h.1
 have:k<ftL.length:=by simp [ftL];omega
 unfold ftV
 rw [Int.toNat_natCast,List.getD_eq_getElem?_getD,List.getElem?_eq_getElem this];rfl
def spWin (key l al:Int):Bool:=decide (key-3≤ftV l+7*al∧ftV l+7*al≤key+8)
def spC (p key l al o:Int):Bool:=spWin key l al && (sndOk l al o && decide (sndV l al o=p))
def spO(p l al:Int):Int:=(p-al-basV l+12)/12-2
def spN (p key:Int) (n:Nat):Bool:=spC p key ((n/3:Nat):Int) (((n % 3:Nat):Int)-1) (spO p ((n/3:Nat):Int) (((n % 3:Nat):Int)-1))
def spP (p key:Int):Option (Int×Int×Int):=((List.range 21).find? (spN p key)).map fun n=>(((n/3:Nat):Int),((n % 3:Nat):Int)-1,spO p ((n/3:Nat):Int) (((n % 3:Nat):Int)-1))
theorem find_at {N n:Nat} {f:Nat→Bool} (h:∀ m,m<n→f m=false)(hn:f n=true)(hN:n<N):(List.range N).find? f=some n:=by
 rw [List.find?_range_eq_some]
 exact⟨hn,List.mem_range.2 hN,fun m hm=>by simp [h m hm]⟩
theorem find_no {N:Nat} {f:Nat→Bool} (h:∀ m,m<N→f m=false):(List.range N).find? f=none:=by
 rw [List.find?_eq_none]
 intro m hm
 simp [h m (List.mem_range.1 hm)]
theorem spP_of {p key:Int} {r:Int×Int×Int} (h:spP p key=some r):sndOk r.1 r.2.1 r.2.2=true∧sndV r.1 r.2.1 r.2.2=p:=by
 unfold spP at h
 obtain⟨n,h1,rfl⟩:=Option.map_eq_some_iff.1 h
 have:=List.find?_some h1
 unfold spN spC at this
 simp only [Bool.and_eq_true,decide_eq_true_eq]at this
 exact⟨this.2.1,this.2.2⟩
def spX(p key:Int):Int:=if ¬ (0≤p∧p≤127)then 10 else if ¬ (-4≤key∧key≤4)then 1 else if(spP p key).isSome=true then 0 else 10
def spV (p key:Int):Int×Int×Int:=if spX p key=0 then (spP p key).getD (0,0,0)else (0,0,0)
def eSp (r:Int×Int×Int):AV:=.ag [.sc (.int .i64 r.1),.sc (.int .i64 r.2.1),.sc (.int .i64 r.2.2)]
theorem sp_pitch {p key:Int} (h:¬ (0≤p∧p≤127)):spX p key=10∧spV p key=(0,0,0):=by
 have:spX p key=10:=if_pos h
 exact⟨this,by unfold spV;rw [this];rfl⟩
theorem sp_arg {p key:Int} (h:0≤p∧p≤127)(h2:¬ (-4≤key∧key≤4)):spX p key=1∧spV p key=(0,0,0):=by
 have:spX p key=1:=by unfold spX;rw [if_neg (fun k=>k h),if_pos h2]
 exact⟨this,by unfold spV;rw [this];rfl⟩
theorem sp_none {p key:Int} (h:0≤p∧p≤127)(h2:-4≤key∧key≤4)(h3:spP p key=none):spX p key=10∧spV p key=(0,0,0):=by
 have:spX p key=10:=by unfold spX;rw [if_neg (fun k=>k h),if_neg (fun k=>k h2),h3];rfl
 exact⟨this,by unfold spV;rw [this];rfl⟩
theorem sp_some {p key:Int} {r:Int×Int×Int} (h:0≤p∧p≤127)(h2:-4≤key∧key≤4)(h3:spP p key=some r):spX p key=0∧spV p key=r:=by
 have:spX p key=0:=by unfold spX;rw [if_neg (fun k=>k h),if_neg (fun k=>k h2),h3];rfl
 exact⟨this,by unfold spV;rw [if_pos this,h3];rfl⟩
theorem sp_zero_all:((List.range 128).all fun p=>(spP p 0).isSome)=true:=by decide +kernel
theorem sp_zero {p:Int} (h:0≤p∧p≤127):∃ r,spP p 0=some r:=by
 obtain⟨n,rfl⟩:=Int.eq_ofNat_of_zero_le h.1
 exact Option.isSome_iff_exists.1 (List.all_eq_true.1 sp_zero_all n (List.mem_range.2 zqo))
def ltrs:List UInt8:=[67,68,69,70,71,65,66]
def sgn(al:Int):List UInt8:=if al=1 then [35]else if al=-1 then [98]else []
def nmT (l al o:Int):List UInt8:=cut ltrs l (l+1)++sgn al++Lib.itoa o
def nmA(l al o:Int):List UInt8:=if sndOk l al o=true then nmT l al o else []
def crsT (c:Int×Int×Bool):List UInt8:=nmT (spV c.1 0).1 (spV c.1 0).2.1 (spV c.1 0).2.2++[47]++Lib.itoa c.2.1++(if c.2.2 then [43]else [])++[32]
def crsTs (cs:List (Int×Int×Bool)):List UInt8:=(cs.map crsT).flatten
def stpT(n:Int):List UInt8:=[32]++Lib.itoa n
def stpTs(st:List Int):List UInt8:=(st.map stpT).flatten
def fmT (cs:List (Int×Int×Bool))(st:List Int):List UInt8:=crsTs cs++[58]++stpTs st
theorem crsTs_succ {cs:List (Int×Int×Bool)} {k:Nat} (h:k<cs.length):crsTs (cs.take (k+1))=crsTs (cs.take k)++crsT cs[k]:=by
 unfold crsTs
 rw [List.take_succ_eq_append_getElem h,List.map_append,List.flatten_append];simp
theorem stpTs_succ {st:List Int} {k:Nat} (h:k<st.length):stpTs (st.take (k+1))=stpTs (st.take k)++stpT st[k]:=by
 unfold stpTs
 rw [List.take_succ_eq_append_getElem h,List.map_append,List.flatten_append];simp
theorem decDigits_len:∀ (k u:Nat),u<10 ^ (k+1)→(Lib.decDigits u).length≤k+1
 | 0,u,h=>by rw [Lib.decDigits,dif_pos (by simpa using h)];simp
 | k+1,u,h=>by
  rw [Lib.decDigits]
  split
  ·simp
  ·have h2:u/10<10 ^ (k+1):=by rw [Nat.div_lt_iff_lt_mul (by omega)];rw [Nat.pow_succ] at h;exact h
   have:=decDigits_len k (u/10) h2
   rw [List.length_append];simp;omega
theorem itoa_len {n:Int} (h:-9223372036854775808≤n∧n≤9223372036854775807):(Lib.itoa n).length≤20:=by
 unfold Lib.itoa
 split
 ·have:=decDigits_len 18 n.natAbs zqo
  simp;omega
 ·have:=decDigits_len 18 n.toNat zqo
  omega
theorem itoa_neg (n:Int)(h:n<0):Lib.itoa n=[45]++Lib.itoa (0-n):=by
 unfold Lib.itoa
 rw [if_pos h,if_neg (by omega)]
 rw [show n.natAbs=(0-n).toNat by omega]
 rfl
theorem nmT_len {l al o:Int} (h:sndOk l al o=true):(nmT l al o).length≤22:=by
 have h1:=(sndOk_of h).1
 unfold sndIn at h1
 have h2:=itoa_len (n:=o) zqo
 have h3:(cut ltrs l (l+1)).length≤1:=by simp only [cut,List.length_take,List.length_drop];omega
 have h4:(sgn al).length≤1:=by unfold sgn;split<;>(try split)<;>simp
 unfold nmT
 simp only [List.length_append];omega
theorem spV_ok {p:Int} (h:0≤p∧p≤127):spX p 0=0∧sndOk (spV p 0).1 (spV p 0).2.1 (spV p 0).2.2=true:=by
 obtain ⟨r,hr⟩:=sp_zero h
 obtain ⟨h1,h2⟩:=sp_some h ⟨by omega,by omega⟩ hr
 rw [h2]
 exact ⟨h1,(spP_of hr).1⟩
theorem crsT_len {c:Int×Int×Bool} (h:0≤c.1∧c.1≤127) (h2:0≤c.2.1∧c.2.1≤18):(crsT c).length≤46:=by
 have h1:=nmT_len (spV_ok h).2
 have h3:=itoa_len (n:=c.2.1) zqo
 have h4:(if c.2.2=true then ([43]:List UInt8)else []).length≤1:=by split<;>simp
 unfold crsT
 simp only [List.length_append,List.length_cons,List.length_nil];omega
theorem flatB_len {α:Type} {f:α→List UInt8} {b:Nat}:∀ {l:List α},(∀ x∈l,(f x).length≤b)→((l.map f).flatten).length≤b*l.length
 | [],_=>by simp
 | x::r,h=>by
  have h1:=h x (by simp)
  have h2:=flatB_len (l:=r) (b:=b) (f:=f) fun y hy=>h y (by simp [hy])
  simp only [List.map_cons,List.flatten_cons,List.length_append,List.length_cons,Nat.mul_succ];omega
end Go.Proofs.YthehkchjdkdbiaaGreatDoor
