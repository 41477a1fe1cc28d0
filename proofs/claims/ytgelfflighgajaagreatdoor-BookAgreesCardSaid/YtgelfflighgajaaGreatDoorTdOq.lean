/- What the row's condition on package-level variables gives: the tables. -/
import Derived.Test.YtgelfflighgajaaGreatDoorBigOq
import Derived.Test.YtgelfflighgajaaGreatDoorRows
import Derived.LaidMore
import Derived.Stop.Joined
import Derived.Stop.LaidErr
set_option maxRecDepth 100000
set_option linter.unusedVariables false
set_option linter.unusedSimpArgs false
namespace Go.Proofs.YtgelfflighgajaaGreatDoor
section
open Go.RowKit
def bsL:List Int:=[0,2,4,5,7,9,11]
def ftL:List Int:=[0,2,4,-1,1,3,5]
def basV(l:Int):Int:=bsL.getD l.toNat 0
def ftV(l:Int):Int:=ftL.getD l.toNat 0
def sndV(l al o:Int):Int:=12*(o+1)+basV l+al
def sndIn(l al o:Int):Prop:=(0≤l∧l≤6)∧(-1≤al∧al≤1)∧-1≤o∧o≤9
instance (l al o:Int):Decidable (sndIn l al o):=by unfold sndIn;exact inferInstance
def sndOk (l al o:Int):Bool:=decide (sndIn l al o) && decide (0≤sndV l al o∧sndV l al o≤127)
def sndR(l al o:Int):Int:=if sndOk l al o=true then sndV l al o else 0
def sndX(l al o:Int):Int:=if sndOk l al o=true then 0 else 10
theorem snd_ok {l al o:Int} (h:sndOk l al o=true):sndR l al o=sndV l al o∧sndX l al o=0:=⟨if_pos h,if_pos h⟩
theorem snd_no {l al o:Int} (h:sndOk l al o=false):sndR l al o=0∧sndX l al o=10:=⟨if_neg (by simp [h]),if_neg (by simp [h])⟩
theorem sndOk_out {l al o:Int} (h:¬ sndIn l al o):sndOk l al o=false:=by unfold sndOk;rw [decide_eq_false h];rfl
theorem sndOk_in {l al o:Int} (h:sndIn l al o):sndOk l al o=decide (0≤sndV l al o∧sndV l al o≤127):=by unfold sndOk;rw [decide_eq_true h];rfl
theorem sndOk_of {l al o:Int} (h:sndOk l al o=true):sndIn l al o∧0≤sndV l al o∧sndV l al o≤127:=by
 unfold sndOk at h
 simpa using h
theorem bs_all:((List.range 7).all fun k=>decide (0≤basV k∧basV k≤11))=true:=by decide
theorem basV_bd {l:Int} (h:0≤l∧l≤6):0≤basV l∧basV l≤11:=by
 obtain⟨k,rfl⟩:=Int.eq_ofNat_of_zero_le h.1
 have:=List.all_eq_true.1 bs_all k (List.mem_range.2 zqo)
 simpa using this
theorem ft_all:((List.range 7).all fun k=>decide (-1≤ftV k∧ftV k≤5))=true:=by decide
theorem ftV_bd {l:Int} (h:0≤l∧l≤6):-1≤ftV l∧ftV l≤5:=by
 obtain⟨k,rfl⟩:=Int.eq_ofNat_of_zero_le h.1
 have:=List.all_eq_true.1 ft_all k (List.mem_range.2 zqo)
 simpa using this
theorem basV_at {l:Int} (h:0≤l∧l≤6):bsL[l.toNat]?=some (basV l):=by
 obtain⟨k,rfl⟩:=Int.eq_ofNat_of_zero_le h.1
 have:k<bsL.length:=by simp [bsL];omega
 unfold basV
 rw [Int.toNat_natCast,List.getD_eq_getElem?_getD,List.getElem?_eq_getElem this];rfl
theorem ftV_at {l:Int} (h:0≤l∧l≤6):ftL[l.toNat]?=some (ftV l):=by
 obtain⟨k,rfl⟩:=Int.eq_ofNat_of_zero_le h.1
 have:k<ftL.length:=by simp [ftL];omega
 unfold ftV
 rw [Int.toNat_natCast,List.getD_eq_getElem?_getD,List.getElem?_eq_getElem this];rfl
def spWin (key l al:Int):Bool:=decide (key-3≤ftV l+7*al∧ftV l+7*al≤key+8)
def spC (p key l al o:Int):Bool:=spWin key l al && (sndOk l al o && decide (sndV l al o=p))
def spO(p l al:Int):Int:=(p-al-basV l+12)/12-2
def spN (p key:Int) (n:Nat):Bool:=spC p key ((n/3:Nat):Int) (((n % 3:Nat):Int)-1) (spO p ((n/3:Nat):Int) (((n % 3:Nat):Int)-1))
def spP (p key:Int):Option (Int×Int×Int):=((List.range 21).find? (spN p key)).map fun n=>(((n/3:Nat):Int),((n % 3:Nat):Int)-1,spO p ((n/3:Nat):Int) (((n % 3:Nat):Int)-1))
theorem find_at {N n:Nat} {f:Nat→Bool} (h:∀ m,m<n→f m=false)(hn:f n=true)(hN:n<N):(List.range N).find? f=some n:=by
 rw [List.find?_range_eq_some]
 exact⟨hn,List.mem_range.2 hN,fun m hm=>by simp [h m hm]⟩
theorem find_no {N:Nat} {f:Nat→Bool} (h:∀ m,m<N→f m=false):(List.range N).find? f=none:=by
 rw [List.find?_eq_none]
 intro m hm
 simp [h m (List.mem_range.1 hm)]
theorem spP_of {p key:Int} {r:Int×Int×Int} (h:spP p key=some r):sndOk r.1 r.2.1 r.2.2=true∧sndV r.1 r.2.1 r.2.2=p:=by
 unfold spP at h
 obtain⟨n,h1,rfl⟩:=Option.map_eq_some_iff.1 h
 have:=List.find?_some h1
 unfold spN spC at this
 simp only [Bool.and_eq_true,decide_eq_true_eq]at this
 exact⟨this.2.1,this.2.2⟩
def spX(p key:Int):Int:=if ¬ (0≤p∧p≤127)then 10 else if ¬ (-4≤key∧key≤4)then 1 else if(spP p key).isSome=true then 0 else 10
def spV (p key:Int):Int×Int×Int:=if spX p key=0 then (spP p key).getD (0,0,0)else (0,0,0)
def eSp (r:Int×Int×Int):AV:=.ag [.sc (.int .i64 r.1),.sc (.int .i64 r.2.1),.sc (.int .i64 r.2.2)]
theorem sp_pitch {p key:Int} (h:¬ (0≤p∧p≤127)):spX p key=10∧spV p key=(0,0,0):=by
 have:spX p key=10:=if_pos h
 exact⟨this,by unfold spV;rw [this];rfl⟩
theorem sp_arg {p key:Int} (h:0≤p∧p≤127)(h2:¬ (-4≤key∧key≤4)):spX p key=1∧spV p key=(0,0,0):=by
 have:spX p key=1:=by unfold spX;rw [if_neg (fun k=>k h),if_pos h2]
 exact⟨this,by unfold spV;rw [this];rfl⟩
theorem sp_none {p key:Int} (h:0≤p∧p≤127)(h2:-4≤key∧key≤4)(h3:spP p key=none):spX p key=10∧spV p key=(0,0,0):=by
 have:spX p key=10:=by unfold spX;rw [if_neg (fun k=>k h),if_neg (fun k=>k h2),h3];rfl
 exact⟨this,by unfold spV;rw [this];rfl⟩
theorem sp_some {p key:Int} {r:Int×Int×Int} (h:0≤p∧p≤127)(h2:-4≤key∧key≤4)(h3:spP p key=some r):spX p key=0∧spV p key=r:=by
 have:spX p key=0:=by unfold spX;rw [if_neg (fun k=>k h),if_neg (fun k=>k h2),h3];rfl
 exact⟨this,by unfold spV;rw [if_pos this,h3];rfl⟩
def ltrs:List UInt8:=[67,68,69,70,71,65,66]
theorem decDigits_len:∀ (k u:Nat),u<10 ^ (k+1)→(Lib.decDigits u).length≤k+1
 | 0,u,h=>by rw [Lib.decDigits,dif_pos (by simpa using h)];simp
 | k+1,u,h=>by
  rw [Lib.decDigits]
  split
  ·simp
  ·have h2:u/10<10 ^ (k+1):=by rw [Nat.div_lt_iff_lt_mul (by omega)];rw [Nat.pow_succ] at h;exact h
   have:=decDigits_len k (u/10) h2
   rw [List.length_append];simp;omega
theorem itoa_len {n:Int} (h:-9223372036854775808≤n∧n≤9223372036854775807):(Lib.itoa n).length≤20:=by
 unfold Lib.itoa
 split
 ·have:=decDigits_len 18 n.natAbs zqo
  simp;omega
 ·have:=decDigits_len 18 n.toNat zqo
  omega
end
section
open Go.RowKit
def tabB (w:World) (F:View):Prop :=
 (∀ (i:Nat)v,ftL[i]?=some v→F ⟨0,i,none⟩=some (.int .i64 v))∧(∀ (i:Nat)v,bsL[i]?=some v→F ⟨1,i,none⟩=some (.int .i64 v)) ∧
 Lib.TabIs Tryz.prog w "internal/strconv.uint64pow10" .u64 Lib.pow10Tab
def gloB:Nat:=3+1
theorem pow10_at:Tryz.prog.globalNamed "internal/strconv.uint64pow10"=some 3:=by kernel_rfl
theorem var_some {w:World} {cs:Array Value} (h:w.var? Tryz.prog "internal/strconv.uint64pow10"=some cs):gloB≤w.heap.size:=by
 unfold World.var? at h
 rw [pow10_at]at h
 rcases Nat.lt_or_ge 3 w.heap.size with h1|h1
 ·exact h1
 ·simp [Array.getElem?_eq_none h1]at h
theorem stabB:Stab tabB gloB:=⟨fun w F h=>var_some h.2.2,fun w w' F F' hb hF h=>⟨fun i v x=>hF _ _ (h.1 i v x),fun i v x=>hF _ _ (h.2.1 i v x),by
 have h3:=h.2.2
 unfold Lib.TabIs World.var? at h3 ⊢
 rw [pow10_at]at h3 ⊢
 simp only [Option.bind_some]at h3 ⊢
 rw [hb _ (Nat.lt_succ_self _)];exact h3⟩⟩
theorem tab_fifths {z:Int} (h:0≤z∧z≤6):∀ w F,tabB w F→F ⟨0,z.toNat,none⟩=some (.int .i64 (ftV z)):=fun w F hB=>hB.1 _ _ (ftV_at h)
theorem tab_bases {z:Int} (h:0≤z∧z≤6):∀ w F,tabB w F→F ⟨1,z.toNat,none⟩=some (.int .i64 (basV z)):=fun w F hB=>hB.2.1 _ _ (basV_at h)
theorem Ctg.of_sc {B:World→View→Prop} {P:Program} {f:FuncId} {args:List AV} {xs:List Value} {res:AV} {v:Value} (hs:scs args=some xs)(hv:∀ F,RP F res v)(h:∀ w F,B w F→Calls P f xs.toArray w (Ret v w)):Ctg B P f args res:=by
 intro w F vs hB hF hR
 have:vs=xs:=scs_of (G:=⟨F,fun _=>0,fun _=>0,fun _=>undef,fun _ _=>False⟩) hs hR.1 fun i av u a b=>.pu _ _ (hR.2 i av u a b)
 subst this
 exact (h w F hB).mono fun e w'⟨he,hb⟩=>⟨v,F,he,hb,fun _ _ h=>h,fun p u x=>by rw [hb.cell (cell_block (hF p u x))];exact hF p u x,fun _ _ h=>.inl h,hv F⟩
theorem itoa_G (n:Int)(h:I64 n):Ctg tabB Tryz.prog 116 [.sc (.int .i64 n)] (.sc (.string (bs (Lib.itoa n)))) :=
 Ctg.of_sc (v:=.string (bs (Lib.itoa n))) rfl (fun _=>.sc _) fun w F hB=>(Tryz.strconv_Itoa n h.1 (by have:=h.2;omega) w hB.2.2).mono fun e w'⟨he,k,os,hw⟩=>⟨he,by
  subst hw
  refine⟨rfl,rfl,rfl,?_,fun i hi=>?_⟩
  ·show w.heap.size≤(w.heap++os).size
   rw [Array.size_append];omega
  ·show (w.heap++os)[i]?=w.heap[i]?
   rw [Array.getElem?_append_left hi]⟩
end
section
open Go.ChangeShapes Go.WideShapes Go.ChangeAt Go.RowKit
def laidT:List (String×DataW Unit):=[("math/bits.deBruijn32tab",Rows.laid_math_bits_deBruijn32tab),("math/bits.deBruijn64tab",Rows.laid_math_bits_deBruijn64tab),("internal/strconv.uint64pow10",Rows.laid_internal_strconv_uint64pow10),("theorbo/instrument.bases",Rows.laid_theorbo_instrument_bases),("theorbo/instrument.fifths",Rows.laid_theorbo_instrument_fifths)]
theorem ownT:ownKnob Tryz.prog.godebug=none:=by kernel_rfl
theorem tab_of_laid {W:World} (h:laidMetH Tryz.prog laidT W):tabB W (fun p=>W.cell? p):=by
 rw [MakeChecks.laidMetH_plain _ _ _ zqk] at h
 have h3:=h.tail.tail
 have e1:Lib.TabIs Tryz.prog W "internal/strconv.uint64pow10" .u64 Lib.pow10Tab :=
  Lib.tabIs_of_head (g:=3) (t:=344) (e:=322) (n:=20) zqk zqk Tryz.underlying344 Tryz.underlying322 zqk zqk h3
 have e2:Lib.TabIs Tryz.prog W "theorbo/instrument.bases" .i64 bsL :=
  Lib.tabIs_of_head (g:=1) (t:=303) (e:=3) (n:=7) zqk zqk Tryz.underlying303 Tryz.underlying3 zqk zqk h3.tail
 have e3:Lib.TabIs Tryz.prog W "theorbo/instrument.fifths" .i64 ftL :=
  Lib.tabIs_of_head (g:=0) (t:=303) (e:=3) (n:=7) zqk zqk Tryz.underlying303 Tryz.underlying3 zqk zqk h3.tail.tail
 have get:∀ (l:List Int) (i:Nat) v,l[i]?=some v→i<l.length∧l.getD i 0=v:=fun l i v hv=>by
  obtain ⟨hi,e⟩:=List.getElem?_eq_some_iff.1 hv
  exact ⟨hi,by rw [List.getD_eq_getElem?_getD,hv];rfl⟩
 refine ⟨fun i v hv=>?_,fun i v hv=>?_,e1⟩
 ·obtain ⟨hi,e⟩:=get _ _ _ hv
  rw [← e];exact e3.cell zqk i hi
 ·obtain ⟨hi,e⟩:=get _ _ _ hv
  rw [← e];exact e2.cell zqk i hi
theorem door_met (os:Os) (args:Array Value):laidMetH Tryz.prog laidT ((World.doorLaid Tryz.prog 400 os).forCall (fun _ _=>0) ⟨#[],args,[]⟩).memory :=
 laidMetH_of_parts3 (fuel:=8) (laidMet_of_run' 8 zqk zqk) zqk zqk
end
end Go.Proofs.YtgelfflighgajaaGreatDoor
