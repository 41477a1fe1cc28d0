/- strings.Join: its contract. (The tool does not lay it here, for its closure's table of numbers; the bodies are the same.) -/
import Derived.Lib.ItoaNum
import Derived.Test.YtgelfflighgajaaGreatDoorRows
import Derived.ProofKit
import Derived.LaidMore
import Derived.OpenShut
import Derived.Stop.Joined
import Derived.Lib.LaidTab
import Derived.Stop.LaidErr
import Derived.Test.YtgelfflighgajaaGreatDoorRInsVq
import Derived.Test.YtgelfflighgajaaGreatDoorPlVq
set_option maxHeartbeats 4000000
set_option maxRecDepth 100000
set_option linter.unusedVariables false
set_option linter.unusedSimpArgs false
namespace Go.Proofs.YtgelfflighgajaaGreatDoor
open Go.RowKit
def bsL:List Int:=[0,2,4,5,7,9,11]
def ftL:List Int:=[0,2,4,-1,1,3,5]
def basV(l:Int):Int:=bsL.getD l.toNat 0
def ftV(l:Int):Int:=ftL.getD l.toNat 0
def sndV(l al o:Int):Int:=12*(o+1)+basV l+al
def sndIn(l al o:Int):Prop:=(0≤l∧l≤6)∧(-1≤al∧al≤1)∧-1≤o∧o≤9
instance (l al o:Int):Decidable (sndIn l al o):=by unfold sndIn;exact inferInstance
def sndOk (l al o:Int):Bool:=decide (sndIn l al o) && decide (0≤sndV l al o∧sndV l al o≤127)
def sndR(l al o:Int):Int:=if sndOk l al o=true then sndV l al o else 0
def sndX(l al o:Int):Int:=if sndOk l al o=true then 0 else 10
theorem snd_ok {l al o:Int} (h:sndOk l al o=true):sndR l al o=sndV l al o∧sndX l al o=0:=⟨if_pos h,if_pos h⟩
theorem snd_no {l al o:Int} (h:sndOk l al o=false):sndR l al o=0∧sndX l al o=10:=⟨if_neg (by simp [h]),if_neg (by simp [h])⟩
theorem sndOk_out {l al o:Int} (h:¬ sndIn l al o):sndOk l al o=false:=by unfold sndOk;rw [decide_eq_false h];rfl
theorem sndOk_in {l al o:Int} (h:sndIn l al o):sndOk l al o=decide (0≤sndV l al o∧sndV l al o≤127):=by unfold sndOk;rw [decide_eq_true h];rfl
theorem sndOk_of {l al o:Int} (h:sndOk l al o=true):sndIn l al o∧0≤sndV l al o∧sndV l al o≤127:=by
 unfold sndOk at h
 simpa using h
theorem bs_all:((List.range 7).all fun k=>decide (0≤basV k∧basV k≤11))=true:=by decide
theorem basV_bd {l:Int} (h:0≤l∧l≤6):0≤basV l∧basV l≤11:=by
 obtain⟨k,rfl⟩:=Int.eq_ofNat_of_zero_le h.1
 have:=List.all_eq_true.1 bs_all k (List.mem_range.2 (by omega))
 simpa using this
theorem ft_all:((List.range 7).all fun k=>decide (-1≤ftV k∧ftV k≤5))=true:=by decide
theorem ftV_bd {l:Int} (h:0≤l∧l≤6):-1≤ftV l∧ftV l≤5:=by
 obtain⟨k,rfl⟩:=Int.eq_ofNat_of_zero_le h.1
 have:=List.all_eq_true.1 ft_all k (List.mem_range.2 (by omega))
 simpa using this
theorem basV_at {l:Int} (h:0≤l∧l≤6):bsL[l.toNat]?=some (basV l):=by
 obtain⟨k,rfl⟩:=Int.eq_ofNat_of_zero_le h.1
 have:k<bsL.length:=by simp [bsL];omega
 unfold basV
 rw [Int.toNat_natCast,List.getD_eq_getElem?_getD,List.getElem?_eq_getElem this];rfl
theorem ftV_at {l:Int} (h:0≤l∧l≤6):ftL[l.toNat]?=some (ftV l):=by
 obtain⟨k,rfl⟩:=Int.eq_ofNat_of_zero_le h.1
 have:k<ftL.length:=by simp [ftL];omega
 unfold ftV
 rw [Int.toNat_natCast,List.getD_eq_getElem?_getD,List.getElem?_eq_getElem this];rfl
def spWin (key l al:Int):Bool:=decide (key-3≤ftV l+7*al∧ftV l+7*al≤key+8)
def spC (p key l al o:Int):Bool:=spWin key l al && (sndOk l al o && decide (sndV l al o=p))
def spO(p l al:Int):Int:=(p-al-basV l+12)/12-2
def spN (p key:Int) (n:Nat):Bool:=spC p key ((n/3:Nat):Int) (((n % 3:Nat):Int)-1) (spO p ((n/3:Nat):Int) (((n % 3:Nat):Int)-1))
def spP (p key:Int):Option (Int×Int×Int):=((List.range 21).find? (spN p key)).map fun n=>(((n/3:Nat):Int),((n % 3:Nat):Int)-1,spO p ((n/3:Nat):Int) (((n % 3:Nat):Int)-1))
theorem find_at {N n:Nat} {f:Nat→Bool} (h:∀ m,m<n→f m=false)(hn:f n=true)(hN:n<N):(List.range N).find? f=some n:=by
 rw [List.find?_range_eq_some]
 exact⟨hn,List.mem_range.2 hN,fun m hm=>by simp [h m hm]⟩
theorem find_no {N:Nat} {f:Nat→Bool} (h:∀ m,m<N→f m=false):(List.range N).find? f=none:=by
 rw [List.find?_eq_none]
 intro m hm
 simp [h m (List.mem_range.1 hm)]
theorem spP_of {p key:Int} {r:Int×Int×Int} (h:spP p key=some r):sndOk r.1 r.2.1 r.2.2=true∧sndV r.1 r.2.1 r.2.2=p:=by
 unfold spP at h
 obtain⟨n,h1,rfl⟩:=Option.map_eq_some_iff.1 h
 have:=List.find?_some h1
 unfold spN spC at this
 simp only [Bool.and_eq_true,decide_eq_true_eq]at this
 exact⟨this.2.1,this.2.2⟩
def spX(p key:Int):Int:=if ¬ (0≤p∧p≤127)then 10 else if ¬ (-4≤key∧key≤4)then 1 else if(spP p key).isSome=true then 0 else 10
def spV (p key:Int):Int×Int×Int:=if spX p key=0 then (spP p key).getD (0,0,0)else (0,0,0)
def eSp (r:Int×Int×Int):AV:=.ag [.sc (.int .i64 r.1),.sc (.int .i64 r.2.1),.sc (.int .i64 r.2.2)]
theorem sp_pitch {p key:Int} (h:¬ (0≤p∧p≤127)):spX p key=10∧spV p key=(0,0,0):=by
 have:spX p key=10:=if_pos h
 exact⟨this,by unfold spV;rw [this];rfl⟩
theorem sp_arg {p key:Int} (h:0≤p∧p≤127)(h2:¬ (-4≤key∧key≤4)):spX p key=1∧spV p key=(0,0,0):=by
 have:spX p key=1:=by unfold spX;rw [if_neg (fun k=>k h),if_pos h2]
 exact⟨this,by unfold spV;rw [this];rfl⟩
theorem sp_none {p key:Int} (h:0≤p∧p≤127)(h2:-4≤key∧key≤4)(h3:spP p key=none):spX p key=10∧spV p key=(0,0,0):=by
 have:spX p key=10:=by unfold spX;rw [if_neg (fun k=>k h),if_neg (fun k=>k h2),h3];rfl
 exact⟨this,by unfold spV;rw [this];rfl⟩
theorem sp_some {p key:Int} {r:Int×Int×Int} (h:0≤p∧p≤127)(h2:-4≤key∧key≤4)(h3:spP p key=some r):spX p key=0∧spV p key=r:=by
 have:spX p key=0:=by unfold spX;rw [if_neg (fun k=>k h),if_neg (fun k=>k h2),h3];rfl
 exact⟨this,by unfold spV;rw [if_pos this,h3];rfl⟩
def ltrs:List UInt8:=[67,68,69,70,71,65,66]
theorem decDigits_len:∀ (k u:Nat),u<10 ^ (k+1)→(Lib.decDigits u).length≤k+1
 | 0,u,h=>by rw [Lib.decDigits,dif_pos (by simpa using h)];simp
 | k+1,u,h=>by
  rw [Lib.decDigits]
  split
  ·simp
  ·have h2:u/10<10 ^ (k+1):=by rw [Nat.div_lt_iff_lt_mul (by omega)];rw [Nat.pow_succ] at h;exact h
   have:=decDigits_len k (u/10) h2
   rw [List.length_append];simp;omega
theorem itoa_len {n:Int} (h:-9223372036854775808≤n∧n≤9223372036854775807):(Lib.itoa n).length≤20:=by
 unfold Lib.itoa
 split
 ·have:=decDigits_len 18 n.natAbs (by omega)
  simp;omega
 ·have:=decDigits_len 18 n.toNat (by omega)
  omega
end Go.Proofs.YtgelfflighgajaaGreatDoor
namespace Go.Proofs.YtgelfflighgajaaGreatDoor
open Go.RowKit
def tabB (w:World) (F:View):Prop :=
 (∀ (i:Nat)v,ftL[i]?=some v→F ⟨0,i,none⟩=some (.int .i64 v))∧(∀ (i:Nat)v,bsL[i]?=some v→F ⟨1,i,none⟩=some (.int .i64 v)) ∧
 Lib.TabIs Tryz.prog w "internal/strconv.uint64pow10" .u64 Lib.pow10Tab
def gloB:Nat:=3+1
theorem pow10_at:Tryz.prog.globalNamed "internal/strconv.uint64pow10"=some 3:=by kernel_rfl
theorem var_some {w:World} {cs:Array Value} (h:w.var? Tryz.prog "internal/strconv.uint64pow10"=some cs):gloB≤w.heap.size:=by
 unfold World.var? at h
 rw [pow10_at]at h
 rcases Nat.lt_or_ge 3 w.heap.size with h1|h1
 ·exact h1
 ·simp [Array.getElem?_eq_none h1]at h
theorem stabB:Stab tabB gloB:=⟨fun w F h=>var_some h.2.2,fun w w' F F' hb hF h=>⟨fun i v x=>hF _ _ (h.1 i v x),fun i v x=>hF _ _ (h.2.1 i v x),by
 have h3:=h.2.2
 unfold Lib.TabIs World.var? at h3 ⊢
 rw [pow10_at]at h3 ⊢
 simp only [Option.bind_some]at h3 ⊢
 rw [hb _ (Nat.lt_succ_self _)];exact h3⟩⟩
theorem tab_fifths {z:Int} (h:0≤z∧z≤6):∀ w F,tabB w F→F ⟨0,z.toNat,none⟩=some (.int .i64 (ftV z)):=fun w F hB=>hB.1 _ _ (ftV_at h)
theorem tab_bases {z:Int} (h:0≤z∧z≤6):∀ w F,tabB w F→F ⟨1,z.toNat,none⟩=some (.int .i64 (basV z)):=fun w F hB=>hB.2.1 _ _ (basV_at h)
theorem Ctg.of_sc {B:World→View→Prop} {P:Program} {f:FuncId} {args:List AV} {xs:List Value} {res:AV} {v:Value} (hs:scs args=some xs)(hv:∀ F,RP F res v)(h:∀ w F,B w F→Calls P f xs.toArray w (Ret v w)):Ctg B P f args res:=by
 intro w F vs hB hF hR
 have:vs=xs:=scs_of (G:=⟨F,fun _=>0,fun _=>0,fun _=>undef,fun _ _=>False⟩) hs hR.1 fun i av u a b=>.pu _ _ (hR.2 i av u a b)
 subst this
 exact (h w F hB).mono fun e w'⟨he,hb⟩=>⟨v,F,he,hb,fun _ _ h=>h,fun p u x=>by rw [hb.cell (cell_block (hF p u x))];exact hF p u x,fun _ _ h=>.inl h,hv F⟩
theorem itoa_G (n:Int)(h:I64 n):Ctg tabB Tryz.prog 116 [.sc (.int .i64 n)] (.sc (.string (bs (Lib.itoa n)))) :=
 Ctg.of_sc (v:=.string (bs (Lib.itoa n))) rfl (fun _=>.sc _) fun w F hB=>(Tryz.strconv_Itoa n h.1 (by have:=h.2;omega) w hB.2.2).mono fun e w'⟨he,k,os,hw⟩=>⟨he,by
  subst hw
  refine⟨rfl,rfl,rfl,?_,fun i hi=>?_⟩
  ·show w.heap.size≤(w.heap++os).size
   rw [Array.size_append];omega
  ·show (w.heap++os)[i]?=w.heap[i]?
   rw [Array.getElem?_append_left hi]⟩
end Go.Proofs.YtgelfflighgajaaGreatDoor
namespace Go.Proofs.YtgelfflighgajaaGreatDoor
open Go.ChangeShapes Go.WideShapes Go.ChangeAt Go.RowKit
def laidT:List (String×DataW Unit):=[("math/bits.deBruijn32tab",Rows.laid_math_bits_deBruijn32tab),("math/bits.deBruijn64tab",Rows.laid_math_bits_deBruijn64tab),("internal/strconv.uint64pow10",Rows.laid_internal_strconv_uint64pow10),("theorbo/instrument.bases",Rows.laid_theorbo_instrument_bases),("theorbo/instrument.fifths",Rows.laid_theorbo_instrument_fifths)]
theorem ownT:ownKnob Tryz.prog.godebug=none:=by kernel_rfl
theorem tab_of_laid {W:World} (h:laidMetH Tryz.prog laidT W):tabB W (fun p=>W.cell? p):=by
 rw [MakeChecks.laidMetH_plain _ _ _ (by kernel_rfl)] at h
 have h3:=h.tail.tail
 have e1:Lib.TabIs Tryz.prog W "internal/strconv.uint64pow10" .u64 Lib.pow10Tab :=
  Lib.tabIs_of_head (g:=3) (t:=344) (e:=322) (n:=20) (by kernel_rfl) (by kernel_rfl) Tryz.underlying344 Tryz.underlying322 (by kernel_rfl) (by kernel_rfl) h3
 have e2:Lib.TabIs Tryz.prog W "theorbo/instrument.bases" .i64 bsL :=
  Lib.tabIs_of_head (g:=1) (t:=303) (e:=3) (n:=7) (by kernel_rfl) (by kernel_rfl) Tryz.underlying303 Tryz.underlying3 (by kernel_rfl) (by kernel_rfl) h3.tail
 have e3:Lib.TabIs Tryz.prog W "theorbo/instrument.fifths" .i64 ftL :=
  Lib.tabIs_of_head (g:=0) (t:=303) (e:=3) (n:=7) (by kernel_rfl) (by kernel_rfl) Tryz.underlying303 Tryz.underlying3 (by kernel_rfl) (by kernel_rfl) h3.tail.tail
 have get:∀ (l:List Int) (i:Nat) v,l[i]?=some v→i<l.length∧l.getD i 0=v:=fun l i v hv=>by
  obtain ⟨hi,e⟩:=List.getElem?_eq_some_iff.1 hv
  exact ⟨hi,by rw [List.getD_eq_getElem?_getD,hv];rfl⟩
 refine ⟨fun i v hv=>?_,fun i v hv=>?_,e1⟩
 ·obtain ⟨hi,e⟩:=get _ _ _ hv
  rw [← e];exact e3.cell (by kernel_rfl) i hi
 ·obtain ⟨hi,e⟩:=get _ _ _ hv
  rw [← e];exact e2.cell (by kernel_rfl) i hi
theorem door_met (os:Os) (args:Array Value):laidMetH Tryz.prog laidT ((World.doorLaid Tryz.prog 400 os).forCall (fun _ _=>0) ⟨#[],args,[]⟩).memory :=
 laidMetH_of_parts3 (fuel:=8) (laidMet_of_run' 8 (by kernel_rfl) (by kernel_rfl)) (by kernel_rfl) (by kernel_rfl)
end Go.Proofs.YtgelfflighgajaaGreatDoor
namespace Go.Proofs.YtgelfflighgajaaGreatDoor
open Go.RowKit
theorem pSounding_G (l al o:Int):Ctg tabB Tryz.prog 210 [.ag [.sc (.int .i64 l),.sc (.int .i64 al),.sc (.int .i64 o)]] (.tu [.sc (.int .i64 (sndR l al o)),.sc (.int .i64 (sndX l al o))]):=by
 refine Ctg.intro stabB Tryz.func210 rfl Tryz.ntmps210 (Nat.le_of_ble_eq_true rfl) (bd_all rfl) fun w0 F0 hB=>?_;dsimp only [St.init,number,Nat.reduceAdd]
 have hc:(l < 0∨(¬ l < 0∧7≤l)∨(¬ l < 0∧¬ 7≤l∧al < -1)∨(¬ l < 0∧¬ 7≤l∧¬ al < -1∧1 < al)∨(¬ l < 0∧¬ 7≤l∧¬ al < -1∧¬ 1 < al∧o < -1)∨(¬ l < 0∧¬ 7≤l∧¬ al < -1∧¬ 1 < al∧¬ o < -1∧9 < o))∨sndIn l al o:=by unfold sndIn;omega
 rcases hc with hc|hc
 ·have hno:=sndOk_out (l:=l) (al:=al) (o:=o) (by unfold sndIn;omega)
  rw [(snd_no hno).1,(snd_no hno).2]
  rcases hc with h|h|h|h|h|h
  all_goals
   repeat (first|refine W.gob rfl ?_|refine WL.nil ?_|refine WL.bt rfl rfl rfl (by omega) ?_|refine WL.bf rfl rfl rfl (by omega) ?_|refine WL.e1 rfl ?_|refine WL.gyes rfl rfl rfl rfl ?_|refine WL.opno rfl rfl rfl rfl rfl rfl rfl ?_|refine W.condT rfl ?_)
   refine (?_:W _ _ _ _ _)
   dsimp only [St.put,Nat.reduceAdd]
   exact W.ret (fin2 rfl rfl rfl rfl rfl rfl rfl)
 ·obtain ⟨⟨h1,h2⟩,⟨h3,h4⟩,h5,h6⟩:=id hc
  have hbd:=basV_bd ⟨h1,h2⟩
  have htab:=tab_bases ⟨h1,h2⟩
  have hin:=sndOk_in hc
  have hv:sndV l al o=12*(o+1)+basV l+al:=rfl
  have hR:sndOk l al o=true→sndR l al o=12*(o+1)+basV l+al:=fun h=>(snd_ok h).1
  obtain ⟨b,hb⟩:∃ b,basV l=b:=⟨_,rfl⟩
  rw [hb] at hbd htab hv hR
  repeat (first|refine W.gob rfl ?_|refine WL.nil ?_|refine WL.bf rfl rfl rfl (by omega) ?_|refine WL.e1 rfl ?_|refine WL.gyes rfl rfl rfl rfl ?_|refine W.condF rfl ?_)
  refine (?_:W _ _ _ _ _)
  dsimp only [St.put,Nat.reduceAdd]
  refine W.drawK (by kernel_rfl) (by kernel_rfl) ?_
  repeat (first|refine DK.st rfl ?_|refine DK.ar rfl rfl (by unfold I64;omega) ?_)
  refine DK.glob hB rfl rfl ⟨h1,by omega⟩ htab rfl ?_
  repeat (first|refine DK.st rfl ?_|refine DK.ar rfl rfl (by unfold I64;omega) ?_|refine DK.nil ?_)
  by_cases hr:0≤12*(o+1)+b+al∧12*(o+1)+b+al≤127
  ·have hok:sndOk l al o=true:=by rw [hin,hv];simpa using hr
   rw [hR hok,(snd_ok hok).2]
   repeat (first|refine W.gob rfl ?_|refine WL.nil ?_|refine WL.bf rfl rfl rfl (by omega) ?_|refine WL.e1 rfl ?_|refine WL.gyes rfl rfl rfl rfl ?_|refine W.condF rfl ?_)
   refine (?_:W _ _ _ _ _)
   dsimp only [St.put,Nat.reduceAdd]
   exact W.ret (fin2 rfl rfl rfl rfl rfl rfl rfl)
  ·have hok:sndOk l al o=false:=by rw [hin,hv];simpa using hr
   rw [(snd_no hok).1,(snd_no hok).2]
   have hr2:(12*(o+1)+b+al < 0)∨(¬ 12*(o+1)+b+al < 0∧127 < 12*(o+1)+b+al):=by omega
   rcases hr2 with h|h
   all_goals
    repeat (first|refine W.gob rfl ?_|refine WL.nil ?_|refine WL.bt rfl rfl rfl (by omega) ?_|refine WL.bf rfl rfl rfl (by omega) ?_|refine WL.e1 rfl ?_|refine WL.gyes rfl rfl rfl rfl ?_|refine WL.opno rfl rfl rfl rfl rfl rfl rfl ?_|refine W.condT rfl ?_)
    refine (?_:W _ _ _ _ _)
    dsimp only [St.put,Nat.reduceAdd]
    exact W.ret (fin2 rfl rfl rfl rfl rfl rfl rfl)
theorem pSpell_G (p key:Int):Ctg tabB Tryz.prog 169 [.sc (.int .i64 p),.sc (.int .i64 key)] (.tu [eSp (spV p key),.sc (.int .i64 (spX p key))]):=by
 refine Ctg.intro stabB Tryz.func169 rfl Tryz.ntmps169 (Nat.le_of_ble_eq_true rfl) (bd_all rfl) fun w0 F0 hB=>?_;dsimp only [St.init,number,Nat.reduceAdd]
 by_cases hp:0≤p∧p≤127
 rotate_left
 ·rw [(sp_pitch hp).1,(sp_pitch hp).2]
  have hp2:p < 0∨(¬ p < 0∧127 < p):=by omega
  rcases hp2 with h|h
  all_goals
   repeat (first|refine W.gob rfl ?_|refine WL.nil ?_|refine WL.bt rfl rfl rfl (by omega) ?_|refine WL.bf rfl rfl rfl (by omega) ?_|refine WL.e1 rfl ?_|refine WL.gyes rfl rfl rfl rfl ?_|refine WL.opno rfl rfl rfl rfl rfl rfl rfl ?_|refine W.condT rfl ?_)
   refine (?_:W _ _ _ _ _)
   dsimp only [St.put,Nat.reduceAdd]
   exact W.ret (finN rfl rfl rfl rfl)
 by_cases hk:-4≤key∧key≤4
 rotate_left
 ·rw [(sp_arg hp hk).1,(sp_arg hp hk).2]
  have hk2:key < -4∨(¬ key < -4∧4 < key):=by omega
  rcases hk2 with h|h
  all_goals
   repeat (first|refine W.gob rfl ?_|refine WL.nil ?_|refine WL.bt rfl rfl rfl (by omega) ?_|refine WL.bf rfl rfl rfl (by omega) ?_|refine WL.e1 rfl ?_|refine WL.gyes rfl rfl rfl rfl ?_|refine WL.opno rfl rfl rfl rfl rfl rfl rfl ?_|refine W.condT rfl ?_|refine W.condF rfl ?_)
   refine (?_:W _ _ _ _ _)
   dsimp only [St.put,Nat.reduceAdd]
   exact W.ret (finN rfl rfl rfl rfl)
 repeat (first|refine W.gob rfl ?_|refine WL.nil ?_|refine WL.bf rfl rfl rfl (by omega) ?_|refine WL.e1 rfl ?_|refine WL.gyes rfl rfl rfl rfl ?_|refine W.condF rfl ?_)
 refine (?_:W _ _ _ _ _)
 dsimp only [St.put,Nat.reduceAdd]
 refine W.loop (fun k:Nat=>k≤7∧∀ m,m < 3*k→spN p key m=false) (fun k=>⟨[(0,.sc (.int .i64 p)),(1,.sc (.int .i64 key)),(4,.pt 0 0 0),(27,.sc (.int .i64 k))],[(0,.box 235 [.sc (.int .i64 0),.sc (.int .i64 0),.sc (.int .i64 0)])],1⟩) (fun k=>7 - k) 0 ⟨by omega,by omega⟩ (Tr.ren id (by repeat (first|exact trivial|refine ⟨⟨?_,?_⟩,?_⟩|rfl)) (by repeat (first|exact trivial|refine ⟨⟨?_,?_,?_⟩,?_⟩|rfl)) rfl) fun k hk0=>?_
 obtain ⟨hk7,hno⟩:=hk0
 by_cases hlt:k < 7
 rotate_left
 ·have hn:spP p key=none:=by unfold spP;rw [find_no fun m hm=>hno m (by omega)];rfl
  rw [(sp_none hp hk hn).1,(sp_none hp hk hn).2]
  repeat (first|refine W.gob rfl ?_|refine WL.nil ?_|refine WL.bf rfl rfl rfl (by omega) ?_|refine WL.e1 rfl ?_|refine W.condF rfl ?_)
  refine (?_:W _ _ _ _ _)
  dsimp only [St.put,Nat.reduceAdd]
  exact W.ret (finN rfl rfl rfl rfl)
 repeat (first|refine W.gob rfl ?_|refine WL.nil ?_|refine WL.bt rfl rfl rfl (by omega) ?_|refine WL.e1 rfl ?_|refine W.condT rfl ?_)
 refine (?_:W _ _ _ _ _)
 dsimp only [St.put,Nat.reduceAdd]
 refine W.loop (fun j:Nat=>j≤3∧∀ m,m < 3*k+j→spN p key m=false) (fun j=>⟨[(0,.sc (.int .i64 p)),(1,.sc (.int .i64 key)),(4,.pt 0 0 0),(6,.sc (.int .i64 k)),(7,.sc (.int .i64 ((j:Int) - 1))),(27,.sc (.int .i64 k))],[(0,.box 235 [.sc (.int .i64 0),.sc (.int .i64 0),.sc (.int .i64 0)])],1⟩) (fun j=>3 - j) 0 ⟨by omega,by simpa using hno⟩ (Tr.ren id (by repeat (first|exact trivial|refine ⟨⟨?_,?_⟩,?_⟩|rfl)) (by repeat (first|exact trivial|refine ⟨⟨?_,?_,?_⟩,?_⟩|rfl)) rfl) fun j hj0=>?_
 obtain ⟨hj3,hno2⟩:=hj0
 by_cases hj:j < 3
 rotate_left
 ·repeat (first|refine W.gob rfl ?_|refine WL.nil ?_|refine WL.bf rfl rfl rfl (by omega) ?_|refine WL.e1 rfl ?_|refine WL.ar rfl rfl (by unfold I64;omega) ?_|refine W.condF rfl ?_)
  dsimp only [St.put,Nat.reduceAdd]
  refine ⟨k+1,⟨by omega,fun m hm=>hno2 m (by omega)⟩,by omega,?_⟩
  exact (Tr.ren id (by repeat (first|exact trivial|refine ⟨⟨?_,?_⟩,?_⟩|rfl)) (by repeat (first|exact trivial|refine ⟨⟨?_,?_,?_⟩,?_⟩|rfl)) rfl)
 have hl:0≤(k:Int)∧(k:Int)≤6:=by omega
 have htf:=tab_fifths hl
 have htb:=tab_bases hl
 have hfb:=ftV_bd hl
 have hbb:=basV_bd hl
 have e3:(3*k+j)/3=k:=by omega
 have e4:(3*k+j) % 3=j:=by omega
 have hN:spN p key (3*k+j)=(decide (key - 3≤ftV k+7*((j:Int) - 1)∧ftV k+7*((j:Int) - 1)≤key+8) && (sndOk k ((j:Int) - 1) ((p - ((j:Int) - 1) - basV k+12)/12 - 2) && decide (sndV k ((j:Int) - 1) ((p - ((j:Int) - 1) - basV k+12)/12 - 2)=p))):=by
  unfold spN spC spWin spO;rw [e3,e4]
 have hfound:spN p key (3*k+j)=true→spP p key=some ((k:Int),(j:Int) - 1,(p - ((j:Int) - 1) - basV k+12)/12 - 2):=fun h=>by
  unfold spP
  rw [find_at hno2 h (by omega)]
  unfold spO
  simp only [Option.map_some,e3,e4]
 have hnext:spN p key (3*k+j)=false→∀ m,m < 3*k+(j+1)→spN p key m=false:=fun h m hm=>by
  by_cases e:m=3*k+j
  ·rw [e];exact h
  ·exact hno2 m (by omega)
 have hS:=pSounding_G k ((j:Int) - 1) ((p - ((j:Int) - 1) - basV k+12)/12 - 2)
 obtain ⟨fv,hfv⟩:∃ z,ftV k=z:=⟨_,rfl⟩
 obtain ⟨bv,hbv⟩:∃ z,basV k=z:=⟨_,rfl⟩
 rw [hfv] at htf hfb hN
 rw [hbv] at htb hbb hN hS hfound
 obtain ⟨al,hal⟩:∃ z,(j:Int) - 1=z:=⟨_,rfl⟩
 have hal2:al+1=((j+1:Nat):Int) - 1:=by omega
 rw [hal] at hN hS hfound ⊢
 by_cases hw:key - 3≤fv+7*al∧fv+7*al≤key+8
 rotate_left
 ·rw [decide_eq_false hw,Bool.false_and] at hN
  have hw2:fv+7*al < key - 3∨(¬ fv+7*al < key - 3∧key+8 < fv+7*al):=by omega
  rcases hw2 with h|h
  all_goals
   repeat (first|refine W.gob rfl ?_|refine WL.nil ?_|refine WL.bt rfl rfl rfl (by omega) ?_|refine WL.e1 rfl ?_|refine W.condT rfl ?_)
   refine (?_:WL _ _ _ _ _ _)
   dsimp only [St.put,Nat.reduceAdd]
   refine WL.glob hB rfl rfl ⟨by omega,by omega⟩ htf rfl ?_
   repeat (first|refine W.gob rfl ?_|refine WL.nil ?_|refine WL.bt rfl rfl rfl (by omega) ?_|refine WL.bf rfl rfl rfl (by omega) ?_|refine WL.e1 rfl ?_|refine WL.gyes rfl rfl rfl rfl ?_|refine WL.opno rfl rfl rfl rfl rfl rfl rfl ?_|refine WL.ar rfl rfl (by unfold I64;omega) ?_|refine W.condT rfl ?_)
   dsimp only [St.put,Nat.reduceAdd]
   refine ⟨j+1,⟨by omega,hnext hN⟩,by omega,?_⟩
   rw [← hal2]
   exact (Tr.ren id (by repeat (first|exact trivial|refine ⟨⟨?_,?_⟩,?_⟩|rfl)) (by repeat (first|exact trivial|refine ⟨⟨?_,?_,?_⟩,?_⟩|rfl)) rfl)
 rw [decide_eq_true hw,Bool.true_and] at hN
 repeat (first|refine W.gob rfl ?_|refine WL.nil ?_|refine WL.bt rfl rfl rfl (by omega) ?_|refine WL.e1 rfl ?_|refine W.condT rfl ?_)
 refine (?_:WL _ _ _ _ _ _)
 dsimp only [St.put,Nat.reduceAdd]
 refine WL.glob hB rfl rfl ⟨by omega,by omega⟩ htf rfl ?_
 repeat (first|refine W.gob rfl ?_|refine WL.nil ?_|refine WL.bf rfl rfl rfl (by omega) ?_|refine WL.e1 rfl ?_|refine WL.gyes rfl rfl rfl rfl ?_|refine WL.ar rfl rfl (by unfold I64;omega) ?_|refine W.condF rfl ?_)
 refine (?_:WL _ _ _ _ _ _)
 dsimp only [St.put,Nat.reduceAdd]
 refine WL.glob hB rfl rfl ⟨by omega,by omega⟩ htb rfl ?_
 repeat (first|refine W.gob rfl ?_|refine WL.nil ?_|refine WL.e1 rfl ?_|refine WL.ar rfl rfl (by unfold I64;omega) ?_|refine WL.div rfl rfl (by omega) ?_)
 refine (?_:WL _ _ _ _ _ _)
 dsimp only [St.put,Nat.reduceAdd]
 refine WL.vl rfl (WV.callG hB rfl (callF Tryz.func210 rfl rfl) rfl rfl hS) ?_
 obtain ⟨oc,hoc⟩:∃ z,(p - al - bv+12)/12 - 2=z:=⟨_,rfl⟩
 rw [hoc] at hN hfound ⊢
 cases hok:sndOk k al oc with
 | false =>
  rw [hok,Bool.false_and] at hN
  rw [(snd_no hok).1,(snd_no hok).2]
  repeat (first|refine W.gob rfl ?_|refine WL.nil ?_|refine WL.bf rfl rfl rfl (by omega) ?_|refine WL.e1 rfl ?_|refine WL.opno rfl rfl rfl rfl rfl rfl rfl ?_|refine WL.ar rfl rfl (by unfold I64;omega) ?_|refine W.condF rfl ?_)
  dsimp only [St.put,Nat.reduceAdd]
  refine ⟨j+1,⟨by omega,hnext hN⟩,by omega,?_⟩
  rw [← hal2]
  exact (Tr.ren (fun q=>q) (by repeat (first|exact trivial|refine ⟨⟨?_,?_⟩,?_⟩|rfl)) (by repeat (first|exact trivial|refine ⟨⟨?_,?_,?_⟩,?_⟩|rfl|exact congrArg (fun q=>some (AO.row _ _ q)) (by first|rfl|(simp;done)|(simp [eInt];done)|(simp [eLk];done)))) rfl)
 | true =>
  rw [hok,Bool.true_and] at hN
  rw [(snd_ok hok).1,(snd_ok hok).2]
  by_cases hv:sndV k al oc=p
  ·rw [decide_eq_true hv] at hN
   have hr:=sp_some hp hk (hfound hN)
   rw [hr.1,hr.2]
   repeat (first|refine W.gob rfl ?_|refine WL.nil ?_|refine WL.bt rfl rfl rfl (by omega) ?_|refine WL.e1 rfl ?_|refine WL.gyes rfl rfl rfl rfl ?_|refine W.condT rfl ?_)
   refine (?_:W _ _ _ _ _)
   dsimp only [St.put,Nat.reduceAdd]
   exact W.ret (finN rfl rfl rfl rfl)
  ·rw [decide_eq_false hv] at hN
   repeat (first|refine W.gob rfl ?_|refine WL.nil ?_|refine WL.bt rfl rfl rfl (by omega) ?_|refine WL.bf rfl rfl rfl (by omega) ?_|refine WL.e1 rfl ?_|refine WL.gyes rfl rfl rfl rfl ?_|refine WL.ar rfl rfl (by unfold I64;omega) ?_|refine W.condF rfl ?_)
   dsimp only [St.put,Nat.reduceAdd]
   refine ⟨j+1,⟨by omega,hnext hN⟩,by omega,?_⟩
   rw [← hal2]
   exact (Tr.ren (fun q=>q) (by repeat (first|exact trivial|refine ⟨⟨?_,?_⟩,?_⟩|rfl)) (by repeat (first|exact trivial|refine ⟨⟨?_,?_,?_⟩,?_⟩|rfl|exact congrArg (fun q=>some (AO.row _ _ q)) (by first|rfl|(simp;done)|(simp [eInt];done)|(simp [eLk];done)))) rfl)
end Go.Proofs.YtgelfflighgajaaGreatDoor
namespace Go.Proofs.YtgelfflighgajaaGreatDoor
open Go.RowKit
theorem cut_ltr {l:Int}:(cut ltrs l (l+1)).length≤1:=by simp only [cut,List.length_take,List.length_drop];omega
theorem Ctr.of_ins {P:Program} {f:FuncId} {cs:List (Int×Int×Bool)} {st:List Int} {post:List AV} {ys:List Value} {res:AV} {v:Value} (hs2:scs post=some ys) (hv:∀ F,RP F res v)
  (h:∀ w A1 A2 c1 c2,InsAt w w.heap.size A1 A2 cs st→Calls P f (.agg #[.slice A1 cs.length c1,.slice A2 st.length c2]::ys).toArray w (Ret v w)):Ctr P f (.ag (eIns cs st)::post) res:=by
 intro w F vs hF hR
 match vs,hR.1,hR.2 with
 | u::us,hlen,hR2 =>
  have r:=hR2 0 _ u rfl rfl
  obtain ⟨xs,rfl,q1,q2⟩:∃ xs:Array Value,u=.agg xs∧xs.size=2∧∀ (i:Nat) av u,(eIns cs st)[i]?=some av→xs[i]?=some u→RP F av u:=by
   cases r with|ag l cs a b=>exact ⟨cs,rfl,a,b⟩
  have g:∀ i (h:i<2),xs[i]?=some (xs[i]'(by omega)):=fun i h=>Array.getElem?_eq_getElem (by omega)
  obtain ⟨A1,c1,A2,c2,e1,e2,hI⟩:=ins_of_rp hF (q2 0 _ _ rfl (g 0 (by omega))) (q2 1 _ _ rfl (g 1 (by omega)))
  have ex:xs=#[.slice A1 cs.length c1,.slice A2 st.length c2]:=by
   apply Array.ext (by simp [q1])
   intro i hi hi2
   match i,(show i<2 by omega) with
   | 0,_=>exact e1
   | 1,_=>exact e2
  have ey:us=ys:=scs_of (G:=⟨F,fun _=>0,fun _=>0,fun _=>undef,fun _ _=>False⟩) hs2 (by simpa using hlen) fun i av u a b=>.pu _ _ (hR2 (i+1) av u (by simpa using a) (by simpa using b))
  subst ex ey
  exact (h w A1 A2 c1 c2 hI).mono fun e w' ⟨he,hb⟩=>⟨v,F,he,hb,fun _ _ h=>h,fun p u x=>by rw [hb.cell (cell_block (hF p u x))];exact hF p u x,fun _ _ h=>.inl h,hv F⟩
theorem pInsCheck_FS (cs:List (Int×Int×Bool))(st:List Int):Ctr Tryz.prog 117 [.ag (eIns cs st)] (.sc (.int .i64 (insE cs st))) :=
 Ctr.of_ins (post:=[]) rfl (fun _=>.sc _) fun w A1 A2 c1 c2 hI=>insCheck A1 A2 cs st cs.length st.length c1 c2 w hI rfl rfl
theorem rInsCheck_FS (cs:List (Int×Int×Bool))(st:List Int):Ctr Tryz.prog 66 [.ag (eIns cs st)] (.sc (.int .i64 (insE cs st))) :=
 Ctr.of_ins (post:=[]) rfl (fun _=>.sc _) fun w A1 A2 c1 c2 hI=>rInsCheck A1 A2 cs st cs.length st.length c1 c2 w hI rfl rfl
end Go.Proofs.YtgelfflighgajaaGreatDoor
namespace Go.Proofs.YtgelfflighgajaaGreatDoor
open Go.Shelf Go.RowKit
def joinRen:Go.Shelf.Ren:=⟨fun|156=>114|165=>174|166=>58|169=>59|240=>125|241=>213|276=>184|277=>235|n=>n,fun|0=>0|3=>3|4=>4|9=>9|20=>20|31=>65|37=>57|70=>107|72=>109|75=>112|76=>113|127=>202|164=>266|5=>5|80=>115|n=>n,fun|n=>n⟩
theorem joinLays:Go.Proofs.Lays.n156 Tryz.prog joinRen:={
 mixed:=by kernel_rfl
 f156:=Tryz.func114.trans (congrArg some (by kernel_rfl))
 f165:=Tryz.func174.trans (congrArg some (by kernel_rfl))
 f166:=Tryz.func58.trans (congrArg some (by kernel_rfl))
 f169:=Tryz.func59.trans (congrArg some (by kernel_rfl))
 f240:=Tryz.func125.trans (congrArg some (by kernel_rfl))
 f241:=Tryz.func213.trans (congrArg some (by kernel_rfl))
 f276:=Tryz.func184.trans (congrArg some (by kernel_rfl))
 f277:=Tryz.func235.trans (congrArg some (by kernel_rfl))
 t0:=Tryz.underlying0
 a0:=Tryz.isAgg0
 z0:=Tryz.sizeOf0
 v0:=Tryz.zeroValue0
 t3:=Tryz.underlying3
 a3:=Tryz.isAgg3
 z3:=Tryz.sizeOf3
 v3:=Tryz.zeroValue3
 t4:=Tryz.underlying4
 a4:=Tryz.isAgg4
 z4:=Tryz.sizeOf4
 v4:=Tryz.zeroValue4
 t9:=Tryz.underlying9
 a9:=Tryz.isAgg9
 z9:=Tryz.sizeOf9
 v9:=Tryz.zeroValue9
 t20:=Tryz.underlying20
 a20:=Tryz.isAgg20
 z20:=Tryz.sizeOf20
 v20:=Tryz.zeroValue20
 t31:=Tryz.underlying65
 a31:=Tryz.isAgg65
 z31:=Tryz.sizeOf65
 v31:=Tryz.zeroValue65
 t37:=Tryz.underlying57
 a37:=Tryz.isAgg57
 z37:=Tryz.sizeOf57
 v37:=Tryz.zeroValue57
 t70:=Tryz.underlying107
 a70:=Tryz.isAgg107
 z70:=Tryz.sizeOf107
 v70:=Tryz.zeroValue107
 t72:=Tryz.underlying109
 a72:=Tryz.isAgg109
 z72:=Tryz.sizeOf109
 v72:=Tryz.zeroValue109
 t75:=Tryz.underlying112
 a75:=Tryz.isAgg112
 z75:=Tryz.sizeOf112
 v75:=Tryz.zeroValue112
 t76:=Tryz.underlying113
 a76:=Tryz.isAgg113
 z76:=Tryz.sizeOf113
 v76:=Tryz.zeroValue113
 t127:=Tryz.underlying202
 a127:=Tryz.isAgg202
 z127:=Tryz.sizeOf202
 v127:=Tryz.zeroValue202
 t164:=Tryz.underlying266
 a164:=Tryz.isAgg266
 z164:=Tryz.sizeOf266
 v164:=Tryz.zeroValue266 }
theorem joinExtra:Builder.Extra Tryz.prog joinRen:={
 sizeBuilder:=by kernel_rfl
 liesBuilder:=by kernel_rfl
 t5:=Tryz.underlying5
 a5:=Tryz.isAgg5
 z5:=Tryz.sizeOf5
 v5:=Tryz.zeroValue5
 infoByte:=by kernel_rfl
 cellsByte:=by kernel_rfl
 sizeByte:=by kernel_rfl
 neB5:=by decide }
theorem strings_Join_none (a:Option Addr) (c:Nat) (sep:ByteArray) (w:World) :
  Calls Tryz.prog 114 #[.slice a 0 c,.string sep] w fun e w'=>e=.returned (.string ⟨#[]⟩)∧w'=w:=Any.strings_Join_none joinLays joinExtra a c sep w
theorem strings_Join (bk o c:Nat) (xs:List ByteArray) (sep:ByteArray) (w:World) (hcells:∀ (j:Nat) x,xs[j]?=some x→w.cell? ⟨bk,o+j,none⟩=some (.string x)) (hbk:bk<w.heap.size) (hN:xs.length≤140737488355328) (hcap:xs.length≤c) (hlen:(Lib.join (xs.map (·.data.toList)) sep.data.toList).length≤140737488355328) :
  Calls Tryz.prog 114 #[.slice (some ⟨bk,o,none⟩) xs.length c,.string sep] w fun e w'=>e=.returned (.string ⟨(Lib.join (xs.map (·.data.toList)) sep.data.toList).toArray⟩)∧Below w.heap.size w w':=Any.strings_Join joinLays joinExtra bk o c xs sep w hcells hbk hN hcap hlen
end Go.Proofs.YtgelfflighgajaaGreatDoor
