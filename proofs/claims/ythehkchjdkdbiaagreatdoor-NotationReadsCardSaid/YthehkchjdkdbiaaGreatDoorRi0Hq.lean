/- The text of an instrument, read: plain words (for NotationReads: instrument.Parse on both sides). -/
import Derived.Test.YthehkchjdkdbiaaGreatDoorRMkHq
set_option linter.unusedVariables false
set_option linter.unusedSimpArgs false
namespace Go.Proofs.YthehkchjdkdbiaaGreatDoor
section
open Go.RowKit
def bsL:List Int:=[0,2,4,5,7,9,11]
def ftL:List Int:=[0,2,4,-1,1,3,5]
def basV(l:Int):Int:=bsL.getD l.toNat 0
def ftV(l:Int):Int:=ftL.getD l.toNat 0
def sndV(l al o:Int):Int:=12*(o+1)+basV l+al
def sndIn(l al o:Int):Prop:=(0≤l∧l≤6)∧(-1≤al∧al≤1)∧-1≤o∧o≤9
instance (l al o:Int):Decidable (sndIn l al o):=by unfold sndIn;exact inferInstance
def sndOk (l al o:Int):Bool:=decide (sndIn l al o) && decide (0≤sndV l al o∧sndV l al o≤127)
def sndR(l al o:Int):Int:=if sndOk l al o=true then sndV l al o else 0
def sndX(l al o:Int):Int:=if sndOk l al o=true then 0 else 10
theorem snd_ok {l al o:Int} (h:sndOk l al o=true):sndR l al o=sndV l al o∧sndX l al o=0:=⟨if_pos h,if_pos h⟩
theorem snd_no {l al o:Int} (h:sndOk l al o=false):sndR l al o=0∧sndX l al o=10:=⟨if_neg (by simp [h]),if_neg (by simp [h])⟩
theorem sndOk_out {l al o:Int} (h:¬ sndIn l al o):sndOk l al o=false:=by unfold sndOk;rw [decide_eq_false h];rfl
theorem sndOk_in {l al o:Int} (h:sndIn l al o):sndOk l al o=decide (0≤sndV l al o∧sndV l al o≤127):=by unfold sndOk;rw [decide_eq_true h];rfl
theorem sndOk_of {l al o:Int} (h:sndOk l al o=true):sndIn l al o∧0≤sndV l al o∧sndV l al o≤127:=by
 unfold sndOk at h
 simpa using h
theorem bs_all:((List.range 7).all fun k=>decide (0≤basV k∧basV k≤11))=true:=by decide
theorem basV_bd {l:Int} (h:0≤l∧l≤6):0≤basV l∧basV l≤11:=by
 obtain⟨k,rfl⟩:=Int.eq_ofNat_of_zero_le h.1
 have:=List.all_eq_true.1 bs_all k (List.mem_range.2 zqo)
 simpa using this
theorem basV_at {l:Int} (h:0≤l∧l≤6):bsL[l.toNat]?=some (basV l):=by
 obtain⟨k,rfl⟩:=Int.eq_ofNat_of_zero_le h.1
 have:k<bsL.length:=by simp [bsL];omega
 unfold basV
 rw [Int.toNat_natCast,List.getD_eq_getElem?_getD,List.getElem?_eq_getElem this];rfl
def spWin (key l al:Int):Bool:=decide (key-3≤ftV l+7*al∧ftV l+7*al≤key+8)
def spC (p key l al o:Int):Bool:=spWin key l al && (sndOk l al o && decide (sndV l al o=p))
def spO(p l al:Int):Int:=(p-al-basV l+12)/12-2
def spN (p key:Int) (n:Nat):Bool:=spC p key ((n/3:Nat):Int) (((n % 3:Nat):Int)-1) (spO p ((n/3:Nat):Int) (((n % 3:Nat):Int)-1))
def spP (p key:Int):Option (Int×Int×Int):=((List.range 21).find? (spN p key)).map fun n=>(((n/3:Nat):Int),((n % 3:Nat):Int)-1,spO p ((n/3:Nat):Int) (((n % 3:Nat):Int)-1))
def spX(p key:Int):Int:=if ¬ (0≤p∧p≤127)then 10 else if ¬ (-4≤key∧key≤4)then 1 else if(spP p key).isSome=true then 0 else 10
def spV (p key:Int):Int×Int×Int:=if spX p key=0 then (spP p key).getD (0,0,0)else (0,0,0)
def ltrs:List UInt8:=[67,68,69,70,71,65,66]
def sgn(al:Int):List UInt8:=if al=1 then [35]else if al=-1 then [98]else []
def nmT (l al o:Int):List UInt8:=cut ltrs l (l+1)++sgn al++Lib.itoa o
def crsT (c:Int×Int×Bool):List UInt8:=nmT (spV c.1 0).1 (spV c.1 0).2.1 (spV c.1 0).2.2++[47]++Lib.itoa c.2.1++(if c.2.2 then [43]else [])++[32]
def crsTs (cs:List (Int×Int×Bool)):List UInt8:=(cs.map crsT).flatten
def stpT(n:Int):List UInt8:=[32]++Lib.itoa n
def stpTs(st:List Int):List UInt8:=(st.map stpT).flatten
def fmT (cs:List (Int×Int×Bool))(st:List Int):List UInt8:=crsTs cs++[58]++stpTs st
end
section
open Go.RowKit
def ri_lt(b:UInt8):Nat:=([67,68,69,70,71,65,66]:List UInt8).idxOf b
def ri_alt:List UInt8→Int×List UInt8
 | b::r=>if b=35 then(1,r)else if b=98 then(-1,r)else(0,b::r)
 | []=>(0,[])
def ri_oct (r:List UInt8):Option Int :=
 if r=[45,49]then some (-1)else
 match r with
 | [b]=>if 48≤b.toNat∧b.toNat≤57 then some ((b.toNat:Int)-48)else none
 | _=>none
def ri_nm (t:List UInt8):(Int×Int×Int)×Int :=
 match t with
 | []=>((0,0,0),4)
 | c::r =>
  if 7≤ri_lt c then ((0,0,0),4)else
  match ri_oct (ri_alt r).2 with
  | none=>((0,0,0),4)
  | some o=>if sndOk (ri_lt c) (ri_alt r).1 o=true then (((ri_lt c:Nat),(ri_alt r).1,o),0)else ((0,0,0),10)
def ri_cut (t:List UInt8):Option (List UInt8×List UInt8) :=
 match rq_wds 47 t with
 | a::b::r=>some (a,t.drop (a.length+1))
 | _=>none
def ri_plus(b:List UInt8):List UInt8×Bool:=if b.getLast?=some 43 then(b.dropLast,true)else(b,false)
def ri_crs (t:List UInt8):(Int×Int×Bool)×Int :=
 match ri_cut t with
 | none=>((0,0,false),4)
 | some (a,b) =>
  if (ri_nm a).2=4 then ((0,0,false),4)else
  match rq_numR (ri_plus b).1 with
  | none=>((0,0,false),4)
  | some n=>if (ri_nm a).2≠0 then ((0,0,false),(ri_nm a).2)else ((sndV (ri_nm a).1.1 (ri_nm a).1.2.1 (ri_nm a).1.2.2,(n:Int),(ri_plus b).2),0)
theorem ri_alt_len(r:List UInt8):(ri_alt r).2.length≤r.length:=by
 unfold ri_alt
 split
 ·split
  ·simp
  ·split<;>simp
 ·simp
theorem ri_cut_at {a b:List UInt8} (h:rq_NoB 47 a):ri_cut (a++47::b)=some (a,b):=by
 unfold ri_cut
 rw [rq_wds_cons 47 a b h]
 obtain⟨x,y,hxy⟩:∃ x y,rq_wds 47 b=x::y:=by
  have:=rq_wds_len 47 b
  match hw:rq_wds 47 b with
  | []=>rw [hw]at this;simp at this
  | x::y=>exact⟨x,y,rfl⟩
 rw [hxy]
 dsimp only
 rw [show a++47::b=(a++[47])++b by simp,show a.length+1=(a++[47]).length by simp,List.drop_left]
theorem ri_cut_no {t:List UInt8} (h:rq_NoB 47 t):ri_cut t=none:=by
 unfold ri_cut
 rw [rq_wds_one 47 t h]
theorem ri_slash:∀ t:List UInt8,(∃ a b,t=a++47::b∧rq_NoB 47 a)∨rq_NoB 47 t
 | []=>.inr fun b hb=>by cases hb
 | x::r=>by
  by_cases h:x=47
  ·exact .inl ⟨[],r,by simp [h],fun b hb=>by cases hb⟩
  ·rcases ri_slash r with⟨a,b,e,hn⟩|hn
   ·refine .inl ⟨x::a,b,by simp [e],fun y hy=>?_⟩
    rcases List.mem_cons.1 hy with rfl|k
    ·exact h
    ·exact hn y k
   ·refine .inr fun y hy=>?_
    rcases List.mem_cons.1 hy with rfl|k
    ·exact h
    ·exact hn y k
theorem ri_plus_at (a b:List UInt8):ri_plus (a++47::b)=(a++47::(ri_plus b).1,(ri_plus b).2):=by
 unfold ri_plus
 cases b with
 | nil=>simp
 | cons x r =>
  have e:(a++47::x::r).getLast?=(x::r).getLast?:=by
   rw [show a++47::x::r=(a++[47])++(x::r)by simp,List.getLast?_append,List.getLast?_eq_some_getLast (List.cons_ne_nil x r)]
   rfl
  rw [e]
  split
  ·rw [show a++47::x::r=(a++[47])++(x::r)by simp,List.dropLast_append_of_ne_nil (by simp)]
   simp
  ·rfl
theorem ri_plus_no {t:List UInt8} (h:rq_NoB 47 t):rq_NoB 47 (ri_plus t).1:=by
 unfold ri_plus
 split
 ·exact fun b hb=>h b (List.dropLast_subset _ hb)
 ·exact h
def ri_col:List (List UInt8)→Option (List (List UInt8)×List (List UInt8))
 | []=>none
 | w::r=>if w=[58]then some ([],r)else (ri_col r).map fun x=>(w::x.1,x.2)
def ri_err:List (List UInt8)→Int
 | []=>0
 | w::r=>if (ri_crs w).2≠0 then (ri_crs w).2 else ri_err r
def ri_stp:List (List UInt8)→Int
 | []=>0
 | w::r=>if (rq_numR w).isSome then ri_stp r else 4
def ri_raw (t:List UInt8):(List (Int×Int×Bool)×List Int)×Int :=
 match ri_col (rq_wds 32 t)with
 | none=>(([],[]),4)
 | some (a,b)=>if ri_err a≠0 then (([],[]),ri_err a)else if ri_stp b≠0 then (([],[]),ri_stp b)else ((a.map fun w=>(ri_crs w).1,b.map fun w=>(((rq_numR w).getD 0:Nat):Int)),0)
end
end Go.Proofs.YthehkchjdkdbiaaGreatDoor
