/- The reader of the program: fail, next, check. -/
import Derived.Test.YthehkchjdkdbiaaGreatDoorNrAGq
import Derived.Test.YthehkchjdkdbiaaGreatDoorGbGq
import Derived.Test.YthehkchjdkdbiaaGreatDoorCoAGq
set_option maxHeartbeats 4000000
set_option maxRecDepth 100000
set_option linter.unusedVariables false
set_option linter.unusedSimpArgs false
namespace Go.Proofs.YthehkchjdkdbiaaGreatDoor
open Go.RowKit
def nr_flt (n e:Int):Value:=.iface 71 (.agg #[.int .i64 n,.int .i64 e])
def nr_rd (v0 v1:Value)(CS ST:List (List AV))(n:Int)(T:List (List AV))(cl:Bool):AO:=.box 78 [.sc v0,.sc v1,.ls 3 CS,.ls 1 ST,.sl 1,.sl 2,.sc (.int .i64 n),.ls 1 T,.sc (.bool cl)]
theorem fail_G (v0 v1:Value)(CS ST:List (List AV))(n:Int)(T:List (List AV))(cl:Bool)(e:Int):Ctp truB 0 Tryz.prog 40 [.pt 0 0 0,.sc (.int .i64 e)] [(0,nr_rd v0 v1 CS ST n T cl)] 3 (nr_flt n e):=by
 unfold nr_rd
 refine Ctp.intro truS Tryz.func40 rfl Tryz.ntmps40 (Nat.le_of_ble_eq_true rfl) rfl fun w0 F0 fp pg hB=>?_
 dsimp only [number,Nat.reduceAdd]
 refine zqg25 ?_
 refine WL.vl rfl (WV.mki rfl (fun v w=>by kernel_rfl) rfl rfl) ?_
 refine zqg25 ?_
 refine WL.pan rfl rfl rfl rfl
def nr_nxt (L:List (List UInt8))(cl:Bool)(n:Nat):Bool:=decide (n<L.length) && (cl|| decide (n+1<L.length))
theorem next_G (v0 v1:Value) (CS ST:List (List AV)) (L:List (List UInt8)) (cl:Bool) (n:Nat) (hl:L.length≤1000000) (hn:n≤L.length) :
  Ctu truB 0 Tryz.prog 42 [.pt 0 0 0] [(0,nr_rd v0 v1 CS ST n (L.map eTx) cl)] 3
   (if nr_nxt L cl n=true then .ok (.sc (.string (bs (L.getD n [])))) [(0,nr_rd v0 v1 CS ST ((n:Int)+1) (L.map eTx) cl)] 3 else .er (nr_flt ((n:Int)+1) 4)):=by
 unfold nr_rd
 refine Ctu.intro truS Tryz.func42 rfl Tryz.ntmps42 (Nat.le_of_ble_eq_true rfl) rfl fun w0 F0 fp pg hB=>?_
 dsimp only [number,Nat.reduceAdd]
 by_cases h1:L.length≤n
 ·have e:nr_nxt L cl n=false:=by unfold nr_nxt;rw [decide_eq_false (by omega)];rfl
  rw [e,if_neg (by decide)]
  refine zqg26 ?_
  refine W.drawK zqk zqk ?_
  refine zqg28 ?_
  refine zqg26 ?_
  refine WL.ctp (truH _) [0,1,2] rfl rfl (callF Tryz.func40 rfl rfl) (fail_G _ _ _ _ _ _ _ _) rfl rfl rfl ⟨⟨rfl,rfl,rfl⟩,trivial⟩ ?_
  rfl
 have hat:(L.map eTx)[((n:Int)+1 - 1).toNat]?=some (eTx (L.getD n [])):=by
  rw [show ((n:Int)+1 - 1).toNat=n by omega,List.getElem?_map,List.getD_eq_getElem?_getD,List.getElem?_eq_getElem (by omega)];rfl
 obtain ⟨T,hT⟩:∃ z,L.map eTx=z:=⟨_,rfl⟩
 have hTl:T.length=L.length:=by rw [← hT];exact List.length_map _
 obtain ⟨x,hx⟩:∃ z,L.getD n []=z:=⟨_,rfl⟩
 rw [hT,hx] at hat
 rw [hT,hx]
 by_cases h2:n+1=L.length
 ·cases cl with
  | false =>
   have e:nr_nxt L false n=false:=by unfold nr_nxt;rw [decide_eq_true (by omega),decide_eq_false (by omega)];rfl
   rw [e,if_neg (by decide)]
   refine zqg26 ?_
   refine W.drawK zqk zqk ?_
   refine zqg28 ?_
   refine zqg26 ?_
   refine WL.ctp (truH _) [0,1,2] rfl rfl (callF Tryz.func40 rfl rfl) (fail_G _ _ _ _ _ _ _ _) rfl rfl rfl ⟨⟨rfl,rfl,rfl⟩,trivial⟩ ?_
   rfl
  | true =>
   have e:nr_nxt L true n=true:=by unfold nr_nxt;rw [decide_eq_true (by omega)];rfl
   rw [e,if_pos rfl]
   refine zqg26 ?_
   refine W.drawK zqk zqk ?_
   refine zqg28 ?_
   refine zqg26 ?_
   refine W.drawK zqk zqk ?_
   refine zqg29 ?_
   refine DK.idx rfl rfl zqo hat ?_
   refine zqg29 ?_
   refine zqg26 ?_
   exact W.ret (finM rfl rfl rfl rfl rfl)
 ·have e:nr_nxt L cl n=true:=by unfold nr_nxt;rw [decide_eq_true (show n < L.length by omega),decide_eq_true (show n+1 < L.length by omega)];simp
  rw [e,if_pos rfl]
  refine zqg26 ?_
  refine W.drawK zqk zqk ?_
  refine zqg28 ?_
  refine zqg26 ?_
  refine W.drawK zqk zqk ?_
  refine zqg29 ?_
  refine DK.idx rfl rfl zqo hat ?_
  refine zqg29 ?_
  refine zqg26 ?_
  exact W.ret (finM rfl rfl rfl rfl rfl)
theorem check_G (s:Int) (v0 v1:Value) (cs:List Crs) (ST:List (List AV)) (n:Int) (T:List (List AV)) (cl:Bool) (x:N5) (h1:1≤x.1∧x.1≤100) (h2:x.2.1≤100) (hc:cs.length≤100) (hb:∀ c∈cs,0≤c.2.1∧c.2.1≤1000) :
  Ctu truB 0 Tryz.prog 94 [.pt 0 0 0,.ag (eWr s x)] [(0,nr_rd v0 v1 (cs.map eCrs) ST n T cl)] 3
   (if nr_note cs x=0 then .ok (.tu []) [(0,nr_rd v0 v1 (cs.map eCrs) ST n T cl)] 3 else .er (nr_flt n (nr_note cs x))):=by
 obtain ⟨c,f,r,g,h⟩:=x
 dsimp only at h1 h2
 unfold nr_rd eWr
 refine Ctu.intro truS Tryz.func94 rfl Tryz.ntmps94 (Nat.le_of_ble_eq_true rfl) rfl fun w0 F0 fp pg hB=>?_
 dsimp only [number,Nat.reduceAdd]
 obtain ⟨H,hH⟩:∃ z,rm_hold s h=z:=⟨_,rfl⟩
 rw [hH]
 have hml:(cs.map eCrs).length=cs.length:=List.length_map _
 by_cases hlt:cs.length < c
 ·have e:nr_note cs (c,f,r,g,h)=12:=if_pos hlt
  rw [e,if_neg (by decide)]
  refine zqg27 ?_
  refine WL.ctp (truH _) [0,1,2] rfl rfl (callF Tryz.func40 rfl rfl) (fail_G _ _ _ _ _ _ _ _) rfl rfl rfl ⟨⟨rfl,rfl,rfl⟩,trivial⟩ ?_
  rfl
 have hat:(cs.map eCrs)[((c:Int) - 1).toNat]?=some (eCrs (cs.getD (c - 1) (0,0,false))):=by
  rw [show ((c:Int) - 1).toNat=c - 1 by omega,List.getElem?_map,List.getD_eq_getElem?_getD,List.getElem?_eq_getElem (by omega)];rfl
 have hbc:=hb (cs.getD (c - 1) (0,0,false)) (by rw [List.getD_eq_getElem?_getD,List.getElem?_eq_getElem (by omega)];exact List.getElem_mem _)
 obtain ⟨⟨p,q,o⟩,hpq⟩:∃ z,cs.getD (c - 1) (0,0,false)=z:=⟨_,rfl⟩
 have e:nr_note cs (c,f,r,g,h)=if q < (f:Int) then 13 else 0:=by
  unfold nr_note;dsimp only;rw [if_neg hlt,hpq]
 rw [e]
 rw [hpq] at hat hbc
 dsimp only at hbc
 obtain ⟨R,hR⟩:∃ z,cs.map eCrs=z:=⟨_,rfl⟩
 rw [hR] at hml hat ⊢
 by_cases hf:q < (f:Int)
 ·rw [if_pos hf,if_neg (by decide)]
  refine zqg27 ?_
  refine W.drawK zqk zqk ?_
  repeat (first|refine DK.bt rfl rfl (by omega) ?_|refine DK.bf rfl rfl (by omega) ?_|refine DK.tt rfl (by first|(simp;done)|fail) ?_|refine DK.ff rfl (by first|(simp;done)|fail) ?_|refine DK.st rfl ?_|refine DK.ar rfl rfl (by unfold I64;omega) ?_|refine DK.nil ?_)
  refine DK.idx rfl rfl zqo hat ?_
  repeat (first|refine DK.bt rfl rfl (by omega) ?_|refine DK.bf rfl rfl (by omega) ?_|refine DK.tt rfl (by first|(simp;done)|fail) ?_|refine DK.ff rfl (by first|(simp;done)|fail) ?_|refine DK.st rfl ?_|refine DK.ar rfl rfl (by unfold I64;omega) ?_|refine DK.nil ?_)
  refine zqg27 ?_
  refine WL.ctp (truH _) [0,1,2] rfl rfl (callF Tryz.func40 rfl rfl) (fail_G _ _ _ _ _ _ _ _) rfl rfl rfl ⟨⟨rfl,rfl,rfl⟩,trivial⟩ ?_
  rfl
 ·rw [if_neg hf,if_pos rfl]
  refine zqg27 ?_
  refine W.drawK zqk zqk ?_
  repeat (first|refine DK.bt rfl rfl (by omega) ?_|refine DK.bf rfl rfl (by omega) ?_|refine DK.tt rfl (by first|(simp;done)|fail) ?_|refine DK.ff rfl (by first|(simp;done)|fail) ?_|refine DK.st rfl ?_|refine DK.ar rfl rfl (by unfold I64;omega) ?_|refine DK.nil ?_)
  refine DK.idx rfl rfl zqo hat ?_
  repeat (first|refine DK.bt rfl rfl (by omega) ?_|refine DK.bf rfl rfl (by omega) ?_|refine DK.tt rfl (by first|(simp;done)|fail) ?_|refine DK.ff rfl (by first|(simp;done)|fail) ?_|refine DK.st rfl ?_|refine DK.ar rfl rfl (by unfold I64;omega) ?_|refine DK.nil ?_)
  refine zqg27 ?_
  exact finTrL (σ':=⟨[],[(0,.box 78 [.sc v0,.sc v1,.ls 3 R,.ls 1 ST,.sl 1,.sl 2,.sc (.int .i64 n),.ls 1 T,.sc (.bool cl)])],3⟩) (zqt id) (finMuL rfl rfl rfl rfl rfl)
end Go.Proofs.YthehkchjdkdbiaaGreatDoor
