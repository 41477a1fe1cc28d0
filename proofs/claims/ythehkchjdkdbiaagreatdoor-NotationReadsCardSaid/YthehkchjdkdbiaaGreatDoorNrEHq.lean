/- The reader of the program: marks. -/
import Derived.Test.YthehkchjdkdbiaaGreatDoorGaHq
set_option maxHeartbeats 8000000
set_option maxRecDepth 100000
set_option linter.unusedVariables false
set_option linter.unusedSimpArgs false
namespace Go.Proofs.YthehkchjdkdbiaaGreatDoor
section
open Go.RowKit
def nr_flt (n e:Int):Value:=.iface 71 (.agg #[.int .i64 n,.int .i64 e])
def nr_rd (v0 v1:Value)(CS ST:List (List AV))(n:Int)(T:List (List AV))(cl:Bool):AO:=.box 78 [.sc v0,.sc v1,.ls 3 CS,.ls 1 ST,.sl 1,.sl 2,.sc (.int .i64 n),.ls 1 T,.sc (.bool cl)]
theorem fail_G (v0 v1:Value)(CS ST:List (List AV))(n:Int)(T:List (List AV))(cl:Bool)(e:Int):Ctp truB 0 Tryz.prog 40 [.pt 0 0 0,.sc (.int .i64 e)] [(0,nr_rd v0 v1 CS ST n T cl)] 3 (nr_flt n e):=by
 unfold nr_rd
 refine Ctp.intro truS Tryz.func40 rfl Tryz.ntmps40 (Nat.le_of_ble_eq_true rfl) rfl fun w0 F0 fp pg hB=>?_
 dsimp only [number,Nat.reduceAdd]
 refine zqg16 ?_
 refine WL.vl rfl (WV.mki rfl (fun v w=>by kernel_rfl) rfl rfl) ?_
 refine zqg16 ?_
 refine WL.pan rfl rfl rfl rfl
def nr_nxt (L:List (List UInt8))(cl:Bool)(n:Nat):Bool:=decide (n<L.length) && (cl|| decide (n+1<L.length))
theorem next_G (v0 v1:Value) (CS ST:List (List AV)) (L:List (List UInt8)) (cl:Bool) (n:Nat) (hl:L.length≤1000000) (hn:n≤L.length) :
  Ctu truB 0 Tryz.prog 42 [.pt 0 0 0] [(0,nr_rd v0 v1 CS ST n (L.map eTx) cl)] 3
   (if nr_nxt L cl n=true then .ok (.sc (.string (bs (L.getD n [])))) [(0,nr_rd v0 v1 CS ST ((n:Int)+1) (L.map eTx) cl)] 3 else .er (nr_flt ((n:Int)+1) 4)):=by
 unfold nr_rd
 refine Ctu.intro truS Tryz.func42 rfl Tryz.ntmps42 (Nat.le_of_ble_eq_true rfl) rfl fun w0 F0 fp pg hB=>?_
 dsimp only [number,Nat.reduceAdd]
 by_cases h1:L.length≤n
 ·have e:nr_nxt L cl n=false:=by unfold nr_nxt;rw [decide_eq_false (by omega)];rfl
  rw [e,if_neg (by decide)]
  refine zqg17 ?_
  refine W.drawK zqk zqk ?_
  refine zqg20 ?_
  refine zqg17 ?_
  refine WL.ctp (truH _) [0,1,2] rfl rfl (callF Tryz.func40 rfl rfl) (fail_G _ _ _ _ _ _ _ _) rfl rfl rfl ⟨⟨rfl,rfl,rfl⟩,trivial⟩ ?_
  rfl
 have hat:(L.map eTx)[((n:Int)+1 - 1).toNat]?=some (eTx (L.getD n [])):=by
  rw [show ((n:Int)+1 - 1).toNat=n by omega,List.getElem?_map,List.getD_eq_getElem?_getD,List.getElem?_eq_getElem (by omega)];rfl
 obtain ⟨T,hT⟩:∃ z,L.map eTx=z:=⟨_,rfl⟩
 have hTl:T.length=L.length:=by rw [← hT];exact List.length_map _
 obtain ⟨x,hx⟩:∃ z,L.getD n []=z:=⟨_,rfl⟩
 rw [hT,hx] at hat
 rw [hT,hx]
 by_cases h2:n+1=L.length
 ·cases cl with
  | false =>
   have e:nr_nxt L false n=false:=by unfold nr_nxt;rw [decide_eq_true (by omega),decide_eq_false (by omega)];rfl
   rw [e,if_neg (by decide)]
   refine zqg17 ?_
   refine W.drawK zqk zqk ?_
   refine zqg20 ?_
   refine zqg17 ?_
   refine WL.ctp (truH _) [0,1,2] rfl rfl (callF Tryz.func40 rfl rfl) (fail_G _ _ _ _ _ _ _ _) rfl rfl rfl ⟨⟨rfl,rfl,rfl⟩,trivial⟩ ?_
   rfl
  | true =>
   have e:nr_nxt L true n=true:=by unfold nr_nxt;rw [decide_eq_true (by omega)];rfl
   rw [e,if_pos rfl]
   refine zqg17 ?_
   refine W.drawK zqk zqk ?_
   refine zqg20 ?_
   refine zqg17 ?_
   refine W.drawK zqk zqk ?_
   refine zqg21 ?_
   refine DK.idx rfl rfl zqo hat ?_
   refine zqg21 ?_
   refine zqg17 ?_
   exact W.ret (finM rfl rfl rfl rfl rfl)
 ·have e:nr_nxt L cl n=true:=by unfold nr_nxt;rw [decide_eq_true (show n < L.length by omega),decide_eq_true (show n+1 < L.length by omega)];simp
  rw [e,if_pos rfl]
  refine zqg17 ?_
  refine W.drawK zqk zqk ?_
  refine zqg20 ?_
  refine zqg17 ?_
  refine W.drawK zqk zqk ?_
  refine zqg21 ?_
  refine DK.idx rfl rfl zqo hat ?_
  refine zqg21 ?_
  refine zqg17 ?_
  exact W.ret (finM rfl rfl rfl rfl rfl)
theorem check_G (s:Int) (v0 v1:Value) (cs:List Crs) (ST:List (List AV)) (n:Int) (T:List (List AV)) (cl:Bool) (x:N5) (h1:1≤x.1∧x.1≤100) (h2:x.2.1≤100) (hc:cs.length≤100) (hb:∀ c∈cs,0≤c.2.1∧c.2.1≤1000) :
  Ctu truB 0 Tryz.prog 94 [.pt 0 0 0,.ag (eWr s x)] [(0,nr_rd v0 v1 (cs.map eCrs) ST n T cl)] 3
   (if nr_note cs x=0 then .ok (.tu []) [(0,nr_rd v0 v1 (cs.map eCrs) ST n T cl)] 3 else .er (nr_flt n (nr_note cs x))):=by
 obtain ⟨c,f,r,g,h⟩:=x
 dsimp only at h1 h2
 unfold nr_rd eWr
 refine Ctu.intro truS Tryz.func94 rfl Tryz.ntmps94 (Nat.le_of_ble_eq_true rfl) rfl fun w0 F0 fp pg hB=>?_
 dsimp only [number,Nat.reduceAdd]
 obtain ⟨H,hH⟩:∃ z,rm_hold s h=z:=⟨_,rfl⟩
 rw [hH]
 have hml:(cs.map eCrs).length=cs.length:=List.length_map _
 by_cases hlt:cs.length < c
 ·have e:nr_note cs (c,f,r,g,h)=12:=if_pos hlt
  rw [e,if_neg (by decide)]
  refine zqg18 ?_
  refine WL.ctp (truH _) [0,1,2] rfl rfl (callF Tryz.func40 rfl rfl) (fail_G _ _ _ _ _ _ _ _) rfl rfl rfl ⟨⟨rfl,rfl,rfl⟩,trivial⟩ ?_
  rfl
 have hat:(cs.map eCrs)[((c:Int) - 1).toNat]?=some (eCrs (cs.getD (c - 1) (0,0,false))):=by
  rw [show ((c:Int) - 1).toNat=c - 1 by omega,List.getElem?_map,List.getD_eq_getElem?_getD,List.getElem?_eq_getElem (by omega)];rfl
 have hbc:=hb (cs.getD (c - 1) (0,0,false)) (by rw [List.getD_eq_getElem?_getD,List.getElem?_eq_getElem (by omega)];exact List.getElem_mem _)
 obtain ⟨⟨p,q,o⟩,hpq⟩:∃ z,cs.getD (c - 1) (0,0,false)=z:=⟨_,rfl⟩
 have e:nr_note cs (c,f,r,g,h)=if q < (f:Int) then 13 else 0:=by
  unfold nr_note;dsimp only;rw [if_neg hlt,hpq]
 rw [e]
 rw [hpq] at hat hbc
 dsimp only at hbc
 obtain ⟨R,hR⟩:∃ z,cs.map eCrs=z:=⟨_,rfl⟩
 rw [hR] at hml hat ⊢
 by_cases hf:q < (f:Int)
 ·rw [if_pos hf,if_neg (by decide)]
  refine zqg18 ?_
  refine W.drawK zqk zqk ?_
  repeat (first|refine DK.bt rfl rfl (by omega) ?_|refine DK.bf rfl rfl (by omega) ?_|refine DK.tt rfl (by first|(simp;done)|fail) ?_|refine DK.ff rfl (by first|(simp;done)|fail) ?_|refine DK.st rfl ?_|refine DK.ar rfl rfl (by unfold I64;omega) ?_|refine DK.nil ?_)
  refine DK.idx rfl rfl zqo hat ?_
  repeat (first|refine DK.bt rfl rfl (by omega) ?_|refine DK.bf rfl rfl (by omega) ?_|refine DK.tt rfl (by first|(simp;done)|fail) ?_|refine DK.ff rfl (by first|(simp;done)|fail) ?_|refine DK.st rfl ?_|refine DK.ar rfl rfl (by unfold I64;omega) ?_|refine DK.nil ?_)
  refine zqg18 ?_
  refine WL.ctp (truH _) [0,1,2] rfl rfl (callF Tryz.func40 rfl rfl) (fail_G _ _ _ _ _ _ _ _) rfl rfl rfl ⟨⟨rfl,rfl,rfl⟩,trivial⟩ ?_
  rfl
 ·rw [if_neg hf,if_pos rfl]
  refine zqg18 ?_
  refine W.drawK zqk zqk ?_
  repeat (first|refine DK.bt rfl rfl (by omega) ?_|refine DK.bf rfl rfl (by omega) ?_|refine DK.tt rfl (by first|(simp;done)|fail) ?_|refine DK.ff rfl (by first|(simp;done)|fail) ?_|refine DK.st rfl ?_|refine DK.ar rfl rfl (by unfold I64;omega) ?_|refine DK.nil ?_)
  refine DK.idx rfl rfl zqo hat ?_
  repeat (first|refine DK.bt rfl rfl (by omega) ?_|refine DK.bf rfl rfl (by omega) ?_|refine DK.tt rfl (by first|(simp;done)|fail) ?_|refine DK.ff rfl (by first|(simp;done)|fail) ?_|refine DK.st rfl ?_|refine DK.ar rfl rfl (by unfold I64;omega) ?_|refine DK.nil ?_)
  refine zqg18 ?_
  exact finTrL (σ':=⟨[],[(0,.box 78 [.sc v0,.sc v1,.ls 3 R,.ls 1 ST,.sl 1,.sl 2,.sc (.int .i64 n),.ls 1 T,.sc (.bool cl)])],3⟩) (zqt id) (finMuL rfl rfl rfl rfl rfl)
end
section
open Go.RowKit
def rm_Rk (s:Int) (t:List UInt8):Nat→Int×List UInt8
 | 0=>(0,t)
 | k+1=>if rm_at (okR s ((k+1:Nat):Int)) (rR s ((k+1:Nat):Int)) t=true then (((k+1:Nat):Int),t.drop (rR s ((k+1:Nat):Int)).length) else rm_Rk s t k
def rm_Gk (s:Int) (t:List UInt8):Nat→Int×List UInt8
 | 0=>(0,t)
 | k+1=>if rm_at (okG s ((k+1:Nat):Int)) (rG s ((k+1:Nat):Int)) t=true then (((k+1:Nat):Int),t.drop (rG s ((k+1:Nat):Int)).length) else rm_Gk s t k
theorem rm_R_k(s:Int)(t:List UInt8):rm_Rk s t 3=rm_R s t:=rfl
theorem rm_G_k(s:Int)(t:List UInt8):rm_Gk s t 4=rm_G s t:=rfl
theorem rm_Rk_yes {s:Int} {t:List UInt8}:∀ {k:Nat},okR s k=true→nr_pfx (rR s k) t=true→rm_Rk s t k=((k:Int),t.drop (rR s k).length)
 | 0,_,_=>by
  have e:rR s ((0:Nat):Int)=[]:=by simp [rR]
  rw [e];rfl
 | k+1,h1,h2=>if_pos (by unfold rm_at;rw [h1];exact h2)
theorem rm_Gk_yes {s:Int} {t:List UInt8}:∀ {k:Nat},okG s k=true→nr_pfx (rG s k) t=true→rm_Gk s t k=((k:Int),t.drop (rG s k).length)
 | 0,_,_=>by
  have e:rG s ((0:Nat):Int)=[]:=by simp [rG]
  rw [e];rfl
 | k+1,h1,h2=>if_pos (by unfold rm_at;rw [h1];exact h2)
theorem rm_Rk_no {s:Int} {t:List UInt8}:∀ {k:Nat},(okR s k=false∨nr_pfx (rR s k) t=false)→0<k∧rm_Rk s t (k-1)=rm_Rk s t k
 | 0,h=>by
  have e:rR s ((0:Nat):Int)=[]:=by simp [rR]
  rcases h with h|h
  ·simp [okR] at h
  ·rw [e] at h;simp [nr_pfx] at h
 | k+1,h=>⟨by omega,(if_neg (by
   unfold rm_at
   rcases h with h|h
   ·rw [h];simp
   ·rw [show (rR s ((k+1:Nat):Int)).isPrefixOf t=false from h];simp)).symm⟩
theorem rm_Gk_no {s:Int} {t:List UInt8}:∀ {k:Nat},(okG s k=false∨nr_pfx (rG s k) t=false)→0<k∧rm_Gk s t (k-1)=rm_Gk s t k
 | 0,h=>by
  have e:rG s ((0:Nat):Int)=[]:=by simp [rG]
  rcases h with h|h
  ·simp [okG] at h
  ·rw [e] at h;simp [nr_pfx] at h
 | k+1,h=>⟨by omega,(if_neg (by
   unfold rm_at
   rcases h with h|h
   ·rw [h];simp
   ·rw [show (rG s ((k+1:Nat):Int)).isPrefixOf t=false from h];simp)).symm⟩
def rm_out (s c f:Int) (t:List UInt8):AV :=
 match rm_H s (decide (0<f)) (rm_G s (rm_R s t).2).2 with
 | some h=>.tu [.ag [.sc (.int .i64 c),.sc (.int .i64 f),.sc (.int .i64 (rm_R s t).1),.sc (.int .i64 (rm_G s (rm_R s t).2).1),.sc (.int .i64 0),.sc (.int .i64 h)],.sc (.bool true)]
 | none=>.tu [.ag [.sc (.int .i64 c),.sc (.int .i64 f),.sc (.int .i64 (rm_R s t).1),.sc (.int .i64 (rm_G s (rm_R s t).2).1),.sc (.int .i64 0),.sc (.int .i64 0)],.sc (.bool false)]
theorem nr_cut_end (t:List UInt8) (k:Nat):cut t (k:Int) (t.length:Int)=t.drop k:=by
 unfold cut
 rw [Int.toNat_natCast,Int.toNat_natCast]
 exact List.take_of_length_le (by simp)
theorem nr_itoa_all:((List.range 16).all fun n=>rq_dig3 n == dig2 n)=true:=by decide
theorem nr_itoa {n:Nat} (h:n≤15):Lib.itoa (n:Int)=dig2 n:=by
 rw [rq_dig3_eq (by omega)]
 exact eq_of_beq (List.all_eq_true.1 nr_itoa_all n (List.mem_range.2 zqo))
theorem rm_H_hit {t:List UInt8} {j:Nat} (h0:t≠[])(h1:1≤j∧j≤15)(hn:∀ i,i+1<j→t≠95::dig2 (i+1))(h:t=95::dig2 j):rm_H 1 true t=some (j:Int):=by
 unfold rm_H
 rw [if_neg h0]
 have e:((List.range 15).find? fun n=>true && (decide ((1:Int)=1) && (t == 95::dig2 (n+1))))=some (j-1):=by
  rw [List.find?_range_eq_some]
  refine⟨?_,by simp;omega,fun i hi=>?_⟩
  ·rw [show j-1+1=j by omega,h];simp
  ·have:=hn i zqo
   simp [this]
 rw [e]
 exact congrArg some zqo
theorem rm_H_no {s:Int} {fp:Bool} {t:List UInt8} (h0:t≠[])(hn:fp=false∨s≠1∨∀ i,i<15→t≠95::dig2 (i+1)):rm_H s fp t=if (fp && decide (s=2∨s=4) && (t == [42]))=true then some (-1)else none:=by
 unfold rm_H
 rw [if_neg h0]
 have e:((List.range 15).find? fun n=>fp && (decide (s=1) && (t == 95::dig2 (n+1))))=none:=by
  rw [List.find?_eq_none]
  intro i hi
  have hi:=List.mem_range.1 hi
  rcases hn with h|h|h
  ·simp [h]
  ·simp [h]
  ·simp [h i hi]
 rw [e]
theorem rm_star {s:Int} (hs:1≤s∧s≤4):(okH s 1 1 && (pH s 1 1 == [42]))=decide (s=2∨s=4):=by
 rcases sys_cases hs with rfl|rfl|rfl|rfl<;>decide
theorem marks_G (s:Int) (hs:1≤s∧s≤4) (c f:Int) (t:List UInt8) (ht:t.length≤1000000) :
  Ctg tabN Tryz.prog 221 [.pr [.sc (.int .u8 s),.sc (sysV s)],.ag [.sc (.int .i64 c),.sc (.int .i64 f)],.sc (.string (bs t))] (rm_out s c f t):=by
 unfold rm_out
 refine Ctg.intro stabN Tryz.func221 rfl Tryz.ntmps221 (Nat.le_of_ble_eq_true rfl) (bd_all rfl) fun w0 F0 hB=>?_;dsimp only [St.init,number,Nat.reduceAdd]
 refine zqg19 ?_
 refine W.loop (fun k:Nat=>k≤3∧rm_Rk s t k=rm_R s t) (fun k=>⟨[(0,.pr [.sc (.int .u8 s),.sc (sysV s)]),(2,.sc (.string (bs t))),(4,.pt 0 0 0),(6,.pt 1 0 0),(8,.pt 2 0 0),(9,.sc (.int .i64 (k:Int)))],
  [(0,.box 64 [.sc (.int .i64 c),.sc (.int .i64 f)]),(1,.box 157 [.sc (.int .i64 0),.sc (.int .i64 0),.sc (.int .i64 0),.sc (.int .i64 0),.sc (.int .i64 0),.sc (.int .i64 0)]),(2,.box 157 [.sc (.int .i64 c),.sc (.int .i64 f),.sc (.int .i64 0),.sc (.int .i64 0),.sc (.int .i64 0),.sc (.int .i64 0)])],3⟩) (fun k=>k) 3 ⟨by omega,rm_R_k s t⟩ (zqt id) fun k hk=>?_
 obtain ⟨hk,hR⟩:=hk
 have hmr:=right_FS s hs (k:Int) ⟨by omega,by omega⟩
 have hkk:(0:Int)≤(k:Int):=Int.natCast_nonneg _
 cases hok:okR s (k:Int) with
 | false =>
  obtain ⟨hk0,he⟩:=rm_Rk_no (t:=t) (.inl hok)
  rw [hok] at hmr
  refine zqg19 ?_
  refine WL.vl rfl (WV.sys hs rightF rfl rfl (fun vs w=>by kernel_rfl) (fun vs w=>by kernel_rfl) (fun vs w=>by kernel_rfl) (fun vs w=>by kernel_rfl) rfl rfl hmr) ?_
  refine zqg19 ?_
  refine ⟨k - 1,⟨by omega,he.trans hR⟩,by omega,?_⟩
  rw [show (k:Int) - 1=((k - 1:Nat):Int) by omega]
  exact (zqt id)
 | true =>
  rw [hok] at hmr
  have hp:=pfx_FS t (rR s (k:Int))
  cases hpf:nr_pfx (rR s (k:Int)) t with
  | false =>
   obtain ⟨hk0,he⟩:=rm_Rk_no (t:=t) (.inr hpf)
   rw [hpf] at hp
   refine zqg19 ?_
   refine WL.vl rfl (WV.sys hs rightF rfl rfl (fun vs w=>by kernel_rfl) (fun vs w=>by kernel_rfl) (fun vs w=>by kernel_rfl) (fun vs w=>by kernel_rfl) rfl rfl hmr) ?_
   refine zqg19 ?_
   refine WL.vl rfl (zqc Tryz.func256 hp) ?_
   refine zqg19 ?_
   refine ⟨k - 1,⟨by omega,he.trans hR⟩,by omega,?_⟩
   rw [show (k:Int) - 1=((k - 1:Nat):Int) by omega]
   exact (zqt id)
  | true =>
   have he:=(rm_Rk_yes hok hpf).symm.trans hR
   rw [hpf] at hp
   rw [← he]
   dsimp only
   have hle:(rR s (k:Int)).length≤t.length:=(List.isPrefixOf_iff_prefix.1 hpf).length_le
   have hcb:0≤((rR s (k:Int)).length:Int)∧((rR s (k:Int)).length:Int)≤(t.length:Int)∧(t.length:Int)≤(t.length:Int):=by omega
   have hcc:=nr_cut_end t (rR s (k:Int)).length
   obtain ⟨t1,ht1⟩:∃ z,t.drop (rR s (k:Int)).length=z:=⟨_,rfl⟩
   have hl1:t1.length≤1000000:=by rw [← ht1];simp;omega
   rw [ht1] at hcc ⊢
   refine zqg19 ?_
   refine WL.vl rfl (WV.sys hs rightF rfl rfl (fun vs w=>by kernel_rfl) (fun vs w=>by kernel_rfl) (fun vs w=>by kernel_rfl) (fun vs w=>by kernel_rfl) rfl rfl hmr) ?_
   refine zqg19 ?_
   refine WL.vl rfl (zqc Tryz.func256 hp) ?_
   refine zqg19 ?_
   refine W.drawT 8 zqk zqk zqk ?_
   refine WA.dt [false,false,false,false,false,false,false,true] [] [] 7 zqk zqk zqk trivial trivial ?_
   refine DTK.v0 rfl (stepV_of rfl rfl) ?_
   refine DTK.v0 rfl (stepV_of rfl rfl) ?_
   refine DTK.v0 rfl (stepV_of rfl rfl) ?_
   refine DTK.v0 rfl (lenV_of rfl) ?_
   refine DTK.v0 rfl (cutV_of rfl hcb) ?_
   rw [hcc]
   refine DTK.v0 rfl (stepV_of rfl rfl) ?_
   refine DTK.v0 rfl (stepV_of rfl rfl) ?_
   refine DTK.sto rfl rfl rfl rfl rfl rfl rfl rfl rfl rfl rfl rfl rfl rfl trivial (fun h=>by cases h) ?_
   refine DTK.nil ?_
   refine ⟨rfl,?_⟩
   refine (?_:WL _ _ _ _ _ _)
   refine zqg19 ?_
   refine W.loop (fun g:Nat=>g≤4∧rm_Gk s t1 g=rm_G s t1) (fun g=>⟨[(2,.sc (.string (bs t1))),(12,.sc (.int .i64 (g:Int))),(0,.pr [.sc (.int .u8 s),.sc (sysV s)]),(4,.pt 0 0 0),(6,.pt 1 0 0),(8,.pt 2 0 0)],[(0,.box 64 [.sc (.int .i64 c),.sc (.int .i64 f)]),(1,.box 157 [.sc (.int .i64 0),.sc (.int .i64 0),.sc (.int .i64 0),.sc (.int .i64 0),.sc (.int .i64 0),.sc (.int .i64 0)]),(2,.box 157 [.sc (.int .i64 c),.sc (.int .i64 f),.sc (.int .i64 k),.sc (.int .i64 0),.sc (.int .i64 0),.sc (.int .i64 0)])],3⟩) (fun g=>g) 4 ⟨by omega,rm_G_k s t1⟩ (zqt id) fun g hg=>?_
   obtain ⟨hg,hG⟩:=hg
   have hmg:=grace_FS s hs (g:Int) ⟨by omega,by omega⟩
   have hgg:(0:Int)≤(g:Int):=Int.natCast_nonneg _
   cases hokg:okG s (g:Int) with
   | false =>
    obtain ⟨hk0,he⟩:=rm_Gk_no (t:=t1) (.inl hokg)
    rw [hokg] at hmg
    refine zqg19 ?_
    refine WL.vl rfl (WV.sys hs graceF rfl rfl (fun vs w=>by kernel_rfl) (fun vs w=>by kernel_rfl) (fun vs w=>by kernel_rfl) (fun vs w=>by kernel_rfl) rfl rfl hmg) ?_
    refine zqg19 ?_
    refine ⟨g - 1,⟨by omega,he.trans hG⟩,by omega,?_⟩
    rw [show (g:Int) - 1=((g - 1:Nat):Int) by omega]
    exact (zqt id)
   | true =>
    rw [hokg] at hmg
    have hpg:=pfx_FS t1 (rG s (g:Int))
    cases hpfg:nr_pfx (rG s (g:Int)) t1 with
    | false =>
     obtain ⟨hk0,he⟩:=rm_Gk_no (t:=t1) (.inr hpfg)
     rw [hpfg] at hpg
     refine zqg19 ?_
     refine WL.vl rfl (WV.sys hs graceF rfl rfl (fun vs w=>by kernel_rfl) (fun vs w=>by kernel_rfl) (fun vs w=>by kernel_rfl) (fun vs w=>by kernel_rfl) rfl rfl hmg) ?_
     refine zqg19 ?_
     refine WL.vl rfl (zqc Tryz.func256 hpg) ?_
     refine zqg19 ?_
     refine ⟨g - 1,⟨by omega,he.trans hG⟩,by omega,?_⟩
     rw [show (g:Int) - 1=((g - 1:Nat):Int) by omega]
     exact (zqt id)
    | true =>
     have he2:=(rm_Gk_yes hokg hpfg).symm.trans hG
     rw [hpfg] at hpg
     rw [← he2]
     dsimp only
     have hleg:(rG s (g:Int)).length≤t1.length:=(List.isPrefixOf_iff_prefix.1 hpfg).length_le
     have hcbg:0≤((rG s (g:Int)).length:Int)∧((rG s (g:Int)).length:Int)≤(t1.length:Int)∧(t1.length:Int)≤(t1.length:Int):=by omega
     have hccg:=nr_cut_end t1 (rG s (g:Int)).length
     obtain ⟨t2,ht2⟩:∃ z,t1.drop (rG s (g:Int)).length=z:=⟨_,rfl⟩
     have hl2:t2.length≤1000000:=by rw [← ht2];simp;omega
     rw [ht2] at hccg ⊢
     refine zqg19 ?_
     refine WL.vl rfl (WV.sys hs graceF rfl rfl (fun vs w=>by kernel_rfl) (fun vs w=>by kernel_rfl) (fun vs w=>by kernel_rfl) (fun vs w=>by kernel_rfl) rfl rfl hmg) ?_
     refine zqg19 ?_
     refine WL.vl rfl (zqc Tryz.func256 hpg) ?_
     refine zqg19 ?_
     refine W.drawT 8 zqk zqk zqk ?_
     refine WA.dt [false,false,false,false,false,false,false,true] [] [] 7 zqk zqk zqk trivial trivial ?_
     refine DTK.v0 rfl (stepV_of rfl rfl) ?_
     refine DTK.v0 rfl (stepV_of rfl rfl) ?_
     refine DTK.v0 rfl (stepV_of rfl rfl) ?_
     refine DTK.v0 rfl (lenV_of rfl) ?_
     refine DTK.v0 rfl (cutV_of rfl hcbg) ?_
     rw [hccg]
     refine DTK.v0 rfl (stepV_of rfl rfl) ?_
     refine DTK.v0 rfl (stepV_of rfl rfl) ?_
     refine DTK.sto rfl rfl rfl rfl rfl rfl rfl rfl rfl rfl rfl rfl rfl rfl trivial (fun h=>by cases h) ?_
     refine DTK.nil ?_
     refine ⟨rfl,?_⟩
     refine (?_:WL _ _ _ _ _ _)
     by_cases h0:t2=[]
     ·have hb0:(t2 == ([]:List UInt8))=true:=by rw [h0];rfl
      have hH:rm_H s (decide (0 < f)) t2=some 0:=by unfold rm_H;rw [if_pos h0]
      rw [hH]
      refine zqg19 ?_
      rw [hb0]
      refine zqg19 ?_
      exact W.ret (finN rfl rfl rfl rfl)
     have hb0:(t2 == ([]:List UInt8))=false:=by simpa using h0
     have hhd:=hold_FS s hs 1 1 ⟨by omega,by omega⟩
     have hst:=rm_star hs
     by_cases hf:0 < f
     rotate_left
     ·have hd:decide (0 < f)=false:=decide_eq_false hf
      have hH:rm_H s (decide (0 < f)) t2=none:=by rw [rm_H_no h0 (.inl hd),hd];rfl
      rw [hH]
      refine zqg19 ?_
      rw [hb0]
      refine zqg19 ?_
      refine W.loop (fun _:Unit=>True) (fun _=>⟨[(0,.pr [.sc (.int .u8 s),.sc (sysV s)]),(2,.sc (.string (bs t2))),(4,.pt 0 0 0),(6,.pt 1 0 0),(8,.pt 2 0 0),(15,.sc (.int .i64 1))],[(0,.box 64 [.sc (.int .i64 c),.sc (.int .i64 f)]),(1,.box 157 [.sc (.int .i64 0),.sc (.int .i64 0),.sc (.int .i64 0),.sc (.int .i64 0),.sc (.int .i64 0),.sc (.int .i64 0)]),(2,.box 157 [.sc (.int .i64 c),.sc (.int .i64 f),.sc (.int .i64 k),.sc (.int .i64 g),.sc (.int .i64 0),.sc (.int .i64 0)])],3⟩) (fun _=>0) () trivial (zqt id) fun _ _=>?_
      refine zqg19 ?_
      cases hok1:okH s 1 1 with
      | false =>
       rw [hok1] at hhd hst
       refine WL.vl rfl (WV.sys hs holdF rfl rfl (fun vs w=>by kernel_rfl) (fun vs w=>by kernel_rfl) (fun vs w=>by kernel_rfl) (fun vs w=>by kernel_rfl) rfl rfl hhd) ?_
       refine zqg19 ?_
       exact W.ret (finN rfl rfl rfl rfl)
      | true =>
       rw [hok1] at hhd hst
       obtain ⟨p,hp1⟩:∃ z,pH s 1 1=z:=⟨_,rfl⟩
       rw [hp1] at hhd hst
       cases hb1:(p == ([42]:List UInt8)) with
       | false =>
        rw [hb1] at hst
        refine WL.vl rfl (WV.sys hs holdF rfl rfl (fun vs w=>by kernel_rfl) (fun vs w=>by kernel_rfl) (fun vs w=>by kernel_rfl) (fun vs w=>by kernel_rfl) rfl rfl hhd) ?_
        refine zqg19 ?_
        rw [hb1]
        refine zqg19 ?_
        exact W.ret (finN rfl rfl rfl rfl)
       | true =>
        have hpe:p=[42]:=eq_of_beq hb1
        rw [hb1] at hst
        cases hb2:(t2 == p) with
        | false =>
         have hb3:(t2 == ([42]:List UInt8))=false:=by rw [← hpe];exact hb2
         refine WL.vl rfl (WV.sys hs holdF rfl rfl (fun vs w=>by kernel_rfl) (fun vs w=>by kernel_rfl) (fun vs w=>by kernel_rfl) (fun vs w=>by kernel_rfl) rfl rfl hhd) ?_
         refine zqg19 ?_
         rw [hb1]
         refine zqg19 ?_
         rw [hb2]
         refine zqg19 ?_
         exact W.ret (finN rfl rfl rfl rfl)
        | true =>
         have hb3:(t2 == ([42]:List UInt8))=true:=by rw [← hpe];exact hb2
         refine WL.vl rfl (WV.sys hs holdF rfl rfl (fun vs w=>by kernel_rfl) (fun vs w=>by kernel_rfl) (fun vs w=>by kernel_rfl) (fun vs w=>by kernel_rfl) rfl rfl hhd) ?_
         refine zqg19 ?_
         rw [hb1]
         refine zqg19 ?_
         rw [hb2]
         refine zqg19 ?_
         exact W.ret (finN rfl rfl rfl rfl)
     refine zqg19 ?_
     rw [hb0]
     refine zqg19 ?_
     have hd:decide (0 < f)=true:=decide_eq_true hf
     refine W.loop (fun j:Nat=>(1≤j∧j≤16)∧∀ i,i+1 < j→s=1→t2≠95::dig2 (i+1)) (fun j=>⟨[(0,.pr [.sc (.int .u8 s),.sc (sysV s)]),(2,.sc (.string (bs t2))),(4,.pt 0 0 0),(6,.pt 1 0 0),(8,.pt 2 0 0),(15,.sc (.int .i64 (j:Int)))],[(0,.box 64 [.sc (.int .i64 c),.sc (.int .i64 f)]),(1,.box 157 [.sc (.int .i64 0),.sc (.int .i64 0),.sc (.int .i64 0),.sc (.int .i64 0),.sc (.int .i64 0),.sc (.int .i64 0)]),(2,.box 157 [.sc (.int .i64 c),.sc (.int .i64 f),.sc (.int .i64 k),.sc (.int .i64 g),.sc (.int .i64 0),.sc (.int .i64 0)])],3⟩) (fun j=>16 - j) 1 ⟨by omega,fun i h=>absurd h zqo⟩ (zqt id) fun j hj=>?_
     obtain ⟨hj1,hnj⟩:=hj
     by_cases hlt:j≤15
     rotate_left
     ·obtain rfl:j=16:=by omega
      have hno:=rm_H_no (s:=s) (fp:=decide (0 < f)) (t:=t2) h0 (by
       by_cases e:s=1
       ·exact .inr (.inr fun i hi=>hnj i zqo e)
       ·exact .inr (.inl e))
      refine zqg19 ?_
      cases hok1:okH s 1 1 with
      | false =>
       rw [hok1] at hhd hst
       have hz:decide (s=2∨s=4)=false:=hst.symm
       have hH:rm_H s (decide (0 < f)) t2=none:=by
        rw [hno,hd,hz];rfl
       rw [hH]
       refine WL.vl rfl (WV.sys hs holdF rfl rfl (fun vs w=>by kernel_rfl) (fun vs w=>by kernel_rfl) (fun vs w=>by kernel_rfl) (fun vs w=>by kernel_rfl) rfl rfl hhd) ?_
       refine zqg19 ?_
       exact W.ret (finN rfl rfl rfl rfl)
      | true =>
       rw [hok1] at hhd hst
       obtain ⟨p,hp1⟩:∃ z,pH s 1 1=z:=⟨_,rfl⟩
       rw [hp1] at hhd hst
       cases hb1:(p == ([42]:List UInt8)) with
       | false =>
        rw [hb1] at hst
        have hz:decide (s=2∨s=4)=false:=hst.symm
        have hH:rm_H s (decide (0 < f)) t2=none:=by
         rw [hno,hd,hz];rfl
        rw [hH]
        refine WL.vl rfl (WV.sys hs holdF rfl rfl (fun vs w=>by kernel_rfl) (fun vs w=>by kernel_rfl) (fun vs w=>by kernel_rfl) (fun vs w=>by kernel_rfl) rfl rfl hhd) ?_
        refine zqg19 ?_
        rw [hb1]
        refine zqg19 ?_
        exact W.ret (finN rfl rfl rfl rfl)
       | true =>
        have hpe:p=[42]:=eq_of_beq hb1
        rw [hb1] at hst
        cases hb2:(t2 == p) with
        | false =>
         have hb3:(t2 == ([42]:List UInt8))=false:=by rw [← hpe];exact hb2
         have hz:decide (s=2∨s=4)=true:=hst.symm
         have hH:rm_H s (decide (0 < f)) t2=none:=by
          rw [hno,hd,hz,hb3];rfl
         rw [hH]
         refine WL.vl rfl (WV.sys hs holdF rfl rfl (fun vs w=>by kernel_rfl) (fun vs w=>by kernel_rfl) (fun vs w=>by kernel_rfl) (fun vs w=>by kernel_rfl) rfl rfl hhd) ?_
         refine zqg19 ?_
         rw [hb1]
         refine zqg19 ?_
         rw [hb2]
         refine zqg19 ?_
         exact W.ret (finN rfl rfl rfl rfl)
        | true =>
         have hb3:(t2 == ([42]:List UInt8))=true:=by rw [← hpe];exact hb2
         have hz:decide (s=2∨s=4)=true:=hst.symm
         have hH:rm_H s (decide (0 < f)) t2=some (-1):=by
          rw [hno,hd,hz,hb3];rfl
         rw [hH]
         refine WL.vl rfl (WV.sys hs holdF rfl rfl (fun vs w=>by kernel_rfl) (fun vs w=>by kernel_rfl) (fun vs w=>by kernel_rfl) (fun vs w=>by kernel_rfl) rfl rfl hhd) ?_
         refine zqg19 ?_
         rw [hb1]
         refine zqg19 ?_
         rw [hb2]
         refine zqg19 ?_
         exact W.ret (finN rfl rfl rfl rfl)
     by_cases s1:s=1
     rotate_left
     ·have hsd:decide (s=1)=false:=decide_eq_false s1
      refine zqg19 ?_
      refine ⟨j+1,⟨by omega,fun i hi e=>absurd e s1⟩,by omega,?_⟩
      exact (zqt id)
     have hsd:decide (s=1)=true:=decide_eq_true s1
     have hIt:=itoaN_G (j:Int) (by unfold I64;omega)
     rw [nr_itoa hlt] at hIt
     have hdl:(dig2 j).length≤2:=by unfold dig2;split<;>simp
     cases hbm:(t2 == [95]++dig2 j) with
     | false =>
      refine zqg19 ?_
      refine WL.vl rfl (WV.callG hB rfl (callF Tryz.func108 rfl rfl) rfl rfl hIt) ?_
      refine zqg19 ?_
      rw [hbm]
      refine zqg19 ?_
      refine ⟨j+1,⟨by omega,fun i hi e=>?_⟩,by omega,(zqt id)⟩
      by_cases e2:i+1=j
      ·subst e2
       simpa using hbm
      ·exact hnj i zqo e
     | true =>
      have hH:rm_H s (decide (0 < f)) t2=some (j:Int):=by
       rw [hd,s1]
       exact rm_H_hit h0 ⟨hj1.1,hlt⟩ (fun i hi=>hnj i hi s1) (by simpa using eq_of_beq hbm)
      rw [hH]
      refine zqg19 ?_
      refine WL.vl rfl (WV.callG hB rfl (callF Tryz.func108 rfl rfl) rfl rfl hIt) ?_
      refine zqg19 ?_
      rw [hbm]
      refine zqg19 ?_
      exact W.ret (finN rfl rfl rfl rfl)
end
end Go.Proofs.YthehkchjdkdbiaaGreatDoor
