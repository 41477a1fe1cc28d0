/- The reader of the program: a cell. -/
import Derived.Test.YthehkchjdkdbiaaGreatDoorNrDGq
import Derived.Test.YthehkchjdkdbiaaGreatDoorGXGq
set_option maxHeartbeats 8000000
set_option maxRecDepth 100000
set_option linter.unusedVariables false
set_option linter.unusedSimpArgs false
namespace Go.Proofs.YthehkchjdkdbiaaGreatDoor
section
open Go.RowKit
def rm_Rk (s:Int) (t:List UInt8):Nat→Int×List UInt8
 | 0=>(0,t)
 | k+1=>if rm_at (okR s ((k+1:Nat):Int)) (rR s ((k+1:Nat):Int)) t=true then (((k+1:Nat):Int),t.drop (rR s ((k+1:Nat):Int)).length) else rm_Rk s t k
def rm_Gk (s:Int) (t:List UInt8):Nat→Int×List UInt8
 | 0=>(0,t)
 | k+1=>if rm_at (okG s ((k+1:Nat):Int)) (rG s ((k+1:Nat):Int)) t=true then (((k+1:Nat):Int),t.drop (rG s ((k+1:Nat):Int)).length) else rm_Gk s t k
theorem rm_R_k(s:Int)(t:List UInt8):rm_Rk s t 3=rm_R s t:=rfl
theorem rm_G_k(s:Int)(t:List UInt8):rm_Gk s t 4=rm_G s t:=rfl
theorem rm_Rk_yes {s:Int} {t:List UInt8}:∀ {k:Nat},okR s k=true→nr_pfx (rR s k) t=true→rm_Rk s t k=((k:Int),t.drop (rR s k).length)
 | 0,_,_=>by
  have e:rR s ((0:Nat):Int)=[]:=by simp [rR]
  rw [e];rfl
 | k+1,h1,h2=>if_pos (by unfold rm_at;rw [h1];exact h2)
theorem rm_Gk_yes {s:Int} {t:List UInt8}:∀ {k:Nat},okG s k=true→nr_pfx (rG s k) t=true→rm_Gk s t k=((k:Int),t.drop (rG s k).length)
 | 0,_,_=>by
  have e:rG s ((0:Nat):Int)=[]:=by simp [rG]
  rw [e];rfl
 | k+1,h1,h2=>if_pos (by unfold rm_at;rw [h1];exact h2)
theorem rm_Rk_no {s:Int} {t:List UInt8}:∀ {k:Nat},(okR s k=false∨nr_pfx (rR s k) t=false)→0<k∧rm_Rk s t (k-1)=rm_Rk s t k
 | 0,h=>by
  have e:rR s ((0:Nat):Int)=[]:=by simp [rR]
  rcases h with h|h
  ·simp [okR] at h
  ·rw [e] at h;simp [nr_pfx] at h
 | k+1,h=>⟨by omega,(if_neg (by
   unfold rm_at
   rcases h with h|h
   ·rw [h];simp
   ·rw [show (rR s ((k+1:Nat):Int)).isPrefixOf t=false from h];simp)).symm⟩
theorem rm_Gk_no {s:Int} {t:List UInt8}:∀ {k:Nat},(okG s k=false∨nr_pfx (rG s k) t=false)→0<k∧rm_Gk s t (k-1)=rm_Gk s t k
 | 0,h=>by
  have e:rG s ((0:Nat):Int)=[]:=by simp [rG]
  rcases h with h|h
  ·simp [okG] at h
  ·rw [e] at h;simp [nr_pfx] at h
 | k+1,h=>⟨by omega,(if_neg (by
   unfold rm_at
   rcases h with h|h
   ·rw [h];simp
   ·rw [show (rG s ((k+1:Nat):Int)).isPrefixOf t=false from h];simp)).symm⟩
def rm_out (s c f:Int) (t:List UInt8):AV :=
 match rm_H s (decide (0<f)) (rm_G s (rm_R s t).2).2 with
 | some h=>.tu [.ag [.sc (.int .i64 c),.sc (.int .i64 f),.sc (.int .i64 (rm_R s t).1),.sc (.int .i64 (rm_G s (rm_R s t).2).1),.sc (.int .i64 0),.sc (.int .i64 h)],.sc (.bool true)]
 | none=>.tu [.ag [.sc (.int .i64 c),.sc (.int .i64 f),.sc (.int .i64 (rm_R s t).1),.sc (.int .i64 (rm_G s (rm_R s t).2).1),.sc (.int .i64 0),.sc (.int .i64 0)],.sc (.bool false)]
theorem nr_cut_end (t:List UInt8) (k:Nat):cut t (k:Int) (t.length:Int)=t.drop k:=by
 unfold cut
 rw [Int.toNat_natCast,Int.toNat_natCast]
 exact List.take_of_length_le (by simp)
theorem nr_itoa_all:((List.range 16).all fun n=>rq_dig3 n == dig2 n)=true:=by decide
theorem nr_itoa {n:Nat} (h:n≤15):Lib.itoa (n:Int)=dig2 n:=by
 rw [rq_dig3_eq (by omega)]
 exact eq_of_beq (List.all_eq_true.1 nr_itoa_all n (List.mem_range.2 zqo))
theorem rm_H_hit {t:List UInt8} {j:Nat} (h0:t≠[])(h1:1≤j∧j≤15)(hn:∀ i,i+1<j→t≠95::dig2 (i+1))(h:t=95::dig2 j):rm_H 1 true t=some (j:Int):=by
 unfold rm_H
 rw [if_neg h0]
 have e:((List.range 15).find? fun n=>true && (decide ((1:Int)=1) && (t == 95::dig2 (n+1))))=some (j-1):=by
  rw [List.find?_range_eq_some]
  refine⟨?_,by simp;omega,fun i hi=>?_⟩
  ·rw [show j-1+1=j by omega,h];simp
  ·have:=hn i zqo
   simp [this]
 rw [e]
 exact congrArg some zqo
theorem rm_H_no {s:Int} {fp:Bool} {t:List UInt8} (h0:t≠[])(hn:fp=false∨s≠1∨∀ i,i<15→t≠95::dig2 (i+1)):rm_H s fp t=if (fp && decide (s=2∨s=4) && (t == [42]))=true then some (-1)else none:=by
 unfold rm_H
 rw [if_neg h0]
 have e:((List.range 15).find? fun n=>fp && (decide (s=1) && (t == 95::dig2 (n+1))))=none:=by
  rw [List.find?_eq_none]
  intro i hi
  have hi:=List.mem_range.1 hi
  rcases hn with h|h|h
  ·simp [h]
  ·simp [h]
  ·simp [h i hi]
 rw [e]
theorem rm_star {s:Int} (hs:1≤s∧s≤4):(okH s 1 1 && (pH s 1 1 == [42]))=decide (s=2∨s=4):=by
 rcases sys_cases hs with rfl|rfl|rfl|rfl<;>decide
theorem marks_G (s:Int) (hs:1≤s∧s≤4) (c f:Int) (t:List UInt8) (ht:t.length≤1000000) :
  Ctg tabN Tryz.prog 221 [.pr [.sc (.int .u8 s),.sc (sysV s)],.ag [.sc (.int .i64 c),.sc (.int .i64 f)],.sc (.string (bs t))] (rm_out s c f t):=by
 unfold rm_out
 refine Ctg.intro stabN Tryz.func221 rfl Tryz.ntmps221 (Nat.le_of_ble_eq_true rfl) (bd_all rfl) fun w0 F0 hB=>?_;dsimp only [St.init,number,Nat.reduceAdd]
 refine zqg30 ?_
 refine W.loop (fun k:Nat=>k≤3∧rm_Rk s t k=rm_R s t) (fun k=>⟨[(0,.pr [.sc (.int .u8 s),.sc (sysV s)]),(2,.sc (.string (bs t))),(4,.pt 0 0 0),(6,.pt 1 0 0),(8,.pt 2 0 0),(9,.sc (.int .i64 (k:Int)))],
  [(0,.box 64 [.sc (.int .i64 c),.sc (.int .i64 f)]),(1,.box 157 [.sc (.int .i64 0),.sc (.int .i64 0),.sc (.int .i64 0),.sc (.int .i64 0),.sc (.int .i64 0),.sc (.int .i64 0)]),(2,.box 157 [.sc (.int .i64 c),.sc (.int .i64 f),.sc (.int .i64 0),.sc (.int .i64 0),.sc (.int .i64 0),.sc (.int .i64 0)])],3⟩) (fun k=>k) 3 ⟨by omega,rm_R_k s t⟩ (zqt id) fun k hk=>?_
 obtain ⟨hk,hR⟩:=hk
 have hmr:=right_FS s hs (k:Int) ⟨by omega,by omega⟩
 have hkk:(0:Int)≤(k:Int):=Int.natCast_nonneg _
 cases hok:okR s (k:Int) with
 | false =>
  obtain ⟨hk0,he⟩:=rm_Rk_no (t:=t) (.inl hok)
  rw [hok] at hmr
  refine zqg30 ?_
  refine WL.vl rfl (WV.sys hs rightF rfl rfl (fun vs w=>by kernel_rfl) (fun vs w=>by kernel_rfl) (fun vs w=>by kernel_rfl) (fun vs w=>by kernel_rfl) rfl rfl hmr) ?_
  refine zqg30 ?_
  refine ⟨k - 1,⟨by omega,he.trans hR⟩,by omega,?_⟩
  rw [show (k:Int) - 1=((k - 1:Nat):Int) by omega]
  exact (zqt id)
 | true =>
  rw [hok] at hmr
  have hp:=pfx_FS t (rR s (k:Int))
  cases hpf:nr_pfx (rR s (k:Int)) t with
  | false =>
   obtain ⟨hk0,he⟩:=rm_Rk_no (t:=t) (.inr hpf)
   rw [hpf] at hp
   refine zqg30 ?_
   refine WL.vl rfl (WV.sys hs rightF rfl rfl (fun vs w=>by kernel_rfl) (fun vs w=>by kernel_rfl) (fun vs w=>by kernel_rfl) (fun vs w=>by kernel_rfl) rfl rfl hmr) ?_
   refine zqg30 ?_
   refine WL.vl rfl (zqc Tryz.func256 hp) ?_
   refine zqg30 ?_
   refine ⟨k - 1,⟨by omega,he.trans hR⟩,by omega,?_⟩
   rw [show (k:Int) - 1=((k - 1:Nat):Int) by omega]
   exact (zqt id)
  | true =>
   have he:=(rm_Rk_yes hok hpf).symm.trans hR
   rw [hpf] at hp
   rw [← he]
   dsimp only
   have hle:(rR s (k:Int)).length≤t.length:=(List.isPrefixOf_iff_prefix.1 hpf).length_le
   have hcb:0≤((rR s (k:Int)).length:Int)∧((rR s (k:Int)).length:Int)≤(t.length:Int)∧(t.length:Int)≤(t.length:Int):=by omega
   have hcc:=nr_cut_end t (rR s (k:Int)).length
   obtain ⟨t1,ht1⟩:∃ z,t.drop (rR s (k:Int)).length=z:=⟨_,rfl⟩
   have hl1:t1.length≤1000000:=by rw [← ht1];simp;omega
   rw [ht1] at hcc ⊢
   refine zqg30 ?_
   refine WL.vl rfl (WV.sys hs rightF rfl rfl (fun vs w=>by kernel_rfl) (fun vs w=>by kernel_rfl) (fun vs w=>by kernel_rfl) (fun vs w=>by kernel_rfl) rfl rfl hmr) ?_
   refine zqg30 ?_
   refine WL.vl rfl (zqc Tryz.func256 hp) ?_
   refine zqg30 ?_
   refine W.drawT 8 zqk zqk zqk ?_
   refine WA.dt [false,false,false,false,false,false,false,true] [] [] 7 zqk zqk zqk trivial trivial ?_
   refine DTK.v0 rfl (stepV_of rfl rfl) ?_
   refine DTK.v0 rfl (stepV_of rfl rfl) ?_
   refine DTK.v0 rfl (stepV_of rfl rfl) ?_
   refine DTK.v0 rfl (lenV_of rfl) ?_
   refine DTK.v0 rfl (cutV_of rfl hcb) ?_
   rw [hcc]
   refine DTK.v0 rfl (stepV_of rfl rfl) ?_
   refine DTK.v0 rfl (stepV_of rfl rfl) ?_
   refine DTK.sto rfl rfl rfl rfl rfl rfl rfl rfl rfl rfl rfl rfl rfl rfl trivial (fun h=>by cases h) ?_
   refine DTK.nil ?_
   refine ⟨rfl,?_⟩
   refine (?_:WL _ _ _ _ _ _)
   refine zqg30 ?_
   refine W.loop (fun g:Nat=>g≤4∧rm_Gk s t1 g=rm_G s t1) (fun g=>⟨[(2,.sc (.string (bs t1))),(12,.sc (.int .i64 (g:Int))),(0,.pr [.sc (.int .u8 s),.sc (sysV s)]),(4,.pt 0 0 0),(6,.pt 1 0 0),(8,.pt 2 0 0)],[(0,.box 64 [.sc (.int .i64 c),.sc (.int .i64 f)]),(1,.box 157 [.sc (.int .i64 0),.sc (.int .i64 0),.sc (.int .i64 0),.sc (.int .i64 0),.sc (.int .i64 0),.sc (.int .i64 0)]),(2,.box 157 [.sc (.int .i64 c),.sc (.int .i64 f),.sc (.int .i64 k),.sc (.int .i64 0),.sc (.int .i64 0),.sc (.int .i64 0)])],3⟩) (fun g=>g) 4 ⟨by omega,rm_G_k s t1⟩ (zqt id) fun g hg=>?_
   obtain ⟨hg,hG⟩:=hg
   have hmg:=grace_FS s hs (g:Int) ⟨by omega,by omega⟩
   have hgg:(0:Int)≤(g:Int):=Int.natCast_nonneg _
   cases hokg:okG s (g:Int) with
   | false =>
    obtain ⟨hk0,he⟩:=rm_Gk_no (t:=t1) (.inl hokg)
    rw [hokg] at hmg
    refine zqg30 ?_
    refine WL.vl rfl (WV.sys hs graceF rfl rfl (fun vs w=>by kernel_rfl) (fun vs w=>by kernel_rfl) (fun vs w=>by kernel_rfl) (fun vs w=>by kernel_rfl) rfl rfl hmg) ?_
    refine zqg30 ?_
    refine ⟨g - 1,⟨by omega,he.trans hG⟩,by omega,?_⟩
    rw [show (g:Int) - 1=((g - 1:Nat):Int) by omega]
    exact (zqt id)
   | true =>
    rw [hokg] at hmg
    have hpg:=pfx_FS t1 (rG s (g:Int))
    cases hpfg:nr_pfx (rG s (g:Int)) t1 with
    | false =>
     obtain ⟨hk0,he⟩:=rm_Gk_no (t:=t1) (.inr hpfg)
     rw [hpfg] at hpg
     refine zqg30 ?_
     refine WL.vl rfl (WV.sys hs graceF rfl rfl (fun vs w=>by kernel_rfl) (fun vs w=>by kernel_rfl) (fun vs w=>by kernel_rfl) (fun vs w=>by kernel_rfl) rfl rfl hmg) ?_
     refine zqg30 ?_
     refine WL.vl rfl (zqc Tryz.func256 hpg) ?_
     refine zqg30 ?_
     refine ⟨g - 1,⟨by omega,he.trans hG⟩,by omega,?_⟩
     rw [show (g:Int) - 1=((g - 1:Nat):Int) by omega]
     exact (zqt id)
    | true =>
     have he2:=(rm_Gk_yes hokg hpfg).symm.trans hG
     rw [hpfg] at hpg
     rw [← he2]
     dsimp only
     have hleg:(rG s (g:Int)).length≤t1.length:=(List.isPrefixOf_iff_prefix.1 hpfg).length_le
     have hcbg:0≤((rG s (g:Int)).length:Int)∧((rG s (g:Int)).length:Int)≤(t1.length:Int)∧(t1.length:Int)≤(t1.length:Int):=by omega
     have hccg:=nr_cut_end t1 (rG s (g:Int)).length
     obtain ⟨t2,ht2⟩:∃ z,t1.drop (rG s (g:Int)).length=z:=⟨_,rfl⟩
     have hl2:t2.length≤1000000:=by rw [← ht2];simp;omega
     rw [ht2] at hccg ⊢
     refine zqg30 ?_
     refine WL.vl rfl (WV.sys hs graceF rfl rfl (fun vs w=>by kernel_rfl) (fun vs w=>by kernel_rfl) (fun vs w=>by kernel_rfl) (fun vs w=>by kernel_rfl) rfl rfl hmg) ?_
     refine zqg30 ?_
     refine WL.vl rfl (zqc Tryz.func256 hpg) ?_
     refine zqg30 ?_
     refine W.drawT 8 zqk zqk zqk ?_
     refine WA.dt [false,false,false,false,false,false,false,true] [] [] 7 zqk zqk zqk trivial trivial ?_
     refine DTK.v0 rfl (stepV_of rfl rfl) ?_
     refine DTK.v0 rfl (stepV_of rfl rfl) ?_
     refine DTK.v0 rfl (stepV_of rfl rfl) ?_
     refine DTK.v0 rfl (lenV_of rfl) ?_
     refine DTK.v0 rfl (cutV_of rfl hcbg) ?_
     rw [hccg]
     refine DTK.v0 rfl (stepV_of rfl rfl) ?_
     refine DTK.v0 rfl (stepV_of rfl rfl) ?_
     refine DTK.sto rfl rfl rfl rfl rfl rfl rfl rfl rfl rfl rfl rfl rfl rfl trivial (fun h=>by cases h) ?_
     refine DTK.nil ?_
     refine ⟨rfl,?_⟩
     refine (?_:WL _ _ _ _ _ _)
     by_cases h0:t2=[]
     ·have hb0:(t2 == ([]:List UInt8))=true:=by rw [h0];rfl
      have hH:rm_H s (decide (0 < f)) t2=some 0:=by unfold rm_H;rw [if_pos h0]
      rw [hH]
      refine zqg30 ?_
      rw [hb0]
      refine zqg30 ?_
      exact W.ret (finN rfl rfl rfl rfl)
     have hb0:(t2 == ([]:List UInt8))=false:=by simpa using h0
     have hhd:=hold_FS s hs 1 1 ⟨by omega,by omega⟩
     have hst:=rm_star hs
     by_cases hf:0 < f
     rotate_left
     ·have hd:decide (0 < f)=false:=decide_eq_false hf
      have hH:rm_H s (decide (0 < f)) t2=none:=by rw [rm_H_no h0 (.inl hd),hd];rfl
      rw [hH]
      refine zqg30 ?_
      rw [hb0]
      refine zqg30 ?_
      refine W.loop (fun _:Unit=>True) (fun _=>⟨[(0,.pr [.sc (.int .u8 s),.sc (sysV s)]),(2,.sc (.string (bs t2))),(4,.pt 0 0 0),(6,.pt 1 0 0),(8,.pt 2 0 0),(15,.sc (.int .i64 1))],[(0,.box 64 [.sc (.int .i64 c),.sc (.int .i64 f)]),(1,.box 157 [.sc (.int .i64 0),.sc (.int .i64 0),.sc (.int .i64 0),.sc (.int .i64 0),.sc (.int .i64 0),.sc (.int .i64 0)]),(2,.box 157 [.sc (.int .i64 c),.sc (.int .i64 f),.sc (.int .i64 k),.sc (.int .i64 g),.sc (.int .i64 0),.sc (.int .i64 0)])],3⟩) (fun _=>0) () trivial (zqt id) fun _ _=>?_
      refine zqg30 ?_
      cases hok1:okH s 1 1 with
      | false =>
       rw [hok1] at hhd hst
       refine WL.vl rfl (WV.sys hs holdF rfl rfl (fun vs w=>by kernel_rfl) (fun vs w=>by kernel_rfl) (fun vs w=>by kernel_rfl) (fun vs w=>by kernel_rfl) rfl rfl hhd) ?_
       refine zqg30 ?_
       exact W.ret (finN rfl rfl rfl rfl)
      | true =>
       rw [hok1] at hhd hst
       obtain ⟨p,hp1⟩:∃ z,pH s 1 1=z:=⟨_,rfl⟩
       rw [hp1] at hhd hst
       cases hb1:(p == ([42]:List UInt8)) with
       | false =>
        rw [hb1] at hst
        refine WL.vl rfl (WV.sys hs holdF rfl rfl (fun vs w=>by kernel_rfl) (fun vs w=>by kernel_rfl) (fun vs w=>by kernel_rfl) (fun vs w=>by kernel_rfl) rfl rfl hhd) ?_
        refine zqg30 ?_
        rw [hb1]
        refine zqg30 ?_
        exact W.ret (finN rfl rfl rfl rfl)
       | true =>
        have hpe:p=[42]:=eq_of_beq hb1
        rw [hb1] at hst
        cases hb2:(t2 == p) with
        | false =>
         have hb3:(t2 == ([42]:List UInt8))=false:=by rw [← hpe];exact hb2
         refine WL.vl rfl (WV.sys hs holdF rfl rfl (fun vs w=>by kernel_rfl) (fun vs w=>by kernel_rfl) (fun vs w=>by kernel_rfl) (fun vs w=>by kernel_rfl) rfl rfl hhd) ?_
         refine zqg30 ?_
         rw [hb1]
         refine zqg30 ?_
         rw [hb2]
         refine zqg30 ?_
         exact W.ret (finN rfl rfl rfl rfl)
        | true =>
         have hb3:(t2 == ([42]:List UInt8))=true:=by rw [← hpe];exact hb2
         refine WL.vl rfl (WV.sys hs holdF rfl rfl (fun vs w=>by kernel_rfl) (fun vs w=>by kernel_rfl) (fun vs w=>by kernel_rfl) (fun vs w=>by kernel_rfl) rfl rfl hhd) ?_
         refine zqg30 ?_
         rw [hb1]
         refine zqg30 ?_
         rw [hb2]
         refine zqg30 ?_
         exact W.ret (finN rfl rfl rfl rfl)
     refine zqg30 ?_
     rw [hb0]
     refine zqg30 ?_
     have hd:decide (0 < f)=true:=decide_eq_true hf
     refine W.loop (fun j:Nat=>(1≤j∧j≤16)∧∀ i,i+1 < j→s=1→t2≠95::dig2 (i+1)) (fun j=>⟨[(0,.pr [.sc (.int .u8 s),.sc (sysV s)]),(2,.sc (.string (bs t2))),(4,.pt 0 0 0),(6,.pt 1 0 0),(8,.pt 2 0 0),(15,.sc (.int .i64 (j:Int)))],[(0,.box 64 [.sc (.int .i64 c),.sc (.int .i64 f)]),(1,.box 157 [.sc (.int .i64 0),.sc (.int .i64 0),.sc (.int .i64 0),.sc (.int .i64 0),.sc (.int .i64 0),.sc (.int .i64 0)]),(2,.box 157 [.sc (.int .i64 c),.sc (.int .i64 f),.sc (.int .i64 k),.sc (.int .i64 g),.sc (.int .i64 0),.sc (.int .i64 0)])],3⟩) (fun j=>16 - j) 1 ⟨by omega,fun i h=>absurd h zqo⟩ (zqt id) fun j hj=>?_
     obtain ⟨hj1,hnj⟩:=hj
     by_cases hlt:j≤15
     rotate_left
     ·obtain rfl:j=16:=by omega
      have hno:=rm_H_no (s:=s) (fp:=decide (0 < f)) (t:=t2) h0 (by
       by_cases e:s=1
       ·exact .inr (.inr fun i hi=>hnj i zqo e)
       ·exact .inr (.inl e))
      refine zqg30 ?_
      cases hok1:okH s 1 1 with
      | false =>
       rw [hok1] at hhd hst
       have hz:decide (s=2∨s=4)=false:=hst.symm
       have hH:rm_H s (decide (0 < f)) t2=none:=by
        rw [hno,hd,hz];rfl
       rw [hH]
       refine WL.vl rfl (WV.sys hs holdF rfl rfl (fun vs w=>by kernel_rfl) (fun vs w=>by kernel_rfl) (fun vs w=>by kernel_rfl) (fun vs w=>by kernel_rfl) rfl rfl hhd) ?_
       refine zqg30 ?_
       exact W.ret (finN rfl rfl rfl rfl)
      | true =>
       rw [hok1] at hhd hst
       obtain ⟨p,hp1⟩:∃ z,pH s 1 1=z:=⟨_,rfl⟩
       rw [hp1] at hhd hst
       cases hb1:(p == ([42]:List UInt8)) with
       | false =>
        rw [hb1] at hst
        have hz:decide (s=2∨s=4)=false:=hst.symm
        have hH:rm_H s (decide (0 < f)) t2=none:=by
         rw [hno,hd,hz];rfl
        rw [hH]
        refine WL.vl rfl (WV.sys hs holdF rfl rfl (fun vs w=>by kernel_rfl) (fun vs w=>by kernel_rfl) (fun vs w=>by kernel_rfl) (fun vs w=>by kernel_rfl) rfl rfl hhd) ?_
        refine zqg30 ?_
        rw [hb1]
        refine zqg30 ?_
        exact W.ret (finN rfl rfl rfl rfl)
       | true =>
        have hpe:p=[42]:=eq_of_beq hb1
        rw [hb1] at hst
        cases hb2:(t2 == p) with
        | false =>
         have hb3:(t2 == ([42]:List UInt8))=false:=by rw [← hpe];exact hb2
         have hz:decide (s=2∨s=4)=true:=hst.symm
         have hH:rm_H s (decide (0 < f)) t2=none:=by
          rw [hno,hd,hz,hb3];rfl
         rw [hH]
         refine WL.vl rfl (WV.sys hs holdF rfl rfl (fun vs w=>by kernel_rfl) (fun vs w=>by kernel_rfl) (fun vs w=>by kernel_rfl) (fun vs w=>by kernel_rfl) rfl rfl hhd) ?_
         refine zqg30 ?_
         rw [hb1]
         refine zqg30 ?_
         rw [hb2]
         refine zqg30 ?_
         exact W.ret (finN rfl rfl rfl rfl)
        | true =>
         have hb3:(t2 == ([42]:List UInt8))=true:=by rw [← hpe];exact hb2
         have hz:decide (s=2∨s=4)=true:=hst.symm
         have hH:rm_H s (decide (0 < f)) t2=some (-1):=by
          rw [hno,hd,hz,hb3];rfl
         rw [hH]
         refine WL.vl rfl (WV.sys hs holdF rfl rfl (fun vs w=>by kernel_rfl) (fun vs w=>by kernel_rfl) (fun vs w=>by kernel_rfl) (fun vs w=>by kernel_rfl) rfl rfl hhd) ?_
         refine zqg30 ?_
         rw [hb1]
         refine zqg30 ?_
         rw [hb2]
         refine zqg30 ?_
         exact W.ret (finN rfl rfl rfl rfl)
     by_cases s1:s=1
     rotate_left
     ·have hsd:decide (s=1)=false:=decide_eq_false s1
      refine zqg30 ?_
      refine ⟨j+1,⟨by omega,fun i hi e=>absurd e s1⟩,by omega,?_⟩
      exact (zqt id)
     have hsd:decide (s=1)=true:=decide_eq_true s1
     have hIt:=itoaN_G (j:Int) (by unfold I64;omega)
     rw [nr_itoa hlt] at hIt
     have hdl:(dig2 j).length≤2:=by unfold dig2;split<;>simp
     cases hbm:(t2 == [95]++dig2 j) with
     | false =>
      refine zqg30 ?_
      refine WL.vl rfl (WV.callG hB rfl (callF Tryz.func108 rfl rfl) rfl rfl hIt) ?_
      refine zqg30 ?_
      rw [hbm]
      refine zqg30 ?_
      refine ⟨j+1,⟨by omega,fun i hi e=>?_⟩,by omega,(zqt id)⟩
      by_cases e2:i+1=j
      ·subst e2
       simpa using hbm
      ·exact hnj i zqo e
     | true =>
      have hH:rm_H s (decide (0 < f)) t2=some (j:Int):=by
       rw [hd,s1]
       exact rm_H_hit h0 ⟨hj1.1,hlt⟩ (fun i hi=>hnj i hi s1) (by simpa using eq_of_beq hbm)
      rw [hH]
      refine zqg30 ?_
      refine WL.vl rfl (WV.callG hB rfl (callF Tryz.func108 rfl rfl) rfl rfl hIt) ?_
      refine zqg30 ?_
      rw [hbm]
      refine zqg30 ?_
      exact W.ret (finN rfl rfl rfl rfl)
end
section
open Go.RowKit
theorem tabN_st:∀ w F F',View.le F F'→tabN w F→tabN w F':=fun w F F' h⟨h1,h2⟩=>⟨fun i v x=>h _ _ (h1 i v x),h2⟩
theorem rm_out_yes {s c f R G H:Int} {t:List UInt8} (h:rm_mk s (decide (0<f)) t=some (R,G,H)):rm_out s c f t=.tu [.ag [.sc (.int .i64 c),.sc (.int .i64 f),.sc (.int .i64 R),.sc (.int .i64 G),.sc (.int .i64 0),.sc (.int .i64 H)],.sc (.bool true)]:=by
 unfold rm_mk at h
 obtain⟨y,hy,e⟩:=Option.map_eq_some_iff.1 h
 simp only [Prod.mk.injEq] at e
 obtain⟨rfl,rfl,rfl⟩:=e
 unfold rm_out
 rw [hy]
theorem rm_out_no {s c f:Int} {t:List UInt8} (h:rm_mk s (decide (0<f)) t=none):∃ R G,rm_out s c f t=.tu [.ag [.sc (.int .i64 c),.sc (.int .i64 f),.sc (.int .i64 R),.sc (.int .i64 G),.sc (.int .i64 0),.sc (.int .i64 0)],.sc (.bool false)]:=by
 unfold rm_mk at h
 have hy:=Option.map_eq_none_iff.1 h
 unfold rm_out
 rw [hy]
 exact⟨_,_,rfl⟩
theorem place_FS (s crs:Int)(l:List UInt8):Ctr Tryz.prog 35 [.sc (.int .u8 s),.sc (.int .i64 crs),.sc (.string (bs l))] (.tu [.ag [.sc (.int .i64 (placeOf s crs l).1),.sc (.int .i64 (placeOf s crs l).2.1)],.sc (.int .i64 (placeOf s crs l).2.2)]) :=
 Ctr.of_sc (v:=placeV s crs l) rfl (fun _=>rp_plT rfl) fun w=>place_any s crs l w
theorem nr_onB {s:Int} (hs:1≤s∧s≤4):∀ x∈[AV.sc (.int .u8 s),.sc (sysV s)],onB x=true:=fun x hx=>by
 rcases List.mem_cons.1 hx with rfl|hx
 ·rfl
 ·obtain rfl:=List.mem_singleton.1 hx
  rcases sys_cases hs with rfl|rfl|rfl|rfl<;>rfl
theorem nr_two2 {a b:AV} {r:List AV}:∀ (j:Nat)x,[a,b][j]?=some x→(a::b::r)[j]?=some x
 | 0,x,h=>h
 | 1,x,h=>h
 | j+2,x,h=>by simp at h
def nr_clU (s n:Int)(M:List (Nat×AO))(nk:Nat):Option N5→UR
 | some x=>.ok (.ag (eWr s x)) M nk
 | none=>.er (nr_flt n 4)
theorem cellR_G (s:Int) (hs:1≤s∧s≤4) (CS ST:List (List AV)) (n:Int) (T:List (List AV)) (cl:Bool) (crs:Int) (w:List UInt8) (hw:w.length≤400000) (hsp:spotErr s crs=0) :
  Ctu tabN gloN Tryz.prog 163 [.pt 0 0 0,.sc (.int .i64 crs),.sc (.string (bs w))] [(0,nr_rd (.int .u8 s) (sysV s) CS ST n T cl)] 3 (nr_clU s n [(0,nr_rd (.int .u8 s) (sysV s) CS ST n T cl)] 7 (nr_cl s crs w)):=by
 refine Ctu.intro stabN Tryz.func163 rfl Tryz.ntmps163 (Nat.le_of_ble_eq_true rfl) rfl fun w0 F0 fp pg hB=>?_
 unfold nr_rd
 dsimp only [number,Nat.reduceAdd]
 have hTl:(w++[32]).length=w.length+1:=by simp
 refine zqg31 ?_
 refine WL.rgs rfl rfl rfl rfl ?_
 refine zqg31 ?_
 refine W.loop (fun pos:Nat=>nr_NoP s crs w pos) (fun pos=>⟨[(0,.pt 0 0 0),(1,.sc (.int .i64 crs)),(2,.sc (.string (bs w))),(6,.pt 3 0 0),(14,.sl 4)],
  [(0,.box 78 [.sc (.int .u8 s),.sc (sysV s),.ls 3 CS,.ls 1 ST,.sl 1,.sl 2,.sc (.int .i64 n),.ls 1 T,.sc (.bool cl)]),(3,.box 157 [.sc (.int .i64 0),.sc (.int .i64 0),.sc (.int .i64 0),.sc (.int .i64 0),.sc (.int .i64 0),.sc (.int .i64 0)]),(4,.opq (itQ (w++[32]) pos))],5⟩) (fun pos=>w.length+1 - pos) 0 (nr_NoP_0 s crs w) (zqt id) fun pos hN=>?_
 by_cases hlt:pos < w.length+1
 rotate_left
 ·rw [nr_NoP_end hsp (by omega) hN]
  have hle:(w++[32]).length≤pos:=by omega
  refine W.seq ?_
  refine W.region ?_
  refine WL.vl rfl (WV.nxe rfl rfl rfl hle) ?_
  refine zqg31 ?_
  refine WL.ctp (truH _) [0,1,2] rfl rfl (callF Tryz.func40 rfl rfl) (fail_G _ _ _ _ _ _ _ _) rfl rfl rfl ⟨⟨rfl,rfl,rfl⟩,trivial⟩ ?_
  rfl
 have hlt2:pos < (w++[32]).length:=by omega
 have hstep:=fun h=>nr_NoP_s hsp hlt hN h
 have hwid:1≤(Utf8.decode (bs (w++[32])) pos).2:=Lib.width_pos _ _
 obtain ⟨nx,hnx⟩:∃ z,pos+(Utf8.decode (bs (w++[32])) pos).2=z:=⟨_,rfl⟩
 obtain ⟨ru,hru⟩:∃ z,(Utf8.decode (bs (w++[32])) pos).1=z:=⟨_,rfl⟩
 refine W.seq ?_
 refine W.region ?_
 refine WL.nxs rfl rfl rfl rfl rfl hlt2 ?_
 rw [hnx] at hstep ⊢
 rw [hru]
 have hlow:pos < nx:=by omega
 by_cases h0:pos=0
 ·have hN2:=hstep (.inl h0)
  refine zqg31 ?_
  refine ⟨nx,hN2,by omega,?_⟩
  exact (zqt id)
 have hP:=place_FS s crs (w.take pos)
 have hcb:0≤(0:Int)∧(0:Int)≤(pos:Int)∧(pos:Int)≤(w.length:Int):=by omega
 have hcc:cut w 0 (pos:Int)=w.take pos:=by unfold cut;simp
 have hcb2:0≤(pos:Int)∧(pos:Int)≤(w.length:Int)∧(w.length:Int)≤(w.length:Int):=by omega
 have hcc2:=nr_cut_end w pos
 have hdl:(w.drop pos).length≤1000000:=by rw [List.length_drop];omega
 rcases placeOf_cases (w.take pos) hsp with ⟨c,f,hpl,_⟩|hpl
 rotate_left
 ·have hN2:=hstep (.inr fun c f h=>by rw [hpl] at h;simp at h)
  rw [hpl] at hP
  refine zqg31 ?_
  refine W.of_wa zqk ?_
  refine WA.dt [false,false,false,false,false,false,false,false,false,false,false,false,true,true,false] [0] [0] 13 zqk zqk zqk ⟨rfl,trivial⟩ ⟨rfl,trivial⟩ ?_
  refine DTK.v0 rfl (stepV_of rfl rfl) ?_
  refine DTK.v0 rfl (WV.nch rfl rfl) ?_
  refine DTK.v0 rfl (stepV_of rfl rfl) ?_
  refine DTK.v0 rfl (stepV_of rfl rfl) ?_
  refine DTK.v0 rfl (stepV_of rfl rfl) ?_
  refine DTK.v0 rfl (stepV_of rfl rfl) ?_
  refine DTK.v0 rfl (stepV_of rfl rfl) ?_
  refine DTK.v0 rfl (cutV_of rfl hcb) ?_
  rw [hcc]
  refine DTK.v0 rfl (zqc Tryz.func35 hP) ?_
  refine DTK.v0 rfl (stepV_of rfl rfl) ?_
  refine DTK.v0 rfl (stepV_of rfl rfl) ?_
  refine DTK.v0 rfl (stepV_of rfl rfl) ?_
  refine DTK.al rfl rfl rfl rfl ⟨rfl,trivial⟩ (fun _=>⟨rfl,trivial⟩) ?_
  refine DTK.sto rfl rfl rfl rfl rfl rfl rfl rfl rfl rfl rfl rfl rfl rfl ⟨rfl,trivial⟩ (fun h=>by cases h) ?_
  refine DTK.v0 rfl (stepV_of rfl rfl) ?_
  refine DTK.nil ?_
  refine zqg31 ?_
  refine ⟨nx,hN2,by omega,?_⟩
  exact (zqt id)
 rw [hpl] at hP
 dsimp only at hP
 cases hmk:rm_mk s (decide (0 < (f:Int))) (w.drop pos) with
 | none =>
  have hN2:=hstep (.inr fun c' f' h=>by
   rw [hpl] at h
   have h1:=(Prod.mk.inj h).2
   have h2:=(Prod.mk.inj h1).1
   have:f=f':=by omega
   subst this
   exact hmk)
  obtain ⟨R,G,ho⟩:=rm_out_no (c:=(c:Int)) hmk
  have hM:=marks_G s hs (c:Int) (f:Int) (w.drop pos) hdl
  rw [ho] at hM
  refine zqg31 ?_
  refine W.of_wa zqk ?_
  refine WA.dt [false,false,false,false,false,false,false,false,false,false,false,false,true,true,false] [0] [0] 13 zqk zqk zqk ⟨rfl,trivial⟩ ⟨rfl,trivial⟩ ?_
  refine DTK.v0 rfl (stepV_of rfl rfl) ?_
  refine DTK.v0 rfl (WV.nch rfl rfl) ?_
  refine DTK.v0 rfl (stepV_of rfl rfl) ?_
  refine DTK.v0 rfl (stepV_of rfl rfl) ?_
  refine DTK.v0 rfl (stepV_of rfl rfl) ?_
  refine DTK.v0 rfl (stepV_of rfl rfl) ?_
  refine DTK.v0 rfl (stepV_of rfl rfl) ?_
  refine DTK.v0 rfl (cutV_of rfl hcb) ?_
  rw [hcc]
  refine DTK.v0 rfl (zqc Tryz.func35 hP) ?_
  refine DTK.v0 rfl (stepV_of rfl rfl) ?_
  refine DTK.v0 rfl (stepV_of rfl rfl) ?_
  refine DTK.v0 rfl (stepV_of rfl rfl) ?_
  refine DTK.al rfl rfl rfl rfl ⟨rfl,trivial⟩ (fun _=>⟨rfl,trivial⟩) ?_
  refine DTK.sto rfl rfl rfl rfl rfl rfl rfl rfl rfl rfl rfl rfl rfl rfl ⟨rfl,trivial⟩ (fun h=>by cases h) ?_
  refine DTK.v0 rfl (stepV_of rfl rfl) ?_
  refine DTK.nil ?_
  refine zqg31 ?_
  refine W.of_wa zqk ?_
  refine WA.dt [false,false,false,false,false,false,false,false,false,true,true,false] [0,5] [0,5] 10 zqk zqk zqk ⟨rfl,rfl,trivial⟩ ⟨rfl,rfl,trivial⟩ ?_
  refine DTK.v0 rfl (stepV_of rfl rfl) ?_
  refine DTK.v0 rfl (stepV_of rfl rfl) ?_
  refine DTK.v0 rfl (stepV_of rfl rfl) ?_
  refine DTK.v0 rfl (stepV_of rfl rfl) ?_
  refine DTK.v0 rfl (cutV_of rfl hcb2) ?_
  rw [hcc2]
  refine DTK.v0 rfl (WV.lendT hB rfl (callF Tryz.func221 rfl rfl) rfl (.cons (Lent.prs rfl nr_two2 (nr_onB hs)) (.cons (Lent.pu rfl) (.cons (Lent.pu rfl) .nil))) tabN_st rfl hM) ?_
  refine DTK.v0 rfl (stepV_of rfl rfl) ?_
  refine DTK.v0 rfl (stepV_of rfl rfl) ?_
  refine DTK.v0 rfl (stepV_of rfl rfl) ?_
  refine DTK.al rfl rfl rfl rfl ⟨rfl,rfl,trivial⟩ (fun _=>⟨rfl,rfl,trivial⟩) ?_
  refine DTK.sto rfl rfl rfl rfl rfl rfl rfl rfl rfl rfl rfl rfl rfl rfl ⟨rfl,rfl,trivial⟩ (fun h=>by cases h) ?_
  refine DTK.v0 rfl (stepV_of rfl rfl) ?_
  refine DTK.nil ?_
  refine zqg31 ?_
  refine ⟨nx,hN2,by omega,?_⟩
  exact (zqt id)
 | some x =>
  obtain ⟨R,G,H⟩:=x
  obtain ⟨⟨c',f',r',g',h'⟩,hcl,q1,q2,q3,q4,q5⟩:=nr_hit hsp zqo zqo hpl hmk
  have ho:=rm_out_yes (c:=(c:Int)) hmk
  have hM:=marks_G s hs (c:Int) (f:Int) (w.drop pos) hdl
  rw [ho] at hM
  dsimp only at q1 q2 q3 q4 q5
  obtain rfl:c=c':=by omega
  obtain rfl:f=f':=by omega
  subst q3 q4 q5
  rw [hcl]
  unfold nr_clU eWr
  dsimp only
  refine zqg31 ?_
  refine W.of_wa zqk ?_
  refine WA.dt [false,false,false,false,false,false,false,false,false,false,false,false,true,true,false] [0] [0] 13 zqk zqk zqk ⟨rfl,trivial⟩ ⟨rfl,trivial⟩ ?_
  refine DTK.v0 rfl (stepV_of rfl rfl) ?_
  refine DTK.v0 rfl (WV.nch rfl rfl) ?_
  refine DTK.v0 rfl (stepV_of rfl rfl) ?_
  refine DTK.v0 rfl (stepV_of rfl rfl) ?_
  refine DTK.v0 rfl (stepV_of rfl rfl) ?_
  refine DTK.v0 rfl (stepV_of rfl rfl) ?_
  refine DTK.v0 rfl (stepV_of rfl rfl) ?_
  refine DTK.v0 rfl (cutV_of rfl hcb) ?_
  rw [hcc]
  refine DTK.v0 rfl (zqc Tryz.func35 hP) ?_
  refine DTK.v0 rfl (stepV_of rfl rfl) ?_
  refine DTK.v0 rfl (stepV_of rfl rfl) ?_
  refine DTK.v0 rfl (stepV_of rfl rfl) ?_
  refine DTK.al rfl rfl rfl rfl ⟨rfl,trivial⟩ (fun _=>⟨rfl,trivial⟩) ?_
  refine DTK.sto rfl rfl rfl rfl rfl rfl rfl rfl rfl rfl rfl rfl rfl rfl ⟨rfl,trivial⟩ (fun h=>by cases h) ?_
  refine DTK.v0 rfl (stepV_of rfl rfl) ?_
  refine DTK.nil ?_
  refine zqg31 ?_
  refine W.of_wa zqk ?_
  refine WA.dt [false,false,false,false,false,false,false,false,false,true,true,false] [0,5] [0,5] 10 zqk zqk zqk ⟨rfl,rfl,trivial⟩ ⟨rfl,rfl,trivial⟩ ?_
  refine DTK.v0 rfl (stepV_of rfl rfl) ?_
  refine DTK.v0 rfl (stepV_of rfl rfl) ?_
  refine DTK.v0 rfl (stepV_of rfl rfl) ?_
  refine DTK.v0 rfl (stepV_of rfl rfl) ?_
  refine DTK.v0 rfl (cutV_of rfl hcb2) ?_
  rw [hcc2]
  refine DTK.v0 rfl (WV.lendT hB rfl (callF Tryz.func221 rfl rfl) rfl (.cons (Lent.prs rfl nr_two2 (nr_onB hs)) (.cons (Lent.pu rfl) (.cons (Lent.pu rfl) .nil))) tabN_st rfl hM) ?_
  refine DTK.v0 rfl (stepV_of rfl rfl) ?_
  refine DTK.v0 rfl (stepV_of rfl rfl) ?_
  refine DTK.v0 rfl (stepV_of rfl rfl) ?_
  refine DTK.al rfl rfl rfl rfl ⟨rfl,rfl,trivial⟩ (fun _=>⟨rfl,rfl,trivial⟩) ?_
  refine DTK.sto rfl rfl rfl rfl rfl rfl rfl rfl rfl rfl rfl rfl rfl rfl ⟨rfl,rfl,trivial⟩ (fun h=>by cases h) ?_
  refine DTK.v0 rfl (stepV_of rfl rfl) ?_
  refine DTK.nil ?_
  refine zqg31 ?_
  exact W.ret (finMs rfl rfl rfl ⟨rfl,trivial⟩ rfl)
end
end Go.Proofs.YthehkchjdkdbiaaGreatDoor
