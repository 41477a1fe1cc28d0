/- The reader of the program: marks. -/
import Derived.Test.YthehkchjdkdbiaaGreatDoorNrDKq
set_option maxHeartbeats 8000000
set_option maxRecDepth 100000
set_option linter.unusedVariables false
set_option linter.unusedSimpArgs false
namespace Go.Proofs.YthehkchjdkdbiaaGreatDoor
open Go.RowKit
theorem alx {p:Prop}(h:p:=by
 refine WL.vl rfl (WV.sys hs OQ rfl rfl (fun vs w=>by kernel_rfl) (fun vs w=>by kernel_rfl) (fun vs w=>by kernel_rfl) (fun vs w=>by kernel_rfl) rfl rfl hhd) ?_
 refine gX ?_
 exact kC):p:=h
theorem alu {p:Prop}(h:p:=by
 refine WL.vl rfl (WV.sys hs OQ rfl rfl (fun vs w=>by kernel_rfl) (fun vs w=>by kernel_rfl) (fun vs w=>by kernel_rfl) (fun vs w=>by kernel_rfl) rfl rfl hhd) ?_
 refine gX ?_
 rw [hb1]
 refine gX ?_
 exact kC):p:=h
theorem TT {p:Prop}(h:p:=by
 refine WL.vl rfl (WV.sys hs OQ rfl rfl (fun vs w=>by kernel_rfl) (fun vs w=>by kernel_rfl) (fun vs w=>by kernel_rfl) (fun vs w=>by kernel_rfl) rfl rfl hhd) ?_
 refine gX ?_
 rw [hb1]
 refine gX ?_
 rw [hb2]
 refine gX ?_
 exact kC):p:=h
theorem arC {p:Prop}(h:p:=by
 refine gX ?_
 refine ⟨k - 1,⟨by omega,he.trans hR⟩,by omega,?_⟩
 rw [show (k:Int) - 1=((k - 1:Nat):Int) by omega]
 exact (zqt id)):p:=h
theorem arx {p:Prop}(h:p:=by
 refine gX ?_
 refine ⟨g - 1,⟨by omega,he.trans hG⟩,by omega,?_⟩
 rw [show (g:Int) - 1=((g - 1:Nat):Int) by omega]
 exact (zqt id)):p:=h
theorem uV {p q:Prop}(k:q)(h:aP q→p:=by
 intro hq
 refine uo ?_
 refine uo ?_
 refine uo ?_
 exact hq.k):p:=h ⟨k⟩
theorem aqw {p q:Prop}(k:q)(h:aP q→p:=by
 intro hq
 refine gX ?_
 refine W.Js 8 bD bD bD ?_
 refine WA.dt [false,false,false,false,false,false,false,true] [] [] 7 bD bD bD trivial trivial ?_
 exact hq.k):p:=h ⟨k⟩
def PZ (s:Int) (t:List UInt8):Nat→Int×List UInt8
 | 0=>(0,t)
 | k+1=>if tJ (okR s ((k+1:Nat):Int)) (rR s ((k+1:Nat):Int)) t=true then (((k+1:Nat):Int),t.drop (rR s ((k+1:Nat):Int)).length) else PZ s t k
def PY (s:Int) (t:List UInt8):Nat→Int×List UInt8
 | 0=>(0,t)
 | k+1=>if tJ (sZ s ((k+1:Nat):Int)) (rG s ((k+1:Nat):Int)) t=true then (((k+1:Nat):Int),t.drop (rG s ((k+1:Nat):Int)).length) else PY s t k
theorem atN(s:Int)(t:List UInt8):PZ s t 3=Ed s t:=rfl
theorem atM(s:Int)(t:List UInt8):PY s t 4=Oj s t:=rfl
theorem afe {s:Int} {t:List UInt8}:∀ {k:Nat},okR s k=true→eX (rR s k) t=true→PZ s t k=((k:Int),t.drop (rR s k).length)
 | 0,_,_=>by
  have e:rR s ((0:Nat):Int)=[]:=by simp [rR]
  rw [e];rfl
 | k+1,h1,h2=>if_pos (by unfold tJ;rw [h1];exact h2)
theorem afd {s:Int} {t:List UInt8}:∀ {k:Nat},sZ s k=true→eX (rG s k) t=true→PY s t k=((k:Int),t.drop (rG s k).length)
 | 0,_,_=>by
  have e:rG s ((0:Nat):Int)=[]:=by simp [rG]
  rw [e];rfl
 | k+1,h1,h2=>if_pos (by unfold tJ;rw [h1];exact h2)
theorem WR {s:Int} {t:List UInt8}:∀ {k:Nat},(okR s k=false∨eX (rR s k) t=false)→0<k∧PZ s t (k-1)=PZ s t k
 | 0,h=>by
  have e:rR s ((0:Nat):Int)=[]:=by simp [rR]
  rcases h with h|h
  ·simp [okR] at h
  ·rw [e] at h;simp [eX] at h
 | k+1,h=>⟨by omega,(if_neg (by
   unfold tJ
   rcases h with h|h
   ·rw [h];simp
   ·rw [show (rR s ((k+1:Nat):Int)).isPrefixOf t=false from h];simp)).symm⟩
theorem WQ {s:Int} {t:List UInt8}:∀ {k:Nat},(sZ s k=false∨eX (rG s k) t=false)→0<k∧PY s t (k-1)=PY s t k
 | 0,h=>by
  have e:rG s ((0:Nat):Int)=[]:=by simp [rG]
  rcases h with h|h
  ·simp [sZ] at h
  ·rw [e] at h;simp [eX] at h
 | k+1,h=>⟨by omega,(if_neg (by
   unfold tJ
   rcases h with h|h
   ·rw [h];simp
   ·rw [show (rG s ((k+1:Nat):Int)).isPrefixOf t=false from h];simp)).symm⟩
def FK (s c f:Int) (t:List UInt8):AV :=
 match AA s (decide (0<f)) (Oj s (Ed s t).2).2 with
 | some h=>.tu [.ag [.sc (.int .i64 c),.sc (.int .i64 f),.sc (.int .i64 (Ed s t).1),.sc (.int .i64 (Oj s (Ed s t).2).1),.sc (.int .i64 0),.sc (.int .i64 h)],.sc (.bool true)]
 | none=>.tu [.ag [.sc (.int .i64 c),.sc (.int .i64 f),.sc (.int .i64 (Ed s t).1),.sc (.int .i64 (Oj s (Ed s t).2).1),.sc (.int .i64 0),.sc (.int .i64 0)],.sc (.bool false)]
theorem Ci (t:List UInt8) (k:Nat):cut t (k:Int) (t.length:Int)=t.drop k:=by
 unfold cut
 rw [fO,fO]
 exact wS (by simp)
theorem Vy:((List.range 16).all fun n=>jL n == mW n)=true:=by decide
theorem an0 {n:Nat} (h:n≤15):Lib.itoa (n:Int)=mW n:=by
 rw [tK (by omega)]
 exact eq_of_beq (List.all_eq_true.1 Vy n (List.mem_range.2 au))
theorem aiQ {t:List UInt8} {j:Nat} (h0:t≠[])(h1:1≤j∧j≤15)(hn:∀ i,i+1<j→t≠95::mW (i+1))(h:t=95::mW j):AA 1 true t=some (j:Int):=by
 unfold AA
 rw [if_neg h0]
 have e:((List.range 15).find? fun n=>true && (decide ((1:Int)=1) && (t == 95::mW (n+1))))=some (j-1):=by
  rw [List.find?_range_eq_some]
  refine⟨?_,by simp;omega,fun i hi=>?_⟩
  ·rw [show j-1+1=j by omega,h];simp
  ·have:=hn i au
   simp [this]
 rw [e]
 exact congrArg some au
theorem acy {s:Int} {fp:Bool} {t:List UInt8} (h0:t≠[])(hn:fp=false∨s≠1∨∀ i,i<15→t≠95::mW (i+1)):AA s fp t=if (fp && decide (s=2∨s=4) && (t == [42]))=true then some (-1)else none:=by
 unfold AA
 rw [if_neg h0]
 have e:((List.range 15).find? fun n=>fp && (decide (s=1) && (t == 95::mW (n+1))))=none:=by
  rw [yx]
  intro i hi
  have hi:=List.mem_range.1 hi
  rcases hn with h|h|h
  ·simp [h]
  ·simp [h]
  ·simp [h i hi]
 rw [e]
theorem aoE {s:Int} (hs:1≤s∧s≤4):(qN s 1 1 && (pH s 1 1 == [42]))=decide (s=2∨s=4):=by
 rcases bQ hs with rfl|rfl|rfl|rfl<;>decide
theorem abP (s:Int) (hs:1≤s∧s≤4) (c f:Int) (t:List UInt8) (ht:t.length≤1000000) :
  kJ qG Tryz.prog 221 [.pr [.sc (.int .u8 s),.sc (bG s)],.ag [.sc (.int .i64 c),.sc (.int .i64 f)],.sc (.string (bs t))] (FK s c f t):=by
 unfold FK
 refine kJ.intro o7 Tryz.func221 rfl Tryz.ntmps221 (bU rfl) (gG rfl) fun w0 F0 hB=>?_;dsimp only [St.init,number,Nat.reduceAdd]
 refine gX ?_
 refine W.loop (fun k:Nat=>k≤3∧PZ s t k=Ed s t) (fun k=>⟨[(0,.pr [.sc (.int .u8 s),.sc (bG s)]),(2,.sc (.string (bs t))),(4,.pt 0 0 0),(6,.pt 1 0 0),(8,.pt 2 0 0),(9,.sc (.int .i64 (k:Int)))],
  [(0,.box 64 [.sc (.int .i64 c),.sc (.int .i64 f)]),(1,.box 157 [.sc (.int .i64 0),.sc (.int .i64 0),.sc (.int .i64 0),.sc (.int .i64 0),.sc (.int .i64 0),.sc (.int .i64 0)]),(2,.box 157 [.sc (.int .i64 c),.sc (.int .i64 f),.sc (.int .i64 0),.sc (.int .i64 0),.sc (.int .i64 0),.sc (.int .i64 0)])],3⟩) (fun k=>k) 3 ⟨by omega,atN s t⟩ (zqt id) fun k hk=>?_
 obtain ⟨hk,hR⟩:=hk
 have hmr:=KZ s hs (k:Int) ⟨by omega,by omega⟩
 have hkk:(0:Int)≤(k:Int):=Gf _
 cases hok:okR s (k:Int) with
 | false =>
  obtain ⟨hk0,he⟩:=WR (t:=t) (.inl hok)
  rw [hok] at hmr
  refine gX ?_
  refine WL.vl rfl (WV.sys hs FI rfl rfl (fun vs w=>by kernel_rfl) (fun vs w=>by kernel_rfl) (fun vs w=>by kernel_rfl) (fun vs w=>by kernel_rfl) rfl rfl hmr) ?_
  exact arC
 | true =>
  rw [hok] at hmr
  have hp:=Sj t (rR s (k:Int))
  cases hpf:eX (rR s (k:Int)) t with
  | false =>
   obtain ⟨hk0,he⟩:=WR (t:=t) (.inr hpf)
   rw [hpf] at hp
   refine gX ?_
   refine WL.vl rfl (WV.sys hs FI rfl rfl (fun vs w=>by kernel_rfl) (fun vs w=>by kernel_rfl) (fun vs w=>by kernel_rfl) (fun vs w=>by kernel_rfl) rfl rfl hmr) ?_
   refine gX ?_
   refine WL.vl rfl (bZ Tryz.func256 hp) ?_
   exact arC
  | true =>
   have he:=(afe hok hpf).symm.trans hR
   rw [hpf] at hp
   rw [← he]
   dsimp only
   have hle:(rR s (k:Int)).length≤t.length:=(List.isPrefixOf_iff_prefix.1 hpf).length_le
   have hcb:0≤((rR s (k:Int)).length:Int)∧((rR s (k:Int)).length:Int)≤(t.length:Int)∧(t.length:Int)≤(t.length:Int):=by omega
   have hcc:=Ci t (rR s (k:Int)).length
   obtain ⟨t1,ht1⟩:∃ z,t.drop (rR s (k:Int)).length=z:=⟨_,rfl⟩
   have hl1:t1.length≤1000000:=by rw [← ht1];simp;omega
   rw [ht1] at hcc ⊢
   refine gX ?_
   refine WL.vl rfl (WV.sys hs FI rfl rfl (fun vs w=>by kernel_rfl) (fun vs w=>by kernel_rfl) (fun vs w=>by kernel_rfl) (fun vs w=>by kernel_rfl) rfl rfl hmr) ?_
   refine gX ?_
   refine WL.vl rfl (bZ Tryz.func256 hp) ?_
   refine aqw ?_
   refine uV ?_
   refine aZ.v0 rfl (Ah rfl) ?_
   refine aZ.v0 rfl (zZ rfl hcb) ?_
   rw [hcc]
   refine Io ?_
   refine aZ.yT rfl rfl rfl rfl rfl rfl rfl rfl rfl rfl rfl rfl rfl rfl trivial (fun h=>by cases h) ?_
   refine aZ.nil ?_
   refine ⟨rfl,?_⟩
   refine (?_:WL _ _ _ _ _ _)
   refine gX ?_
   refine W.loop (fun g:Nat=>g≤4∧PY s t1 g=Oj s t1) (fun g=>⟨[(2,.sc (.string (bs t1))),(12,.sc (.int .i64 (g:Int))),(0,.pr [.sc (.int .u8 s),.sc (bG s)]),(4,.pt 0 0 0),(6,.pt 1 0 0),(8,.pt 2 0 0)],[(0,.box 64 [.sc (.int .i64 c),.sc (.int .i64 f)]),(1,.box 157 [.sc (.int .i64 0),.sc (.int .i64 0),.sc (.int .i64 0),.sc (.int .i64 0),.sc (.int .i64 0),.sc (.int .i64 0)]),(2,.box 157 [.sc (.int .i64 c),.sc (.int .i64 f),.sc (.int .i64 k),.sc (.int .i64 0),.sc (.int .i64 0),.sc (.int .i64 0)])],3⟩) (fun g=>g) 4 ⟨by omega,atM s t1⟩ (zqt id) fun g hg=>?_
   obtain ⟨hg,hG⟩:=hg
   have hmg:=JE s hs (g:Int) ⟨by omega,by omega⟩
   have hgg:(0:Int)≤(g:Int):=Gf _
   cases anr:sZ s (g:Int) with
   | false =>
    obtain ⟨hk0,he⟩:=WQ (t:=t1) (.inl anr)
    rw [anr] at hmg
    refine gX ?_
    refine WL.vl rfl (WV.sys hs EX rfl rfl (fun vs w=>by kernel_rfl) (fun vs w=>by kernel_rfl) (fun vs w=>by kernel_rfl) (fun vs w=>by kernel_rfl) rfl rfl hmg) ?_
    exact arx
   | true =>
    rw [anr] at hmg
    have hpg:=Sj t1 (rG s (g:Int))
    cases ag7:eX (rG s (g:Int)) t1 with
    | false =>
     obtain ⟨hk0,he⟩:=WQ (t:=t1) (.inr ag7)
     rw [ag7] at hpg
     refine gX ?_
     refine WL.vl rfl (WV.sys hs EX rfl rfl (fun vs w=>by kernel_rfl) (fun vs w=>by kernel_rfl) (fun vs w=>by kernel_rfl) (fun vs w=>by kernel_rfl) rfl rfl hmg) ?_
     refine gX ?_
     refine WL.vl rfl (bZ Tryz.func256 hpg) ?_
     exact arx
    | true =>
     have he2:=(afd anr ag7).symm.trans hG
     rw [ag7] at hpg
     rw [← he2]
     dsimp only
     have aBg:(rG s (g:Int)).length≤t1.length:=(List.isPrefixOf_iff_prefix.1 ag7).length_le
     have ayx:0≤((rG s (g:Int)).length:Int)∧((rG s (g:Int)).length:Int)≤(t1.length:Int)∧(t1.length:Int)≤(t1.length:Int):=by omega
     have avC:=Ci t1 (rG s (g:Int)).length
     obtain ⟨t2,ht2⟩:∃ z,t1.drop (rG s (g:Int)).length=z:=⟨_,rfl⟩
     have hl2:t2.length≤1000000:=by rw [← ht2];simp;omega
     rw [ht2] at avC ⊢
     refine gX ?_
     refine WL.vl rfl (WV.sys hs EX rfl rfl (fun vs w=>by kernel_rfl) (fun vs w=>by kernel_rfl) (fun vs w=>by kernel_rfl) (fun vs w=>by kernel_rfl) rfl rfl hmg) ?_
     refine gX ?_
     refine WL.vl rfl (bZ Tryz.func256 hpg) ?_
     refine aqw ?_
     refine uV ?_
     refine aZ.v0 rfl (Ah rfl) ?_
     refine aZ.v0 rfl (zZ rfl ayx) ?_
     rw [avC]
     refine Io ?_
     refine aZ.yT rfl rfl rfl rfl rfl rfl rfl rfl rfl rfl rfl rfl rfl rfl trivial (fun h=>by cases h) ?_
     refine aZ.nil ?_
     refine ⟨rfl,?_⟩
     refine (?_:WL _ _ _ _ _ _)
     by_cases h0:t2=[]
     ·have hb0:(t2 == ([]:List UInt8))=true:=by rw [h0];rfl
      have hH:AA s (decide (0 < f)) t2=some 0:=by unfold AA;rw [if_pos h0]
      rw [hH]
      refine gX ?_
      rw [hb0]
      refine gX ?_
      exact kC
     have hb0:(t2 == ([]:List UInt8))=false:=by simpa using h0
     have hhd:=Rl s hs 1 1 ⟨by omega,by omega⟩
     have hst:=aoE hs
     by_cases hf:0 < f
     rotate_left
     ·have hd:decide (0 < f)=false:=cZ hf
      have hH:AA s (decide (0 < f)) t2=none:=by rw [acy h0 (.inl hd),hd];rfl
      rw [hH]
      refine gX ?_
      rw [hb0]
      refine gX ?_
      refine W.loop (fun _:Unit=>True) (fun _=>⟨[(0,.pr [.sc (.int .u8 s),.sc (bG s)]),(2,.sc (.string (bs t2))),(4,.pt 0 0 0),(6,.pt 1 0 0),(8,.pt 2 0 0),(15,.sc (.int .i64 1))],[(0,.box 64 [.sc (.int .i64 c),.sc (.int .i64 f)]),(1,.box 157 [.sc (.int .i64 0),.sc (.int .i64 0),.sc (.int .i64 0),.sc (.int .i64 0),.sc (.int .i64 0),.sc (.int .i64 0)]),(2,.box 157 [.sc (.int .i64 c),.sc (.int .i64 f),.sc (.int .i64 k),.sc (.int .i64 g),.sc (.int .i64 0),.sc (.int .i64 0)])],3⟩) (fun _=>0) () trivial (zqt id) fun _ _=>?_
      refine gX ?_
      cases hok1:qN s 1 1 with
      | false =>
       rw [hok1] at hhd hst
       exact alx
      | true =>
       rw [hok1] at hhd hst
       obtain ⟨p,hp1⟩:∃ z,pH s 1 1=z:=⟨_,rfl⟩
       rw [hp1] at hhd hst
       cases hb1:(p == ([42]:List UInt8)) with
       | false =>
        rw [hb1] at hst
        exact alu
       | true =>
        have hpe:p=[42]:=eq_of_beq hb1
        rw [hb1] at hst
        cases hb2:(t2 == p) with
        | false =>
         have hb3:(t2 == ([42]:List UInt8))=false:=by rw [← hpe];exact hb2
         exact TT
        | true =>
         have hb3:(t2 == ([42]:List UInt8))=true:=by rw [← hpe];exact hb2
         exact TT
     refine gX ?_
     rw [hb0]
     refine gX ?_
     have hd:decide (0 < f)=true:=dG hf
     refine W.loop (fun j:Nat=>(1≤j∧j≤16)∧∀ i,i+1 < j→s=1→t2≠95::mW (i+1)) (fun j=>⟨[(0,.pr [.sc (.int .u8 s),.sc (bG s)]),(2,.sc (.string (bs t2))),(4,.pt 0 0 0),(6,.pt 1 0 0),(8,.pt 2 0 0),(15,.sc (.int .i64 (j:Int)))],[(0,.box 64 [.sc (.int .i64 c),.sc (.int .i64 f)]),(1,.box 157 [.sc (.int .i64 0),.sc (.int .i64 0),.sc (.int .i64 0),.sc (.int .i64 0),.sc (.int .i64 0),.sc (.int .i64 0)]),(2,.box 157 [.sc (.int .i64 c),.sc (.int .i64 f),.sc (.int .i64 k),.sc (.int .i64 g),.sc (.int .i64 0),.sc (.int .i64 0)])],3⟩) (fun j=>16 - j) 1 ⟨by omega,fun i h=>absurd h au⟩ (zqt id) fun j hj=>?_
     obtain ⟨hj1,hnj⟩:=hj
     by_cases hlt:j≤15
     rotate_left
     ·obtain rfl:j=16:=by omega
      have hno:=acy (s:=s) (fp:=decide (0 < f)) (t:=t2) h0 (by
       by_cases e:s=1
       ·exact .inr (.inr fun i hi=>hnj i au e)
       ·exact .inr (.inl e))
      refine gX ?_
      cases hok1:qN s 1 1 with
      | false =>
       rw [hok1] at hhd hst
       have hz:decide (s=2∨s=4)=false:=hst.symm
       have hH:AA s (decide (0 < f)) t2=none:=by
        rw [hno,hd,hz];rfl
       rw [hH]
       exact alx
      | true =>
       rw [hok1] at hhd hst
       obtain ⟨p,hp1⟩:∃ z,pH s 1 1=z:=⟨_,rfl⟩
       rw [hp1] at hhd hst
       cases hb1:(p == ([42]:List UInt8)) with
       | false =>
        rw [hb1] at hst
        have hz:decide (s=2∨s=4)=false:=hst.symm
        have hH:AA s (decide (0 < f)) t2=none:=by
         rw [hno,hd,hz];rfl
        rw [hH]
        exact alu
       | true =>
        have hpe:p=[42]:=eq_of_beq hb1
        rw [hb1] at hst
        cases hb2:(t2 == p) with
        | false =>
         have hb3:(t2 == ([42]:List UInt8))=false:=by rw [← hpe];exact hb2
         have hz:decide (s=2∨s=4)=true:=hst.symm
         have hH:AA s (decide (0 < f)) t2=none:=by
          rw [hno,hd,hz,hb3];rfl
         rw [hH]
         exact TT
        | true =>
         have hb3:(t2 == ([42]:List UInt8))=true:=by rw [← hpe];exact hb2
         have hz:decide (s=2∨s=4)=true:=hst.symm
         have hH:AA s (decide (0 < f)) t2=some (-1):=by
          rw [hno,hd,hz,hb3];rfl
         rw [hH]
         exact TT
     by_cases s1:s=1
     rotate_left
     ·have hsd:decide (s=1)=false:=cZ s1
      refine gX ?_
      refine ⟨j+1,⟨by omega,fun i hi e=>absurd e s1⟩,by omega,?_⟩
      exact (zqt id)
     have hsd:decide (s=1)=true:=dG s1
     have hIt:=anJ (j:Int) zW
     rw [an0 hlt] at hIt
     have hdl:(mW j).length≤2:=by unfold mW;split<;>simp
     cases hbm:(t2 == [95]++mW j) with
     | false =>
      refine gX ?_
      refine WL.vl rfl (WV.eH hB rfl (ak Tryz.func108 rfl rfl) rfl rfl hIt) ?_
      refine gX ?_
      rw [hbm]
      refine gX ?_
      refine ⟨j+1,⟨by omega,fun i hi e=>?_⟩,by omega,(zqt id)⟩
      by_cases e2:i+1=j
      ·subst e2
       simpa using hbm
      ·exact hnj i au e
     | true =>
      have hH:AA s (decide (0 < f)) t2=some (j:Int):=by
       rw [hd,s1]
       exact aiQ h0 ⟨hj1.1,hlt⟩ (fun i hi=>hnj i hi s1) (by simpa using eq_of_beq hbm)
      rw [hH]
      refine gX ?_
      refine WL.vl rfl (WV.eH hB rfl (ak Tryz.func108 rfl rfl) rfl rfl hIt) ?_
      refine gX ?_
      rw [hbm]
      refine gX ?_
      exact kC
end Go.Proofs.YthehkchjdkdbiaaGreatDoor
