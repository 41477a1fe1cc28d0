/- The reader of the program: a cell. -/
import Derived.Test.YthohlofpphjofaaGreatDoorNrBGq
import Derived.Test.YthohlofpphjofaaGreatDoorNrDGq
set_option maxHeartbeats 8000000
set_option maxRecDepth 100000
set_option linter.unusedVariables false
set_option linter.unusedSimpArgs false
namespace Go.Proofs.YthohlofpphjofaaGreatDoor
section
variable {p:Prop}
theorem aeH(h:p:=by
 refine WL.vl rfl (WV.sys hs Hf rfl rfl (fun vs w=>by kernel_rfl) (fun vs w=>by kernel_rfl) (fun vs w=>by kernel_rfl) (fun vs w=>by kernel_rfl) rfl rfl hhd) ?_
 refine dR ?_
 exact dY):p:=h
theorem aeD(h:p:=by
 refine WL.vl rfl (WV.sys hs Hf rfl rfl (fun vs w=>by kernel_rfl) (fun vs w=>by kernel_rfl) (fun vs w=>by kernel_rfl) (fun vs w=>by kernel_rfl) rfl rfl hhd) ?_
 refine dR ?_
 rw [hb1]
 refine dR ?_
 exact dY):p:=h
theorem aey(h:p:=by
 refine Ctg.intro iG Tryz.func159 rfl Tryz.ntmps159 (aP rfl) (aT rfl) fun w0 F0 hB=>?_;dsimp only [St.init,number,Nat.reduceAdd]
 refine kW ?_
 refine WL.vl rfl (WV.callG hB rfl (callF Tryz.func218 rfl rfl) rfl rfl hC) ?_
 refine kW ?_
 refine WL.vl rfl (WV.callG hB rfl (callF Tryz.func219 rfl rfl) rfl rfl hN) ?_
 refine kW ?_
 exact dY):p:=h
theorem MG(h:p:=by
 refine WL.vl rfl (WV.sys hs Hf rfl rfl (fun vs w=>by kernel_rfl) (fun vs w=>by kernel_rfl) (fun vs w=>by kernel_rfl) (fun vs w=>by kernel_rfl) rfl rfl hhd) ?_
 refine dR ?_
 rw [hb1]
 refine dR ?_
 rw [hb2]
 refine dR ?_
 exact dY):p:=h
theorem UW(h:p:=by
 refine Ctg.intro iG Tryz.func159 rfl Tryz.ntmps159 (aP rfl) (aT rfl) fun w0 F0 hB=>?_;dsimp only [St.init,number,Nat.reduceAdd]
 refine kW ?_
 refine WL.vl rfl (WV.callG hB rfl (callF Tryz.func218 rfl rfl) rfl rfl hC) ?_
 refine kW ?_
 refine WL.vl rfl (WV.callG hB rfl (callF Tryz.func219 rfl rfl) rfl rfl hN) ?_
 refine kW ?_
 refine WL.vl rfl (bU Tryz.func220 hP) ?_
 refine kW ?_
 refine WL.vl rfl (bU Tryz.func160 hD) ?_
 refine kW ?_
 exact dY):p:=h
theorem adP(h:p:=by
 rw [rY,Lib.count_one]
 have:=List.count_le_length (a:=(32:UInt8)) (l:=t)
 omega):p:=h
theorem UD(h:p:=by
 refine Fj ?_
 refine ⟨nx,hN2,by omega,?_⟩
 exact (zqt id)):p:=h
theorem afv(h:p:=by
 rw [gq hlt,gK,gK];rfl):p:=h
theorem ajg(h:p:=by
 refine dR ?_
 refine ⟨k - 1,⟨by omega,he.trans hR⟩,by omega,?_⟩
 rw [show (k:Int) - 1=((k - 1:Nat):Int) by omega]
 exact (zqt id)):p:=h
theorem ajb(h:p:=by
 refine dR ?_
 refine ⟨g - 1,⟨by omega,he.trans hG⟩,by omega,?_⟩
 rw [show (g:Int) - 1=((g - 1:Nat):Int) by omega]
 exact (zqt id)):p:=h
end
theorem ado {p q:Prop}(k:q)(h:aS q→p:=by
 intro hq
 refine amL ?_
 refine FM ?_
 refine gQ ?_
 refine qW ?_
 refine DTK.v0 rfl (cutV_of rfl hcb) ?_
 exact hq.k):p:=h ⟨k⟩
theorem qW {p q:Prop}(k:q)(h:aS q→p:=by
 intro hq
 refine gQ ?_
 refine kX ?_
 exact hq.k):p:=h ⟨k⟩
theorem FM {p q:Prop}(k:q)(h:aS q→p:=by
 intro hq
 refine kX ?_
 refine wC ?_
 exact hq.k):p:=h ⟨k⟩
theorem aiE {p q:Prop}(k:q)(h:aS q→p:=by
 intro hq
 refine dR ?_
 refine W.drawT 8 aK aK aK ?_
 refine WA.dt [false,false,false,false,false,false,false,true] [] [] 7 aK aK aK trivial trivial ?_
 exact hq.k):p:=h ⟨k⟩
theorem aiz {p q:Prop}(k:q)(h:aS q→p:=by
 intro hq
 refine DTK.nil ?_
 refine Fj ?_
 refine W.of_wa aK ?_
 refine WA.dt [false,false,false,false,false,false,false,false,false,true,true,false] [0,5] [0,5] 10 aK aK aK ⟨rfl,rfl,trivial⟩ ⟨rfl,rfl,trivial⟩ ?_
 exact hq.k):p:=h ⟨k⟩
theorem wC {p q:Prop}(k:q)(h:aS q→p:=by
 intro hq
 refine DTK.v0 rfl (WV.nch rfl rfl) ?_
 exact hq.k):p:=h ⟨k⟩
theorem amL {p q:Prop}(k:q)(h:aS q→p:=by
 intro hq
 refine Fj ?_
 refine W.of_wa aK ?_
 refine WA.dt [false,false,false,false,false,false,false,false,false,false,false,false,true,true,false] [0] [0] 13 aK aK aK ⟨rfl,trivial⟩ ⟨rfl,trivial⟩ ?_
 exact hq.k):p:=h ⟨k⟩
section
open Go.RowKit
theorem Ov (t:List UInt8):(fC t).2=4∨(fC t).2=10∨((fC t).2=0∧gX (fC t).1.1 (fC t).1.2.1 (fC t).1.2.2=true):=by
 unfold fC
 split
 ·exact .inl rfl
 ·split
  ·exact .inl rfl
  ·split
   ·exact .inl rfl
   ·split
    ·rename_i h;exact .inr (.inr ⟨rfl,h⟩)
    ·exact .inr (.inl rfl)
theorem Yp {a b:List UInt8} (h:aH 47 a):eu (a++47::b)=if (fC a).2=4 then ((0,0,false),4)else match bT (gZ b).1 with
  | none=>((0,0,false),4)
  | some n=>if (fC a).2≠0 then ((0,0,false),(fC a).2)else ((tC (fC a).1.1 (fC a).1.2.1 (fC a).1.2.2,(n:Int),(gZ b).2),0):=by
 unfold eu
 rw [IB h]
 rfl
theorem Yq {t:List UInt8} (h:aH 47 t):eu t=((0,0,false),4):=by
 unfold eu
 rw [Y5 h]
theorem Ox(b:List UInt8):(gZ b).1.length≤b.length:=by
 unfold gZ
 split
 ·simp
 ·simp
theorem YS (t:List UInt8) (ht:t.length≤500000):Ctg jQ Tryz.prog 159 [.sc (.string (bs t))] (.tu [.ag (aW (eu t).1),.sc (.int .i64 (eu t).2)]):=by
 rcases PK t with ⟨a,b,rfl,hn⟩|hn
 rotate_left
 ·have hC:=aal 47 t hn aj
  rw [Yq hn]
  refine Ctg.intro iG Tryz.func159 rfl Tryz.ntmps159 (aP rfl) (aT rfl) fun w0 F0 hB=>?_;dsimp only [St.init,number,Nat.reduceAdd]
  refine kW ?_
  refine WL.vl rfl (WV.callG hB rfl (callF Tryz.func218 rfl rfl) rfl rfl hC) ?_
  refine kW ?_
  exact dY
 have hl:a.length+b.length+1≤500000:=by simp at ht;omega
 have hC:=aaj 47 a b hn aj
 have hN:=agX a aj
 have hP:=Xt b aj
 have hpl:=Ox b
 have hD:=DV (gZ b).1 aj
 have hcase:=Ov a
 have hS:=zB (fC a).1.1 (fC a).1.2.1 (fC a).1.2.2
 have hR:=Yp (b:=b) hn
 obtain ⟨⟨⟨n1,n2,n3⟩,ne⟩,hnm⟩:∃ z,fC a=z:=⟨_,rfl⟩
 obtain ⟨⟨pt,po⟩,hpp⟩:∃ z,gZ b=z:=⟨_,rfl⟩
 rw [hnm] at hN hcase hS hR
 rw [hpp] at hP hD hR
 unfold eNm at hN
 dsimp only at hN hcase hS hR hP hD
 rw [hR]
 clear hR hnm hpp hpl ht
 cases hnum:bT pt with
 | none =>
  rw [hnum] at hD
  rcases hcase with rfl|rfl|⟨rfl,hk⟩
  ·exact aey
  ·exact UW
  ·exact UW
 | some v =>
  rw [hnum] at hD
  rcases hcase with rfl|rfl|⟨rfl,hk⟩
  ·exact aey
  ·exact UW
  ·rw [(mW hk).1,(mW hk).2] at hS
   refine Ctg.intro iG Tryz.func159 rfl Tryz.ntmps159 (aP rfl) (aT rfl) fun w0 F0 hB=>?_;dsimp only [St.init,number,Nat.reduceAdd]
   refine kW ?_
   refine WL.vl rfl (WV.callG hB rfl (callF Tryz.func218 rfl rfl) rfl rfl hC) ?_
   refine kW ?_
   refine WL.vl rfl (WV.callG hB rfl (callF Tryz.func219 rfl rfl) rfl rfl hN) ?_
   refine kW ?_
   refine WL.vl rfl (bU Tryz.func220 hP) ?_
   refine kW ?_
   refine WL.vl rfl (bU Tryz.func160 hD) ?_
   refine kW ?_
   refine WL.vl rfl (WV.callG hB rfl (callF Tryz.func173 rfl rfl) rfl rfl hS) ?_
   refine kW ?_
   exact dY
def IE (s:Int) (t:List UInt8):Nat→Int×List UInt8
 | 0=>(0,t)
 | k+1=>if nY (okR s ((k+1:Nat):Int)) (rR s ((k+1:Nat):Int)) t=true then (((k+1:Nat):Int),t.drop (rR s ((k+1:Nat):Int)).length) else IE s t k
def IC (s:Int) (t:List UInt8):Nat→Int×List UInt8
 | 0=>(0,t)
 | k+1=>if nY (yt s ((k+1:Nat):Int)) (rG s ((k+1:Nat):Int)) t=true then (((k+1:Nat):Int),t.drop (rG s ((k+1:Nat):Int)).length) else IC s t k
theorem akO(s:Int)(t:List UInt8):IE s t 3=yx s t:=rfl
theorem akN(s:Int)(t:List UInt8):IC s t 4=Gy s t:=rfl
theorem Y8 {s:Int} {t:List UInt8}:∀ {k:Nat},okR s k=true→bM (rR s k) t=true→IE s t k=((k:Int),t.drop (rR s k).length)
 | 0,_,_=>by
  have e:rR s ((0:Nat):Int)=[]:=by simp [rR]
  rw [e];rfl
 | k+1,h1,h2=>if_pos (by unfold nY;rw [h1];exact h2)
theorem Y7 {s:Int} {t:List UInt8}:∀ {k:Nat},yt s k=true→bM (rG s k) t=true→IC s t k=((k:Int),t.drop (rG s k).length)
 | 0,_,_=>by
  have e:rG s ((0:Nat):Int)=[]:=by simp [rG]
  rw [e];rfl
 | k+1,h1,h2=>if_pos (by unfold nY;rw [h1];exact h2)
theorem PN {s:Int} {t:List UInt8}:∀ {k:Nat},(okR s k=false∨bM (rR s k) t=false)→0<k∧IE s t (k-1)=IE s t k
 | 0,h=>by
  have e:rR s ((0:Nat):Int)=[]:=by simp [rR]
  rcases h with h|h
  ·simp [okR] at h
  ·rw [e] at h;simp [bM] at h
 | k+1,h=>⟨by omega,(if_neg (by
   unfold nY
   rcases h with h|h
   ·rw [h];simp
   ·rw [show (rR s ((k+1:Nat):Int)).isPrefixOf t=false from h];simp)).symm⟩
theorem PL {s:Int} {t:List UInt8}:∀ {k:Nat},(yt s k=false∨bM (rG s k) t=false)→0<k∧IC s t (k-1)=IC s t k
 | 0,h=>by
  have e:rG s ((0:Nat):Int)=[]:=by simp [rG]
  rcases h with h|h
  ·simp [yt] at h
  ·rw [e] at h;simp [bM] at h
 | k+1,h=>⟨by omega,(if_neg (by
   unfold nY
   rcases h with h|h
   ·rw [h];simp
   ·rw [show (rG s ((k+1:Nat):Int)).isPrefixOf t=false from h];simp)).symm⟩
def zF (s c f:Int) (t:List UInt8):AV :=
 match vI s (decide (0<f)) (Gy s (yx s t).2).2 with
 | some h=>.tu [.ag [.sc (.int .i64 c),.sc (.int .i64 f),.sc (.int .i64 (yx s t).1),.sc (.int .i64 (Gy s (yx s t).2).1),.sc (.int .i64 0),.sc (.int .i64 h)],.sc (.bool true)]
 | none=>.tu [.ag [.sc (.int .i64 c),.sc (.int .i64 f),.sc (.int .i64 (yx s t).1),.sc (.int .i64 (Gy s (yx s t).2).1),.sc (.int .i64 0),.sc (.int .i64 0)],.sc (.bool false)]
theorem wQ (t:List UInt8) (k:Nat):cut t (k:Int) (t.length:Int)=t.drop k:=by
 unfold cut
 rw [dB,dB]
 exact lC (by simp)
theorem Ou:((List.range 16).all fun n=>ig n == jX n)=true:=by decide
theorem agM {n:Nat} (h:n≤15):Lib.itoa (n:Int)=jX n:=by
 rw [nZ (by omega)]
 exact eq_of_beq (List.all_eq_true.1 Ou n (List.mem_range.2 aj))
theorem acg {t:List UInt8} {j:Nat} (h0:t≠[])(h1:1≤j∧j≤15)(hn:∀ i,i+1<j→t≠95::jX (i+1))(h:t=95::jX j):vI 1 true t=some (j:Int):=by
 unfold vI
 rw [if_neg h0]
 have e:((List.range 15).find? fun n=>true && (decide ((1:Int)=1) && (t == 95::jX (n+1))))=some (j-1):=by
  rw [List.find?_range_eq_some]
  refine⟨?_,by simp;omega,fun i hi=>?_⟩
  ·rw [show j-1+1=j by omega,h];simp
  ·have:=hn i aj
   simp [this]
 rw [e]
 exact congrArg some aj
theorem V9 {s:Int} {fp:Bool} {t:List UInt8} (h0:t≠[])(hn:fp=false∨s≠1∨∀ i,i<15→t≠95::jX (i+1)):vI s fp t=if (fp && decide (s=2∨s=4) && (t == [42]))=true then some (-1)else none:=by
 unfold vI
 rw [if_neg h0]
 have e:((List.range 15).find? fun n=>fp && (decide (s=1) && (t == 95::jX (n+1))))=none:=by
  rw [EL]
  intro i hi
  have hi:=List.mem_range.1 hi
  rcases hn with h|h|h
  ·simp [h]
  ·simp [h]
  ·simp [h i hi]
 rw [e]
theorem ahf {s:Int} (hs:1≤s∧s≤4):(qY s 1 1 && (pH s 1 1 == [42]))=decide (s=2∨s=4):=by
 rcases bI hs with rfl|rfl|rfl|rfl<;>decide
theorem VF (s:Int) (hs:1≤s∧s≤4) (c f:Int) (t:List UInt8) (ht:t.length≤1000000) :
  Ctg jQ Tryz.prog 221 [.pr [.sc (.int .u8 s),.sc (aU s)],.ag [.sc (.int .i64 c),.sc (.int .i64 f)],.sc (.string (bs t))] (zF s c f t):=by
 unfold zF
 refine Ctg.intro iG Tryz.func221 rfl Tryz.ntmps221 (aP rfl) (aT rfl) fun w0 F0 hB=>?_;dsimp only [St.init,number,Nat.reduceAdd]
 refine dR ?_
 refine W.loop (fun k:Nat=>k≤3∧IE s t k=yx s t) (fun k=>⟨[(0,.pr [.sc (.int .u8 s),.sc (aU s)]),(2,.sc (.string (bs t))),(4,.pt 0 0 0),(6,.pt 1 0 0),(8,.pt 2 0 0),(9,.sc (.int .i64 (k:Int)))],
  [(0,.box 64 [.sc (.int .i64 c),.sc (.int .i64 f)]),(1,.box 157 [.sc (.int .i64 0),.sc (.int .i64 0),.sc (.int .i64 0),.sc (.int .i64 0),.sc (.int .i64 0),.sc (.int .i64 0)]),(2,.box 157 [.sc (.int .i64 c),.sc (.int .i64 f),.sc (.int .i64 0),.sc (.int .i64 0),.sc (.int .i64 0),.sc (.int .i64 0)])],3⟩) (fun k=>k) 3 ⟨by omega,akO s t⟩ (zqt id) fun k hk=>?_
 obtain ⟨hk,hR⟩:=hk
 have hmr:=D5 s hs (k:Int) ⟨by omega,by omega⟩
 have hkk:(0:Int)≤(k:Int):=EN _
 cases hok:okR s (k:Int) with
 | false =>
  obtain ⟨hk0,he⟩:=PN (t:=t) (.inl hok)
  rw [hok] at hmr
  refine dR ?_
  refine WL.vl rfl (WV.sys hs zD rfl rfl (fun vs w=>by kernel_rfl) (fun vs w=>by kernel_rfl) (fun vs w=>by kernel_rfl) (fun vs w=>by kernel_rfl) rfl rfl hmr) ?_
  exact ajg
 | true =>
  rw [hok] at hmr
  have hp:=KN t (rR s (k:Int))
  cases hpf:bM (rR s (k:Int)) t with
  | false =>
   obtain ⟨hk0,he⟩:=PN (t:=t) (.inr hpf)
   rw [hpf] at hp
   refine dR ?_
   refine WL.vl rfl (WV.sys hs zD rfl rfl (fun vs w=>by kernel_rfl) (fun vs w=>by kernel_rfl) (fun vs w=>by kernel_rfl) (fun vs w=>by kernel_rfl) rfl rfl hmr) ?_
   refine dR ?_
   refine WL.vl rfl (bU Tryz.func256 hp) ?_
   exact ajg
  | true =>
   have he:=(Y8 hok hpf).symm.trans hR
   rw [hpf] at hp
   rw [← he]
   dsimp only
   have hle:(rR s (k:Int)).length≤t.length:=(List.isPrefixOf_iff_prefix.1 hpf).length_le
   have hcb:0≤((rR s (k:Int)).length:Int)∧((rR s (k:Int)).length:Int)≤(t.length:Int)∧(t.length:Int)≤(t.length:Int):=by omega
   have hcc:=wQ t (rR s (k:Int)).length
   obtain ⟨t1,ht1⟩:∃ z,t.drop (rR s (k:Int)).length=z:=⟨_,rfl⟩
   have hl1:t1.length≤1000000:=by rw [← ht1];simp;omega
   rw [ht1] at hcc ⊢
   refine dR ?_
   refine WL.vl rfl (WV.sys hs zD rfl rfl (fun vs w=>by kernel_rfl) (fun vs w=>by kernel_rfl) (fun vs w=>by kernel_rfl) (fun vs w=>by kernel_rfl) rfl rfl hmr) ?_
   refine dR ?_
   refine WL.vl rfl (bU Tryz.func256 hp) ?_
   refine aiE ?_
   refine qW ?_
   refine DTK.v0 rfl (lenV_of rfl) ?_
   refine DTK.v0 rfl (cutV_of rfl hcb) ?_
   rw [hcc]
   refine gQ ?_
   refine DTK.sto rfl rfl rfl rfl rfl rfl rfl rfl rfl rfl rfl rfl rfl rfl trivial (fun h=>by cases h) ?_
   refine DTK.nil ?_
   refine ⟨rfl,?_⟩
   refine (?_:WL _ _ _ _ _ _)
   refine dR ?_
   refine W.loop (fun g:Nat=>g≤4∧IC s t1 g=Gy s t1) (fun g=>⟨[(2,.sc (.string (bs t1))),(12,.sc (.int .i64 (g:Int))),(0,.pr [.sc (.int .u8 s),.sc (aU s)]),(4,.pt 0 0 0),(6,.pt 1 0 0),(8,.pt 2 0 0)],[(0,.box 64 [.sc (.int .i64 c),.sc (.int .i64 f)]),(1,.box 157 [.sc (.int .i64 0),.sc (.int .i64 0),.sc (.int .i64 0),.sc (.int .i64 0),.sc (.int .i64 0),.sc (.int .i64 0)]),(2,.box 157 [.sc (.int .i64 c),.sc (.int .i64 f),.sc (.int .i64 k),.sc (.int .i64 0),.sc (.int .i64 0),.sc (.int .i64 0)])],3⟩) (fun g=>g) 4 ⟨by omega,akN s t1⟩ (zqt id) fun g hg=>?_
   obtain ⟨hg,hG⟩:=hg
   have hmg:=CP s hs (g:Int) ⟨by omega,by omega⟩
   have hgg:(0:Int)≤(g:Int):=EN _
   cases agh:yt s (g:Int) with
   | false =>
    obtain ⟨hk0,he⟩:=PL (t:=t1) (.inl agh)
    rw [agh] at hmg
    refine dR ?_
    refine WL.vl rfl (WV.sys hs zh rfl rfl (fun vs w=>by kernel_rfl) (fun vs w=>by kernel_rfl) (fun vs w=>by kernel_rfl) (fun vs w=>by kernel_rfl) rfl rfl hmg) ?_
    exact ajb
   | true =>
    rw [agh] at hmg
    have hpg:=KN t1 (rG s (g:Int))
    cases aaL:bM (rG s (g:Int)) t1 with
    | false =>
     obtain ⟨hk0,he⟩:=PL (t:=t1) (.inr aaL)
     rw [aaL] at hpg
     refine dR ?_
     refine WL.vl rfl (WV.sys hs zh rfl rfl (fun vs w=>by kernel_rfl) (fun vs w=>by kernel_rfl) (fun vs w=>by kernel_rfl) (fun vs w=>by kernel_rfl) rfl rfl hmg) ?_
     refine dR ?_
     refine WL.vl rfl (bU Tryz.func256 hpg) ?_
     exact ajb
    | true =>
     have he2:=(Y7 agh aaL).symm.trans hG
     rw [aaL] at hpg
     rw [← he2]
     dsimp only
     have apy:(rG s (g:Int)).length≤t1.length:=(List.isPrefixOf_iff_prefix.1 aaL).length_le
     have anH:0≤((rG s (g:Int)).length:Int)∧((rG s (g:Int)).length:Int)≤(t1.length:Int)∧(t1.length:Int)≤(t1.length:Int):=by omega
     have alV:=wQ t1 (rG s (g:Int)).length
     obtain ⟨t2,ht2⟩:∃ z,t1.drop (rG s (g:Int)).length=z:=⟨_,rfl⟩
     have hl2:t2.length≤1000000:=by rw [← ht2];simp;omega
     rw [ht2] at alV ⊢
     refine dR ?_
     refine WL.vl rfl (WV.sys hs zh rfl rfl (fun vs w=>by kernel_rfl) (fun vs w=>by kernel_rfl) (fun vs w=>by kernel_rfl) (fun vs w=>by kernel_rfl) rfl rfl hmg) ?_
     refine dR ?_
     refine WL.vl rfl (bU Tryz.func256 hpg) ?_
     refine aiE ?_
     refine qW ?_
     refine DTK.v0 rfl (lenV_of rfl) ?_
     refine DTK.v0 rfl (cutV_of rfl anH) ?_
     rw [alV]
     refine gQ ?_
     refine DTK.sto rfl rfl rfl rfl rfl rfl rfl rfl rfl rfl rfl rfl rfl rfl trivial (fun h=>by cases h) ?_
     refine DTK.nil ?_
     refine ⟨rfl,?_⟩
     refine (?_:WL _ _ _ _ _ _)
     by_cases h0:t2=[]
     ·have hb0:(t2 == ([]:List UInt8))=true:=by rw [h0];rfl
      have hH:vI s (decide (0 < f)) t2=some 0:=by unfold vI;rw [if_pos h0]
      rw [hH]
      refine dR ?_
      rw [hb0]
      refine dR ?_
      exact dY
     have hb0:(t2 == ([]:List UInt8))=false:=by simpa using h0
     have hhd:=JY s hs 1 1 ⟨by omega,by omega⟩
     have hst:=ahf hs
     by_cases hf:0 < f
     rotate_left
     ·have hd:decide (0 < f)=false:=dW hf
      have hH:vI s (decide (0 < f)) t2=none:=by rw [V9 h0 (.inl hd),hd];rfl
      rw [hH]
      refine dR ?_
      rw [hb0]
      refine dR ?_
      refine W.loop (fun _:Unit=>True) (fun _=>⟨[(0,.pr [.sc (.int .u8 s),.sc (aU s)]),(2,.sc (.string (bs t2))),(4,.pt 0 0 0),(6,.pt 1 0 0),(8,.pt 2 0 0),(15,.sc (.int .i64 1))],[(0,.box 64 [.sc (.int .i64 c),.sc (.int .i64 f)]),(1,.box 157 [.sc (.int .i64 0),.sc (.int .i64 0),.sc (.int .i64 0),.sc (.int .i64 0),.sc (.int .i64 0),.sc (.int .i64 0)]),(2,.box 157 [.sc (.int .i64 c),.sc (.int .i64 f),.sc (.int .i64 k),.sc (.int .i64 g),.sc (.int .i64 0),.sc (.int .i64 0)])],3⟩) (fun _=>0) () trivial (zqt id) fun _ _=>?_
      refine dR ?_
      cases hok1:qY s 1 1 with
      | false =>
       rw [hok1] at hhd hst
       exact aeH
      | true =>
       rw [hok1] at hhd hst
       obtain ⟨p,hp1⟩:∃ z,pH s 1 1=z:=⟨_,rfl⟩
       rw [hp1] at hhd hst
       cases hb1:(p == ([42]:List UInt8)) with
       | false =>
        rw [hb1] at hst
        exact aeD
       | true =>
        have hpe:p=[42]:=eq_of_beq hb1
        rw [hb1] at hst
        cases hb2:(t2 == p) with
        | false =>
         have hb3:(t2 == ([42]:List UInt8))=false:=by rw [← hpe];exact hb2
         exact MG
        | true =>
         have hb3:(t2 == ([42]:List UInt8))=true:=by rw [← hpe];exact hb2
         exact MG
     refine dR ?_
     rw [hb0]
     refine dR ?_
     have hd:decide (0 < f)=true:=fQ hf
     refine W.loop (fun j:Nat=>(1≤j∧j≤16)∧∀ i,i+1 < j→s=1→t2≠95::jX (i+1)) (fun j=>⟨[(0,.pr [.sc (.int .u8 s),.sc (aU s)]),(2,.sc (.string (bs t2))),(4,.pt 0 0 0),(6,.pt 1 0 0),(8,.pt 2 0 0),(15,.sc (.int .i64 (j:Int)))],[(0,.box 64 [.sc (.int .i64 c),.sc (.int .i64 f)]),(1,.box 157 [.sc (.int .i64 0),.sc (.int .i64 0),.sc (.int .i64 0),.sc (.int .i64 0),.sc (.int .i64 0),.sc (.int .i64 0)]),(2,.box 157 [.sc (.int .i64 c),.sc (.int .i64 f),.sc (.int .i64 k),.sc (.int .i64 g),.sc (.int .i64 0),.sc (.int .i64 0)])],3⟩) (fun j=>16 - j) 1 ⟨by omega,fun i h=>absurd h aj⟩ (zqt id) fun j hj=>?_
     obtain ⟨hj1,hnj⟩:=hj
     by_cases hlt:j≤15
     rotate_left
     ·obtain rfl:j=16:=by omega
      have hno:=V9 (s:=s) (fp:=decide (0 < f)) (t:=t2) h0 (by
       by_cases e:s=1
       ·exact .inr (.inr fun i hi=>hnj i aj e)
       ·exact .inr (.inl e))
      refine dR ?_
      cases hok1:qY s 1 1 with
      | false =>
       rw [hok1] at hhd hst
       have hz:decide (s=2∨s=4)=false:=hst.symm
       have hH:vI s (decide (0 < f)) t2=none:=by
        rw [hno,hd,hz];rfl
       rw [hH]
       exact aeH
      | true =>
       rw [hok1] at hhd hst
       obtain ⟨p,hp1⟩:∃ z,pH s 1 1=z:=⟨_,rfl⟩
       rw [hp1] at hhd hst
       cases hb1:(p == ([42]:List UInt8)) with
       | false =>
        rw [hb1] at hst
        have hz:decide (s=2∨s=4)=false:=hst.symm
        have hH:vI s (decide (0 < f)) t2=none:=by
         rw [hno,hd,hz];rfl
        rw [hH]
        exact aeD
       | true =>
        have hpe:p=[42]:=eq_of_beq hb1
        rw [hb1] at hst
        cases hb2:(t2 == p) with
        | false =>
         have hb3:(t2 == ([42]:List UInt8))=false:=by rw [← hpe];exact hb2
         have hz:decide (s=2∨s=4)=true:=hst.symm
         have hH:vI s (decide (0 < f)) t2=none:=by
          rw [hno,hd,hz,hb3];rfl
         rw [hH]
         exact MG
        | true =>
         have hb3:(t2 == ([42]:List UInt8))=true:=by rw [← hpe];exact hb2
         have hz:decide (s=2∨s=4)=true:=hst.symm
         have hH:vI s (decide (0 < f)) t2=some (-1):=by
          rw [hno,hd,hz,hb3];rfl
         rw [hH]
         exact MG
     by_cases s1:s=1
     rotate_left
     ·have hsd:decide (s=1)=false:=dW s1
      refine dR ?_
      refine ⟨j+1,⟨by omega,fun i hi e=>absurd e s1⟩,by omega,?_⟩
      exact (zqt id)
     have hsd:decide (s=1)=true:=fQ s1
     have hIt:=agw (j:Int) sV
     rw [agM hlt] at hIt
     have hdl:(jX j).length≤2:=by unfold jX;split<;>simp
     cases hbm:(t2 == [95]++jX j) with
     | false =>
      refine dR ?_
      refine WL.vl rfl (WV.callG hB rfl (callF Tryz.func108 rfl rfl) rfl rfl hIt) ?_
      refine dR ?_
      rw [hbm]
      refine dR ?_
      refine ⟨j+1,⟨by omega,fun i hi e=>?_⟩,by omega,(zqt id)⟩
      by_cases e2:i+1=j
      ·subst e2
       simpa using hbm
      ·exact hnj i aj e
     | true =>
      have hH:vI s (decide (0 < f)) t2=some (j:Int):=by
       rw [hd,s1]
       exact acg h0 ⟨hj1.1,hlt⟩ (fun i hi=>hnj i hi s1) (by simpa using eq_of_beq hbm)
      rw [hH]
      refine dR ?_
      refine WL.vl rfl (WV.callG hB rfl (callF Tryz.func108 rfl rfl) rfl rfl hIt) ?_
      refine dR ?_
      rw [hbm]
      refine dR ?_
      exact dY
theorem Wv:∀ w F F',View.le F F'→jQ w F→jQ w F':=fun w F F' h⟨h1,h2⟩=>⟨fun i v x=>h _ _ (h1 i v x),h2⟩
theorem Tq {s c f R G H:Int} {t:List UInt8} (h:qG s (decide (0<f)) t=some (R,G,H)):zF s c f t=.tu [.ag [.sc (.int .i64 c),.sc (.int .i64 f),.sc (.int .i64 R),.sc (.int .i64 G),.sc (.int .i64 0),.sc (.int .i64 H)],.sc (.bool true)]:=by
 unfold qG at h
 obtain⟨y,hy,e⟩:=Option.map_eq_some_iff.1 h
 simp only [Prod.mk.injEq] at e
 obtain⟨rfl,rfl,rfl⟩:=e
 unfold zF
 rw [hy]
theorem Y9 {s c f:Int} {t:List UInt8} (h:qG s (decide (0<f)) t=none):∃ R G,zF s c f t=.tu [.ag [.sc (.int .i64 c),.sc (.int .i64 f),.sc (.int .i64 R),.sc (.int .i64 G),.sc (.int .i64 0),.sc (.int .i64 0)],.sc (.bool false)]:=by
 unfold qG at h
 have hy:=Option.map_eq_none_iff.1 h
 unfold zF
 rw [hy]
 exact⟨_,_,rfl⟩
theorem abk {s:Int} (hs:1≤s∧s≤4):∀ x∈[AV.sc (.int .u8 s),.sc (aU s)],onB x=true:=fun x hx=>by
 rcases List.mem_cons.1 hx with rfl|hx
 ·rfl
 ·obtain rfl:=List.mem_singleton.1 hx
  rcases bI hs with rfl|rfl|rfl|rfl<;>rfl
theorem VN {a b:AV} {r:List AV}:∀ (j:Nat)x,[a,b][j]?=some x→(a::b::r)[j]?=some x
 | 0,x,h=>h
 | 1,x,h=>h
 | j+2,x,h=>by simp at h
def abd (s n:Int)(M:List (Nat×AO))(nk:Nat):Option N5→UR
 | some x=>.ok (.ag (qX s x)) M nk
 | none=>.er (cZ n 4)
theorem U8 (s:Int) (hs:1≤s∧s≤4) (CS ST:List (List AV)) (n:Int) (T:List (List AV)) (cl:Bool) (aQ:Int) (w:List UInt8) (hw:w.length≤400000) (hsp:aC s aQ=0) :
  Ctu jQ sZ Tryz.prog 163 [.pt 0 0 0,.sc (.int .i64 aQ),.sc (.string (bs w))] [(0,dX (.int .u8 s) (aU s) CS ST n T cl)] 3 (abd s n [(0,dX (.int .u8 s) (aU s) CS ST n T cl)] 7 (iY s aQ w)):=by
 refine Ctu.intro iG Tryz.func163 rfl Tryz.ntmps163 (aP rfl) rfl fun w0 F0 fp pg hB=>?_
 unfold dX
 refine jw ?_
 have hTl:(w++[32]).length=w.length+1:=by simp
 refine Fj ?_
 refine WL.rgs rfl rfl rfl rfl ?_
 refine Fj ?_
 refine W.loop (fun pos:Nat=>Dj s aQ w pos) (fun pos=>⟨[(0,.pt 0 0 0),(1,.sc (.int .i64 aQ)),(2,.sc (.string (bs w))),(6,.pt 3 0 0),(14,.sl 4)],
  [(0,.box 78 [.sc (.int .u8 s),.sc (aU s),.ls 3 CS,.ls 1 ST,.sl 1,.sl 2,.sc (.int .i64 n),.ls 1 T,.sc (.bool cl)]),(3,.box 157 [.sc (.int .i64 0),.sc (.int .i64 0),.sc (.int .i64 0),.sc (.int .i64 0),.sc (.int .i64 0),.sc (.int .i64 0)]),(4,.opq (X3 (w++[32]) pos))],5⟩) (fun pos=>w.length+1 - pos) 0 (aa5 s aQ w) (zqt id) fun pos hN=>?_
 by_cases hlt:pos < w.length+1
 rotate_left
 ·rw [Rq hsp (by omega) hN]
  have hle:(w++[32]).length≤pos:=by omega
  refine W.seq ?_
  refine W.region ?_
  refine WL.vl rfl (WV.nxe rfl rfl rfl hle) ?_
  refine Fj ?_
  exact FV
 have hlt2:pos < (w++[32]).length:=by omega
 have hstep:=fun h=>aa6 hsp hlt hN h
 have apO:1≤(Utf8.decode (bs (w++[32])) pos).2:=Lib.width_pos _ _
 obtain ⟨nx,hnx⟩:∃ z,pos+(Utf8.decode (bs (w++[32])) pos).2=z:=⟨_,rfl⟩
 obtain ⟨ru,hru⟩:∃ z,(Utf8.decode (bs (w++[32])) pos).1=z:=⟨_,rfl⟩
 refine W.seq ?_
 refine W.region ?_
 refine WL.nxs rfl rfl rfl rfl rfl hlt2 ?_
 rw [hnx] at hstep ⊢
 rw [hru]
 have hlow:pos < nx:=by omega
 by_cases h0:pos=0
 ·have hN2:=hstep (.inl h0)
  exact UD
 have hP:=ab2 s aQ (w.take pos)
 have hcb:0≤(0:Int)∧(0:Int)≤(pos:Int)∧(pos:Int)≤(w.length:Int):=by omega
 have hcc:cut w 0 (pos:Int)=w.take pos:=by unfold cut;simp
 have hcb2:0≤(pos:Int)∧(pos:Int)≤(w.length:Int)∧(w.length:Int)≤(w.length:Int):=by omega
 have alU:=wQ w pos
 have hdl:(w.drop pos).length≤1000000:=by rw [qK];omega
 rcases vT (w.take pos) hsp with ⟨c,f,hpl,_⟩|hpl
 rotate_left
 ·have hN2:=hstep (.inr fun c f h=>by rw [hpl] at h;simp at h)
  rw [hpl] at hP
  refine ado ?_
  rw [hcc]
  refine DTK.v0 rfl (bU Tryz.func35 hP) ?_
  refine qW ?_
  refine DTK.al rfl rfl rfl rfl ⟨rfl,trivial⟩ (fun _=>⟨rfl,trivial⟩) ?_
  refine DTK.sto rfl rfl rfl rfl rfl rfl rfl rfl rfl rfl rfl rfl rfl rfl ⟨rfl,trivial⟩ (fun h=>by cases h) ?_
  refine kX ?_
  refine DTK.nil ?_
  exact UD
 rw [hpl] at hP
 dsimp only at hP
 cases hmk:qG s (decide (0 < (f:Int))) (w.drop pos) with
 | none =>
  have hN2:=hstep (.inr fun c' f' h=>by
   rw [hpl] at h
   have h1:=(Prod.mk.inj h).2
   have h2:=(Prod.mk.inj h1).1
   have:f=f':=by omega
   subst this
   exact hmk)
  obtain ⟨R,G,ho⟩:=Y9 (c:=(c:Int)) hmk
  have hM:=VF s hs (c:Int) (f:Int) (w.drop pos) hdl
  rw [ho] at hM
  refine ado ?_
  rw [hcc]
  refine DTK.v0 rfl (bU Tryz.func35 hP) ?_
  refine qW ?_
  refine DTK.al rfl rfl rfl rfl ⟨rfl,trivial⟩ (fun _=>⟨rfl,trivial⟩) ?_
  refine DTK.sto rfl rfl rfl rfl rfl rfl rfl rfl rfl rfl rfl rfl rfl rfl ⟨rfl,trivial⟩ (fun h=>by cases h) ?_
  refine kX ?_
  refine aiz ?_
  refine gQ ?_
  refine gQ ?_
  refine DTK.v0 rfl (cutV_of rfl hcb2) ?_
  rw [alU]
  refine DTK.v0 rfl (WV.ahZ hB rfl (callF Tryz.func221 rfl rfl) rfl (.cons (Lent.prs rfl VN (abk hs)) (.cons (Lent.pu rfl) (.cons (Lent.pu rfl) .nil))) Wv rfl hM) ?_
  refine qW ?_
  refine DTK.al rfl rfl rfl rfl ⟨rfl,rfl,trivial⟩ (fun _=>⟨rfl,rfl,trivial⟩) ?_
  refine DTK.sto rfl rfl rfl rfl rfl rfl rfl rfl rfl rfl rfl rfl rfl rfl ⟨rfl,rfl,trivial⟩ (fun h=>by cases h) ?_
  refine kX ?_
  refine DTK.nil ?_
  exact UD
 | some x =>
  obtain ⟨R,G,H⟩:=x
  obtain ⟨⟨c',f',r',g',h'⟩,hcl,q1,q2,q3,q4,q5⟩:=akp hsp aj aj hpl hmk
  have ho:=Tq (c:=(c:Int)) hmk
  have hM:=VF s hs (c:Int) (f:Int) (w.drop pos) hdl
  rw [ho] at hM
  dsimp only at q1 q2 q3 q4 q5
  obtain rfl:c=c':=by omega
  obtain rfl:f=f':=by omega
  subst q3 q4 q5
  rw [hcl]
  unfold abd qX
  dsimp only
  refine ado ?_
  rw [hcc]
  refine DTK.v0 rfl (bU Tryz.func35 hP) ?_
  refine qW ?_
  refine DTK.al rfl rfl rfl rfl ⟨rfl,trivial⟩ (fun _=>⟨rfl,trivial⟩) ?_
  refine DTK.sto rfl rfl rfl rfl rfl rfl rfl rfl rfl rfl rfl rfl rfl rfl ⟨rfl,trivial⟩ (fun h=>by cases h) ?_
  refine kX ?_
  refine aiz ?_
  refine gQ ?_
  refine gQ ?_
  refine DTK.v0 rfl (cutV_of rfl hcb2) ?_
  rw [alU]
  refine DTK.v0 rfl (WV.ahZ hB rfl (callF Tryz.func221 rfl rfl) rfl (.cons (Lent.prs rfl VN (abk hs)) (.cons (Lent.pu rfl) (.cons (Lent.pu rfl) .nil))) Wv rfl hM) ?_
  refine qW ?_
  refine DTK.al rfl rfl rfl rfl ⟨rfl,rfl,trivial⟩ (fun _=>⟨rfl,rfl,trivial⟩) ?_
  refine DTK.sto rfl rfl rfl rfl rfl rfl rfl rfl rfl rfl rfl rfl rfl rfl ⟨rfl,rfl,trivial⟩ (fun h=>by cases h) ?_
  refine kX ?_
  refine DTK.nil ?_
  refine Fj ?_
  exact W.ret (ahM rfl rfl rfl ⟨rfl,trivial⟩ rfl)
end
end Go.Proofs.YthohlofpphjofaaGreatDoor
