/- The reader of the program: marks. -/
import Derived.Test.YthohlofpphjofaaGreatDoorNrDLq
set_option maxHeartbeats 8000000
set_option maxRecDepth 100000
set_option linter.unusedVariables false
set_option linter.unusedSimpArgs false
namespace Go.Proofs.YthohlofpphjofaaGreatDoor
open Go.RowKit
theorem amS {p:Prop}(h:p:=by
 refine WL.vl rfl (WV.sys hs PL rfl rfl (λvs w=>by kernel_rfl) (λvs w=>by kernel_rfl) (λvs w=>by kernel_rfl) (λvs w=>by kernel_rfl) rfl rfl hhd) ?_;refine gJ ?_;exact gZ):p:=h
theorem amP {p:Prop}(h:p:=by
 refine WL.vl rfl (WV.sys hs PL rfl rfl (λvs w=>by kernel_rfl) (λvs w=>by kernel_rfl) (λvs w=>by kernel_rfl) (λvs w=>by kernel_rfl) rfl rfl hhd) ?_;refine gJ ?_;rw [hb1];refine gJ ?_;exact gZ):p:=h
theorem U0 {p:Prop}(h:p:=by
 refine WL.vl rfl (WV.sys hs PL rfl rfl (λvs w=>by kernel_rfl) (λvs w=>by kernel_rfl) (λvs w=>by kernel_rfl) (λvs w=>by kernel_rfl) rfl rfl hhd) ?_;refine gJ ?_;rw [hb1];refine gJ ?_;rw [hb2];refine gJ ?_;exact gZ):p:=h
theorem ald {p:Prop}(h:p:=by
 refine gJ ?_;refine ⟨k - 1,⟨by omega,he.trans hR⟩,by omega,?_⟩;rw [show (k:Int) - 1=((k - 1:Nat):Int) by omega];exact (zqt id)):p:=h
theorem ak7 {p:Prop}(h:p:=by
 refine gJ ?_;refine ⟨g - 1,⟨by omega,he.trans hG⟩,by omega,?_⟩;rw [show (g:Int) - 1=((g - 1:Nat):Int) by omega];exact (zqt id)):p:=h
theorem jl {p q:Prop}(k:q)(h:iF q->p:=by
 intro hq;refine mM ?_;refine mM ?_;refine mM ?_;exact hq.k):p:=h ⟨k⟩
theorem arO {p q:Prop}(k:q)(h:iF q->p:=by
 intro hq;refine gJ ?_;refine W.xw 8 aK aK aK ?_;refine WA.dt [false,false,false,false,false,false,false,true] [] [] 7 aK aK aK trivial trivial ?_;exact hq.k):p:=h ⟨k⟩
def QC (s:Int) (t:List UInt8):Nat->Int×List UInt8
 | 0=>(0,t)| k+1=>if uV (okR s ((k+1:Nat):Int)) (rR s ((k+1:Nat):Int)) t=true then (((k+1:Nat):Int),t.drop (rR s ((k+1:Nat):Int)).length) else QC s t k
def QB (s:Int) (t:List UInt8):Nat->Int×List UInt8
 | 0=>(0,t)| k+1=>if uV (zZ s ((k+1:Nat):Int)) (rG s ((k+1:Nat):Int)) t=true then (((k+1:Nat):Int),t.drop (rG s ((k+1:Nat):Int)).length) else QB s t k
theorem avb(s:Int)(t:List UInt8):QC s t 3=Fh s t:=rfl
theorem ava(s:Int)(t:List UInt8):QB s t 4=O7 s t:=rfl
theorem af7 {s:Int} {t:List UInt8}:∀ {k:Nat},okR s k=true->bY (rR s k) t=true->QC s t k=((k:Int),t.drop (rR s k).length)
 | 0,_,_=>by
  have e:rR s ((0:Nat):Int)=[]:=by simp [rR]
  rw [e];rfl| k+1,h1,h2=>if_pos (by unfold uV;rw [h1];exact h2)
theorem af6 {s:Int} {t:List UInt8}:∀ {k:Nat},zZ s k=true->bY (rG s k) t=true->QB s t k=((k:Int),t.drop (rG s k).length)
 | 0,_,_=>by
  have e:rG s ((0:Nat):Int)=[]:=by simp [rG]
  rw [e];rfl| k+1,h1,h2=>if_pos (by unfold uV;rw [h1];exact h2)
theorem XW {s:Int} {t:List UInt8}:∀ {k:Nat},(okR s k=false\/bY (rR s k) t=false)->0<k/\QC s t (k-1)=QC s t k
 | 0,h=>by
  have e:rR s ((0:Nat):Int)=[]:=by simp [rR]
  rcases h with h|h;.simp [okR] at h
  .rw [e] at h;simp [bY] at h| k+1,h=>⟨by omega,(if_neg (by
   unfold uV;rcases h with h|h;.rw [h];simp
   .rw [show (rR s ((k+1:Nat):Int)).isPrefixOf t=false from h];simp)).symm⟩
theorem XV {s:Int} {t:List UInt8}:∀ {k:Nat},(zZ s k=false\/bY (rG s k) t=false)->0<k/\QB s t (k-1)=QB s t k
 | 0,h=>by
  have e:rG s ((0:Nat):Int)=[]:=by simp [rG]
  rcases h with h|h;.simp [zZ] at h
  .rw [e] at h;simp [bY] at h| k+1,h=>⟨by omega,(if_neg (by
   unfold uV;rcases h with h|h;.rw [h];simp
   .rw [show (rG s ((k+1:Nat):Int)).isPrefixOf t=false from h];simp)).symm⟩
def Hg (s c f:Int) (t:List UInt8):AV :=match BQ s (decide (0<f)) (O7 s (Fh s t).2).2 with
 | some h=>.tu [.ag [.sc (.int .i64 c),.sc (.int .i64 f),.sc (.int .i64 (Fh s t).1),.sc (.int .i64 (O7 s (Fh s t).2).1),.sc (.int .i64 0),.sc (.int .i64 h)],.sc (.bool true)]| none=>.tu [.ag [.sc (.int .i64 c),.sc (.int .i64 f),.sc (.int .i64 (Fh s t).1),.sc (.int .i64 (O7 s (Fh s t).2).1),.sc (.int .i64 0),.sc (.int .i64 0)],.sc (.bool false)]
theorem Dv (t:List UInt8) (k:Nat):cut t (k:Int) (t.length:Int)=t.drop k:=by
 unfold cut;rw [gy,gy];exact ou (by simp)
theorem Xi:((List.range 16).all λn=>TU n == jy n)=true:=by decide
theorem apl {n:Nat} (h:n<=15):Lib.itoa (n:Int)=jy n:=by
 rw [aaT (by omega)];exact eq_of_beq (List.all_eq_true.1 Xi n (List.mem_range.2 au))
theorem ajN {t:List UInt8} {j:Nat} (h0:t≠[])(h1:1<=j/\j<=15)(hn:∀ i,i+1<j->t≠95::jy (i+1))(h:t=95::jy j):BQ 1 true t=some (j:Int):=by
 unfold BQ;rw [if_neg h0];have e:((List.range 15).find? λn=>true && (decide ((1:Int)=1) && (t == 95::jy (n+1))))=some (j-1):=by
  rw [List.find?_range_eq_some];refine⟨?_,by simp;omega,λi hi=>?_⟩;.rw [show j-1+1=j by omega,h];simp
  .have:=hn i au;simp [this]
 rw [e];exact congrArg some au
theorem ady {s:Int} {fp:Bool} {t:List UInt8} (h0:t≠[])(hn:fp=false\/s≠1\/∀ i,i<15->t≠95::jy (i+1)):BQ s fp t=if (fp && decide (s=2\/s=4) && (t == [42]))=true then some (-1)else none:=by
 unfold BQ;rw [if_neg h0];have e:((List.range 15).find? λn=>fp && (decide (s=1) && (t == 95::jy (n+1))))=none:=by
  rw [NJ];intro i hi;have hi:=List.mem_range.1 hi;rcases hn with h|h|h;.simp [h]
  .simp [h]
  .simp [h i hi]
 rw [e]
theorem apU {s:Int} (hs:1<=s/\s<=4):(xM s 1 1 && (pH s 1 1 == [42]))=decide (s=2\/s=4):=by rcases dN hs with rfl|rfl|rfl|rfl<;>decide
theorem ac3 (s:Int) (hs:1<=s/\s<=4) (c f:Int) (t:List UInt8) (ht:t.length<=1000000) :jB ng Tryz.prog 221 [.pr [.sc (.int .u8 s),.sc (bT s)],.ag [.sc (.int .i64 c),.sc (.int .i64 f)],.sc (.string (bs t))] (Hg s c f t):=by
 unfold Hg;refine jB.intro jR Tryz.func221 rfl Tryz.ntmps221 (bG rfl) (dW rfl) λw0 F0 hB=>?_;dsimp only [St.init,number,Nat.reduceAdd];refine gJ ?_;refine W.loop (λk:Nat=>k<=3/\QC s t k=Fh s t) (λk=>⟨[(0,.pr [.sc (.int .u8 s),.sc (bT s)]),(2,.sc (.string (bs t))),(4,.pt 0 0 0),(6,.pt 1 0 0),(8,.pt 2 0 0),(9,.sc (.int .i64 (k:Int)))],[(0,.box 64 [.sc (.int .i64 c),.sc (.int .i64 f)]),(1,.box 157 [.sc (.int .i64 0),.sc (.int .i64 0),.sc (.int .i64 0),.sc (.int .i64 0),.sc (.int .i64 0),.sc (.int .i64 0)]),(2,.box 157 [.sc (.int .i64 c),.sc (.int .i64 f),.sc (.int .i64 0),.sc (.int .i64 0),.sc (.int .i64 0),.sc (.int .i64 0)])],3⟩) (λk=>k) 3 ⟨by omega,avb s t⟩ (zqt id) λk hk=>?_;obtain ⟨hk,hR⟩:=hk;have hmr:=MK s hs (k:Int) ⟨by omega,by omega⟩;have hkk:(0:Int)<=(k:Int):=Ji _;cases hok:okR s (k:Int) with
 | false =>
  obtain ⟨hk0,he⟩:=XW (t:=t) (.inl hok);rw [hok] at hmr;refine gJ ?_;refine WL.vl rfl (WV.sys hs Hf rfl rfl (λvs w=>by kernel_rfl) (λvs w=>by kernel_rfl) (λvs w=>by kernel_rfl) (λvs w=>by kernel_rfl) rfl rfl hmr) ?_;exact ald| true =>
  rw [hok] at hmr;have hp:=TJ t (rR s (k:Int));cases hpf:bY (rR s (k:Int)) t with
  | false =>
   obtain ⟨hk0,he⟩:=XW (t:=t) (.inr hpf);rw [hpf] at hp;refine gJ ?_;refine WL.vl rfl (WV.sys hs Hf rfl rfl (λvs w=>by kernel_rfl) (λvs w=>by kernel_rfl) (λvs w=>by kernel_rfl) (λvs w=>by kernel_rfl) rfl rfl hmr) ?_;refine gJ ?_;refine WL.vl rfl (aS Tryz.func256 hp) ?_;exact ald| true =>
   have he:=(af7 hok hpf).symm.trans hR;rw [hpf] at hp;rw [← he];dsimp only;have hle:(rR s (k:Int)).length<=t.length:=(List.isPrefixOf_iff_prefix.1 hpf).length_le;have hcb:0<=((rR s (k:Int)).length:Int)/\((rR s (k:Int)).length:Int)<=(t.length:Int)/\(t.length:Int)<=(t.length:Int):=by omega
   have hcc:=Dv t (rR s (k:Int)).length;obtain ⟨t1,ht1⟩:∃ z,t.drop (rR s (k:Int)).length=z:=⟨_,rfl⟩;have hl1:t1.length<=1000000:=by rw [← ht1];simp;omega
   rw [ht1] at hcc ⊢;refine gJ ?_;refine WL.vl rfl (WV.sys hs Hf rfl rfl (λvs w=>by kernel_rfl) (λvs w=>by kernel_rfl) (λvs w=>by kernel_rfl) (λvs w=>by kernel_rfl) rfl rfl hmr) ?_;refine gJ ?_;refine WL.vl rfl (aS Tryz.func256 hp) ?_;refine arO ?_;refine jl ?_;refine aV.v0 rfl (vS rfl) ?_;refine aV.v0 rfl (Bf rfl hcb) ?_;rw [hcc];refine lQ ?_;refine aV.xq rfl rfl rfl rfl rfl rfl rfl rfl rfl rfl rfl rfl rfl rfl trivial (λh=>by cases h) ?_;refine aV.nil ?_;refine ⟨rfl,?_⟩;refine (?_:WL _ _ _ _ _ _);refine gJ ?_;refine W.loop (λg:Nat=>g<=4/\QB s t1 g=O7 s t1) (λg=>⟨[(2,.sc (.string (bs t1))),(12,.sc (.int .i64 (g:Int))),(0,.pr [.sc (.int .u8 s),.sc (bT s)]),(4,.pt 0 0 0),(6,.pt 1 0 0),(8,.pt 2 0 0)],[(0,.box 64 [.sc (.int .i64 c),.sc (.int .i64 f)]),(1,.box 157 [.sc (.int .i64 0),.sc (.int .i64 0),.sc (.int .i64 0),.sc (.int .i64 0),.sc (.int .i64 0),.sc (.int .i64 0)]),(2,.box 157 [.sc (.int .i64 c),.sc (.int .i64 f),.sc (.int .i64 k),.sc (.int .i64 0),.sc (.int .i64 0),.sc (.int .i64 0)])],3⟩) (λg=>g) 4 ⟨by omega,ava s t1⟩ (zqt id) λg hg=>?_;obtain ⟨hg,hG⟩:=hg;have hmg:=KE s hs (g:Int) ⟨by omega,by omega⟩;have hgg:(0:Int)<=(g:Int):=Ji _;cases aoK:zZ s (g:Int) with
   | false =>
    obtain ⟨hk0,he⟩:=XV (t:=t1) (.inl aoK);rw [aoK] at hmg;refine gJ ?_;refine WL.vl rfl (WV.sys hs Gq rfl rfl (λvs w=>by kernel_rfl) (λvs w=>by kernel_rfl) (λvs w=>by kernel_rfl) (λvs w=>by kernel_rfl) rfl rfl hmg) ?_;exact ak7| true =>
    rw [aoK] at hmg;have hpg:=TJ t1 (rG s (g:Int));cases ah6:bY (rG s (g:Int)) t1 with
    | false =>
     obtain ⟨hk0,he⟩:=XV (t:=t1) (.inr ah6);rw [ah6] at hpg;refine gJ ?_;refine WL.vl rfl (WV.sys hs Gq rfl rfl (λvs w=>by kernel_rfl) (λvs w=>by kernel_rfl) (λvs w=>by kernel_rfl) (λvs w=>by kernel_rfl) rfl rfl hmg) ?_;refine gJ ?_;refine WL.vl rfl (aS Tryz.func256 hpg) ?_;exact ak7| true =>
     have he2:=(af6 aoK ah6).symm.trans hG;rw [ah6] at hpg;rw [← he2];dsimp only;have aBU:(rG s (g:Int)).length<=t1.length:=(List.isPrefixOf_iff_prefix.1 ah6).length_le;have azD:0<=((rG s (g:Int)).length:Int)/\((rG s (g:Int)).length:Int)<=(t1.length:Int)/\(t1.length:Int)<=(t1.length:Int):=by omega
     have aw0:=Dv t1 (rG s (g:Int)).length;obtain ⟨t2,ht2⟩:∃ z,t1.drop (rG s (g:Int)).length=z:=⟨_,rfl⟩;have hl2:t2.length<=1000000:=by rw [← ht2];simp;omega
     rw [ht2] at aw0 ⊢;refine gJ ?_;refine WL.vl rfl (WV.sys hs Gq rfl rfl (λvs w=>by kernel_rfl) (λvs w=>by kernel_rfl) (λvs w=>by kernel_rfl) (λvs w=>by kernel_rfl) rfl rfl hmg) ?_;refine gJ ?_;refine WL.vl rfl (aS Tryz.func256 hpg) ?_;refine arO ?_;refine jl ?_;refine aV.v0 rfl (vS rfl) ?_;refine aV.v0 rfl (Bf rfl azD) ?_;rw [aw0];refine lQ ?_;refine aV.xq rfl rfl rfl rfl rfl rfl rfl rfl rfl rfl rfl rfl rfl rfl trivial (λh=>by cases h) ?_;refine aV.nil ?_;refine ⟨rfl,?_⟩;refine (?_:WL _ _ _ _ _ _);by_cases h0:t2=[]
     .have hb0:(t2 == ([]:List UInt8))=true:=by rw [h0];rfl
      have hH:BQ s (decide (0 < f)) t2=some 0:=by unfold BQ;rw [if_pos h0]
      rw [hH];refine gJ ?_;rw [hb0];refine gJ ?_;exact gZ
     have hb0:(t2 == ([]:List UInt8))=false:=by simpa using h0
     have hhd:=SI s hs 1 1 ⟨by omega,by omega⟩;have hst:=apU hs;by_cases hf:0 < f;rotate_left
     .have hd:decide (0 < f)=false:=bW hf;have hH:BQ s (decide (0 < f)) t2=none:=by rw [ady h0 (.inl hd),hd];rfl
      rw [hH];refine gJ ?_;rw [hb0];refine gJ ?_;refine W.loop (λ_:Unit=>True) (λ_=>⟨[(0,.pr [.sc (.int .u8 s),.sc (bT s)]),(2,.sc (.string (bs t2))),(4,.pt 0 0 0),(6,.pt 1 0 0),(8,.pt 2 0 0),(15,.sc (.int .i64 1))],[(0,.box 64 [.sc (.int .i64 c),.sc (.int .i64 f)]),(1,.box 157 [.sc (.int .i64 0),.sc (.int .i64 0),.sc (.int .i64 0),.sc (.int .i64 0),.sc (.int .i64 0),.sc (.int .i64 0)]),(2,.box 157 [.sc (.int .i64 c),.sc (.int .i64 f),.sc (.int .i64 k),.sc (.int .i64 g),.sc (.int .i64 0),.sc (.int .i64 0)])],3⟩) (λ_=>0) () trivial (zqt id) λ_ _=>?_;refine gJ ?_;cases hok1:xM s 1 1 with
      | false =>
       rw [hok1] at hhd hst;exact amS| true =>
       rw [hok1] at hhd hst;obtain ⟨p,hp1⟩:∃ z,pH s 1 1=z:=⟨_,rfl⟩;rw [hp1] at hhd hst;cases hb1:(p == ([42]:List UInt8)) with
       | false =>
        rw [hb1] at hst;exact amP| true =>
        have hpe:p=[42]:=eq_of_beq hb1;rw [hb1] at hst;cases hb2:(t2 == p) with
        | false =>
         have hb3:(t2 == ([42]:List UInt8))=false:=by rw [← hpe];exact hb2
         exact U0| true =>
         have hb3:(t2 == ([42]:List UInt8))=true:=by rw [← hpe];exact hb2
         exact U0
     refine gJ ?_;rw [hb0];refine gJ ?_;have hd:decide (0 < f)=true:=bQ hf;refine W.loop (λj:Nat=>(1<=j/\j<=16)/\∀ i,i+1 < j->s=1->t2≠95::jy (i+1)) (λj=>⟨[(0,.pr [.sc (.int .u8 s),.sc (bT s)]),(2,.sc (.string (bs t2))),(4,.pt 0 0 0),(6,.pt 1 0 0),(8,.pt 2 0 0),(15,.sc (.int .i64 (j:Int)))],[(0,.box 64 [.sc (.int .i64 c),.sc (.int .i64 f)]),(1,.box 157 [.sc (.int .i64 0),.sc (.int .i64 0),.sc (.int .i64 0),.sc (.int .i64 0),.sc (.int .i64 0),.sc (.int .i64 0)]),(2,.box 157 [.sc (.int .i64 c),.sc (.int .i64 f),.sc (.int .i64 k),.sc (.int .i64 g),.sc (.int .i64 0),.sc (.int .i64 0)])],3⟩) (λj=>16 - j) 1 ⟨by omega,λi h=>absurd h au⟩ (zqt id) λj hj=>?_;obtain ⟨hj1,hnj⟩:=hj;by_cases hlt:j<=15;rotate_left
     .obtain rfl:j=16:=by omega
      have hno:=ady (s:=s) (fp:=decide (0 < f)) (t:=t2) h0 (by
       by_cases e:s=1;.exact .inr (.inr λi hi=>hnj i au e)
       .exact .inr (.inl e));refine gJ ?_;cases hok1:xM s 1 1 with
      | false =>
       rw [hok1] at hhd hst;have hz:decide (s=2\/s=4)=false:=hst.symm;have hH:BQ s (decide (0 < f)) t2=none:=by rw [hno,hd,hz];rfl
       rw [hH];exact amS| true =>
       rw [hok1] at hhd hst;obtain ⟨p,hp1⟩:∃ z,pH s 1 1=z:=⟨_,rfl⟩;rw [hp1] at hhd hst;cases hb1:(p == ([42]:List UInt8)) with
       | false =>
        rw [hb1] at hst;have hz:decide (s=2\/s=4)=false:=hst.symm;have hH:BQ s (decide (0 < f)) t2=none:=by rw [hno,hd,hz];rfl
        rw [hH];exact amP| true =>
        have hpe:p=[42]:=eq_of_beq hb1;rw [hb1] at hst;cases hb2:(t2 == p) with
        | false =>
         have hb3:(t2 == ([42]:List UInt8))=false:=by rw [← hpe];exact hb2
         have hz:decide (s=2\/s=4)=true:=hst.symm;have hH:BQ s (decide (0 < f)) t2=none:=by rw [hno,hd,hz,hb3];rfl
         rw [hH];exact U0| true =>
         have hb3:(t2 == ([42]:List UInt8))=true:=by rw [← hpe];exact hb2
         have hz:decide (s=2\/s=4)=true:=hst.symm;have hH:BQ s (decide (0 < f)) t2=some (-1):=by rw [hno,hd,hz,hb3];rfl
         rw [hH];exact U0
     by_cases s1:s=1;rotate_left
     .have hsd:decide (s=1)=false:=bW s1;refine gJ ?_;refine ⟨j+1,⟨by omega,λi hi e=>absurd e s1⟩,by omega,?_⟩;exact (zqt id)
     have hsd:decide (s=1)=true:=bQ s1;have hIt:=aoZ (j:Int) yg;rw [apl hlt] at hIt;have hdl:(jy j).length<=2:=by unfold jy;split<;>simp
     cases hbm:(t2 == [95]++jy j) with
     | false =>
      refine gJ ?_;refine WL.vl rfl (WV.dZ hB rfl (aj Tryz.func108 rfl rfl) rfl rfl hIt) ?_;refine gJ ?_;rw [hbm];refine gJ ?_;refine ⟨j+1,⟨by omega,λi hi e=>?_⟩,by omega,(zqt id)⟩;by_cases e2:i+1=j
      .subst e2;simpa using hbm
      .exact hnj i au e| true =>
      have hH:BQ s (decide (0 < f)) t2=some (j:Int):=by
       rw [hd,s1];exact ajN h0 ⟨hj1.1,hlt⟩ (λi hi=>hnj i hi s1) (by simpa using eq_of_beq hbm)
      rw [hH];refine gJ ?_;refine WL.vl rfl (WV.dZ hB rfl (aj Tryz.func108 rfl rfl) rfl rfl hIt) ?_;refine gJ ?_;rw [hbm];refine gJ ?_;exact gZ
end Go.Proofs.YthohlofpphjofaaGreatDoor
