/- The law: a valid book is saved and loaded as the same book; what is loaded can be saved. -/
import Derived.Test.YthohlofpphjofaaGreatDoorSavGGq
import Derived.Test.YthohlofpphjofaaGreatDoorLd5Gq
import Derived.Test.YthohlofpphjofaaGreatDoorLdKGq
set_option maxHeartbeats 4000000
set_option maxRecDepth 100000
set_option linter.unusedVariables false
set_option linter.unusedSimpArgs false
namespace Go.Proofs.YthohlofpphjofaaGreatDoor
open Go.RowKit
theorem aeN {p:Prop}(h:p:=by
 refine aZ ?_
 refine WL.vl rfl (WV.callG hB rfl (callF Tryz.func22 rfl rfl) rfl rfl Vq) ?_
 exact ae9):p:=h
theorem aeG {p:Prop}(h:p:=by
 refine aZ ?_
 refine WL.vl rfl (WV.callG hB rfl (callF Tryz.func22 rfl rfl) rfl rfl Vq) ?_
 refine aZ ?_
 refine WL.vl rfl (WV.callG hB rfl (callF Tryz.func26 rfl rfl) rfl rfl hSt) ?_
 exact ae9):p:=h
theorem aeF {p:Prop}(h:p:=by
 refine Ctg.intro PY Tryz.func7 rfl Tryz.ntmps7 (aP rfl) (aT rfl) fun w0 F0 hB=>?_;dsimp only [St.init,number,Nat.reduceAdd]
 refine aZ ?_
 refine WL.vl rfl (bU Tryz.func25 hbg) ?_
 exact ae9):p:=h
theorem ae9 {p:Prop}(h:p:=by
 refine aZ ?_
 refine WL.vl rfl (WV.callG hB rfl (callF Tryz.func21 rfl rfl) rfl rfl hw) ?_
 refine aZ ?_
 exact W.ret vJ):p:=h
theorem acs {t:List UInt8} (ht:t.length≤20000) (h:(bF t).2.2=0):Ctg qc Tryz.prog 26 [Vb (bF t).1] (.tu [.sc (.string (bs (yE (bF t).1))),.sc (.int .i64 0)]):=by
 have hV:=X9 h
 have hW:=Ya ht
 have:=V4 (bF t).1 (Ri t) (fun _ k hk=>by have:=acp hW k hk;have:=hW.1;omega) (fun _ k hk=>by have:=(hW.2 _ (fA hk)).1;omega)
 rw [hV]at this
 exact this
theorem afH (b:List En) (t:List UInt8):Ctg ZB Tryz.prog 7 [Vb b,.sc (.string (bs t))] (.sc (.bool true)):=by
 have hw:=ZJ.wB
 have hbg:=Z8 b
 cases hb:bigT b with
 | true =>
  rw [hb] at hbg
  exact aeF
 | false =>
  rw [hb] at hbg
  by_cases ht:20000 < t.length
  ·exact aeF
  have ht:t.length≤20000:=by omega
  have hO:=afJ hb
  have hev:=ajA hb
  have hCp:=Tc b hO
  have hSv:=(V4 b hO (fun h k hk=>by have:=KY h k hk;have:=ajz b k;have:=(nN h).1;omega) (fun h k hk=>by rw [(O7 (pX h k hk)).2.2.2];have:=OM (pX h k hk);omega)).wB
  have hCk:=um b hO
  have Vq:=(aki t aj).wN
  by_cases h0:vN b=0
  ·have hLs:=(aaW (yE b) (by have:=ahj h0 hev;omega) (ZY b) ⟨0,by omega,rfl,rfl⟩ (by rw [KZ h0];exact fun a c hV ha _ _=>akR h0 hV ha) (by rw [KZ h0];exact fun a c hV ha _ _ _=>akQ h0 hV ha)).wN
   rw [ake h0] at hLs
   have hSm:=Td b hO
   rw [h0] at hSv hCk
   unfold ldR at hLs
   dsimp only at hLs
   by_cases hT:(bF t).2.2=0
   ·have hSt:=(acs ht hT).wB
    unfold ldR at Vq
    obtain ⟨⟨c,n,e⟩,hr⟩:∃ z,bF t=z:=⟨_,rfl⟩
    rw [hr] at Vq hSt hT
    dsimp only at Vq hSt hT
    subst hT
    refine Ctg.intro PY Tryz.func7 rfl Tryz.ntmps7 (aP rfl) (aT rfl) fun w0 F0 hB=>?_;dsimp only [St.init,number,Nat.reduceAdd]
    refine aZ ?_
    refine WL.vl rfl (bU Tryz.func25 hbg) ?_
    refine aZ ?_
    refine WL.vl rfl (bU Tryz.func27 hCp) ?_
    refine aZ ?_
    refine WL.vl rfl (WV.callG hB rfl (callF Tryz.func26 rfl rfl) rfl rfl hSv) ?_
    refine aZ ?_
    refine WL.vl rfl (bU Tryz.func27 hCp) ?_
    refine aZ ?_
    refine WL.vl rfl (bU Tryz.func28 hCk) ?_
    refine aZ ?_
    refine WL.vl rfl (WV.callG hB rfl (callF Tryz.func22 rfl rfl) rfl rfl hLs) ?_
    refine aZ ?_
    refine WL.vl rfl (bU Tryz.func24 hSm) ?_
    exact aeG
   ·unfold ldR at Vq
    obtain ⟨⟨c,n,e⟩,hr⟩:∃ z,bF t=z:=⟨_,rfl⟩
    rw [hr] at Vq hT
    dsimp only at Vq hT
    refine Ctg.intro PY Tryz.func7 rfl Tryz.ntmps7 (aP rfl) (aT rfl) fun w0 F0 hB=>?_;dsimp only [St.init,number,Nat.reduceAdd]
    refine aZ ?_
    refine WL.vl rfl (bU Tryz.func25 hbg) ?_
    refine aZ ?_
    refine WL.vl rfl (bU Tryz.func27 hCp) ?_
    refine aZ ?_
    refine WL.vl rfl (WV.callG hB rfl (callF Tryz.func26 rfl rfl) rfl rfl hSv) ?_
    refine aZ ?_
    refine WL.vl rfl (bU Tryz.func27 hCp) ?_
    refine aZ ?_
    refine WL.vl rfl (bU Tryz.func28 hCk) ?_
    refine aZ ?_
    refine WL.vl rfl (WV.callG hB rfl (callF Tryz.func22 rfl rfl) rfl rfl hLs) ?_
    refine aZ ?_
    refine WL.vl rfl (bU Tryz.func24 hSm) ?_
    exact aeN
  ·obtain ⟨E,hE⟩:∃ E,vN b=E:=⟨_,rfl⟩
   rw [hE] at hSv hCk h0
   by_cases hT:(bF t).2.2=0
   ·have hSt:=(acs ht hT).wB
    unfold ldR at Vq
    obtain ⟨⟨c,n,e⟩,hr⟩:∃ z,bF t=z:=⟨_,rfl⟩
    rw [hr] at Vq hSt hT
    dsimp only at Vq hSt hT
    subst hT
    refine Ctg.intro PY Tryz.func7 rfl Tryz.ntmps7 (aP rfl) (aT rfl) fun w0 F0 hB=>?_;dsimp only [St.init,number,Nat.reduceAdd]
    refine aZ ?_
    refine WL.vl rfl (bU Tryz.func25 hbg) ?_
    refine aZ ?_
    refine WL.vl rfl (bU Tryz.func27 hCp) ?_
    refine aZ ?_
    refine WL.vl rfl (WV.callG hB rfl (callF Tryz.func26 rfl rfl) rfl rfl hSv) ?_
    refine aZ ?_
    refine WL.vl rfl (bU Tryz.func27 hCp) ?_
    refine aZ ?_
    refine WL.vl rfl (bU Tryz.func28 hCk) ?_
    exact aeG
   ·unfold ldR at Vq
    obtain ⟨⟨c,n,e⟩,hr⟩:∃ z,bF t=z:=⟨_,rfl⟩
    rw [hr] at Vq hT
    dsimp only at Vq hT
    refine Ctg.intro PY Tryz.func7 rfl Tryz.ntmps7 (aP rfl) (aT rfl) fun w0 F0 hB=>?_;dsimp only [St.init,number,Nat.reduceAdd]
    refine aZ ?_
    refine WL.vl rfl (bU Tryz.func25 hbg) ?_
    refine aZ ?_
    refine WL.vl rfl (bU Tryz.func27 hCp) ?_
    refine aZ ?_
    refine WL.vl rfl (WV.callG hB rfl (callF Tryz.func26 rfl rfl) rfl rfl hSv) ?_
    refine aZ ?_
    refine WL.vl rfl (bU Tryz.func27 hCp) ?_
    refine aZ ?_
    refine WL.vl rfl (bU Tryz.func28 hCk) ?_
    exact aeN
end Go.Proofs.YthohlofpphjofaaGreatDoor
