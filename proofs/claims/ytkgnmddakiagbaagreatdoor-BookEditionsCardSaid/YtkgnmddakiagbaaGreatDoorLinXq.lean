/- The reference: Sound, the melody of a piece, how it begins; lists of numbers that are equal. -/
import Derived.Test.YtkgnmddakiagbaaGreatDoorIncXq
import Derived.Test.YtkgnmddakiagbaaGreatDoorEHXq
set_option linter.unusedVariables false
set_option linter.unusedSimpArgs false
namespace Go.Proofs.YtkgnmddakiagbaaGreatDoor
open Go.RowKit
set_option maxHeartbeats 8000000
set_option maxRecDepth 100000
theorem rSound_FS (cs:List (Int×Int×Bool)) (st:List Int) (c f:Int) (hc:1≤c∧c≤cs.length) (hf:0≤f∧f≤st.length) (hb:(∀ k (h:k < cs.length),0≤cs[k].1∧cs[k].1≤127)∧∀ k (h:k < st.length),1≤st[k]∧st[k]≤127) (hl:cs.length≤14∧st.length≤18) :
  Ctr Tryz.prog 139 [.ag (eIns cs st),.ag [.sc (.int .i64 c),.sc (.int .i64 f)]] (.sc (.int .i64 (pitN cs st c f))):=by
 have hk:(c - 1).toNat < cs.length:=by omega
 have h1:=hb.1 _ hk
 have e0:(cs.getD (c - 1).toNat (0,0,false))=cs[(c - 1).toNat]:=by rw [List.getD_eq_getElem?_getD,List.getElem?_eq_getElem hk];rfl
 unfold pitN
 rw [e0]
 obtain ⟨x,hx⟩:∃ x,cs[(c - 1).toNat]=x:=⟨_,rfl⟩
 rw [hx] at h1 ⊢
 by_cases h:0 < f
 ·have hs:(f - 1).toNat < st.length:=by omega
  have h2:=hb.2 _ hs
  rw [if_pos h,List.getD_eq_getElem?_getD,List.getElem?_eq_getElem hs]
  simp only [Option.getD_some]
  obtain ⟨y,hy⟩:∃ y,st[(f - 1).toNat]=y:=⟨_,rfl⟩
  rw [hy] at h2 ⊢
  refine Ctr.intro Tryz.func139 rfl Tryz.ntmps139 (Nat.le_of_ble_eq_true rfl) (bd_all rfl) fun w0 F0=>?_;dsimp only [St.init,number,Nat.reduceAdd]
  repeat (first|refine W.gob rfl ?_|refine WL.nil ?_|refine WL.bt rfl rfl rfl (by omega) ?_|refine WL.e1 rfl ?_|refine WL.ar rfl rfl (by unfold I64;omega) ?_|refine WL.idx rfl rfl (by omega) (by first|exact map_at (by omega)|exact map_atZ (by omega) (by omega)) ?_|refine W.condT rfl ?_)
  refine (?_:WL _ _ _ _ _ _)
  dsimp only [St.put,Nat.reduceAdd]
  rw [hx]
  repeat (first|refine W.gob rfl ?_|refine WL.nil ?_|refine WL.e1 rfl ?_|refine WL.ar rfl rfl (by unfold I64;omega) ?_)
  refine (?_:W _ _ _ _ _)
  dsimp only [St.put,Nat.reduceAdd]
  rw [hy]
  refine (?_:W _ _ _ _ _)
  exact W.ret (fin1 rfl rfl rfl rfl)
 ·rw [if_neg h]
  refine Ctr.intro Tryz.func139 rfl Tryz.ntmps139 (Nat.le_of_ble_eq_true rfl) (bd_all rfl) fun w0 F0=>?_;dsimp only [St.init,number,Nat.reduceAdd]
  repeat (first|refine W.gob rfl ?_|refine WL.nil ?_|refine WL.bf rfl rfl rfl (by omega) ?_|refine WL.e1 rfl ?_|refine WL.ar rfl rfl (by unfold I64;omega) ?_|refine WL.idx rfl rfl (by omega) (by first|exact map_at (by omega)|exact map_atZ (by omega) (by omega)) ?_|refine W.condF rfl ?_)
  refine (?_:W _ _ _ _ _)
  dsimp only [St.put,Nat.reduceAdd]
  rw [hx]
  refine (?_:W _ _ _ _ _)
  refine W.ret (fin1 rfl rfl (sc_int ?_) rfl)
  omega
theorem rSoundP_FS {p:Pce} (h0:pceE p=0) {k:Nat} {x:Stp} (hx:StpOk p k x):Ctr Tryz.prog 139 [.ag (eIns p.cs p.st),.ag [.sc (.int .i64 x.1),.sc (.int .i64 x.2.1)]] (.sc (.int .i64 (pitN p.cs p.st x.1 x.2.1))):=by
 obtain ⟨hI,_,_⟩:=pceE_zero h0
 obtain ⟨l1,l2,l3,l4,l5⟩:=insE_len hI
 have hf:=hx.fret
 have hc:=hx.crs
 have hk:(x.1-1).toNat<p.cs.length:=by omega
 have hfr:=crsE_fr l5 _ hk
 have ef:fretsOf p.cs x.1=p.cs[(x.1-1).toNat].2.1:=by
  have:=fretsOf_at hk
  rw [← this];congr 1;omega
 rw [ef] at hf
 exact rSound_FS p.cs p.st x.1 x.2.1 hc ⟨hf.1,by omega⟩ ⟨crsE_p l5,stepsBad_bd (Int.le_refl 0) l4⟩ ⟨l2,l3⟩
end Go.Proofs.YtkgnmddakiagbaaGreatDoor
