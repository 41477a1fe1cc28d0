/- The reader of the reference: the lines of a chord's words; a stop is put in its place. -/
import Derived.Test.YthohlofpphjofaaGreatDoorNrWLq
import Derived.Test.YthohlofpphjofaaGreatDoorNrKLq
set_option maxHeartbeats 4000000
set_option maxRecDepth 100000
set_option linter.unusedVariables false
set_option linter.unusedSimpArgs false
namespace Go.Proofs.YthohlofpphjofaaGreatDoor
open Go.RowKit
theorem U9 {p:Prop}(h:p:=by
 refine Oa ?_;exact qL):p:=h
theorem ab5 {p:Prop}(h:p:=by
 refine Oa ?_;refine W.tr (Tr.afe (t:=6) 1 rfl) ?_;exact gZ):p:=h
theorem U2 {p:Prop}(h:p:=by
 refine Oa ?_;refine ⟨k+1,by omega,by omega,?_⟩;rw [hrow];exact aqo):p:=h
theorem afQ (cs:List Crs) (st:List Int) (hcs:cs.length<=64):bC Tryz.prog 210 [.ag (jc cs st)] (.sc (.int .i64 (min cs.length 6:Nat))):=by
 have hml:(cs.map bg).length=cs.length:=bK _;unfold jc;obtain ⟨R,hR⟩:∃ z,cs.map bg=z:=⟨_,rfl⟩;rw [hR] at hml ⊢;refine dV Tryz.func210 Tryz.ntmps210 λw0 F0=>?_;dsimp only [St.init,number,Nat.reduceAdd];refine arq ?_;refine WL.mm rfl rfl (z':=((min cs.length 6:Nat):Int)) (by split<;>omega) ?_;refine arq ?_;exact W.ret kR
def eH(s n mm i:Int):Int:=if n<(if s=2 then mm-i else i+1)then 0 else(if s=2 then mm-i else i+1)
def jH (s n:Int)(mm k:Nat):List Int:=(List.range k).map λi:Nat=>eH s n mm (i:Int)
def uT(s:Int)(n mm:Nat):Prop:=mm<n\/mm=0\/(s=3/\n<mm)
instance (s:Int)(n mm:Nat):Decidable (uT s n mm):=by unfold uT;exact inferInstance
theorem Fg(s n:Int)(mm k:Nat):(jH s n mm k).length=k:=by unfold jH;simp
theorem Qy (s:Int) (hs:1<=s/\s<=4) (cs:List Crs) (st:List Int) (hcs:cs.length<=64) (mm:Nat) (hW:mm<=400000) :bC Tryz.prog 228 [.sc (.int .u8 s),.ag (jc cs st),.sc (.int .i64 (mm:Int))] (.tu [.ls 1 ((if uT s (aA s cs) mm then [] else jH s (aA s cs) mm mm).map eInt),.sc (.bool (decide (¬ uT s (aA s cs) mm)))]):=by
 have hSt:=afQ cs st hcs;have n6:=(qY s cs).1;have n4:=(qY s cs).2;have hmin:s≠4->((min cs.length 6:Nat):Int)=(aA s cs:Int):=λh=>by unfold aA;rw [if_neg h]
 obtain ⟨n,hn⟩:∃ z,aA s cs=z:=⟨_,rfl⟩;rw [hn] at n6 n4 hmin ⊢;unfold jc at hSt ⊢;refine dV Tryz.func228 Tryz.ntmps228 λw0 F0=>?_;dsimp only [St.init,number,Nat.reduceAdd];refine Oa ?_;refine WL.vl rfl (aS Tryz.func210 hSt) ?_;refine Oa ?_;refine W.meet ⟨[(0,.sc (.int .u8 s)),(2,.sc (.int .i64 (mm:Int))),(9,.sc (.int .i64 (n:Int))),(8,.sc (.slice none 0 0))],[],1⟩ ?_ ?_
 .by_cases s4:s=4
  .rw [bQ s4];have:=n4 s4;subst this;exact U9
  .rw [bW s4];rw [hmin s4];exact U9
 clear hmin n4 hSt;by_cases hb:uT s n mm
 .rw [if_pos hb,bW (λh=>h hb)];by_cases h1:mm < n;.exact ab5
  by_cases h2:mm=0;.exact ab5
  have h3:s=3/\n < mm:=by
   rcases hb with h|h|h;.exact absurd h h1
   .exact absurd h h2
   .exact h
  obtain ⟨h3,h4⟩:=h3;subst h3;exact ab5
 rw [if_neg hb,bQ hb];have h1:¬ mm < n:=λh=>hb (.inl h);have h2:¬ mm=0:=λh=>hb (.inr (.inl h));have h3:¬ (s=3/\n < mm):=λh=>hb (.inr (.inr h));refine W.seq ?_;refine W.meet ⟨[(0,.sc (.int .u8 s)),(2,.sc (.int .i64 (mm:Int))),(9,.sc (.int .i64 (n:Int))),(8,.sc (.slice none 0 0))],[],1⟩ ?_ ?_
 .by_cases s3:s=3
  .have:¬ n < mm:=λh=>h3 ⟨s3,h⟩;subst s3;exact U9
  .exact U9
 refine Oa ?_;refine W.tr (Tr.nil (t:=8) 3 1 rfl rfl) ?_;refine W.loop (λk:Nat=>k<=mm) (λk=>⟨[(0,.sc (.int .u8 s)),(2,.sc (.int .i64 (mm:Int))),(9,.sc (.int .i64 (n:Int))),(8,.sl 1),(10,.sc (.int .i64 (k:Int)))],[(1,.row 3 1 ((jH s n mm k).map eInt))],2⟩) (λk=>mm - k) 0 au (zqt id) λk hk=>?_;have hlen:((jH s n mm k).map eInt).length=k:=by rw [bK,Fg]
 by_cases hlt:k < mm
 .have hrow:(jH s n mm (k+1)).map eInt=(jH s n mm k).map eInt++[[.sc (.int .i64 (eH s n mm k))]]:=by
   unfold jH;rw [Nw,iC,iC];rfl
  obtain ⟨R,hR⟩:∃ z,(jH s n mm k).map eInt=z:=⟨_,rfl⟩;rw [hR] at hrow hlen ⊢;unfold eH at hrow;by_cases s2:s=2
  .rw [if_pos s2] at hrow;by_cases h4:(n:Int) < (mm:Int) - (k:Int)
   .rw [if_pos h4] at hrow;subst s2;exact U2
   .rw [if_neg h4] at hrow;subst s2;exact U2
  .rw [if_neg s2] at hrow;by_cases h4:(n:Int) < (k:Int)+1
   .rw [if_pos h4] at hrow;exact U2
   .rw [if_neg h4] at hrow;exact U2
 obtain rfl:k=mm:=by omega
 refine Oa ?_;refine F5 ?_;exact W.ret (aeF rfl rfl rfl rfl)
def tJ:List Stp->Stp->List Stp
 | [],x=>[x]| y::r,x=>if y.1<x.1 then y::tJ r x else x::y::r
theorem MF:∀ {l:List Stp} {x:Stp} {k:Nat},k<=l.length->(∀ j (h:j<l.length),j<k->l[j].1<x.1)->(∀ h:k<l.length,¬ l[k].1<x.1)->tJ l x=l.take k++x::l.drop k
 | [],x,k,hk,_,_=>by
  have:k=0:=by simpa using hk
  subst this;rfl| y::r,x,0,_,_,h2=>by
  have h2:¬ y.1<x.1:=h2 (by simp);unfold tJ;rw [if_neg h2];rfl| y::r,x,k+1,hk,h1,h2=>by
  have h0:=h1 0 (by simp) (by omega);simp only [FQ]at h0;unfold tJ;rw [if_pos h0,MF (k:=k) FX (λj hj hjk=>by
   have:=h1 (j+1) CX (by omega);simpa using this) (λh=>by
   have:=h2 yj;simpa using this)];rfl
end Go.Proofs.YthohlofpphjofaaGreatDoor
