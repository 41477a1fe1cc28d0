/- What is loaded, plain: the entries are in bounds. -/
import Derived.Test.YthohlofpphjofaaGreatDoorNw5Gq
import Derived.Test.YthohlofpphjofaaGreatDoorNrJGq
set_option maxHeartbeats 4000000
set_option maxRecDepth 100000
set_option linter.unusedVariables false
set_option linter.unusedSimpArgs false
namespace Go.Proofs.YthohlofpphjofaaGreatDoor
section
open Go.RowKit Go.WideShapes Go.ChangeShapes Go.Joins Go.Deep
section
variable {H:Type} {enc:TypeId×Value→H} {w:World} {base:Nat} {spare:Nat→Bool} {held:Bool}
theorem QF:Tryz.prog.cellsOf 129=5:=by kernel_rfl
theorem rC:Tryz.prog.cellsOf 9=1:=by kernel_rfl
theorem xK:Tryz.prog.cellsOf 23=1:=by kernel_rfl
theorem Xo:Tryz.prog.cellsOf 47=1:=by kernel_rfl
theorem JD:Tryz.prog.cellsOf 45=1:=by kernel_rfl
theorem Pg {n:Nat} {u1 u2:Value} {y:DataW H×List MemPlace} (h:DataW.trod enc Tryz.prog w base spare held n 27 [u1,u2]=some y) :
  ∃ (cs:List (Int×Int×Bool)) (st:List Int),RP (fun q=>w.cell? q) (.ls 3 (cs.map aW)) u1∧RP (fun q=>w.cell? q) (.ls 1 (st.map eInt)) u2∧u1.oneCell'=true∧u2.oneCell'=true:=by
 obtain ⟨zs,n3,_,_,_,hzs,hz⟩:=DataW.trod_struct Tryz.underlying27 h
 have g0:DataW.trod enc Tryz.prog w base spare held n3 24 [u1]=zs[0]?:=by simpa [xJ] using hz 0 _ rfl
 have g1:DataW.trod enc Tryz.prog w base spare held n3 25 [u2]=zs[1]?:=by simpa [GN] using hz 1 _ rfl
 obtain ⟨z0,hz0⟩:∃ y,zs[0]?=some y:=⟨_,aB (by rw [hzs];decide)⟩
 obtain ⟨z1,hz1⟩:∃ y,zs[1]?=some y:=⟨_,aB (by rw [hzs];decide)⟩
 rw [hz0] at g0;rw [hz1] at g1
 obtain ⟨A1,A2,k1,k2,cs,st,rfl,rfl,l1,l2,hI⟩:=abH h
 have hc1:=zL Tryz.underlying24 g0
 have hc2:=zL Tryz.underlying25 g1
 exact ⟨cs,st,Tt hI.1 hc1 (fun _=>rfl) Vd,Tt hI.2 hc2 (fun _=>rfl) JM,rfl,rfl⟩
theorem Gs {r:Reach} {b0:Nat} {v:Value} {d:DataW H} {p:List MemPlace} (hv:Value.okWide Tryz.prog w r b0 47 v) (h:DataW.Trod enc Tryz.prog w base spare held 47 v d p) :
  ∃ b:List En,RP (fun q=>w.cell? q) (Vb b) v:=by
 obtain ⟨cs,rfl,hsz⟩:=okWide_struct Tryz.underlying47 hv
 obtain ⟨l⟩:=cs
 match l,hsz.trans Xo with
 | [c0],_ =>
  obtain ⟨fuel,hf⟩:=h
  obtain ⟨ys,n2,_,_,_,hys,hg⟩:=DataW.trod_struct Tryz.underlying47 (by simpa [Value.cells] using hf:DataW.trod enc Tryz.prog w base spare held fuel 47 [c0]=some (d,p))
  have f0:DataW.trod enc Tryz.prog w base spare held n2 45 [c0]=ys[0]?:=by simpa [JD] using hg 0 _ rfl
  obtain ⟨y0,hy0⟩:∃ y,ys[0]?=some y:=⟨_,aB (by rw [hys];decide)⟩
  rw [hy0] at f0
  obtain ⟨b,hb⟩:=KG (en:=sJ) Tryz.underlying45 QF (fun _=>rfl) (fun k cs y hy hl=>by
   match cs,hl with
   | [u0,u1,u2,u3,u4],_ =>
    obtain ⟨ys,n2,_,_,_,hys,hf⟩:=DataW.trod_struct Tryz.underlying129 hy
    have f0:DataW.trod enc Tryz.prog w base spare held n2 9 [u0]=ys[0]?:=by simpa [rC] using hf 0 _ rfl
    have f1:DataW.trod enc Tryz.prog w base spare held n2 23 [u1]=ys[1]?:=by simpa [rC,xK] using hf 1 _ rfl
    have f2:DataW.trod enc Tryz.prog w base spare held n2 30 [u2,u3,u4]=ys[2]?:=by simpa [rC,xK,QH] using hf 2 _ rfl
    have gy:∀ j,j<3→∃ y,ys[j]?=some y:=fun j hj=>⟨_,aB (by rw [hys];exact hj)⟩
    obtain ⟨y0,hy0⟩:=gy 0 aj
    obtain ⟨y1,hy1⟩:=gy 1 aj
    obtain ⟨y2,hy2⟩:=gy 2 aj
    rw [hy0] at f0;rw [hy1] at f1;rw [hy2] at f2
    obtain ⟨s0,e0,_⟩:=DataW.trod_string Tryz.underlying9 f0
    obtain ⟨s1,e1,_⟩:=DataW.trod_int Tryz.underlying23 f1
    simp only [List.cons.injEq,and_true] at e0 e1
    subst e0 e1
    obtain ⟨t0,rfl⟩:∃ l,s0=bs l:=by obtain ⟨xs⟩:=s0;exact ⟨_,mk_bs xs⟩
    obtain ⟨zs,n3,_,_,_,hzs,hz⟩:=DataW.trod_struct Tryz.underlying30 f2
    have q0:DataW.trod enc Tryz.prog w base spare held n3 27 [u2,u3]=zs[0]?:=by simpa [Bh] using hz 0 _ rfl
    have q1:DataW.trod enc Tryz.prog w base spare held n3 28 [u4]=zs[1]?:=by simpa [Np] using hz 1 _ rfl
    obtain ⟨z0,hz0⟩:∃ y,zs[0]?=some y:=⟨_,aB (by rw [hzs];decide)⟩
    obtain ⟨z1,hz1⟩:∃ y,zs[1]?=some y:=⟨_,aB (by rw [hzs];decide)⟩
    rw [hz0] at q0;rw [hz1] at q1
    obtain ⟨cs,st,r1,r2,o1,o2⟩:=Pg q0
    obtain ⟨evs,r3⟩:=DN q1
    have o3:u4.oneCell'=true:=by
     obtain ⟨A,cap,ad,u',rfl,_⟩:=r3.ls_of
     rfl
    refine ⟨⟨t0,s1,⟨cs,st,evs⟩⟩,fun j av u a b=>?_⟩
    match j with
    | 0=>cases a;cases b;exact ⟨rfl,.sc _⟩
    | 1=>cases a;cases b;exact ⟨rfl,.sc _⟩
    | 2=>cases a;cases b;exact ⟨o1,r1⟩
    | 3=>cases a;cases b;exact ⟨o2,r2⟩
    | 4=>cases a;cases b;exact ⟨o3,r3⟩
    | j+5=>simp [sJ] at a) f0
  refine ⟨b,.ag _ _ rfl fun i av u a b=>?_⟩
  match i with
  | 0=>cases a;cases b;exact hb
  | i+1=>simp at a
end
end
section
open Go.RowKit
theorem Sl {t:List UInt8}:(au t).2.2.2=0∨(au t).1=0:=by
 have e:au t=kQ (aI 10 t).2 (aI 10 t).1:=rfl
 rw [e]
 obtain⟨⟨F0,tl⟩,hF⟩:∃ z,aI 10 t=z:=⟨_,rfl⟩
 rw [hF]
 dsimp only
 cases F0 with
 | nil=>exact .inr rfl
 | cons l0 F1 =>
  unfold kQ
  dsimp only
  cases iV l0 with
  | none=>exact .inr rfl
  | some s =>
   dsimp only
   cases F1 with
   | nil=>exact .inr rfl
   | cons l1 F =>
    unfold pU
    dsimp only
    by_cases hi:(aA l1).2≠0
    ·rw [if_pos hi];exact .inr rfl
    rw [if_neg hi]
    by_cases hm:400<F.length+(if tl=[]then 0 else 1)
    ·rw [if_pos hm];exact .inr rfl
    rw [if_neg hm]
    unfold jG
    cases jY s (aA l1).1.1 0 F with
    | some x=>exact .inr rfl
    | none =>
     dsimp only
     by_cases ht:tl≠[]
     ·rw [if_pos ht];exact .inr rfl
     rw [if_neg ht]
     cases mZ s (F.map (aX s (aA l1).1.1))with
     | some i=>exact .inr rfl
     | none=>exact .inl rfl
theorem Sm (t:List UInt8):fH (au t).2.1:=by
 rcases Sl (t:=t)with h|h
 ·obtain⟨s,l1,F,h2⟩:=wX h
  rw [h2.eq]
  exact (wY h2).2.1
 ·rw [Dt h]
  exact⟨by simp [fV],by simp [fV],by simp [fV],fun k hk=>by simp [fV]at hk⟩
def afD(b:List En):Prop:=b.length≤64∧∀ e∈b,fH e.p∧e.t.length≤60
theorem N8 (L:List (List UInt8)):∀ (k a:Nat) (b:List En),afD b→afD (kZ L k a b).1
 | 0,a,b,h=>h
 | k+1,a,b,h=>by
  have hn:afD []:=⟨by simp,by simp⟩
  unfold kZ
  by_cases h1:L.length≤a
  ·rw [if_pos h1];exact h
  rw [if_neg h1]
  by_cases h2:fO L a b≠0
  ·rw [if_pos h2];exact hn
  rw [if_neg h2]
  have h2:fO L a b=0:=Decidable.not_not.1 h2
  by_cases h3:L.length≤a+1+fM (L.drop (a+1))
  ·rw [if_pos h3];exact hn
  rw [if_neg h3]
  by_cases h4:(au (fP L (a+1))).2.2.2≠0
  ·rw [if_pos h4];exact hn
  rw [if_neg h4]
  refine N8 L k _ _ ⟨?_,fun e he=>?_⟩
  ·exact adS
  ·rcases List.mem_append.1 he with x|x
   ·exact h.2 e x
   ·rw [List.mem_singleton.1 x]
    exact ⟨Sm _,zK (J9 h2).1⟩
theorem Ri (t:List UInt8):Na (bF t).1:=by
 have h:afD (bF t).1:=by
  unfold bF
  split
  ·exact ⟨by simp,by simp⟩
  ·exact N8 _ _ _ _ ⟨by simp,by simp⟩
 exact ⟨by have:=h.1;omega,fun k hk=>(h.2 _ (fA hk)).1,fun k hk=>by have:=(h.2 _ (fA hk)).2;omega⟩
end
end Go.Proofs.YthohlofpphjofaaGreatDoor
