/- The law of translation: both sides translate every text alike. -/
import Derived.Lib.SmallJoins
import Derived.Test.YthehkchjdkdbiaaGreatDoorNrJKq
import Derived.Test.YthehkchjdkdbiaaGreatDoorNr5Kq
import Derived.Test.YthehkchjdkdbiaaGreatDoorOnfKq
set_option maxHeartbeats 4000000
set_option maxRecDepth 100000
set_option linter.unusedVariables false
set_option linter.unusedSimpArgs false
namespace Go.Proofs.YthehkchjdkdbiaaGreatDoor
theorem aaT {p:Prop}(h:p:=by
 refine um ?_
 refine W.tr (Tr.aht (t:=5) 3 rfl) ?_
 exact kC):p:=h
section
open Go.RowKit Go.WideShapes Go.ChangeShapes Go.Joins Go.Deep
section
variable {H:Type} {enc:TypeId×Value→H} {P:Program} {w:World} {base:Nat} {spare:Nat→Bool} {held:Bool}
theorem Oi {f:Func} {s:ChangeSpec} {apart fresh handsOn again:Bool} {W W':World} {args:Array Value} {v:Value} {ds gs:List (DataW H)} {before pa pv:List MemPlace}
  (hW:DataW.Whole enc P f.params.toList s.vars apart W args.toList ds gs before)
  (hres:∀ (b:Nat) (sp:Nat→Bool) (hd:Bool),DataW.TrodAll enc P W' b sp hd f.resultTypes.toList (v.resultList f.resultTypes.size) (s.fn H (ds++gs)).results [])
  (hargs:∀ sp:Nat→Bool,(∀ p∈before,sp p.block=true)→DataW.TrodAll enc P W' 0 sp true f.params.toList args.toList (s.fn H (ds++gs)).args pa)
  (hvars:∀ sp:Nat→Bool,(∀ p∈before,sp p.block=true)→DataW.TrodVars enc P W' sp s.vars (s.fn H (ds++gs)).vars pv)
  (hps:before=pa++pv) (hb:Below W.heap.size W W')
  (hok:∀ (j:Nat) (t:TypeId) (r:Value),f.resultTypes[j]?=some t→(v.resultList f.resultTypes.size)[j]?=some r→Value.okWide P W' .any 0 t r) :
  s.post enc P f apart fresh handsOn again W args v W':=by
 have hlt:∀ p∈before,p.block<W.heap.size:=fun p hp=>hW.lt p hp
 have hold:∀ p∈before,(fun b=>decide (b<W.heap.size)) p.block=true:=fun p hp=>by simpa using hlt p hp
 refine ⟨ds,gs,before,[],pa,pv,hW,hres _ _ _,hargs _ hold,hvars _ hold,World.keptBut_mono (fun p hp=>⟨hp,?_⟩) (hb.frame (·∈before)),fun _=>?_⟩
 ·rw [hps,Ig] at hp
  exact Or.inr hp
 ·obtain ⟨_,_,_,_,_,hz,hn⟩:=hW
  refine ⟨hok,_,_,([]++pa)++pv,⟨[]++pa,pv,trodAll_append (hargs _ (fun _ _=>rfl)) (hres _ _ _),hvars _ (fun _ _=>rfl),rfl,?_,?_⟩,?_⟩
  ·intro b off hp
   have hin:MemPlace.cell b off∈before:=by rw [hps];simpa using hp
   rw [hb.frozen (hlt _ hin)]
   exact hz b off hin
  ·intro ha
   have:=hn ha
   rw [hps] at this
   exact ng
  ·intro p hp _
   rw [hps]
   simpa using hp
end
end
section
open Go.RowKit
theorem Zk {t:List UInt8}:(dD t).2.2.2=0∨(dD t).1=0:=by
 have e:dD t=sU (eY 10 t).2 (eY 10 t).1:=rfl
 rw [e]
 obtain⟨⟨F0,tl⟩,hF⟩:∃ z,eY 10 t=z:=⟨_,rfl⟩
 rw [hF]
 dsimp only
 cases F0 with
 | nil=>exact .inr rfl
 | cons l0 F1 =>
  unfold sU
  dsimp only
  cases lX l0 with
  | none=>exact .inr rfl
  | some s =>
   dsimp only
   cases F1 with
   | nil=>exact .inr rfl
   | cons l1 F =>
    unfold xK
    dsimp only
    by_cases hi:(aG l1).2≠0
    ·rw [if_pos hi];exact .inr rfl
    rw [if_neg hi]
    by_cases hm:400<F.length+(if tl=[]then 0 else 1)
    ·rw [if_pos hm];exact .inr rfl
    rw [if_neg hm]
    unfold pR
    cases pK s (aG l1).1.1 0 F with
    | some x=>exact .inr rfl
    | none =>
     dsimp only
     by_cases ht:tl≠[]
     ·rw [if_pos ht];exact .inr rfl
     rw [if_neg ht]
     cases qZ s (F.map (bV s (aG l1).1.1))with
     | some i=>exact .inr rfl
     | none=>exact .inl rfl
theorem Zm (t:List UInt8):jm (dD t).2.1:=by
 rcases Zk (t:=t)with h|h
 ·obtain⟨s,l1,F,h2⟩:=Zl h
  rw [h2.eq]
  exact (Zq h2).2.1
 ·rw [J3 h]
  exact⟨by simp [jv],by simp [jv],by simp [jv],fun k hk=>by simp [jv]at hk⟩
noncomputable def trX (t:List UInt8)(s:Int):List UInt8×List sJ×Int :=
 if ¬ (1≤s∧s≤4)then ([],[],30)else if (dD t).2.2.2≠0 then ([],[],(dD t).2.2.2)else if jJ s (dD t).2.1≠0 then ([],[],jJ s (dD t).2.1)else (wrT s (dX s (dD t).2.1),wL s (dD t).2.1,0)
def eTr (x:List UInt8×List sJ×Int):AV:=.tu [.sc (.string (bs x.1)),.ls 3 (x.2.1.map iR),.sc (.int .i64 x.2.2)]
theorem ahX {s:Int} {p:aS} (h:jJ s p=0):Jl s (dX s p):=Kq (acs h).1 (acs h).2
theorem Ws (t:List UInt8) (ht:t.length≤65536) (s:Int):kJ aag Tryz.prog 22 [.sc (.string (bs t)),.sc (.int .u8 s)] (eTr (trX t s)):=by
 obtain ⟨nm,hN⟩:=acP s
 unfold trX
 by_cases hs:1≤s∧s≤4
 rotate_left
 ·rw [if_pos hs]
  rw [if_neg hs] at hN
  unfold eTr
  refine kJ.intro Bl Tryz.func22 rfl Tryz.ntmps22 (bU rfl) (gG rfl) fun w0 F0 hB=>?_;dsimp only [St.init,number,Nat.reduceAdd]
  refine Ey ?_
  refine WL.vl rfl (bZ Tryz.func66 hN) ?_
  exact aaT
 rw [if_neg (fun q=>q hs)]
 rw [if_pos hs] at hN
 have hP:=(aiG t ht).wN
 have hO:=Zm t
 unfold rdR at hP
 obtain ⟨⟨s0,p,n,e⟩,hr⟩:∃ z,dD t=z:=⟨_,rfl⟩
 rw [hr] at hP hO ⊢
 dsimp only at hP hO ⊢
 by_cases he:e=0
 rotate_left
 ·rw [if_pos he]
  unfold eTr
  refine kJ.intro Bl Tryz.func22 rfl Tryz.ntmps22 (bU rfl) (gG rfl) fun w0 F0 hB=>?_;dsimp only [St.init,number,Nat.reduceAdd]
  refine Ey ?_
  refine WL.vl rfl (bZ Tryz.func66 hN) ?_
  refine um ?_
  refine WL.vl rfl (WV.eH hB rfl (ak Tryz.func11 rfl rfl) rfl rfl hP) ?_
  exact aaT
 rw [if_neg (fun q=>q he)]
 subst he
 have YD:=KG s p hO
 have hPe:bK p=.ag [.ls 3 (p.cs.map aF),.ls 1 (p.st.map eInt),.ls 6 (p.evs.map dI)]:=rfl
 by_cases hx:jJ s p=0
 rotate_left
 ·rw [if_pos hx]
  have e1:bK (dX s p)=.ag [.ls 3 [],.ls 1 [],.ls 6 []]∧wL s p=[]:=⟨by rw [show dX s p=noP from if_neg hx];rfl,if_neg hx⟩
  rw [e1.1,e1.2,hPe] at YD
  obtain ⟨E,hE⟩:∃ z,jJ s p=z:=⟨_,rfl⟩
  rw [hE] at YD hx ⊢
  unfold eTr
  refine kJ.intro Bl Tryz.func22 rfl Tryz.ntmps22 (bU rfl) (gG rfl) fun w0 F0 hB=>?_;dsimp only [St.init,number,Nat.reduceAdd]
  refine Ey ?_
  refine WL.vl rfl (bZ Tryz.func66 hN) ?_
  refine um ?_
  refine WL.vl rfl (WV.eH hB rfl (ak Tryz.func11 rfl rfl) rfl rfl hP) ?_
  refine um ?_
  refine WL.vl rfl (bZ Tryz.func64 YD) ?_
  exact aaT
 rw [if_neg (fun q=>q hx)]
 have hO2:=WG (s:=s) hO
 have hW:=(Wu s (dX s p) hO2).wB
 have hN2:=ahX hx
 rw [(V7 hN2).2.2.1] at hW
 rw [hx] at YD
 obtain ⟨q,hq⟩:∃ z,dX s p=z:=⟨_,rfl⟩
 obtain ⟨L,hL⟩:∃ z,wL s p=z:=⟨_,rfl⟩
 rw [hq] at YD hW ⊢
 rw [hL] at YD ⊢
 have hQe:bK q=.ag [.ls 3 (q.cs.map aF),.ls 1 (q.st.map eInt),.ls 6 (q.evs.map dI)]:=rfl
 rw [hPe,hQe] at YD
 rw [hQe] at hW
 obtain ⟨T,hT⟩:∃ z,wrT s q=z:=⟨_,rfl⟩
 rw [hT] at hW ⊢
 unfold eTr
 refine kJ.intro Bl Tryz.func22 rfl Tryz.ntmps22 (bU rfl) (gG rfl) fun w0 F0 hB=>?_;dsimp only [St.init,number,Nat.reduceAdd]
 refine Ey ?_
 refine WL.vl rfl (bZ Tryz.func66 hN) ?_
 refine um ?_
 refine WL.vl rfl (WV.eH hB rfl (ak Tryz.func11 rfl rfl) rfl rfl hP) ?_
 refine um ?_
 refine WL.vl rfl (bZ Tryz.func64 YD) ?_
 refine um ?_
 refine WL.vl rfl (WV.eH hB rfl (ak Tryz.func14 rfl rfl) rfl rfl hW) ?_
 refine um ?_
 exact kC
end
end Go.Proofs.YthehkchjdkdbiaaGreatDoor
