/- THE STATEMENT NotationBack (the tied card): for every input the call returns true, and each argument reads afterwards as it read before, the listed package-level variables reading as the program's text lays them. No other condition. -/
import Derived.Test.YthehkchjdkdbiaaGreatDoorTie
import Derived.Test.YthehkchjdkdbiaaGreatDoorLBckGq
import Derived.Test.YthehkchjdkdbiaaGreatDoorFNbGq
set_option maxRecDepth 100000
set_option linter.unusedVariables false
set_option linter.unusedSimpArgs false
namespace Go.Proofs.YthehkchjdkdbiaaGreatDoor.notationBack
open Go.ChangeShapes Go.WideShapes Go.ChangeAt Go.RowKit Go.Joins
theorem walk (w:World) (hB:tabW w (fun q=>w.cell? q)) (a0:Int) (a1:Pce) (v1:Value) (h1:RP (fun q=>w.cell? q) (ePce a1) v1):Calls Tryz.prog 5 #[.int .u8 a0,v1] w (Ret (.bool true) w):=by
 refine (back_G a0 a1 w (fun q=>w.cell? q) [.int .u8 a0,v1] hB (fun _ _ h=>h) ⟨rfl,fun i av u a b=>?_⟩).mono fun e w' ⟨u,F',he,hb,_,_,_,hr⟩=>⟨?_,hb⟩
 ·match i with
  | 0=>cases a;cases b;exact .sc _
  | 1=>cases a;cases b;exact h1
  | i+2=>simp at a
 ·rw [he,hr.sc_eq]
theorem lifted (os:Os) (started:os.Started) (H:Type) (enc:TypeId×Value→H) :
  ReturnsInHanded {} Tryz.checked os 5 .any (fun w args=>(Rows.notationBackSpec.pre enc Tryz.prog Tryz.f5 [] false w args∧laidMetH Tryz.prog laidW w)∧sizedMet enc Tryz.prog Tryz.f5 (OpenSpec.ofChange Rows.notationBackSpec) false w args)
   (Rows.notationBackSpec.post enc Tryz.prog Tryz.f5 false true false false):=by
 refine returnsR (C:=Tryz.checked) (X:=fun w _=>laidMetH Tryz.prog laidW w) (fun _ _ _ hh h=>h.of_heap hh) ownR started (by kernel_rfl) Tryz.func5
  (ChangeSpec.witness_shaped (enc:=enc) (C:=Tryz.checked) (os:=os) (X:=fun w _=>laidMetH Tryz.prog laidW w) false (World.laidAll Tryz.prog os laidW) #[.int .u8 0,.agg #[.slice none 0 0,.slice none 0 0,.slice none 0 0]] 8 (World.laidAll_os _ _ _) (shapedW os) (by kernel_rfl) (by kernel_rfl) (by kernel_rfl) (doorW_met os _)) ?_
 intro W base args ds gs before hval0 hW hL hsh
 have hval:∀ (j:Nat) t v,Tryz.f5.params[j]?=some t→args[j]?=some v→Value.okWide Tryz.prog W .any base t v:=hval0
 have hW':=hW
 obtain ⟨p,q,hA0,hV,rfl,hfz,hnd⟩:=hW
 have hA:DataW.TrodAll enc Tryz.prog W 0 (fun _=>true) true Tryz.f5.params.toList args.toList ds p:=hA0
 have hAk:=hA
 rw [Tryz.params5] at hA hval
 obtain ⟨v0,vs0,d0,ds0,p0,q0,hargs,rfl,rfl,h0,r0⟩:=trodAll_cons hA
 obtain ⟨v1,vs1,d1,ds1,p1,q1,rfl,rfl,rfl,h1,r1⟩:=trodAll_cons r0
 obtain ⟨rfl,rfl,rfl⟩:=trodAll_nil r1
 obtain rfl:args=#[v0,v1]:=by cases args;simp_all
 obtain ⟨rfl,rfl⟩:=trodVars_none hV
 obtain ⟨a0,rfl,hd0,hp0,w0⟩:=open_int Tryz.underlying23 (hval 0 23 v0 rfl rfl) h0
 obtain ⟨a1,hR1⟩:=open_piece_rp (hval 1 30 v1 rfl rfl) h1
 clear hA0 hval0
 simp only [List.append_nil] at hW' hAk
 refine (walk W (tabW_of_laid hL hsh) a0 a1 v1 hR1).mono fun e W' ⟨he,hg⟩=>?_
 subst he
 exact ⟨_,rfl,post_of_below (pv:=[]) hW' (fun _ _ _=>(trodAll_cons_mk (shut_bool Tryz.underlying4 _) trodAll_mk0)) (fun sp hsp=>args_keep typesKids slicesFull (by rw [Tryz.params5];decide) hAk hg (fun x hx=>hW'.lt x (by simpa using hx)) (fun x hx=>hsp x (by simpa using hx))) (fun _ _=>rfl) (by simp)
  hg (ok_one (by kernel_rfl) rfl (okWide_bool_mk Tryz.underlying4 _))⟩
theorem over:Rows.NotationBackSaid :=
 OpenClaim.holds_of_wide 5 Tryz.f5 rfl rfl rfl rfl rfl rfl rfl ⟨rfl,rfl,rfl,rfl,rfl⟩ rfl rfl rfl rfl rfl (by kernel_rfl) Tryz.func5 closed
  (of_decide_eq_true (by kernel_rfl)) (by unfold Func.isWrapper;first|(rw [if_pos (by decide +kernel)];kernel_rfl)|(rw [if_neg (by decide +kernel)];exact ⟨rfl,rfl⟩))
  (fun os started H enc _=>lifted os started H enc)
theorem proved:Rows.NotationBackCardSaid :=
 Claim7.holds_tied_plain_at .later [] [.data,.data,.data,.data,.data,.data,.pinned] true Rows.notationBackCard.stood.harness true
  over (fun _ h=>by cases h) wf_ (fun _ h=>by cases h) notationBack_row_tie rfl ⟨rfl,rfl⟩ mainR rfl
  (fun f fn hf hfn=>by
   obtain rfl:f=5:=Option.some.inj ((show Tryz.prog.funcNamed "theorbo/theorbolaw03.NotationBack"=some 5 by kernel_rfl).symm.trans hf)|>.symm
   obtain rfl:fn=Tryz.f5:=(Option.some.inj (Tryz.func5.symm.trans hfn)).symm
   exact ⟨looksR,fun j t ht=>by
    rw [Tryz.params5] at ht
    have hm:t∈[23,30]:=by simpa using Array.mem_of_getElem? ht
    have hall:([23,30].all fun u=>!Tryz.prog.wantsStandIn u)=true:=by kernel_rfl
    exact (show Tryz.prog.wantsStandIn t=false by simpa using List.all_eq_true.1 hall t hm)⟩)
  goes_
#print axioms proved
end Go.Proofs.YthehkchjdkdbiaaGreatDoor.notationBack
