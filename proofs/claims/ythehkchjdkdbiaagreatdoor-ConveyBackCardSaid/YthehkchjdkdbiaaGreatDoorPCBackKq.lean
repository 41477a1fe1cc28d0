/- THE STATEMENT ConveyBack (the tied card): for every input the call returns true, and each argument reads afterwards as it read before, the listed package-level variables reading as the program's text lays them. No other condition. -/
import Derived.Test.YthehkchjdkdbiaaGreatDoorTie
import Derived.Test.YthehkchjdkdbiaaGreatDoorEOKq
import Derived.Test.YthehkchjdkdbiaaGreatDoorTdNKq
import Derived.Test.YthehkchjdkdbiaaGreatDoorLCbkKq
import Derived.Test.YthehkchjdkdbiaaGreatDoorFCbKq
set_option maxRecDepth 100000
set_option linter.unusedVariables false
set_option linter.unusedSimpArgs false
namespace Go.Proofs.YthehkchjdkdbiaaGreatDoor.conveyBack
open Go.ChangeShapes Go.WideShapes Go.ChangeAt Go.RowKit Go.Joins
theorem walk (w:World) (hB:aag w (fun q=>w.cell? q)) (a0:Int) (a1:Int) (a2:aS) (v2:Value) (h2:RP (fun q=>w.cell? q) (bK a2) v2):Calls Tryz.prog 7 #[.int .u8 a0,.int .u8 a1,v2] w (eG (.bool true) w):=by
 refine (amJ a0 a1 a2 w (fun q=>w.cell? q) [.int .u8 a0,.int .u8 a1,v2] hB (fun _ _ h=>h) ⟨rfl,fun i av u a b=>?_⟩).mono fun e w' ⟨u,F',he,hb,_,_,_,hr⟩=>⟨?_,hb⟩
 ·match i with
  | 0=>cases a;cases b;exact .sc _
  | 1=>cases a;cases b;exact .sc _
  | 2=>cases a;cases b;exact h2
  | i+3=>simp at a
 ·rw [he,hr.fB]
theorem lifted (os:Os) (started:os.Started) (H:Type) (enc:TypeId×Value→H) :
  ReturnsInHanded {} Tryz.checked os 7 .any (fun w args=>(Rows.conveyBackSpec.pre enc Tryz.prog Tryz.f7 [] false w args∧laidMetH Tryz.prog Gy w)∧sizedMet enc Tryz.prog Tryz.f7 (OpenSpec.ofChange Rows.conveyBackSpec) false w args)
   (Rows.conveyBackSpec.post enc Tryz.prog Tryz.f7 false true false false):=by
 refine aiN (C:=Tryz.checked) (X:=fun w _=>laidMetH Tryz.prog Gy w) (fun _ _ _ hh h=>h.of_heap hh) azg started (by kernel_rfl) Tryz.func7
  (ChangeSpec.witness_shaped (enc:=enc) (C:=Tryz.checked) (os:=os) (X:=fun w _=>laidMetH Tryz.prog Gy w) false (World.laidAll Tryz.prog os Gy) #[.int .u8 0,.int .u8 0,.agg #[.slice none 0 0,.slice none 0 0,.slice none 0 0]] 8 (World.laidAll_os _ _ _) (aoN os) (by kernel_rfl) (by kernel_rfl) (by kernel_rfl) (adB os _)) ?_
 intro W base args ds gs before hval0 hW hL hsh
 have hval:∀ (j:Nat) t v,Tryz.f7.params[j]?=some t→args[j]?=some v→Value.okWide Tryz.prog W .any base t v:=hval0
 have hW':=hW
 obtain ⟨p,q,hA0,hV,rfl,hfz,hnd⟩:=hW
 have hA:DataW.TrodAll enc Tryz.prog W 0 (fun _=>true) true Tryz.f7.params.toList args.toList ds p:=hA0
 have hAk:=hA
 rw [Tryz.params7] at hA hval
 obtain ⟨v0,vs0,d0,ds0,p0,q0,hargs,rfl,rfl,h0,r0⟩:=trodAll_cons hA
 obtain ⟨v1,vs1,d1,ds1,p1,q1,rfl,rfl,rfl,h1,r1⟩:=trodAll_cons r0
 obtain ⟨v2,vs2,d2,ds2,p2,q2,rfl,rfl,rfl,h2,r2⟩:=trodAll_cons r1
 obtain ⟨rfl,rfl,rfl⟩:=trodAll_nil r2
 obtain rfl:args=#[v0,v1,v2]:=by cases args;simp_all
 obtain ⟨rfl,rfl⟩:=trodVars_none hV
 obtain ⟨a0,rfl,hd0,hp0,w0⟩:=open_int Tryz.underlying23 (hval 0 23 v0 rfl rfl) h0
 obtain ⟨a1,rfl,hd1,hp1,w1⟩:=open_int Tryz.underlying23 (hval 1 23 v1 rfl rfl) h1
 obtain ⟨a2,hR2⟩:=Oc (hval 2 30 v2 rfl rfl) h2
 clear hA0 hval0
 simp only [nI] at hW' hAk
 refine (walk W (SQ hL hsh) a0 a1 a2 v2 hR2).mono fun e W' ⟨he,hg⟩=>?_
 subst he
 exact ⟨_,rfl,Oi (pv:=[]) hW' (fun _ _ _=>(trodAll_cons_mk (shut_bool Tryz.underlying4 _) trodAll_mk0)) (fun sp hsp=>adp afC ZY (by rw [Tryz.params7];decide) hAk hg (fun x hx=>hW'.lt x (by simpa using hx)) (fun x hx=>hsp x (by simpa using hx))) (fun _ _=>rfl) (by simp)
  hg (ok_one (by kernel_rfl) rfl (okWide_bool_mk Tryz.underlying4 _))⟩
theorem over:Rows.ConveyBackSaid :=
 OpenClaim.holds_of_wide 7 Tryz.f7 rfl rfl rfl rfl rfl rfl rfl ⟨rfl,rfl,rfl,rfl,rfl⟩ rfl rfl rfl rfl rfl (by kernel_rfl) Tryz.func7 closed
  (iY (by kernel_rfl)) (by unfold Func.isWrapper;first|(rw [if_pos Nj];kernel_rfl)|(rw [if_neg Nj];exact ⟨rfl,rfl⟩))
  (fun os started H enc _=>lifted os started H enc)
theorem proved:Rows.ConveyBackCardSaid :=
 Claim7.holds_tied_plain_at .later [] [.data,.data,.data,.data,.data,.data,.pinned] true Rows.conveyBackCard.stood.harness true
  over (fun _ h=>by cases h) wf_ (fun _ h=>by cases h) conveyBack_row_tie rfl ⟨rfl,rfl⟩ av7 rfl
  (fun f fn hf hfn=>by
   obtain rfl:f=7:=Option.some.inj ((show Tryz.prog.funcNamed "theorbo/theorbolaw04.ConveyBack"=some 7 by kernel_rfl).symm.trans hf)|>.symm
   obtain rfl:fn=Tryz.f7:=(Option.some.inj (Tryz.func7.symm.trans hfn)).symm
   exact ⟨asX,fun j t ht=>by
    rw [Tryz.params7] at ht
    have hm:t∈[23,23,30]:=by simpa using Array.mem_of_getElem? ht
    have hall:([23,23,30].all fun u=>!Tryz.prog.wantsStandIn u)=true:=by kernel_rfl
    exact (show Tryz.prog.wantsStandIn t=false by simpa using List.all_eq_true.1 hall t hm)⟩)
  au7
#print axioms proved
end Go.Proofs.YthehkchjdkdbiaaGreatDoor.conveyBack
