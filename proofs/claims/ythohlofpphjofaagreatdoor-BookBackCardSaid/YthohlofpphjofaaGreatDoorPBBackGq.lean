/- THE STATEMENT BookBack (the tied card): for every input the call returns true, and each argument reads afterwards as it read before, the listed package-level variables reading as the program's text lays them. No other condition. -/
import Derived.Test.YthohlofpphjofaaGreatDoorTie
import Derived.Test.YthohlofpphjofaaGreatDoorLBbkGq
set_option maxRecDepth 100000
set_option linter.unusedVariables false
set_option linter.unusedSimpArgs false
namespace Go.Proofs.YthohlofpphjofaaGreatDoor.bookBack
open Go.ChangeShapes Go.WideShapes Go.ChangeAt Go.RowKit Go.Joins
theorem walk (w:World) (hB:ZB w (fun q=>w.cell? q)) (a0:List En) (v0:Value) (h0:RP (fun q=>w.cell? q) (Vb a0) v0) (a1:List UInt8):Calls Tryz.prog 7 #[v0,.string (bs a1)] w (Ret (.bool true) w):=by
 refine (afH a0 a1 w (fun q=>w.cell? q) [v0,.string (bs a1)] hB (fun _ _ h=>h) ⟨rfl,fun i av u a b=>?_⟩).mono fun e w' ⟨u,F',he,hb,_,_,_,hr⟩=>⟨?_,hb⟩
 ·match i with
  | 0=>cases a;cases b;exact h0
  | 1=>cases a;cases b;exact .sc _
  | i+2=>simp at a
 ·rw [he,hr.sc_eq]
theorem lifted (os:Os) (started:os.Started) (H:Type) (enc:TypeId×Value→H) :
  ReturnsInHanded {} Tryz.checked os 7 .any (fun w args=>(Rows.bookBackSpec.pre enc Tryz.prog Tryz.f7 [] false w args∧laidMetH Tryz.prog zS w)∧sizedMet enc Tryz.prog Tryz.f7 (OpenSpec.ofChange Rows.bookBackSpec) false w args)
   (Rows.bookBackSpec.post enc Tryz.prog Tryz.f7 false true false false):=by
 refine acf (C:=Tryz.checked) (X:=fun w _=>laidMetH Tryz.prog zS w) (fun _ _ _ hh h=>h.of_heap hh) aog started (by kernel_rfl) Tryz.func7
  (ChangeSpec.witness_shaped (enc:=enc) (C:=Tryz.checked) (os:=os) (X:=fun w _=>laidMetH Tryz.prog zS w) false (World.laidAll Tryz.prog os zS) #[.agg #[.slice none 0 0],.string ⟨#[]⟩] 8 (World.laidAll_os _ _ _) (aho os) (by kernel_rfl) (by kernel_rfl) (by kernel_rfl) (Xv os _)) ?_
 intro W base args ds gs before hval0 hW hL hsh
 have hval:∀ (j:Nat) t v,Tryz.f7.params[j]?=some t→args[j]?=some v→Value.okWide Tryz.prog W .any base t v:=hval0
 have hW':=hW
 obtain ⟨p,q,hA0,hV,rfl,hfz,hnd⟩:=hW
 have hA:DataW.TrodAll enc Tryz.prog W 0 (fun _=>true) true Tryz.f7.params.toList args.toList ds p:=hA0
 have hAk:=hA
 rw [Tryz.params7] at hA hval
 obtain ⟨v0,vs0,d0,ds0,p0,q0,hargs,rfl,rfl,h0,r0⟩:=trodAll_cons hA
 obtain ⟨v1,vs1,d1,ds1,p1,q1,rfl,rfl,rfl,h1,r1⟩:=trodAll_cons r0
 obtain ⟨rfl,rfl,rfl⟩:=trodAll_nil r1
 obtain rfl:args=#[v0,v1]:=by cases args;simp_all
 obtain ⟨rfl,rfl⟩:=trodVars_none hV
 obtain ⟨a0,hR0⟩:=Gs (hval 0 47 v0 rfl rfl) h0
 obtain ⟨s1,rfl,hd1,hp1,w1⟩:=Go.ChangeMaps.open_string Tryz.underlying9 (hval 1 9 v1 rfl rfl) h1
 obtain ⟨a1,rfl⟩:∃ l,s1=bs l:=by obtain ⟨xs⟩:=s1;exact ⟨_,mk_bs xs⟩
 clear hA0 hval0
 simp only [mG] at hW' hAk
 refine (walk W (Ll hL hsh) a0 v0 hR0 a1).mono fun e W' ⟨he,hg⟩=>?_
 subst he
 exact ⟨_,rfl,Gx (pv:=[]) hW' (fun _ _ _=>(trodAll_cons_mk (shut_bool Tryz.underlying4 _) trodAll_mk0)) (fun sp hsp=>Xl ZH TB (by rw [Tryz.params7];decide) hAk hg (fun x hx=>hW'.lt x (by simpa using hx)) (fun x hx=>hsp x (by simpa using hx))) (fun _ _=>rfl) (by simp)
  hg (ok_one (by kernel_rfl) rfl (okWide_bool_mk Tryz.underlying4 _))⟩
theorem over:Rows.BookBackSaid :=
 OpenClaim.holds_of_wide 7 Tryz.f7 rfl rfl rfl rfl rfl rfl rfl ⟨rfl,rfl,rfl,rfl,rfl⟩ rfl rfl rfl rfl rfl (by kernel_rfl) Tryz.func7 closed
  (nC (by kernel_rfl)) (by unfold Func.isWrapper;first|(rw [if_pos (by decide +kernel)];kernel_rfl)|(rw [if_neg (by decide +kernel)];exact ⟨rfl,rfl⟩))
  (fun os started H enc _=>lifted os started H enc)
theorem proved:Rows.BookBackCardSaid :=
 Claim7.holds_tied_plain_at .later [] [.data,.data,.data,.data,.data,.data,.pinned] true Rows.bookBackCard.stood.harness true
  over (fun _ h=>by cases h) wf_ (fun _ h=>by cases h) bookBack_row_tie rfl ⟨rfl,rfl⟩ amb rfl
  (fun f fn hf hfn=>by
   obtain rfl:f=7:=Option.some.inj ((show Tryz.prog.funcNamed "theorbo/theorbolaw11.BookBack"=some 7 by kernel_rfl).symm.trans hf)|>.symm
   obtain rfl:fn=Tryz.f7:=(Option.some.inj (Tryz.func7.symm.trans hfn)).symm
   exact ⟨akj,fun j t ht=>by
    rw [Tryz.params7] at ht
    have hm:t∈[47,9]:=by simpa using Array.mem_of_getElem? ht
    have hall:([47,9].all fun u=>!Tryz.prog.wantsStandIn u)=true:=by kernel_rfl
    exact (show Tryz.prog.wantsStandIn t=false by simpa using List.all_eq_true.1 hall t hm)⟩)
  alx
#print axioms proved
end Go.Proofs.YthohlofpphjofaaGreatDoor.bookBack
