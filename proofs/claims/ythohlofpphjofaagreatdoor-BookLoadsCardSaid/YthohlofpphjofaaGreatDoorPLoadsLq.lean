/- THE STATEMENT BookLoads (the tied card): for every input the call returns true, and each argument reads afterwards as it read before, the listed package-level variables reading as the program's text lays them. No other condition. -/
import Derived.Test.YthohlofpphjofaaGreatDoorTie
import Derived.Test.YthohlofpphjofaaGreatDoorLLoadLq
set_option maxRecDepth 100000
set_option linter.unusedVariables false
set_option linter.unusedSimpArgs false
namespace Go.Proofs.YthohlofpphjofaaGreatDoor.bookLoads
open Go.ChangeShapes Go.WideShapes Go.ChangeAt Go.RowKit Go.Joins
theorem walk (w:World) (hB:agE w (λq=>w.cell? q)) (a0:List UInt8):Calls Tryz.prog 6 #[.string (bs a0)] w (iZ (.bool true) w):=by
 refine (ao8 a0 w (λq=>w.cell? q) [.string (bs a0)] hB (λ_ _ h=>h) ⟨rfl,λi av u a b=>?_⟩).mono λe w' ⟨u,F',he,hb,_,_,_,hr⟩=>⟨?_,hb⟩;.match i with
  | 0=>cases a;cases b;exact .sc _| i+1=>simp at a
 .rw [he,hr.fM]
theorem lifted (os:Os) (started:os.Started) (H:Type) (enc:TypeId×Value->H) :ReturnsInHanded {} Tryz.checked os 6 .any (λw args=>(Rows.bookLoadsSpec.pre enc Tryz.prog Tryz.f6 [] false w args/\laidMetH Tryz.prog Iw w)/\sizedMet enc Tryz.prog Tryz.f6 (OpenSpec.ofChange Rows.bookLoadsSpec) false w args) (Rows.bookLoadsSpec.post enc Tryz.prog Tryz.f6 false true false false):=by
 refine ajH (C:=Tryz.checked) (X:=λw _=>laidMetH Tryz.prog Iw w) (λ_ _ _ hh h=>h.of_heap hh) aAp started (by kernel_rfl) Tryz.func6 (ChangeSpec.witness_shaped (enc:=enc) (C:=Tryz.checked) (os:=os) (X:=λw _=>laidMetH Tryz.prog Iw w) false (World.laidAll Tryz.prog os Iw) #[.string ⟨#[]⟩] 8 (World.laidAll_os _ _ _) (ap4 os) (by kernel_rfl) (by kernel_rfl) (by kernel_rfl) (aez os _)) ?_;intro W base args ds gs before hval0 hW hL hsh;have hval:∀ (j:Nat) t v,Tryz.f6.params[j]?=some t->args[j]?=some v->Value.okWide Tryz.prog W .any base t v:=hval0;have hW':=hW;obtain ⟨p,q,hA0,hV,rfl,hfz,hnd⟩:=hW;have hA:DataW.TrodAll enc Tryz.prog W 0 (λ_=>true) true Tryz.f6.params.toList args.toList ds p:=hA0;have hAk:=hA;rw [Tryz.params6] at hA hval;obtain ⟨v0,vs0,d0,ds0,p0,q0,hargs,rfl,rfl,h0,r0⟩:=trodAll_cons hA;obtain ⟨rfl,rfl,rfl⟩:=trodAll_nil r0;obtain rfl:args=#[v0]:=by cases args;simp_all
 obtain ⟨rfl,rfl⟩:=trodVars_none hV;obtain ⟨s0,rfl,hd0,hp0,w0⟩:=Go.ChangeMaps.open_string Tryz.underlying9 (hval 0 9 v0 rfl rfl) h0;obtain ⟨a0,rfl⟩:∃ l,s0=bs l:=by obtain ⟨xs⟩:=s0;exact ⟨_,zQ xs⟩
 clear hA0 hval0;simp only [xX] at hW' hAk;refine (walk W (Uh hL hsh) a0).mono λe W' ⟨he,hg⟩=>?_;subst he;exact ⟨_,rfl,O5 (pv:=[]) hW' (λ_ _ _=>(trodAll_cons_mk (shut_bool Tryz.underlying4 _) trodAll_mk0)) (λsp hsp=>aem agM aa2 (by rw [Tryz.params6];decide) hAk hg (λx hx=>hW'.lt x (by simpa using hx)) (λx hx=>hsp x (by simpa using hx))) (λ_ _=>rfl) (by simp) hg (ok_one (by kernel_rfl) rfl (okWide_bool_mk Tryz.underlying4 _))⟩
theorem over:Rows.BookLoadsSaid :=OpenClaim.holds_of_wide 6 Tryz.f6 rfl rfl rfl rfl rfl rfl rfl ⟨rfl,rfl,rfl,rfl,rfl⟩ rfl rfl rfl rfl rfl (by kernel_rfl) Tryz.func6 closed (rP (by kernel_rfl)) (by unfold Func.isWrapper;first|(rw [if_pos (by decide +kernel)];kernel_rfl)|(rw [if_neg (by decide +kernel)];exact ⟨rfl,rfl⟩)) (λos started H enc _=>lifted os started H enc)
theorem proved:Rows.BookLoadsCardSaid :=
 Claim7.holds_tied_plain_at .later [] [.data,.data,.data,.data,.data,.data,.pinned] true Rows.bookLoadsCard.stood.harness true
  over (fun _ h=>by cases h) wf_ (fun _ h=>by cases h) bookLoads_row_tie rfl ⟨rfl,rfl⟩ axq rfl
  (fun f fn hf hfn=>by
   obtain rfl:f=6:=Option.some.inj ((show Tryz.prog.funcNamed "theorbo/theorbolaw11.BookLoads"=some 6 by kernel_rfl).symm.trans hf)|>.symm
   obtain rfl:fn=Tryz.f6:=(Option.some.inj (Tryz.func6.symm.trans hfn)).symm
   exact ⟨aur,fun j t ht=>by
    rw [Tryz.params6] at ht
    have hm:t∈[9]:=by simpa using Array.mem_of_getElem? ht
    have hall:([9].all fun u=>!Tryz.prog.wantsStandIn u)=true:=by kernel_rfl
    exact (show Tryz.prog.wantsStandIn t=false by simpa using List.all_eq_true.1 hall t hm)⟩)
  awE
#print axioms proved
end Go.Proofs.YthohlofpphjofaaGreatDoor.bookLoads
