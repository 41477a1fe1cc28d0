/- Copy of an instrument: the law's own reference. -/
import Derived.Test.YtaeelcfjkhfpkaaGreatPiePNq
import Derived.Test.YtaeelcfjkhfpkaaGreatProg
import Derived.Deep.RegionHeld3
set_option maxHeartbeats 1600000
set_option maxRecDepth 100000
set_option linter.unusedVariables false
set_option linter.unusedSimpArgs false
namespace Go.Proofs.YtaeelcfjkhfpkaaGreat
open Go.RowKit
theorem infoCourse:(Tryz.prog.info? 70).map (fun i=>(i.zero,i.size,i.bytes))=some (some (.agg #[.int .i64 0,.int .i64 0,.bool false]),3,24):=by kernel_rfl
theorem infoInt:(Tryz.prog.info? 3).map (fun i=>(i.zero,i.size,i.bytes))=some (some (.int .i64 0),1,8):=by kernel_rfl
theorem crs_len (cs:List (Int×Int×Bool)):∀ r∈cs.map crsCells,r.length=3:=by intro r h;obtain⟨x,_,rfl⟩:=List.mem_map.1 h;rfl
theorem int_len(st:List Int):∀ r∈st.map intCell,r.length=1:=by intro r h;obtain⟨x,_,rfl⟩:=List.mem_map.1 h;rfl
theorem crs_one (cs:List (Int×Int×Bool)):∀ r∈cs.map crsCells,∀ u∈r,u.oneCell'=true:=by
 intro r h u hu;obtain⟨x,_,rfl⟩:=List.mem_map.1 h
 simp only [crsCells,List.mem_cons,List.not_mem_nil,or_false]at hu
 rcases hu with rfl|rfl|rfl<;>rfl
theorem int_one(st:List Int):∀ r∈st.map intCell,∀ u∈r,u.oneCell'=true:=by
 intro r h u hu;obtain⟨x,_,rfl⟩:=List.mem_map.1 h
 simp only [intCell,List.mem_cons,List.not_mem_nil,or_false]at hu
 rcases hu with rfl;rfl
def CopyIns (cs:List (Int×Int×Bool))(st:List Int)(W:World)(e:Ending)(w':World):Prop :=
 ∃ (A1 A2:Option Addr)(c1 c2:Nat),e=.returned (.agg #[.slice A1 cs.length c1,.slice A2 st.length c2])∧Below W.heap.size W w'∧InsAt w' w'.heap.size A1 A2 cs st∧(∀ ad,A1=some ad→W.heap.size≤ad.block)∧(∀ ad,A2=some ad→W.heap.size≤ad.block)∧cs.length≤c1∧st.length≤c2
structure InsS (w:World)(B:Nat)(A1 A2:Option Addr)(cs:List (Int×Int×Bool))(st:List Int):Prop where
 out:InsAt w B A1 A2 cs st
section
variable {w w':World} {B g:Nat} {A1 A2:Option Addr} {cs:List (Int×Int×Bool)} {st:List Int}
theorem hid_ins1 (h:InsS w B A1 A2 cs st):Rd w B 3 A1 (cs.map crsCells):=h.out.1
theorem hid_ins2 (h:InsS w B A1 A2 cs st):Rd w B 1 A2 (st.map intCell):=h.out.2
theorem hins_drew(h:InsS w B A1 A2 cs st):InsS w.drew B A1 A2 cs st:=⟨h.out⟩
theorem hins_alloc (h:InsS w B A1 A2 cs st)(hB:B≤w.heap.size)(o:Obj):InsS (w.alloc o) B A1 A2 cs st:=⟨h.out.alloc hB o⟩
theorem hins_grown (h:InsS w B A1 A2 cs st)(hg:w.grownBy w' (some g))(hB:B≤w.heap.size)(hr:B≤g):InsS w' B A1 A2 cs st :=
 ⟨⟨h.out.1.grown hg hB (fun k e=>by injection e with e;omega),h.out.2.grown hg hB (fun k e=>by injection e with e;omega)⟩⟩
theorem hins_setCell {p:Addr} {u:Value} (h:InsS w B A1 A2 cs st)(hB:B≤p.block):InsS (w.setCell p u) B A1 A2 cs st:=⟨⟨h.out.1.setCell hB u,h.out.2.setCell hB u⟩⟩
end
theorem rInsCopy (A1 A2:Option Addr) (cs:List (Int×Int×Bool)) (st:List Int) (c1 c2:Nat) (w:World) (hI:InsAt w w.heap.size A1 A2 cs st) (hm1:cs.length≤64) (hm2:st.length≤64) :
    Calls Tryz.prog 35 #[.agg #[.slice A1 cs.length c1,.slice A2 st.length c2]] w (CopyIns cs st w):=by
  obtain ⟨i0,hi0,hz0,hz1,hz2⟩:=info_parts infoCourse
  obtain ⟨i1,hi1,hz3,hz4,hz5⟩:=info_parts infoInt
  obtain ⟨n1,hn1⟩:∃ n,cs.length=n:=⟨_,rfl⟩
  obtain ⟨n2,hn2⟩:∃ n,st.length=n:=⟨_,rfl⟩
  have HP:Hid (∀ e w',(∃ (A1 A2:Option Addr) (c1 c2:Nat),e=.returned (.agg #[.slice A1 n1 c1,.slice A2 n2 c2])∧Below w.heap.size w w'∧InsAt w' w'.heap.size A1 A2 cs st∧(∀ ad,A1=some ad→w.heap.size≤ad.block)∧(∀ ad,A2=some ad→w.heap.size≤ad.block)∧n1≤c1∧n2≤c2)→CopyIns cs st w e w'):=by
    intro e w' ⟨x1,x2,x3,x4,h1,h2,h3,h4,h5,h6,h7⟩
    exact ⟨x1,x2,x3,x4,by rw [hn1,hn2];exact h1,h2,h3,h4,h5,by rw [hn1];exact h6,by rw [hn2];exact h7⟩
  have HI:InsS w w.heap.size A1 A2 cs st:=⟨hI⟩
  rw [hn1,hn2]
  rw [hn1] at hm1
  rw [hn2] at hm2
  have HN1:=Lib.hid (show n1=(cs.map crsCells).length by simp [hn1])
  have HN2:=Lib.hid (show n2=(st.map intCell).length by simp [hn2])
  clear hn1 hn2 hI
  go_enter Tryz.func35,Tryz.ntmps35
  go_wp2_with fail
  have HT:((w.alloc (Obj.cells #[Value.slice A1 n1 c1,Value.slice A2 n2 c2] 26)).alloc (Obj.cells #[Value.slice none 0 0,Value.slice none 0 0] 26)).there (w.heap.size+1) 0 2:=blk_there (blk_new' (by simp)) (by simp)
  go_region_held3 (fun w'=>w'.cell? ⟨w.heap.size,0,none⟩=some (.slice A1 n1 c1)∧w'.cell? ⟨w.heap.size,1,none⟩=some (.slice A2 n2 c2)∧InsS w' w.heap.size A1 A2 cs st∧w'.there (w.heap.size+1) 0 2)
    (((try go_split_ands);(try dsimp only);refine ⟨?_,?_,?_,?_⟩;
      (focus (first|(rw [hga.cell_far _ (by simp;omega) (by simp;omega)];with_reducible assumption)|(rw [hgb.cell_far _ (by simp;omega) (by simp;omega)];with_reducible assumption)|(rw [World.cell?_setCell_other _ _ _ _ (by simp),World.cell?_setCell_other _ _ _ _ (by simp)];with_reducible assumption)|(go_keep;done)));(focus (first|(rw [hga.cell_far _ (by simp;omega) (by simp;omega)];with_reducible assumption)|(rw [hgb.cell_far _ (by simp;omega) (by simp;omega)];with_reducible assumption)|(rw [World.cell?_setCell_other _ _ _ _ (by simp),World.cell?_setCell_other _ _ _ _ (by simp)];with_reducible assumption)|(go_keep;done)));
      (focus (repeat (first|with_reducible exact HI|with_reducible assumption|with_reducible refine hins_drew ?_|with_reducible refine hins_alloc ?_ zqs _|with_reducible refine hins_setCell ?_ zqs|with_reducible refine hins_grown ?_ (by assumption) zqs zqs)));
      (focus (repeat (first|with_reducible exact HT|with_reducible assumption|with_reducible refine there_drew ?_|with_reducible refine World.there_alloc ?_ _|with_reducible refine there_setCell ?_ _ _|with_reducible refine there_grown ?_ (by assumption) zqs)))))
    (first
      | (refine step_append_new (by rfl) _ _ 23 (by rfl) 70 i0 _ 3 24 Tryz.underlying23 hi0 hz0 hz1 hz2 rfl (by omega) _ (by rfl) (by repeat (first|with_reducible assumption|with_reducible refine Blk.drew ?_|with_reducible exact blk_new' (by simp)|with_reducible refine Blk.alloc ?_ _|with_reducible refine blk_grown ?_ (by assumption) zqs)) w.heap.size A1 (cs.map crsCells) n1 c1 (by rfl) HN1.out (hid_ins1 (by first|with_reducible assumption|(go_split_ands;with_reducible assumption))) (crs_len _) (crs_one _) (by rw [← HN1.out];simp only [maxLen];omega) (by rw [← HN1.out];omega) ?_;intro Aa ca wa hra hga hata0;have hata:=hata0.1;have HCA:=Lib.hid hata0.2;clear hata0;obtain ⟨ub0,ub1,eb0,eb1,fb0,fb1⟩:=there2 (there_grown (by first|with_reducible assumption|(go_split_ands;with_reducible assumption)) hga zqs);have hsa:w.heap.size+2 < wa.heap.size:=(by have:=hga.size;(try simp at this);omega))
      | (refine step_append_new (by rfl) _ _ 24 (by rfl) 3 i1 _ 1 8 Tryz.underlying24 hi1 hz3 hz4 hz5 rfl (by omega) _ (by rfl) (by repeat (first|with_reducible assumption|with_reducible refine Blk.drew ?_|with_reducible exact blk_new' (by simp)|with_reducible refine Blk.alloc ?_ _|with_reducible refine blk_grown ?_ (by assumption) zqs)) w.heap.size A2 (st.map intCell) n2 c2 (by rfl) HN2.out (hid_ins2 (by first|with_reducible assumption|(go_split_ands;with_reducible assumption))) (int_len _) (int_one _) (by rw [← HN2.out];simp only [maxLen];omega) (by rw [← HN2.out];omega) ?_;intro Ab cb wb hrb hgb hatb0;have hatb:=hatb0.1;have HCB:=Lib.hid hatb0.2;clear hatb0;obtain ⟨ub0,ub1,eb0,eb1,fb0,fb1⟩:=there2 (there_grown (by first|with_reducible assumption|(go_split_ands;with_reducible assumption)) hgb zqs);have hsb:w.heap.size+2 < wb.heap.size:=(by have:=hgb.size;(try simp at this);omega)))
  all_goals
    go_wp2_with fail
    refine bodyPost_ret (v:=.agg #[.slice Aa n1 ca,.slice Ab n2 cb]) (by simp [results,Tryz.results35,go_sem,eb0,eb1]) rfl (HP.out _ _ ⟨Aa,Ab,ca,cb,rfl,(by repeat (first|with_reducible exact Below.refl _ _|with_reducible refine Below.drew ?_|with_reducible refine bel_alloc ?_ _|with_reducible refine Below.setCell ?_ zqs _|with_reducible refine bel_grown ?_ (by assumption) zqs)),⟨hra.stay (fun ad had hlt=>?_),hrb.stay (fun ad had hlt=>?_)⟩,fun ad had=>?_,fun ad had=>?_,HCA.out,HCB.out⟩)
    · have hh:=(hata ad had).1
      try simp at hh
      repeat (first|with_reducible exact Stay.refl hlt|with_reducible refine Stay.drew ?_|with_reducible refine Stay.alloc ?_ _|with_reducible refine Stay.setCell ?_ zqs _|with_reducible refine Stay.grown ?_ (by assumption) zqs)
    · have hh:=(hatb ad had).1
      try simp at hh
      repeat (first|with_reducible exact Stay.refl hlt|with_reducible refine Stay.drew ?_|with_reducible refine Stay.alloc ?_ _|with_reducible refine Stay.setCell ?_ zqs _|with_reducible refine Stay.grown ?_ (by assumption) zqs)
    · have hh:=(hata ad had).1
      try simp at hh
      omega
    · have hh:=(hatb ad had).1
      try simp at hh
      omega
end Go.Proofs.YtaeelcfjkhfpkaaGreat
