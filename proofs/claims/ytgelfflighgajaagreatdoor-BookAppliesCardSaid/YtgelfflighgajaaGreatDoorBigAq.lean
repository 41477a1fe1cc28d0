/- Whether a piece is too big: the law's own look. -/
import Derived.Test.YtgelfflighgajaaGreatDoorE1Aq
import Derived.Test.YtgelfflighgajaaGreatDoorProg
import Derived.Deep.RegionHeld3
set_option linter.unusedVariables false
set_option linter.unusedSimpArgs false
namespace Go.Proofs.YtgelfflighgajaaGreatDoor
open Go.RowKit
set_option maxHeartbeats 1600000
set_option maxRecDepth 100000
theorem infoCourse:(Tryz.prog.info? 98).map (fun i=>(i.zero,i.size,i.bytes))=some (some (.agg #[.int .i64 0,.int .i64 0,.bool false]),3,24):=by kernel_rfl
theorem infoInt:(Tryz.prog.info? 3).map (fun i=>(i.zero,i.size,i.bytes))=some (some (.int .i64 0),1,8):=by kernel_rfl
theorem crs_len (cs:List (Int×Int×Bool)):∀ r∈cs.map crsCells,r.length=3:=by intro r h;obtain ⟨x,_,rfl⟩:=List.mem_map.1 h;rfl
theorem int_len (st:List Int):∀ r∈st.map intCell,r.length=1:=by intro r h;obtain ⟨x,_,rfl⟩:=List.mem_map.1 h;rfl
theorem crs_one (cs:List (Int×Int×Bool)):∀ r∈cs.map crsCells,∀ u∈r,u.oneCell'=true:=by
 intro r h u hu;obtain ⟨x,_,rfl⟩:=List.mem_map.1 h
 simp only [crsCells,List.mem_cons,List.not_mem_nil,or_false] at hu
 rcases hu with rfl|rfl|rfl<;>rfl
theorem int_one (st:List Int):∀ r∈st.map intCell,∀ u∈r,u.oneCell'=true:=by
 intro r h u hu;obtain ⟨x,_,rfl⟩:=List.mem_map.1 h
 simp only [intCell,List.mem_cons,List.not_mem_nil,or_false] at hu
 rcases hu with rfl;rfl
def CopyIns (cs:List (Int×Int×Bool)) (st:List Int) (W:World) (e:Ending) (w':World):Prop :=
 ∃ (A1 A2:Option Addr) (c1 c2:Nat),e=.returned (.agg #[.slice A1 cs.length c1,.slice A2 st.length c2])∧Below W.heap.size W w'∧InsAt w' w'.heap.size A1 A2 cs st∧(∀ ad,A1=some ad→W.heap.size≤ad.block)∧(∀ ad,A2=some ad→W.heap.size≤ad.block)∧cs.length≤c1∧st.length≤c2
structure InsS (w:World) (B:Nat) (A1 A2:Option Addr) (cs:List (Int×Int×Bool)) (st:List Int):Prop where
 out:InsAt w B A1 A2 cs st
section
variable {w w':World} {B g:Nat} {A1 A2:Option Addr} {cs:List (Int×Int×Bool)} {st:List Int}
theorem hid_ins1 (h:InsS w B A1 A2 cs st):Rd w B 3 A1 (cs.map crsCells):=h.out.1
theorem hid_ins2 (h:InsS w B A1 A2 cs st):Rd w B 1 A2 (st.map intCell):=h.out.2
theorem hins_drew (h:InsS w B A1 A2 cs st):InsS w.drew B A1 A2 cs st:=⟨h.out⟩
theorem hins_alloc (h:InsS w B A1 A2 cs st) (hB:B≤w.heap.size) (o:Obj):InsS (w.alloc o) B A1 A2 cs st:=⟨h.out.alloc hB o⟩
theorem hins_grown (h:InsS w B A1 A2 cs st) (hg:w.grownBy w' (some g)) (hB:B≤w.heap.size) (hr:B≤g):InsS w' B A1 A2 cs st :=
 ⟨⟨h.out.1.grown hg hB (fun k e=>by injection e with e;omega),h.out.2.grown hg hB (fun k e=>by injection e with e;omega)⟩⟩
theorem hins_setCell {p:Addr} {u:Value} (h:InsS w B A1 A2 cs st) (hB:B≤p.block):InsS (w.setCell p u) B A1 A2 cs st:=⟨⟨h.out.1.setCell hB u,h.out.2.setCell hB u⟩⟩
end
theorem rInsCopy (A1 A2:Option Addr) (cs:List (Int×Int×Bool)) (st:List Int) (c1 c2:Nat) (w:World) (hI:InsAt w w.heap.size A1 A2 cs st) (hm1:cs.length≤64) (hm2:st.length≤64) :
    Calls Tryz.prog 53 #[.agg #[.slice A1 cs.length c1,.slice A2 st.length c2]] w (CopyIns cs st w):=by
  obtain ⟨i0,hi0,hz0,hz1,hz2⟩:=info_parts infoCourse
  obtain ⟨i1,hi1,hz3,hz4,hz5⟩:=info_parts infoInt
  obtain ⟨n1,hn1⟩:∃ n,cs.length=n:=⟨_,rfl⟩
  obtain ⟨n2,hn2⟩:∃ n,st.length=n:=⟨_,rfl⟩
  have HP:Hid (∀ e w',(∃ (A1 A2:Option Addr) (c1 c2:Nat),e=.returned (.agg #[.slice A1 n1 c1,.slice A2 n2 c2])∧Below w.heap.size w w'∧InsAt w' w'.heap.size A1 A2 cs st∧(∀ ad,A1=some ad→w.heap.size≤ad.block)∧(∀ ad,A2=some ad→w.heap.size≤ad.block)∧n1≤c1∧n2≤c2)→CopyIns cs st w e w'):=by
    intro e w' ⟨x1,x2,x3,x4,h1,h2,h3,h4,h5,h6,h7⟩
    exact ⟨x1,x2,x3,x4,by rw [hn1,hn2];exact h1,h2,h3,h4,h5,by rw [hn1];exact h6,by rw [hn2];exact h7⟩
  have HI:InsS w w.heap.size A1 A2 cs st:=⟨hI⟩
  rw [hn1,hn2]
  rw [hn1] at hm1
  rw [hn2] at hm2
  have HN1:=Lib.hid (show n1=(cs.map crsCells).length by simp [hn1])
  have HN2:=Lib.hid (show n2=(st.map intCell).length by simp [hn2])
  clear hn1 hn2 hI
  go_enter Tryz.func53,Tryz.ntmps53
  go_wp2_with fail
  have HT:((w.alloc (Obj.cells #[Value.slice A1 n1 c1,Value.slice A2 n2 c2] 25)).alloc (Obj.cells #[Value.slice none 0 0,Value.slice none 0 0] 25)).there (w.heap.size+1) 0 2:=blk_there (blk_new' (by simp)) (by simp)
  go_region_held3 (fun w'=>w'.cell? ⟨w.heap.size,0,none⟩=some (.slice A1 n1 c1)∧w'.cell? ⟨w.heap.size,1,none⟩=some (.slice A2 n2 c2)∧InsS w' w.heap.size A1 A2 cs st∧w'.there (w.heap.size+1) 0 2)
    (((try go_split_ands);(try dsimp only);refine ⟨?_,?_,?_,?_⟩;
      (focus (first|(rw [hga.cell_far _ (by simp;omega) (by simp;omega)];with_reducible assumption)|(rw [hgb.cell_far _ (by simp;omega) (by simp;omega)];with_reducible assumption)|(rw [World.cell?_setCell_other _ _ _ _ (by simp),World.cell?_setCell_other _ _ _ _ (by simp)];with_reducible assumption)|(go_keep;done)));(focus (first|(rw [hga.cell_far _ (by simp;omega) (by simp;omega)];with_reducible assumption)|(rw [hgb.cell_far _ (by simp;omega) (by simp;omega)];with_reducible assumption)|(rw [World.cell?_setCell_other _ _ _ _ (by simp),World.cell?_setCell_other _ _ _ _ (by simp)];with_reducible assumption)|(go_keep;done)));
      (focus (repeat (first|with_reducible exact HI|with_reducible assumption|with_reducible refine hins_drew ?_|with_reducible refine hins_alloc ?_ (by first|omega|(simp;done)|(simp;omega)) _|with_reducible refine hins_setCell ?_ (by first|omega|(simp;done)|(simp;omega))|with_reducible refine hins_grown ?_ (by assumption) (by first|omega|(simp;done)|(simp;omega)) (by first|omega|(simp;done)|(simp;omega)))));
      (focus (repeat (first|with_reducible exact HT|with_reducible assumption|with_reducible refine there_drew ?_|with_reducible refine World.there_alloc ?_ _|with_reducible refine there_setCell ?_ _ _|with_reducible refine there_grown ?_ (by assumption) (by first|omega|(simp;done)|(simp;omega)))))))
    (first
      | (refine step_append_new (by rfl) _ _ 22 (by rfl) 98 i0 _ 3 24 Tryz.underlying22 hi0 hz0 hz1 hz2 rfl (by omega) _ (by rfl) (by repeat (first|with_reducible assumption|with_reducible refine Blk.drew ?_|with_reducible exact blk_new' (by simp)|with_reducible refine Blk.alloc ?_ _|with_reducible refine blk_grown ?_ (by assumption) (by first|omega|(simp;done)|(simp;omega)))) w.heap.size A1 (cs.map crsCells) n1 c1 (by rfl) HN1.out (hid_ins1 (by first|with_reducible assumption|(go_split_ands;with_reducible assumption))) (crs_len _) (crs_one _) (by rw [← HN1.out];simp only [maxLen];omega) (by rw [← HN1.out];omega) ?_;intro Aa ca wa hra hga hata0;have hata:=hata0.1;have HCA:=Lib.hid hata0.2;clear hata0;obtain ⟨ub0,ub1,eb0,eb1,fb0,fb1⟩:=there2 (there_grown (by first|with_reducible assumption|(go_split_ands;with_reducible assumption)) hga (by first|omega|(simp;done)|(simp;omega)));have hsa:w.heap.size+2 < wa.heap.size:=(by have:=hga.size;(try simp at this);omega))
      | (refine step_append_new (by rfl) _ _ 23 (by rfl) 3 i1 _ 1 8 Tryz.underlying23 hi1 hz3 hz4 hz5 rfl (by omega) _ (by rfl) (by repeat (first|with_reducible assumption|with_reducible refine Blk.drew ?_|with_reducible exact blk_new' (by simp)|with_reducible refine Blk.alloc ?_ _|with_reducible refine blk_grown ?_ (by assumption) (by first|omega|(simp;done)|(simp;omega)))) w.heap.size A2 (st.map intCell) n2 c2 (by rfl) HN2.out (hid_ins2 (by first|with_reducible assumption|(go_split_ands;with_reducible assumption))) (int_len _) (int_one _) (by rw [← HN2.out];simp only [maxLen];omega) (by rw [← HN2.out];omega) ?_;intro Ab cb wb hrb hgb hatb0;have hatb:=hatb0.1;have HCB:=Lib.hid hatb0.2;clear hatb0;obtain ⟨ub0,ub1,eb0,eb1,fb0,fb1⟩:=there2 (there_grown (by first|with_reducible assumption|(go_split_ands;with_reducible assumption)) hgb (by first|omega|(simp;done)|(simp;omega)));have hsb:w.heap.size+2 < wb.heap.size:=(by have:=hgb.size;(try simp at this);omega)))
  all_goals
    go_wp2_with fail
    refine bodyPost_ret (v:=.agg #[.slice Aa n1 ca,.slice Ab n2 cb]) (by simp [results,Tryz.results53,go_sem,eb0,eb1]) rfl (HP.out _ _ ⟨Aa,Ab,ca,cb,rfl,(by repeat (first|with_reducible exact Below.refl _ _|with_reducible refine Below.drew ?_|with_reducible refine bel_alloc ?_ _|with_reducible refine Below.setCell ?_ (by first|omega|(simp;done)|(simp;omega)) _|with_reducible refine bel_grown ?_ (by assumption) (by first|omega|(simp;done)|(simp;omega)))),⟨hra.stay (fun ad had hlt=>?_),hrb.stay (fun ad had hlt=>?_)⟩,fun ad had=>?_,fun ad had=>?_,HCA.out,HCB.out⟩)
    · have hh:=(hata ad had).1
      try simp at hh
      repeat (first|with_reducible exact Stay.refl hlt|with_reducible refine Stay.drew ?_|with_reducible refine Stay.alloc ?_ _|with_reducible refine Stay.setCell ?_ (by first|omega|(simp;done)|(simp;omega)) _|with_reducible refine Stay.grown ?_ (by assumption) (by first|omega|(simp;done)|(simp;omega)))
    · have hh:=(hatb ad had).1
      try simp at hh
      repeat (first|with_reducible exact Stay.refl hlt|with_reducible refine Stay.drew ?_|with_reducible refine Stay.alloc ?_ _|with_reducible refine Stay.setCell ?_ (by first|omega|(simp;done)|(simp;omega)) _|with_reducible refine Stay.grown ?_ (by assumption) (by first|omega|(simp;done)|(simp;omega)))
    · have hh:=(hata ad had).1
      try simp at hh
      omega
    · have hh:=(hatb ad had).1
      try simp at hh
      omega
end Go.Proofs.YtgelfflighgajaaGreatDoor
namespace Go.Proofs.YtgelfflighgajaaGreatDoor
open Go.RowKit
set_option maxHeartbeats 1600000
set_option maxRecDepth 100000
abbrev Lck:=Int×Int×Int
def lckCells (x:Lck):List Value:=[.int .i64 x.1,.int .i64 x.2.1,.int .i64 x.2.2]
theorem lck_len (l:List Lck):∀ r∈l.map lckCells,r.length=3:=by intro r h;obtain ⟨x,_,rfl⟩:=List.mem_map.1 h;rfl
theorem lck_one (l:List Lck):∀ r∈l.map lckCells,∀ u∈r,u.oneCell'=true:=by
 intro r h u hu;obtain ⟨x,_,rfl⟩:=List.mem_map.1 h
 simp only [lckCells,List.mem_cons,List.not_mem_nil,or_false] at hu
 rcases hu with rfl|rfl|rfl<;>rfl
theorem infoLack:(Tryz.prog.info? 308).map (fun i=>(i.zero,i.size,i.bytes))=some (some (.agg #[.int .i64 0,.int .i64 0,.int .i64 0]),3,24):=by kernel_rfl
def SayAt (w:World) (B0 b:Nat) (l:List Lck):Prop :=
 ∃ Q d,Blk w b 204 #[.slice Q l.length d]∧w.ownsRow B0 308 3 (.slice Q l.length d) l.length (l.map lckCells).flatten
theorem SayAt.start (w:World) (B0 b:Nat) (h:Blk w b 204 #[.slice none 0 0]):SayAt w B0 b []:=⟨none,0,h,⟨by simp,.inl ⟨rfl,rfl⟩⟩⟩
theorem SayAt.after {w w':World} {B0 b:Nat} {l:List Lck} (h:SayAt w B0 b l) (hb:Below w.heap.size w w'):SayAt w' B0 b l:=by
 obtain ⟨Q,d,h1,h2⟩:=h
 exact ⟨Q,d,h1.after hb,own_keep h2 fun g _ hlt=>hb.block g hlt⟩
def SayKeeps (b:Nat) (w w':World):Prop:=Below b w w'∧w.heap.size≤w'.heap.size∧∀ (g:Nat) (t:TypeId) (cs:Array Value),Blk w g t cs→g≠b→t≠308→Blk w' g t cs
def SayPost (B0 b:Nat) (l:List Lck) (w:World) (e:Ending) (w':World):Prop:=e=.returned (.tuple #[])∧SayAt w' B0 b l∧SayKeeps b w w'
theorem own_ne {w:World} {base g:Nat} {e t:TypeId} {size n:Nat} {v:Value} {xs:List Value} {cs:Array Value} (h:w.ownsRow base e size v n xs) (hg:Blk w g t cs) (hne:t≠e):v.ownBlock≠some g:=by
 rcases h.2 with⟨rfl,_⟩|⟨g',cap,cur,rfl,_,hh,_⟩
 ·simp [Value.ownBlock]
 ·intro he
  have:g'=g:=by simpa [Value.ownBlock] using he
  subst this
  unfold Blk at hg
  rw [hh] at hg
  injection hg with hg
  injection hg with _ ht
  exact hne ht.symm
theorem say_ok (c what:Int) (b be B0:Nat) (l:List Lck) (w:World) (h:SayAt w B0 b l) :
  Calls Tryz.prog 214 #[.bool true,.int .i64 c,.int .i64 what,.pointer (some ⟨b,0,none⟩),.pointer (some ⟨be,0,none⟩)] w (SayPost B0 b l w):=by
 have H:=Lib.hid h
 clear h
 go_enter Tryz.func214,Tryz.ntmps214
 go_wp2
 exact bodyPost_end (v:=.tuple #[]) (by simp [results,Tryz.results214,go_sem]) rfl ⟨rfl,H.out,Below.refl _ _,Nat.le_refl _,fun g t cs h _ _=>h⟩
theorem say_no (c what ev:Int) (b be B0:Nat) (l:List Lck) (w:World) (h:SayAt w B0 b l) (hev:w.cell? ⟨be,0,none⟩=some (.int .i64 ev)) (hb:b<B0) (hB:B0≤w.heap.size) (hl:l.length≤32000) :
    Calls Tryz.prog 214 #[.bool false,.int .i64 c,.int .i64 what,.pointer (some ⟨b,0,none⟩),.pointer (some ⟨be,0,none⟩)] w (SayPost B0 b (l++[(ev,c,what)]) w):=by
  obtain ⟨i0,hi0,hz0,hz1,hz2⟩:=info_parts infoLack
  obtain ⟨Q,d,hQ,hown⟩:=h
  have HQ:=Lib.hid hQ
  have HO:=Lib.hid hown
  have hbl:b<w.heap.size:=hQ.lt
  have hbe:be<w.heap.size:=World.block_lt_of_cell? w _ hev
  have q0:w.cell? ⟨b,0,none⟩=some (.slice Q l.length d):=hQ.cell 0
  have f0:=hQ.frozen 0
  clear hQ hown
  go_enter Tryz.func214,Tryz.ntmps214
  go_wp2_with (at_builtin
               refine wpList_append_rd rfl (.tmp 10) (.tmp 15) _ rfl B0 308 i0 _ 3 24 Tryz.underlying204 hi0 hz0 hz1 hz2 rfl (by omega) (.slice Q l.length d) l.length (l.map lckCells) rfl (own_keep HO.out fun g _ hlt=>Below.heap_alloc _ _ _ hlt) (lck_len _) (by simp) _ (some ⟨w.heap.size,0,none⟩) [lckCells (ev,c,what)] 1 1 rfl rfl (rd_block (blk_new' rfl) rfl) (lck_len [(ev,c,what)]) (lck_one [(ev,c,what)]) (by show l.length+1≤maxLen;unfold maxLen;omega) (by show (l.length+1)*24≤_;omega) (by simp;omega) ?_
               intro Q' d' w3 hown3 hg3 hat3
               have hne:(Value.slice Q l.length d).ownBlock≠some b:=fun e=>by have:=(own_lt HO.out _ e).1;omega
               have kb:Blk w3 b 204 #[.slice Q l.length d]:=blk_grown (HQ.out.alloc _) hg3 (fun e=>hne e.symm)
               have z0:w3.cell? ⟨b,0,none⟩=some (.slice Q l.length d):=kb.cell 0
               have zf0:=kb.frozen 0
               have KB:=Lib.hid kb
               clear kb)
  have hsz3:w.heap.size+1≤w3.heap.size:=by have:=hg3.size;simpa using this
  refine bodyPost_end (v:=.tuple #[]) (by simp [results,Tryz.results214,go_sem]) rfl ⟨rfl,⟨Q',d',?_,?_⟩,?_,?_,?_⟩
  · rw [List.length_append]
    exact KB.out.set_ 0 _
  · rw [List.length_append,List.map_append]
    exact own_keep hown3 fun g hg hlt=>Below.heap_setCell _ _ _ _ (by have:=(own_lt hown3 g hg).1;show g≠b;omega)
  · refine Below.setCell (p:=⟨b,0,none⟩) ?_ (Nat.le_refl b) _
    refine Below.grown ((Below.refl _ _).alloc (by omega) _) hg3 (by simp;omega) (fun g hgv=>by have:=(own_lt HO.out g hgv).1;omega)
  · simp [World.setCell];omega
  · intro g t cs hg hgb ht
    refine Blk.far (p:=⟨b,0,none⟩) ?_ hgb _
    exact blk_grown (hg.alloc _) hg3 (fun e=>own_ne HO.out hg ht e.symm)
end Go.Proofs.YtgelfflighgajaaGreatDoor
namespace Go.Proofs.YtgelfflighgajaaGreatDoor
open Go.RowKit
set_option maxHeartbeats 1600000
set_option maxRecDepth 100000
theorem big_any (M:PM) (p:Pce) (w:World) (hP:PcAt w w.heap.size M p):Calls Tryz.prog 49 #[pcValue M p] w (Ret (.bool (bigB p)) w):=by
 obtain ⟨A1,A2,A3,c1,c2,c3⟩:=M
 obtain ⟨cs,st,evs⟩:=p
 unfold pcValue
 simp only at *
 have HP:=Lib.hid hP.2.1
 obtain ⟨n1,hn1⟩:∃ n,cs.length=n:=⟨_,rfl⟩
 obtain ⟨n2,hn2⟩:∃ n,st.length=n:=⟨_,rfl⟩
 obtain ⟨n3,hn3⟩:∃ n,evs.length=n:=⟨_,rfl⟩
 have HN3:=Lib.hid hn3
 have hB:bigB ⟨cs,st,evs⟩=(decide (64 < n1) || (decide (64 < n2) || (decide (420 < n3) || evs.any fun e=>decide (20 < e.stops.length)))):=by unfold bigB;rw [hn1,hn2,hn3]
 rw [hB,hn1,hn2,hn3]
 clear hB hn1 hn2 hn3 hP
 by_cases b1:64 < n1
 ·have e:(decide (64 < n1) || (decide (64 < n2) || (decide (420 < n3) || evs.any fun e=>decide (20 < e.stops.length))))=true:=by simp [b1]
  rw [e]
  clear e
  go_enter Tryz.func49,Tryz.ntmps49
  go_wp2
  go_ret
  exact Ret.mk' rfl (by repeat (first|exact Below.refl _ _|assumption|refine bel_drewN ?_ _|refine Below.drew ?_|refine bel_alloc ?_ _|refine Below.setCell ?_ (by first|omega|(simp;done)|(simp;omega)) _|refine bel_step ?_ (by assumption)))
 ·by_cases b2:64 < n2
  ·have e:(decide (64 < n1) || (decide (64 < n2) || (decide (420 < n3) || evs.any fun e=>decide (20 < e.stops.length))))=true:=by simp [b2]
   rw [e]
   clear e
   go_enter Tryz.func49,Tryz.ntmps49
   go_wp2
   go_ret
   exact Ret.mk' rfl (by repeat (first|exact Below.refl _ _|assumption|refine bel_drewN ?_ _|refine Below.drew ?_|refine bel_alloc ?_ _|refine Below.setCell ?_ (by first|omega|(simp;done)|(simp;omega)) _|refine bel_step ?_ (by assumption)))
  ·by_cases b3:420 < n3
   ·have e:(decide (64 < n1) || (decide (64 < n2) || (decide (420 < n3) || evs.any fun e=>decide (20 < e.stops.length))))=true:=by simp [b3]
    rw [e]
    clear e
    go_enter Tryz.func49,Tryz.ntmps49
    go_wp2
    go_ret
    exact Ret.mk' rfl (by repeat (first|exact Below.refl _ _|assumption|refine bel_drewN ?_ _|refine Below.drew ?_|refine bel_alloc ?_ _|refine Below.setCell ?_ (by first|omega|(simp;done)|(simp;omega)) _|refine bel_step ?_ (by assumption)))
   ·have e:(decide (64 < n1) || (decide (64 < n2) || (decide (420 < n3) || evs.any fun e=>decide (20 < e.stops.length))))=evs.any fun e=>decide (20 < e.stops.length):=by simp [b1,b2,b3]
    rw [e]
    clear e
    obtain ⟨V,hV⟩:∃ V,(evs.any fun e=>decide (20 < e.stops.length))=V:=⟨_,rfl⟩
    rw [hV]
    have HV:=Lib.hid hV
    clear hV
    go_enter Tryz.func49,Tryz.ntmps49
    go_wp2
    go_loop [3] (fun i=>∃ k:Nat,k≤n3∧i=.int .i64 k∧V=(evs.drop k).any fun e=>decide (20 < e.stops.length)) (fun i=>n3 - (intOf i).toNat)
    case atStart=>exact ⟨0,Nat.zero_le _,rfl,HV.out.symm⟩
    case round =>
     obtain ⟨k,hk,rfl,hs⟩:=hrel
     have HS:=Lib.hid hs
     clear hs
     by_cases hlt:k < n3
     ·have hk2:k < evs.length:=by have:=HN3.out;omega
      obtain ⟨ad,S,c,hA,hb,_,_,_,_,_,hc,_⟩:=HP.out.ev hk2
      subst hA
      have hs2:=HS.out.trans (any_at hk2)
      generalize evs[k]=e at hc hs2
      have hc2:∀ o:Obj,(w.alloc o).cell? ⟨(ad.add (k*6)).block,(ad.add (k*6)).off+5,none⟩=some (.slice S e.stops.length c):=fun o=>by
       rw [World.cell?_alloc_lt _ _ _ (by rw [block_of_add];omega),hc]
      clear hc
      generalize e.stops.length=n at *
      by_cases hb1:20 < n
      ·have HE:=Lib.hid (hs2.trans (show _=true by simp [hb1]))
       clear hs2
       go_wp2
       go_ret
       exact Ret.mk' (by rw [HE.out];rfl) (by repeat (first|exact Below.refl _ _|assumption|refine bel_drewN ?_ _|refine Below.drew ?_|refine bel_alloc ?_ _|refine Below.setCell ?_ (by first|omega|(simp;done)|(simp;omega)) _|refine bel_step ?_ (by assumption)))
      ·have HS3:=Lib.hid (hs2.trans (show _=(evs.drop (k+1)).any fun e=>decide (20 < e.stops.length) by simp [hb1]))
       clear hs2
       go_wp2
       go_round
       case rel=>exact ⟨k+1,by omega,by go_num,HS3.out⟩
       case measure=>simp [intOf];omega
     ·have HE:=Lib.hid (HS.out.trans (show ((evs.drop k).any fun e=>decide (20 < e.stops.length))=false from by rw [List.drop_eq_nil_of_le (by have:=HN3.out;omega)];rfl))
      go_wp2
      go_ret
      exact Ret.mk' (by rw [HE.out];rfl) (by repeat (first|exact Below.refl _ _|assumption|refine bel_drewN ?_ _|refine Below.drew ?_|refine bel_alloc ?_ _|refine Below.setCell ?_ (by first|omega|(simp;done)|(simp;omega)) _|refine bel_step ?_ (by assumption)))
end Go.Proofs.YtgelfflighgajaaGreatDoor
