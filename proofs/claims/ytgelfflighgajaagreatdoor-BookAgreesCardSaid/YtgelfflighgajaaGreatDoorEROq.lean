/- Copy of a piece, over trees. -/
import Derived.Test.YtgelfflighgajaaGreatDoorBigOq
set_option maxHeartbeats 4000000
set_option maxRecDepth 100000
set_option linter.unusedVariables false
set_option linter.unusedSimpArgs false
namespace Go.Proofs.YtgelfflighgajaaGreatDoor
section
open Go.RowKit
theorem infoCourse:(Tryz.prog.info? 98).map (fun i=>(i.zero,i.size,i.bytes))=some (some (.agg #[.int .i64 0,.int .i64 0,.bool false]),3,24):=by kernel_rfl
theorem infoInt:(Tryz.prog.info? 3).map (fun i=>(i.zero,i.size,i.bytes))=some (some (.int .i64 0),1,8):=by kernel_rfl
theorem crs_len (cs:List (Int×Int×Bool)):∀ r∈cs.map crsCells,r.length=3:=by intro r h;obtain⟨x,_,rfl⟩:=List.mem_map.1 h;rfl
theorem int_len(st:List Int):∀ r∈st.map intCell,r.length=1:=by intro r h;obtain⟨x,_,rfl⟩:=List.mem_map.1 h;rfl
theorem crs_one (cs:List (Int×Int×Bool)):∀ r∈cs.map crsCells,∀ u∈r,u.oneCell'=true:=by
 intro r h u hu;obtain⟨x,_,rfl⟩:=List.mem_map.1 h
 simp only [crsCells,List.mem_cons,List.not_mem_nil,or_false]at hu
 rcases hu with rfl|rfl|rfl<;>rfl
theorem int_one(st:List Int):∀ r∈st.map intCell,∀ u∈r,u.oneCell'=true:=by
 intro r h u hu;obtain⟨x,_,rfl⟩:=List.mem_map.1 h
 simp only [intCell,List.mem_cons,List.not_mem_nil,or_false]at hu
 rcases hu with rfl;rfl
def CopyIns (cs:List (Int×Int×Bool))(st:List Int)(W:World)(e:Ending)(w':World):Prop :=
 ∃ (A1 A2:Option Addr)(c1 c2:Nat),e=.returned (.agg #[.slice A1 cs.length c1,.slice A2 st.length c2])∧Below W.heap.size W w'∧InsAt w' w'.heap.size A1 A2 cs st∧(∀ ad,A1=some ad→W.heap.size≤ad.block)∧(∀ ad,A2=some ad→W.heap.size≤ad.block)∧cs.length≤c1∧st.length≤c2
structure InsS (w:World)(B:Nat)(A1 A2:Option Addr)(cs:List (Int×Int×Bool))(st:List Int):Prop where
 out:InsAt w B A1 A2 cs st
section
variable {w w':World} {B g:Nat} {A1 A2:Option Addr} {cs:List (Int×Int×Bool)} {st:List Int}
theorem hid_ins1 (h:InsS w B A1 A2 cs st):Rd w B 3 A1 (cs.map crsCells):=h.out.1
theorem hid_ins2 (h:InsS w B A1 A2 cs st):Rd w B 1 A2 (st.map intCell):=h.out.2
theorem hins_drew(h:InsS w B A1 A2 cs st):InsS w.drew B A1 A2 cs st:=⟨h.out⟩
theorem hins_alloc (h:InsS w B A1 A2 cs st)(hB:B≤w.heap.size)(o:Obj):InsS (w.alloc o) B A1 A2 cs st:=⟨h.out.alloc hB o⟩
theorem hins_grown (h:InsS w B A1 A2 cs st)(hg:w.grownBy w' (some g))(hB:B≤w.heap.size)(hr:B≤g):InsS w' B A1 A2 cs st :=
 ⟨⟨h.out.1.grown hg hB (fun k e=>by injection e with e;omega),h.out.2.grown hg hB (fun k e=>by injection e with e;omega)⟩⟩
theorem hins_setCell {p:Addr} {u:Value} (h:InsS w B A1 A2 cs st)(hB:B≤p.block):InsS (w.setCell p u) B A1 A2 cs st:=⟨⟨h.out.1.setCell hB u,h.out.2.setCell hB u⟩⟩
end
theorem rInsCopy (A1 A2:Option Addr) (cs:List (Int×Int×Bool)) (st:List Int) (c1 c2:Nat) (w:World) (hI:InsAt w w.heap.size A1 A2 cs st) (hm1:cs.length≤64) (hm2:st.length≤64) :
    Calls Tryz.prog 53 #[.agg #[.slice A1 cs.length c1,.slice A2 st.length c2]] w (CopyIns cs st w):=by
  obtain ⟨i0,hi0,hz0,hz1,hz2⟩:=info_parts infoCourse
  obtain ⟨i1,hi1,hz3,hz4,hz5⟩:=info_parts infoInt
  obtain ⟨n1,hn1⟩:∃ n,cs.length=n:=⟨_,rfl⟩
  obtain ⟨n2,hn2⟩:∃ n,st.length=n:=⟨_,rfl⟩
  have HP:Hid (∀ e w',(∃ (A1 A2:Option Addr) (c1 c2:Nat),e=.returned (.agg #[.slice A1 n1 c1,.slice A2 n2 c2])∧Below w.heap.size w w'∧InsAt w' w'.heap.size A1 A2 cs st∧(∀ ad,A1=some ad→w.heap.size≤ad.block)∧(∀ ad,A2=some ad→w.heap.size≤ad.block)∧n1≤c1∧n2≤c2)→CopyIns cs st w e w'):=by
    intro e w' ⟨x1,x2,x3,x4,h1,h2,h3,h4,h5,h6,h7⟩
    exact ⟨x1,x2,x3,x4,by rw [hn1,hn2];exact h1,h2,h3,h4,h5,by rw [hn1];exact h6,by rw [hn2];exact h7⟩
  have HI:InsS w w.heap.size A1 A2 cs st:=⟨hI⟩
  rw [hn1,hn2]
  rw [hn1] at hm1
  rw [hn2] at hm2
  have HN1:=Lib.hid (show n1=(cs.map crsCells).length by simp [hn1])
  have HN2:=Lib.hid (show n2=(st.map intCell).length by simp [hn2])
  clear hn1 hn2 hI
  go_enter Tryz.func53,Tryz.ntmps53
  go_wp2_with fail
  have HT:((w.alloc (Obj.cells #[Value.slice A1 n1 c1,Value.slice A2 n2 c2] 25)).alloc (Obj.cells #[Value.slice none 0 0,Value.slice none 0 0] 25)).there (w.heap.size+1) 0 2:=blk_there (blk_new' (by simp)) (by simp)
  go_region_held3 (fun w'=>w'.cell? ⟨w.heap.size,0,none⟩=some (.slice A1 n1 c1)∧w'.cell? ⟨w.heap.size,1,none⟩=some (.slice A2 n2 c2)∧InsS w' w.heap.size A1 A2 cs st∧w'.there (w.heap.size+1) 0 2)
    (((try go_split_ands);(try dsimp only);refine ⟨?_,?_,?_,?_⟩;
      (focus (first|(rw [hga.cell_far _ (by simp;omega) (by simp;omega)];with_reducible assumption)|(rw [hgb.cell_far _ (by simp;omega) (by simp;omega)];with_reducible assumption)|(rw [World.cell?_setCell_other _ _ _ _ (by simp),World.cell?_setCell_other _ _ _ _ (by simp)];with_reducible assumption)|(go_keep;done)));(focus (first|(rw [hga.cell_far _ (by simp;omega) (by simp;omega)];with_reducible assumption)|(rw [hgb.cell_far _ (by simp;omega) (by simp;omega)];with_reducible assumption)|(rw [World.cell?_setCell_other _ _ _ _ (by simp),World.cell?_setCell_other _ _ _ _ (by simp)];with_reducible assumption)|(go_keep;done)));
      (focus (repeat (first|with_reducible exact HI|with_reducible assumption|with_reducible refine hins_drew ?_|with_reducible refine hins_alloc ?_ zqs _|with_reducible refine hins_setCell ?_ zqs|with_reducible refine hins_grown ?_ (by assumption) zqs zqs)));
      (focus (repeat (first|with_reducible exact HT|with_reducible assumption|with_reducible refine there_drew ?_|with_reducible refine World.there_alloc ?_ _|with_reducible refine there_setCell ?_ _ _|with_reducible refine there_grown ?_ (by assumption) zqs)))))
    (first
      | (refine step_append_new (by rfl) _ _ 22 (by rfl) 98 i0 _ 3 24 Tryz.underlying22 hi0 hz0 hz1 hz2 rfl (by omega) _ (by rfl) (by repeat (first|with_reducible assumption|with_reducible refine Blk.drew ?_|with_reducible exact blk_new' (by simp)|with_reducible refine Blk.alloc ?_ _|with_reducible refine blk_grown ?_ (by assumption) zqs)) w.heap.size A1 (cs.map crsCells) n1 c1 (by rfl) HN1.out (hid_ins1 (by first|with_reducible assumption|(go_split_ands;with_reducible assumption))) (crs_len _) (crs_one _) (by rw [← HN1.out];simp only [maxLen];omega) (by rw [← HN1.out];omega) ?_;intro Aa ca wa hra hga hata0;have hata:=hata0.1;have HCA:=Lib.hid hata0.2;clear hata0;obtain ⟨ub0,ub1,eb0,eb1,fb0,fb1⟩:=there2 (there_grown (by first|with_reducible assumption|(go_split_ands;with_reducible assumption)) hga zqs);have hsa:w.heap.size+2 < wa.heap.size:=(by have:=hga.size;(try simp at this);omega))
      | (refine step_append_new (by rfl) _ _ 23 (by rfl) 3 i1 _ 1 8 Tryz.underlying23 hi1 hz3 hz4 hz5 rfl (by omega) _ (by rfl) (by repeat (first|with_reducible assumption|with_reducible refine Blk.drew ?_|with_reducible exact blk_new' (by simp)|with_reducible refine Blk.alloc ?_ _|with_reducible refine blk_grown ?_ (by assumption) zqs)) w.heap.size A2 (st.map intCell) n2 c2 (by rfl) HN2.out (hid_ins2 (by first|with_reducible assumption|(go_split_ands;with_reducible assumption))) (int_len _) (int_one _) (by rw [← HN2.out];simp only [maxLen];omega) (by rw [← HN2.out];omega) ?_;intro Ab cb wb hrb hgb hatb0;have hatb:=hatb0.1;have HCB:=Lib.hid hatb0.2;clear hatb0;obtain ⟨ub0,ub1,eb0,eb1,fb0,fb1⟩:=there2 (there_grown (by first|with_reducible assumption|(go_split_ands;with_reducible assumption)) hgb zqs);have hsb:w.heap.size+2 < wb.heap.size:=(by have:=hgb.size;(try simp at this);omega)))
  all_goals
    go_wp2_with fail
    refine bodyPost_ret (v:=.agg #[.slice Aa n1 ca,.slice Ab n2 cb]) (by simp [results,Tryz.results53,go_sem,eb0,eb1]) rfl (HP.out _ _ ⟨Aa,Ab,ca,cb,rfl,(by repeat (first|with_reducible exact Below.refl _ _|with_reducible refine Below.drew ?_|with_reducible refine bel_alloc ?_ _|with_reducible refine Below.setCell ?_ zqs _|with_reducible refine bel_grown ?_ (by assumption) zqs)),⟨hra.stay (fun ad had hlt=>?_),hrb.stay (fun ad had hlt=>?_)⟩,fun ad had=>?_,fun ad had=>?_,HCA.out,HCB.out⟩)
    · have hh:=(hata ad had).1
      try simp at hh
      repeat (first|with_reducible exact Stay.refl hlt|with_reducible refine Stay.drew ?_|with_reducible refine Stay.alloc ?_ _|with_reducible refine Stay.setCell ?_ zqs _|with_reducible refine Stay.grown ?_ (by assumption) zqs)
    · have hh:=(hatb ad had).1
      try simp at hh
      repeat (first|with_reducible exact Stay.refl hlt|with_reducible refine Stay.drew ?_|with_reducible refine Stay.alloc ?_ _|with_reducible refine Stay.setCell ?_ zqs _|with_reducible refine Stay.grown ?_ (by assumption) zqs)
    · have hh:=(hata ad had).1
      try simp at hh
      omega
    · have hh:=(hatb ad had).1
      try simp at hh
      omega
end
section
open Go.RowKit
def newF(F:View)(w w':World):View:=fun p=>if p.block<w.heap.size then F p else w'.cell? p
theorem newF_le {F:View} {w w':World} (hF:∀ p u,F p=some u→w.cell? p=some u):View.le F (newF F w w'):=fun p u h=>by
 unfold newF
 rw [if_pos (cell_block (hF p u h))];exact h
theorem newF_fw {F:View} {w w':World} (hF:∀ p u,F p=some u→w.cell? p=some u)(hb:Below w.heap.size w w'):∀ p u,newF F w w' p=some u→w'.cell? p=some u:=fun p u h=>by
 unfold newF at h
 by_cases e:p.block<w.heap.size
 ·rw [if_pos e]at h;rw [hb.cell e];exact hF p u h
 ·rw [if_neg e]at h;exact h
theorem newF_new {F:View} {w w':World}:∀ p u,newF F w w' p=some u→F p=some u∨w.heap.size≤p.block:=fun p u h=>by
 unfold newF at h
 by_cases e:p.block<w.heap.size
 ·rw [if_pos e]at h;exact .inl h
 ·exact .inr zqo
theorem rp_of_rd {α:Type} {F:View} {w w':World} {n:Nat} {l:List α} {e:α→List AV} {f:α→List Value} {A:Option Addr} {c B:Nat} (hr:Rd w' B n A (l.map f)) (hA:∀ ad,A=some ad→w.heap.size≤ad.block) (hc:l.length≤c)
  (hf:∀ x,(e x).length=n) (hef:∀ x (j:Nat) av,(e x)[j]?=some av→∃ u,av=.sc u∧(f x)[j]?=some u∧u.oneCell'=true):RP (newF F w w') (.ls n (l.map e)) (.slice A l.length c):=by
 have hcell:∀ ad,A=some ad→∀ (k:Nat) x,l[k]?=some x→∀ (j:Nat) u,(f x)[j]?=some u→newF F w w' (ad.add (k*n+j))=some u:=fun ad had k x hk j u hu=>by
  have hl:0<(l.map f).length:=by have:=(List.getElem?_eq_some_iff.1 hk).1;simp;omega
  obtain ⟨ad',e',_,h2⟩:=hr hl
  rw [had] at e'
  cases e'
  unfold newF
  rw [if_neg (by rw [block_of_add];have:=hA ad had;omega)]
  exact h2 k (f x) (by rw [List.getElem?_map,hk];rfl) j u hu
 have key:∀ (i:Nat) r (j:Nat) av,(l.map e)[i]?=some r→r[j]?=some av→∃ x u,l[i]?=some x∧av=.sc u∧(f x)[j]?=some u∧u.oneCell'=true:=fun i r j av hr' hav=>by
  rw [List.getElem?_map] at hr'
  cases hx:l[i]? with
  | none=>simp [hx] at hr'
  | some x =>
   rw [hx] at hr'
   obtain rfl:e x=r:=by simpa using hr'
   obtain ⟨u,a,b,c⟩:=hef x j av hav
   exact ⟨x,u,rfl,a,b,c⟩
 have hlen:l.length=(l.map e).length:=by simp
 rw [hlen]
 refine .ls n (l.map e) A c (A.getD ⟨0,0,none⟩) (fun i j=>((l[i]?).bind fun x=>(f x)[j]?).getD undef) (by simpa using hc) (fun r hr'=>?_) (fun hp=>?_) (fun i r j av hr' hav=>?_) (fun i r j av hr' hav=>?_)
 ·obtain ⟨x,_,rfl⟩:=List.mem_map.1 hr';exact hf x
 ·obtain ⟨ad,e',_⟩:=hr (by simpa using hp)
  rw [e'];rfl
 ·obtain ⟨x,u,h1,h2,h3,h4⟩:=key i r j av hr' hav
  obtain ⟨ad,e',_⟩:=hr (by have:=(List.getElem?_eq_some_iff.1 h1).1;simp;omega)
  simp only [h1,Option.bind_some,h3,Option.getD_some]
  rw [e']
  exact ⟨hcell ad e' i x h1 j u h3,h4⟩
 ·obtain ⟨x,u,h1,h2,h3,h4⟩:=key i r j av hr' hav
  simp only [h1,Option.bind_some,h3,Option.getD_some,h2]
  exact .sc u
theorem eCrs_of(x:Int×Int×Bool)(j:Nat)(av:AV)(h:(eCrs x)[j]?=some av):∃ u,av=.sc u∧(crsCells x)[j]?=some u∧u.oneCell'=true:=by
 match j with
 | 0=>cases h;exact⟨_,rfl,rfl,rfl⟩
 | 1=>cases h;exact⟨_,rfl,rfl,rfl⟩
 | 2=>cases h;exact⟨_,rfl,rfl,rfl⟩
 | j+3=>simp [eCrs]at h
theorem eInt_of(x:Int)(j:Nat)(av:AV)(h:(eInt x)[j]?=some av):∃ u,av=.sc u∧(intCell x)[j]?=some u∧u.oneCell'=true:=by
 match j with
 | 0=>cases h;exact⟨_,rfl,rfl,rfl⟩
 | j+1=>simp [eInt]at h
theorem insCopy_FS (cs:List (Int×Int×Bool)) (st:List Int) (h1:cs.length≤64) (h2:st.length≤64):Ctr Tryz.prog 53 [.ag (eIns cs st)] (.ag (eIns cs st)):=by
 intro w F vs hF hR
 match vs,hR.1 with
 | [v],_ =>
  have r:=hR.2 0 _ v rfl rfl
  obtain ⟨xs,rfl,q1,q2⟩:∃ xs:Array Value,v=.agg xs∧xs.size=2∧∀ (i:Nat) av u,(eIns cs st)[i]?=some av→xs[i]?=some u→RP F av u:=by
   cases r with|ag l cs a b=>exact ⟨cs,rfl,a,b⟩
  have g:∀ i (h:i<2),xs[i]?=some (xs[i]'(by omega)):=fun i h=>Array.getElem?_eq_getElem (by omega)
  obtain ⟨A1,c1,A2,c2,e1,e2,hI⟩:=ins_of_rp hF (q2 0 _ _ rfl (g 0 zqo)) (q2 1 _ _ rfl (g 1 zqo))
  have ex:xs=#[.slice A1 cs.length c1,.slice A2 st.length c2]:=by
   apply Array.ext (by simp [q1])
   intro i hi hi2
   match i,(show i<2 by omega) with
   | 0,_=>exact e1
   | 1,_=>exact e2
  rw [ex]
  refine (rInsCopy A1 A2 cs st c1 c2 w hI h1 h2).mono fun e w' ⟨B1,B2,d1,d2,he,hb,hI',f1,f2,k1,k2⟩=>?_
  refine ⟨_,newF F w w',he,hb,newF_le hF,newF_fw hF hb,newF_new,.ag _ _ rfl fun i av u a b=>?_⟩
  match i with
  | 0=>cases a;cases b;exact rp_of_rd hI'.1 f1 k1 (fun _=>rfl) eCrs_of
  | 1=>cases a;cases b;exact rp_of_rd hI'.2 f2 k2 (fun _=>rfl) eInt_of
  | i+2=>simp [eIns] at a
end
section
open Go.RowKit
theorem crsE_fr {st:List Int}:∀ {cs:List (Int×Int×Bool)},crsE st cs=0→∀ k (h:k<cs.length),0≤cs[k].2.1∧cs[k].2.1≤st.length:=by
 intro cs
 induction cs with
 | nil=>intro _ k h;simp at h
 | cons x r ih =>
  intro h k hk
  unfold crsE at h
  by_cases h1:x.2.1<0∨(st.length:Int)<x.2.1
  ·rw [if_pos h1]at h;cases h
  ·rw [if_neg h1]at h
   by_cases h2:(x.1<0∨127<x.1)∨127<topOf st x
   ·rw [if_pos h2]at h;cases h
   ·rw [if_neg h2]at h
    cases k with
    | zero=>simp;omega
    | succ k=>simpa using ih h k (by simpa using hk)
theorem stopE_bd {p:Pce} {i last:Int} {s:Stp} (hI:insE p.cs p.st=0)(h:stopE p i s last=0) :
  (1≤s.1∧s.1≤14)∧(0≤s.2.1∧s.2.1≤18)∧(0≤s.2.2.1∧s.2.2.1≤3)∧(0≤s.2.2.2.1∧s.2.2.2.1≤4)∧(0≤s.2.2.2.2∧s.2.2.2.2≤15):=by
 obtain⟨l1,l2,l3,_,l5⟩:=insE_len hI
 unfold stopE at h
 by_cases h1:s.1<1∨(p.cs.length:Int)<s.1
 ·rw [if_pos h1]at h;cases h
 ·rw [if_neg h1]at h
  by_cases h2:s.2.1<0∨fretsOf p.cs s.1<s.2.1
  ·rw [if_pos h2]at h;cases h
  ·rw [if_neg h2]at h
   by_cases h3:s.1≤last
   ·rw [if_pos h3]at h;cases h
   ·rw [if_neg h3]at h
    by_cases h4:(s.2.2.1<0∨3<s.2.2.1)∨(s.2.2.2.1<0∨4<s.2.2.2.1)
    ·rw [if_pos h4]at h;cases h
    ·rw [if_neg h4]at h
     by_cases h5:(s.2.2.2.2<0∨(longestN p.evs i s.1:Int)<s.2.2.2.2)∨(0<s.2.2.2.2∧s.2.1=0)
     ·rw [if_pos h5]at h;cases h
     ·have hL:=longestN_le p.evs i s.1
      have hk:s.1.toNat-1<p.cs.length:=by omega
      have hf:fretsOf p.cs s.1=p.cs[s.1.toNat-1].2.1:=by
       have:=fretsOf_at hk
       rw [← this];congr 1;omega
      have:=crsE_fr l5 _ hk
      refine⟨⟨by omega,by omega⟩,⟨by omega,by omega⟩,⟨by omega,by omega⟩,⟨by omega,by omega⟩,by omega,by omega⟩
theorem stopsE_bd {p:Pce} {i:Int} (hI:insE p.cs p.st=0):∀ {l:List Stp} {last:Int},stopsE p i last l=0→∀ k (h:k<l.length),∃ la,stopE p i l[k] la=0:=by
 intro l
 induction l with
 | nil=>intro _ _ k h;simp at h
 | cons x r ih =>
  intro last h k hk
  unfold stopsE at h
  by_cases h1:stopE p i x last≠0
  ·rw [if_pos h1] at h;exact absurd h h1
  ·rw [if_neg h1] at h
   cases k with
   | zero=>exact⟨last,by simpa using h1⟩
   | succ k=>simpa using ih h k (by simpa using hk)
theorem evsE_bd {p:Pce}:∀ {l:List Ev} {n:Nat},evsE p n l=0→∀ k (h:k<l.length),evE p ((n+k:Nat):Int) l[k]=0:=by
 intro l
 induction l with
 | nil=>intro _ _ k h;simp at h
 | cons x r ih =>
  intro n h k hk
  unfold evsE at h
  by_cases h1:evE p n x≠0
  ·rw [if_pos h1] at h;exact absurd h h1
  ·rw [if_neg h1] at h
   cases k with
   | zero=>simpa using h1
   | succ k =>
    have:=ih h k (by simpa using hk)
    rw [show n+1+k=n+(k+1) by omega] at this
    simpa using this
theorem pceE_zero {p:Pce} (h:pceE p=0):insE p.cs p.st=0∧p.evs.length≤400∧∀ k(hk:k<p.evs.length),evE p k p.evs[k]=0:=by
 unfold pceE at h
 by_cases h1:insE p.cs p.st≠0
 ·rw [if_pos h1]at h;exact absurd h h1
 ·rw [if_neg h1]at h
  by_cases h2:400<p.evs.length
  ·rw [if_pos h2]at h;cases h
  ·rw [if_neg h2]at h
   refine⟨by simpa using h1,by omega,fun k hk=>?_⟩
   have:=evsE_bd h k hk
   simpa using this
theorem evE_zero {p:Pce} {i:Int} {e:Ev} (h:evE p i e=0):sgOk e.val e.dot e.three=true∧¬ (i=0∧e.val=0)∧¬ (e.tie=true∧(0<e.stops.length∨i=0))∧stopsE p i 0 e.stops=0:=by
 unfold evE at h
 by_cases h1:sgOk e.val e.dot e.three=false∨(i=0∧e.val=0)
 ·rw [if_pos h1] at h;cases h
 ·rw [if_neg h1] at h
  by_cases h2:e.tie=true∧(0<e.stops.length∨i=0)
  ·rw [if_pos h2] at h;cases h
  ·rw [if_neg h2] at h
   refine⟨?_,fun x=>h1 (.inr x),h2,h⟩
   cases hs:sgOk e.val e.dot e.three with
   | true=>rfl
   | false=>exact absurd (.inl hs) h1
theorem stopsIn_of {p:Pce} (h:pceE p=0)(k:Nat)(hk:k<p.evs.length):StopsIn p.evs[k]:=by
 obtain⟨h1,h2,h3⟩:=pceE_zero h
 intro j hj
 obtain⟨la,hla⟩:=stopsE_bd h1 (evE_zero (h3 k hk)).2.2.2 j hj
 exact stopE_bd h1 hla
def lksTo(s:Int)(p:Pce):Nat→List Lck
 | 0=>[]
 | k+1=>lksTo s p k++(match p.evs[k]? with|some e=>lackE s p k e|none=>[])
theorem lksTo_at (s:Int)(p:Pce) {k:Nat} (h:k<p.evs.length):lksTo s p (k+1)=lksTo s p k++lackE s p k p.evs[k]:=by
 show lksTo s p k++_=_
 rw [List.getElem?_eq_getElem h]
theorem lackE_len (s:Int)(p:Pce)(i:Int)(e:Ev)(h:e.stops.length≤20):(lackE s p i e).length≤63:=by
 rw [lackE_eq]
 have a:=lk1_len s i e.val
 have b:=lk2_len s i e.three
 have c:=lk3_len s i e.tie e.stops.length
 have d:=flat_len s i (fun c=>longestN p.evs i c) e.stops
 simp only [List.length_append];omega
theorem lksTo_len (s:Int) {p:Pce} (hO:PcOk p):∀ k,k≤p.evs.length→(lksTo s p k).length≤27000:=by
 have hn:=hO.n3
 have:∀ k,k≤p.evs.length→(lksTo s p k).length≤63*k:=by
  intro k
  induction k with
  | zero=>intro _;simp [lksTo]
  | succ k ih =>
   intro hk
   rw [lksTo_at s p (by omega),List.length_append]
   have:=ih zqo
   have:=lackE_len s p k p.evs[k] (hO.n4 k zqo)
   omega
 intro k hk
 have:=this k hk
 omega
end
section
open Go.RowKit
theorem ownsRowF_base {w:World} {B e size n:Nat} {v:Value} {xs:List Value} (h:w.ownsRowF B e size v n xs):w.ownsRowF 0 e size v n xs:=by
 refine ⟨h.1,?_⟩
 rcases h.2 with x|⟨g,cap,cur,fz,e,hb,r⟩
 ·exact .inl x
 ·exact .inr ⟨g,cap,cur,fz,e,Nat.zero_le _,r⟩
theorem append_strF {P:Program} (w:World) (t u ty e:TypeId) (i:TypeInfo) (ht:P.underlying t=some (.slice e)) (hu:P.underlying u=some .string) (hi:P.info? e=some i) (hz:i.zero=some (.int .u8 0)) (hs1:i.size=1) (hby:i.bytes=1)
  (v:Value) (n:Nat) (xs:List Value) (hown:w.ownsRowF 0 e 1 v n xs) (s:ByteArray) (hb:n+s.size≤1000000000) :
  ∃ v' w',(Builtin.append_ #[t,u] ty #[v,.string s]).run P w=.ok v' w'∧w'.ownsRowF 0 e 1 v' (n+s.size) (xs++Lib.strCells s)∧w.grownBy w' v.ownBlock∧∀ g,v'.ownBlock=some g→v.ownBlock=some g∨w.heap.size≤g:=by
 rcases hown.2 with⟨rfl,rfl⟩|⟨g,cap,cur,fz,rfl,hbg,hg,hfz,hnc,hcm,hcs,htake⟩
 ·obtain ⟨v',w',h1,h2,h3,_⟩:=Lib.run_append_own_stringF (P:=P) w w.heap.size t u ty e i ht hu hi hz hs1 hby (.slice none 0 0) 0 xs ⟨hown.1,.inl ⟨rfl,rfl⟩⟩ s (by unfold maxLen;omega) zqo (Nat.le_refl _)
  exact ⟨v',w',h1,ownsRowF_base h2,h3,fun g hg=>.inr (h2.lt g hg).1⟩
 ·obtain ⟨v',w',h1,h2,h3,_⟩:=Lib.run_append_own_stringF (P:=P) w 0 t u ty e i ht hu hi hz hs1 hby _ n xs hown s (by unfold maxLen;omega) zqo (Nat.zero_le _)
  refine ⟨v',w',h1,h2,h3,fun g' hg'=>?_⟩
  have hxl:xs.length=n:=by simpa using hown.1
  have hcs1:cur.size=cap:=by simpa using hcs
  by_cases hroom:n+s.size≤cap
  ·have hr:=Lib.run_append_room_stringF (P:=P) w t u ty e i ht hu hi hs1 g n cap cur fz hg (by simpa using hfz) s hroom (by omega)
   rw [hr] at h1
   cases h1
   exact .inl hg'
  ·have hr:=Lib.run_append_grow_string (P:=P) w t u ty e i (.int .u8 0) ht hu hi hz ⟨g,0,none⟩ n cap xs (by rw [hs1];simpa using hxl) (hown.cells (g:=g) rfl) s (by omega) (by omega) (by rw [hby];exact growslice_fits (by omega) (by omega))
   rw [hr] at h1
   cases h1
   simp [Value.ownBlock] at hg'
   right;omega
theorem run_appendStr {P:Program} {o:Oper} {a:Act} {w w':World} {x y:Operand} {T U:TypeId} {s:ByteArray} {v v':Value} {N:Act→World→Prop} {Q':Exit→Act→World→Prop} (ho:o.op=.call { callee:=.builtin .append,args:=#[x,y],argTypes:=#[T,U] })(ex:a.eval x=v)(ey:a.eval y=.string s)
  (hrun:(Builtin.append_ #[T,U] o.type #[v,.string s]).run P w=.ok v' w')(hN:N (a.put o.dst v') w'):o.wp P a w N Q':=by
 unfold Oper.wp execOp
 have hargs:(#[x,y]:Array Operand).map a.eval=#[v,.string s]:=by simp [ex,ey]
 simp only [ho,resolve,invoke,builtin,Sem.run_bind,Sem.run_pure,Result.andThen_ok,hargs,hrun,Oper.upon]
 exact hN
theorem strCells_bs (s:List UInt8):Lib.strCells (bs s)=Lib.byteCells s:=by
 unfold Lib.strCells Lib.byteCells
 rfl
theorem bldSize:(Tryz.prog.info? 109).map (·.size)=some 2:=by kernel_rfl
theorem bldLies:liesAt Tryz.prog Tryz.prog.depth 109 (2/Tryz.prog.cellsOf 109) 0 109 1=true:=by kernel_rfl
theorem byteInfo:(Tryz.prog.info? 5).map (fun i=>(i.zero,i.size,i.bytes))=some (some (.int .u8 0),1,1):=by kernel_rfl
theorem byteCellsOf:Tryz.prog.cellsOf 5=1:=by kernel_rfl
theorem bld_copy_used (b:Nat) (w:World) (h0:w.cell? ⟨b,0,none⟩=some (.pointer (some ⟨b,0,none⟩))) :
  Calls Tryz.prog 125 #[.pointer (some ⟨b,0,none⟩)] w fun e w'=>e=.returned (.tuple #[])∧w'=w:=by
 obtain ⟨j,hj,_⟩:=Option.map_eq_some_iff.1 bldSize
 go_enter Tryz.func125,Tryz.ntmps125
 go_wp2
 rw [Lib.run_neq_ptr_same w _ Tryz.underlying107 hj]
 go_wp2
 go_end0
 exact ⟨rfl,rfl⟩
theorem bld_copy_fresh (b:Nat) (w:World) (h0:w.cell? ⟨b,0,none⟩=some (.pointer none)) (hsh:w.shape? b=some (109,2)) (hfz:w.frozen? ⟨b,0,none⟩=false) :
  Calls Tryz.prog 125 #[.pointer (some ⟨b,0,none⟩)] w fun e w'=>e=.returned (.tuple #[])∧w'=w.setCell ⟨b,0,none⟩ (.pointer (some ⟨b,0,none⟩)):=by
 obtain ⟨j,hj,hjs⟩:=Option.map_eq_some_iff.1 bldSize
 go_enter Tryz.func125,Tryz.ntmps125
 go_wp2
 rw [Lib.run_to_unsafe w ⟨b,0,none⟩ Tryz.underlying107 Tryz.underlying266 hj (by rw [hjs];decide) hsh (Nat.zero_lt_succ 1)]
 simp only [Result.andThen]
 rw [Oper.upon_value]
 go_wp2
 rw [run_callFunc_extern Tryz.func184 zqk zqk zqk (e:=Extern.AbiNoEscape.same) zqk]
 rw [Lib.run_noEscape]
 simp only [Result.andThen]
 rw [Oper.upon_value]
 go_wp2
 rw [Lib.run_from_unsafe w ⟨b,0,none⟩ Tryz.underlying266 Tryz.underlying107 hj hsh bldLies]
 simp only [Result.andThen]
 rw [Oper.upon_value]
 go_wp2
 go_end0
 exact ⟨rfl,rfl⟩
theorem bld_copy (w:World) (b:Nat) (p v:Value) (hp:p=.pointer none∨p=.pointer (some ⟨b,0,none⟩)) (hbk:w.heap[b]?=some (.cells #[p,v] 109 (0,0))) :
  Calls Tryz.prog 125 #[.pointer (some ⟨b,0,none⟩)] w fun e w'=>e=.returned (.tuple #[])∧w'.heap[b]?=some (.cells #[.pointer (some ⟨b,0,none⟩),v] 109 (0,0))∧Kept (fun x=>x=b) w w'∧w'.heap.size=w.heap.size:=by
 have c0:w.cell? ⟨b,0,none⟩=some p:=by rw [Lib.cell_of_heap hbk];rfl
 rcases hp with rfl|rfl
 ·refine (bld_copy_fresh b w c0 (by simp [World.shape?,hbk]) (Lib.frozen_of_heap hbk 0)).mono ?_
  rintro e w' ⟨rfl,rfl⟩
  refine ⟨rfl,heap_setCell_same w b 0 _ _ _ hbk,⟨rfl,rfl,rfl,by simp [World.setCell],fun k hk hne=>heap_setCell_other w _ k _ hne⟩,by simp [World.setCell]⟩
 ·refine (bld_copy_used b w c0).mono ?_
  rintro e w' ⟨rfl,rfl⟩
  exact ⟨rfl,hbk,Kept.refl _ _,rfl⟩
theorem bldW_ok:BldW Tryz.prog 58 109 5:=by
 intro w b φ l s hφ h hl
 obtain ⟨p,v,hp,hbk,hown,hfp⟩:=h
 obtain ⟨i0,hi,hz0,hz1,hz2⟩:=info_parts (P:=Tryz.prog) byteInfo
 have hblt:b < w.heap.size:=(Array.getElem?_eq_some_iff.1 hbk).1
 go_enter Tryz.func58,Tryz.ntmps58
 go_wp2_with (go_at_call 125;refine (bld_copy w b p v hp hbk).mono ?_)
 rintro e w1 ⟨rfl,hb1,hk1,hs1⟩
 have hown1:w1.ownsRowF 0 5 1 v l.length (Lib.byteCells l):=ownsRowF_keep hown fun g hg=>hk1.block g (hown.lt g hg).2 (fun e=>(hfp g hg).2 e)
 have c0:w1.cell? ⟨b,0,none⟩=some (.pointer (some ⟨b,0,none⟩)):=by rw [Lib.cell_of_heap hb1];rfl
 have c1:w1.cell? ⟨b,1,none⟩=some v:=by rw [Lib.cell_of_heap hb1];rfl
 obtain ⟨v',w2,hrun,hown',hgrow,hnew⟩:=append_strF (P:=Tryz.prog) w1 57 9 57 5 i0 Tryz.underlying57 Tryz.underlying9 hi hz0 hz1 hz2 v l.length _ hown1 (bs s) (by rw [bs_size];omega)
 obtain ⟨ao,n',cap,rfl⟩:∃ ao n' cap,v'=.slice ao n' cap:=by
  rcases hown'.2 with ⟨hv,_⟩|⟨g,cap,cur,fz,hv,_⟩
  ·exact ⟨_,_,_,hv⟩
  ·exact ⟨_,_,_,hv⟩
 have hb2:w2.heap[b]?=some (.cells #[.pointer (some ⟨b,0,none⟩),v] 109 (0,0)):=by
  rw [hgrow.block b (by omega) (fun e=>(hfp b e.symm).2 rfl)]
  exact hb1
 have d0:w2.cell? ⟨b,0,none⟩=some (.pointer (some ⟨b,0,none⟩)):=by rw [Lib.cell_of_heap hb2];rfl
 have d1:w2.cell? ⟨b,1,none⟩=some v:=by rw [Lib.cell_of_heap hb2];rfl
 have f1:w2.frozen? ⟨b,1,none⟩=false:=Lib.frozen_of_heap hb2 1
 have hsz:w.heap.size≤w2.heap.size:=by have:=hgrow.size;omega
 have hvb:∀ g,(Value.slice ao n' cap).ownBlock=some g→φ g∨(w.heap.size≤g∧g < w2.heap.size):=fun g hg=>by
  rcases hnew g hg with h|h
  ·exact .inl (hfp g h).1
  ·exact .inr ⟨by omega,(hown'.lt g hg).2⟩
 have hvb2:∀ g,(Value.slice ao n' cap).ownBlock=some g→g≠b:=fun g hg e=>by
  rcases hnew g hg with h|h
  ·exact (hfp g h).2 e
  ·omega
 go_wp2_with (at_builtin;refine wpList_plain rfl fun K hK=>run_appendStr rfl rfl rfl hrun (hK _ _ ?_))
 go_ret2
 refine ⟨by rw [bs_size];rfl,⟨?_,?_,?_,by simp [World.setCell];exact hsz,fun k hk hn=>?_⟩,.pointer (some ⟨b,0,none⟩),.slice ao n' cap,.inr rfl,?_,?_,fun g hg=>⟨?_,hvb2 g hg⟩⟩
 ·exact hgrow.os.trans hk1.os
 ·exact hgrow.tape.trans hk1.tape
 ·exact hgrow.output.trans hk1.output
 ·have hkb:k≠b:=fun e=>hn (e ▸ hφ)
  simp only [World.setCell,Array.getElem?_modify]
  rw [if_neg (fun h=>hkb h.symm),hgrow.block k (by omega) (fun e=>hn (hfp k e.symm).1)]
  exact hk1.block k hk hkb
 ·exact heap_setCell_same w2 b 1 _ _ _ hb2
 ·have:=ownsRowF_keep (w':=w2.setCell ⟨b,1,none⟩ (.slice ao n' cap)) hown' fun g hg=>by
   simp only [World.setCell,Array.getElem?_modify]
   rw [if_neg (fun h=>hvb2 g hg h.symm)]
  rw [bs_size] at this
  simpa [strCells_bs,Lib.byteCells,List.length_append] using this
 ·rcases hvb g hg with h|h
  ·exact .inl h
  ·exact .inr ⟨h.1,by simpa [World.setCell] using h.2⟩
theorem bldS_ok:BldS Tryz.prog 59 109 5:=by
 intro w b φ l hφ h h0
 obtain ⟨p,v,hp,hbk,hown,hfp⟩:=h
 have hl0:l.length≠0:=by simpa using h0
 obtain ⟨g,cap,cur,fz,rfl,hbg,hg,hfz,hnc,hcm,hcs,htake⟩:∃ g cap cur fz,v=.slice (some ⟨g,0,none⟩) l.length cap∧0≤g∧w.heap[g]?=some (.cells cur 5 fz)∧fz.2≤l.length*1∧l.length≤cap∧cap≤maxLen∧cur.size=cap*1∧cur.toList.take (l.length*1)=Lib.byteCells l:=by
  rcases hown.2 with⟨_,hz⟩|⟨g,cap,cur,fz,hv,r⟩
  ·exact absurd hz hl0
  ·exact ⟨g,cap,cur,fz,hv,r⟩
 have hgb:g≠b:=(hfp g rfl).2
 have c1:w.drew.cell? ⟨b,1,none⟩=some (.slice (some ⟨g,0,none⟩) l.length cap):=by
  have:w.drew.heap[b]?=some (.cells #[p,.slice (some ⟨g,0,none⟩) l.length cap] 109 (0,0)):=hbk
  rw [Lib.cell_of_heap this];rfl
 have hUS:(Builtin.unsafeString_ #[202,3] 9 #[.pointer (some ⟨g,0,none⟩),.int .i64 l.length]).run Tryz.prog w.drew=.ok (.string ⟨l.toArray⟩) (w.drew.freeze ⟨g,0,none⟩ l.length):=by
  have hg':w.drew.heap[g]?=some (.cells cur 5 fz):=hg
  refine Lib.run_unsafeString_row w.drew 202 3 9 5 Tryz.underlying202 byteCellsOf g cur.size (by simp [World.shape?,hg']) l h0 (by omega) (by unfold maxLen at hcm;omega) ?_
  intro j x hx
  exact hown.cells (g:=g) rfl j (.int .u8 x.toNat) (by simp [Lib.byteCells,hx])
 have hSD:(Builtin.unsafeSliceData_ #[57] 202 #[.slice (some ⟨g,0,none⟩) l.length cap]).run Tryz.prog w.drew=.ok (.pointer (some ⟨g,0,none⟩)) w.drew :=
  Lib.run_unsafeSliceData_row _ _ _ _ _ _ zqo
 have hother:∀ k,k≠g→(w.drew.freeze ⟨g,0,none⟩ l.length).heap[k]?=w.heap[k]?:=fun k hk=>by
  unfold World.freeze
  rw [if_neg hl0]
  simp only [Array.getElem?_modify]
  rw [if_neg (fun h=>hk h.symm)]
  rfl
 have hsize:(w.drew.freeze ⟨g,0,none⟩ l.length).heap.size=w.heap.size:=by
  unfold World.freeze
  rw [if_neg hl0]
  simp only [Array.size_modify]
  rfl
 have hkept:Kept φ w (w.drew.freeze ⟨g,0,none⟩ l.length):=by
  refine ⟨?_,?_,?_,Nat.le_of_eq hsize.symm,fun k hk hn=>hother k fun e=>hn (e ▸ (hfp g rfl).1)⟩
  all_goals (unfold World.freeze;rw [if_neg hl0];rfl)
 have hbld:BldIs (w.drew.freeze ⟨g,0,none⟩ l.length) 109 5 b (fun x=>φ x∨(w.heap.size≤x∧x<(w.drew.freeze ⟨g,0,none⟩ l.length).heap.size)) l:=by
  have hA:Lib.BuilderAtF 109 5 0 b p (Lib.byteCells l) w.drew:=⟨Nat.zero_le _,_,hbk,by rw [Lib.byteCells_length];exact hown,fun e=>(hfp b e).2 rfl⟩
  obtain ⟨_,v2,hb2,hown2,_⟩:=hA.froze (g:=g) (cap:=cap) (by rw [Lib.byteCells_length];exact c1)
  rw [Lib.byteCells_length] at hb2 hown2
  rw [hother b (fun e=>hgb e.symm),hbk] at hb2
  have ev:v2=.slice (some ⟨g,0,none⟩) l.length cap:=by
   simp only [Option.some.injEq,Obj.cells.injEq] at hb2
   have:=hb2.1
   simp at this
   exact this.symm
  subst ev
  exact ⟨p,_,hp,(hother b (fun e=>hgb e.symm)).trans hbk,hown2,fun x hx=>⟨.inl (hfp x hx).1,(hfp x hx).2⟩⟩
 have mixed:Tryz.prog.follows .mixedOrders=true:=by kernel_rfl
 go_enter Tryz.func59,Tryz.ntmps59
 go_wp2
 go_region_o
 all_goals (go_wp2;go_ret;exact ⟨rfl,hkept,hbld⟩)
end
section
open Go.RowKit
def onB:AV→Bool
 | .sc v=>v.oneCell'
 | .ls _ _=>true
 | _=>false
def lendP (M:List (Nat×AO)):AV→AV
 | .pt k 0 0=>match look k M with
  | some (.box _ cells)=>bif cells.all onB then .pr cells else .pt k 0 0
  | _=>.pt k 0 0
 | av=>lendB M av
def lendC (M:List (Nat×AO)):AV→AV
 | .fn f l=>.fn f (l.map (lendP M))
 | av=>lendP M av
section
variable {B:World→View→Prop} {gl:Nat} {P:Program} {C:Cx} {ops:Array Oper} {rest:List Oper} {σ σ':St} {G G':Gh} {a:Act} {w w':World} {o:Oper} {d:Tmp} {Q:Exit→St→Prop}
theorem onB_of {av:AV} {u:Value} (h:onB av=true)(r:R G av u):u.oneCell'=true∧RP G.F av u∧av.own=false:=by
 cases av with
 | sc v =>
  obtain rfl:=r.sc_eq
  exact⟨h,.sc _,rfl⟩
 | ls n rows =>
  have h2:RP G.F (.ls n rows) u:=(pu2_bd (av:=.ls n rows) rfl 0).rp r
  obtain⟨A,cap,ad,u',rfl,_⟩:=h2.ls_of
  exact⟨rfl,h2,rfl⟩
 | _=>cases h
theorem lendP_rp (ok:Ok C σ G a w) {av:AV} {v:Value} (h:R G av v) (hp:(lendP σ.M av).pu2=true):RP (fun q=>w.cell? q) (lendP σ.M av) v:=by
 have hF:G.F.le fun q=>w.cell? q:=fun p u x=>ok.fw p u x
 cases av with
 | pt k i j =>
  cases i with
  | succ i=>exact lend_rp ok h hp
  | zero =>
   cases j with
   | succ j=>exact lend_rp ok h hp
   | zero =>
    cases hk:look k σ.M with
    | none =>
     have e:lendP σ.M (.pt k 0 0)=.pt k 0 0:=by simp only [lendP,hk]
     rw [e] at hp;cases hp
    | some ob =>
     cases ob with
     | box T cells =>
      have e:lendP σ.M (.pt k 0 0)=bif cells.all onB then .pr cells else .pt k 0 0:=by simp only [lendP,hk]
      rw [e] at hp ⊢
      cases hc:cells.all onB with
      | false=>rw [hc] at hp;cases hp
      | true =>
       obtain ⟨p,rfl,h1,h2,h3⟩:=h.pt_of
       have hcell:∀ (j:Nat) av,cells[j]?=some av→∃ u,w.cell? (p.add j)=some u∧u.oneCell'=true∧RP G.F av u:=fun j av hj=>by
        have hb:=List.all_eq_true.1 hc av (List.mem_of_getElem? hj)
        have ho:av.own=false:=by cases av<;>first|rfl|cases hb
        obtain ⟨u,hu,hr,_⟩:=ok.cell (i:=0) (j:=0) (l:=cells) hk rfl hj h1 h2 h3 ho
        obtain ⟨q1,q2,_⟩:=onB_of hb hr
        exact ⟨u,hu,q1,q2⟩
       show RP _ (.pr cells) _
       refine .pr cells p (fun j=>(w.cell? (p.add j)).getD undef) (fun j av hj=>?_) (fun j av hj=>?_)
       ·obtain ⟨u,hu,q1,q2⟩:=hcell j av hj
        rw [hu];exact ⟨rfl,q1⟩
       ·obtain ⟨u,hu,q1,q2⟩:=hcell j av hj
        rw [hu];exact q2.mono hF
     | _ =>
      have e:lendP σ.M (.pt k 0 0)=.pt k 0 0:=by simp only [lendP,hk]
      rw [e] at hp;cases hp
 | _=>exact lend_rp ok h hp
theorem lendC_rp (ok:Ok C σ G a w) {av:AV} {v:Value} (h:R G av v) (hp:(lendC σ.M av).pu2=true):RP (fun q=>w.cell? q) (lendC σ.M av) v:=by
 cases av with
 | fn f l =>
  obtain ⟨cs,rfl,h1,h2⟩:=h.fn_of
  show RP _ (.fn f (l.map (lendP σ.M))) _
  refine .fn f _ cs (by rw [h1,List.length_map]) fun i av u a b=>?_
  rw [List.getElem?_map] at a
  cases hi:l[i]? with
  | none=>simp [hi] at a
  | some av0 =>
   simp only [hi,Option.map_some,Option.some.injEq] at a
   subst a
   refine lendP_rp ok (h2 i av0 u hi b) ?_
   have hall:(l.map (lendP σ.M)).all AV.pu00=true:=hp
   have h3:(lendP σ.M av0).pu00=true:=List.all_eq_true.1 hall _ (List.mem_of_getElem? (by rw [List.getElem?_map,hi];rfl))
   generalize lendP σ.M av0=q at h3 ⊢
   cases q<;>first|rfl|cases h3
 | _=>exact lendP_rp ok h hp
theorem WV.lendV (hB:Holds B gl C) {f:FuncId} {y:Operand} {fv:AV} {xs:Array Operand} {ts:Array TypeId} {args0 caps args args':List AV} {res:Value} (ho:o.op=.call { callee:=.value y,args:=xs,argTypes:=ts }) (hc:∀ vs w,(callFunc f vs).run P w=.ok (.enter f vs) w)
  (hy:σ.ev y=some fv) (hf:fnOf fv=some (f,caps)) (hx:σ.evs xs.toList=some args0) (hcat:args0++caps=args) (hl:args.map (lendC σ.M)=args') (hp:args'.all AV.pu2=true) (hst:∀ w F F',View.le F F'→B w F→B w F') (h:Ctg B P f args' (.sc res)):WV P C o σ (.sc res):=by
 intro G a w ok N Q' hN
 obtain ⟨cs,ey,h1,h2⟩:=fnOf_of hf (ok.evr hy).2
 obtain ⟨e1,e2⟩:=ok.evl2 hx h1 h2 hcat
 subst hl
 have hF:G.F.le fun q=>w.cell? q:=fun p u x=>ok.fw p u x
 refine call_wp ho hc ey (h w (fun q=>w.cell? q) _ (hst w _ _ hF (hB.1 w G.F ok.bel ok.f0)) (fun _ _ x=>x) ⟨by rw [e1,List.length_map],fun i av u p q=>?_⟩) fun e w1 ⟨v,F',he,hb,h1,h2,h3,h4⟩=>?_
 ·rw [List.getElem?_map] at p
  cases hi:args[i]? with
  | none=>simp [hi] at p
  | some av0 =>
   simp only [hi,Option.map_some,Option.some.injEq] at p
   subst p
   exact lendC_rp ok (e2 i av0 u hi q) (List.all_eq_true.1 hp _ (List.mem_of_getElem? (by rw [List.getElem?_map,hi];rfl)))
 ·have hv:=h4.sc_eq
  subst hv
  exact ⟨_,he,hN _ { G with F:=G.F } w1 (fun σ'' a'' ok''=>ok''.called hb (fun _ _ x=>x) (fun p u x=>by rw [hb.cell (cell_block (ok.fw p u x))];exact ok.fw p u x) (fun _ _ x=>.inl x)) (.pu _ _ (.sc _)) (RP.bd (F:=G.F) (.sc _) _)⟩
end
end
section
open Go.RowKit
section
variable {P:Program} {C:Cx} {σ:St} {o:Oper} {d:Tmp} {ops:Array Oper} {rest:List Oper} {Q:Exit→St→Prop} {mem:List Bool} {Mc:List (Nat×AO)} {nk0 k:Nat}
theorem DMK.ldr {rows:List (List AV)} {i j:Nat} {r:List AV} {av:AV} (hd:memB C.N ops mem Mc k nk0 σ.t o=some (d,true)) (h:ldrV P ⟨onlyT σ.t (o.looksAt ops),Mc,nk0⟩ o.op=some (rows,i,j)) (hi:rows[i]?=some r) (hj:r[j]?=some av) (ho2:av.own=false)
  (K:DMK P C ops mem Mc nk0 (k+1) rest (σ.put d av) Q):DMK P C ops mem Mc nk0 k (o::rest) σ Q:=DMK.v0 hd (ldrV_of h hi hj ho2) K
theorem DMK.vl {av:AV} (hd:memB C.N ops mem Mc k nk0 σ.t o=some (d,true)) (h:WV P C o ⟨onlyT σ.t (o.looksAt ops),Mc,nk0⟩ av)
  (K:DMK P C ops mem Mc nk0 (k+1) rest (σ.put d av) Q):DMK P C ops mem Mc nk0 k (o::rest) σ Q:=DMK.v0 hd h K
theorem DMK.ixs {q:Nat} {rows:List (List AV)} {z:Int} (hd:memB C.N ops mem Mc k nk0 σ.t o=some (d,true)) (h:ixsV P ⟨onlyT σ.t (o.looksAt ops),Mc,nk0⟩ o.op=some (q,rows,z)) (h0:0≤z∧z<rows.length)
  (K:DMK P C ops mem Mc nk0 (k+1) rest (σ.put d (.pt q z.toNat 0)) Q):DMK P C ops mem Mc nk0 k (o::rest) σ Q:=DMK.v0 hd (ixsV_of h h0.1 h0.2) K
end
end
section
open Go.RowKit
def tame:Op→Bool
 | .move _=>true
 | .assign _=>true
 | .alloc _=>true
 | .box _ _=>true
 | .load _ _=>true
 | .store _ _ _=>true
 | .fieldAddr _ _ _=>true
 | .field _ _ _=>true
 | .indexAddr _ _ _=>true
 | .index _ _ _=>true
 | _=>false
structure Laid (ops A:Array Oper)(π ρ:Nat→Nat)(i j:Nat):Prop where
 sz:A.size=ops.size
 lt:∀ p,p<ops.size→π p<ops.size
 inv:∀ p,p<ops.size→ρ (π p)=p
 ltr:∀ q,q<ops.size→ρ q<ops.size
 inr:∀ q,q<ops.size→π (ρ q)=q
 hi:i<ops.size
 hj:j<ops.size
 op:∀ (p:Nat)(o:Oper),ops[p]?=some o→∃ X:Array Edge,A[π p]?=some { o with after:=X }∧(∀ e∈X,Region.binds .any e=true→(∃ e'∈o.after,Region.binds .any e'=true∧e.on=π e'.on)∨(p=j∧e.on=π i)) ∧
  (∀ e'∈o.after,Region.binds .any e'=true→∃ e∈X,Region.binds .any e=true∧e.on=π e'.on)
 tm:∀ (p:Nat)(o:Oper),ops[p]?=some o→tame o.op=true∧o.guard=none∧∀ e∈o.after,e.on<ops.size
structure Agr (n:Nat)(π:Nat→Nat)(L LA:Array Bool):Prop where
 s1:L.size=n
 s2:LA.size=n
 at_:∀ p,p<n→LA.getD (π p) false=L.getD p false
end
section
open Go.RowKit
theorem pcCopy_FS (p:Pce) (hO:PcOk p):Ctr Tryz.prog 17 [ePce p] (ePce p):=by
 refine zqe Tryz.func17 Tryz.ntmps17 fun w0 F0=>?_
 have hn3:=hO.n3
 repeat refine W.go rfl ?_
 refine (?_:WL _ _ _ _ _ _)
 refine WL.vl rfl (WV.call rfl (callF Tryz.func53 rfl rfl) rfl rfl (insCopy_FS p.cs p.st hO.n1 hO.n2)) ?_
 repeat (first|refine W.go rfl ?_|refine WL.ev rfl ?_)
 refine (?_:W _ _ _ _ _)
 refine W.tr (Tr.nilBox (k:=2) (j:=2) 36 6 rfl rfl rfl rfl) ?_
 refine W.loop (fun k:Nat=>k≤p.evs.length) (fun k=>⟨[(1,.pt 0 0 0),(2,.pt 1 0 0),(3,.pt 2 0 0),(4,.sc (.int .i64 k))],[(0,.box 28 [.ls 3 (p.cs.map eCrs),.ls 1 (p.st.map eInt),.ls 6 (p.evs.map eEv)]),(1,.box 28 [.sc (.slice none 0 0),.sc (.slice none 0 0),.sc (.slice none 0 0)]),(2,.box 28 [.ls 3 (p.cs.map eCrs),.ls 1 (p.st.map eInt),.sl 3]),(3,.row 36 6 ((p.evs.take k).map eEv))],4⟩) (fun k=>p.evs.length - k) 0 zqo (zqt id) fun k hk=>?_
 repeat (first|refine W.go rfl ?_|refine WL.ev rfl ?_|refine WL.len rfl rfl zql ?_)
 refine (?_:W _ _ _ _ _)
 (refine W.cond rfl (fun hif=>?_) (fun hif=>?_)<;>(try simp only [decide_eq_true_eq,decide_eq_false_iff_not,Int.not_lt,Int.not_le,Bool.not_eq_true',Bool.not_eq_false'] at hif))
 ·have hk2:k < p.evs.length:=by omega
  have h20:=hO.n4 k hk2
  repeat (first|refine W.go rfl ?_|refine WL.ev rfl ?_|refine WL.idx rfl rfl zqo zqm ?_|refine WL.app rfl rfl rfl zqs ?_)
  refine (?_:WL _ _ _ _ _ _)
  refine WL.tr (Tr.freeze 6 rfl) ?_
  repeat (first|refine W.go rfl ?_|refine WL.ev rfl ?_|refine WL.ar rfl rfl (by unfold I64;omega) ?_|refine WL.app rfl rfl rfl zqs ?_)
  refine ⟨k+1,by omega,by omega,zqu (fun q=>bif Nat.beq q 3 then 8 else q) (by repeat (first|exact trivial|refine ⟨⟨?_,?_,?_⟩,?_⟩|exact congrArg (fun r=>some (AO.row _ _ r)) (take_map_succ hk2)|rfl)) rfl⟩
 ·have he:k=p.evs.length:=by omega
  subst he
  repeat refine W.go rfl ?_
  refine (?_:W _ _ _ _ _)
  refine W.tr (Tr.freeze 3 rfl) ?_
  refine W.ret (fin_cell rfl rfl rfl rfl rfl rfl ?_ rfl)
  show AV.ag [_,_,.ls 6 ((p.evs.take p.evs.length).map eEv)]=ePce p
  rw [List.take_length]
  rfl
end
end Go.Proofs.YtgelfflighgajaaGreatDoor
