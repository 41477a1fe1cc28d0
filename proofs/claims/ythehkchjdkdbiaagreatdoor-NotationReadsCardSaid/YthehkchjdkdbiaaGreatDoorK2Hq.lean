/- Closed facts of the program that each card asks, each in a declaration of its own. -/
import Derived.Test.YthehkchjdkdbiaaGreatDoorNrKHq
import Derived.Test.YthehkchjdkdbiaaGreatDoorCards
import Derived.SevenTiedAt
set_option maxHeartbeats 1600000
set_option maxRecDepth 100000
set_option linter.unusedVariables false
set_option linter.unusedSimpArgs false
namespace Go.Proofs.YthehkchjdkdbiaaGreatDoor
section
open Go.RowKit
attribute [local go_sem]mk_bs bs_size bs_toList bs_append bs_extract
attribute [local simp]run_cut run_cut_to run_cut_from run_add_bs
theorem sgCells_get (l:List (Nat×Nat)):∀ (k:Nat)(p:Nat×Nat),l[k]?=some p→(sgCells l)[k*3]?=some (.int .i64 p.1)∧(sgCells l)[k*3+1]?=some (.bool (sgD p.2))∧(sgCells l)[k*3+2]?=some (.bool (sgT p.2)):=by
 induction l with
 | nil=>intro k p h;simp at h
 | cons a r ih =>
  intro k p h
  cases k with
  | zero =>
   simp at h
   subst h
   exact⟨rfl,rfl,rfl⟩
  | succ k =>
   have h':r[k]?=some p:=by simpa using h
   obtain⟨a1,a2,a3⟩:=ih k p h'
   have e:∀ j,(sgCells (a::r))[(k+1)*3+j]?=(sgCells r)[k*3+j]?:=by
    intro j
    have:sgCells (a::r)=[.int .i64 a.1,.bool (sgD a.2),.bool (sgT a.2)]++sgCells r:=rfl
    rw [this,List.getElem?_append_right (by simp;omega)]
    congr 1
    simp;omega
   exact⟨(e 0).trans a1,(e 1).trans a2,(e 2).trans a3⟩
theorem refSigns_ok (k:Nat)(p:Nat×Nat)(h:refSigns[k]?=some p):p.1≤7∧p.2≤2∧(p.1=0→p.2=0):=by
 have hm:=List.mem_of_getElem? h
 have:(refSigns.all fun p=>decide (p.1≤7∧p.2≤2∧(p.1=0→p.2=0)))=true:=by decide +kernel
 rw [List.all_eq_true]at this
 exact of_decide_eq_true (this p hm)
theorem rparseTime_any (s:Int) (l:List UInt8) (w:World) (hs:1≤s∧s≤4):Calls Tryz.prog 168 #[.int .u8 s,.string (bs l)] w (Ret (ptV (refSigns.find? (refM s l))) w):=by
 have hd:decide (1≤s∧s≤4)=true:=decide_eq_true hs
 obtain ⟨i0,hi,hz0,hz1,hz2⟩:=info_parts info_sign
 clear hs
 go_enter Tryz.func168,Tryz.ntmps168
 go_wp2_with (go_at_call 67;refine (known_any _ _).mono ?_;rintro e w' ⟨rfl,hw⟩;rw [hw];clear hw)
 refine (all_any _).mono ?_
 rintro e w1 ⟨V,rfl,hown,hb1⟩
 have kR1:=(Blk.new w 87 #[.int .i64 0,.bool false,.bool false]).after hb1
 have HO:=Lib.hid hown
 have hsz1:=hb1.size
 have hw1:w.heap.size < w1.heap.size:=kR1.lt
 clear hown
 go_wp2_with (at_builtin;refine wpList_append_own_at _ rfl (.tmp 12) (.tmp 14) 248 rfl (w.heap.size+1) 87 i0 (.agg #[.int .i64 0,.bool false,.bool false]) 3 16 Tryz.underlying248 hi hz0 hz1 hz2 rfl (by decide) V 21 (sgCells (refSigns.take 21)) rfl (by have:=HO.out.alloc (.cells #[.int .i64 0,.bool false,.bool false] 87);simpa using this) ⟨w1.heap.size,0,none⟩ 1 1 [.int .i64 0,.bool false,.bool false] rfl rfl ?d1 ?d2 ?d3 ?d4 ?d5 ?_)
 case d1=>exact World.news_of_block (cs:=#[.int .i64 0,.bool false,.bool false]) (t:=87) (fr:=(0,0)) (heap_alloc_new w1 _)
 case d2=>simp [Value.oneCell']
 case d3=>unfold maxLen;omega
 case d4=>omega
 case d5=>simp at hsz1 ⊢;omega
 intro V2 w2 hown2 hgrow _ hat
 have e22:sgCells (refSigns.take 21)++[.int .i64 0,.bool false,.bool false]=sgCells refSigns:=rfl
 rw [e22] at hown2
 have hOB:∀ k,V.ownBlock=some k→w.heap.size+1≤k:=by have:=own_ge HO.out;simpa using this
 have hbel2:Below w.heap.size w w2:=by
  have h1:Below w.heap.size w (w1.alloc (.cells #[.int .i64 0,.bool false,.bool false] 87)):=bel_alloc (bel_step (bel_alloc (Below.refl _ _) _) hb1) _
  exact h1.grown hgrow (by have:=h1.size;exact this) (fun k hk=>by have:=hOB k hk;omega)
 have kR2:Blk w2 w.heap.size 87 #[.int .i64 0,.bool false,.bool false]:=by
  have h2:Below (w.heap.size+1) (w1.alloc (.cells #[.int .i64 0,.bool false,.bool false] 87)) w2:=(Below.refl _ _).grown hgrow (by simp;omega) hOB
  exact (kR1.alloc _).below h2 zqo
 obtain ⟨g,cap,rfl,hgb,hglt⟩:=hown2.form zqo
 have hcells:=hown2.cells (g:=g) rfl
 have HC:=Lib.hid hcells
 have HK:=Lib.hid kR2
 clear hown2 hgrow hat hOB kR1 kR2 hcells e22 hi hz0 hz1 hz2 hb1 HO
 go_wp2_with fail
 go_loopw [7] (fun u wr=>∃ k:Nat,k≤22∧u=.int .i64 k∧refSigns.find? (refM s l)=(refSigns.drop k).find? (refM s l)∧Below w.heap.size w wr∧Blk wr w.heap.size 87 #[.int .i64 0,.bool false,.bool false]∧(∀ (j:Nat) (u:Value),(sgCells refSigns)[j]?=some u→wr.cell? ((⟨g,0,none⟩:Addr).add j)=some u)∧g < wr.heap.size)
  (fun u _=>22 - (intOf u).toNat)
 case atStart=>exact ⟨0,by omega,rfl,rfl,hbel2,HK.out,HC.out,hglt⟩
 case round =>
  obtain ⟨k,hk22,rfl,hfd,hbel,hblk,hcs,hgl⟩:=hrel
  have HF:=Lib.hid hfd
  have HB:=Lib.hid hblk
  have HC2:=Lib.hid hcs
  have hlt:w.heap.size < wr.heap.size:=hblk.lt
  have q0:wr.cell? ⟨w.heap.size,0,none⟩=some (.int .i64 0):=hblk.cell 0
  have q1:wr.cell? ⟨w.heap.size,1,none⟩=some (.bool false):=hblk.cell 1
  have q2:wr.cell? ⟨w.heap.size,2,none⟩=some (.bool false):=hblk.cell 2
  have q3:=hblk.frozen 0
  have q4:=hblk.frozen 1
  have q5:=hblk.frozen 2
  clear hfd hblk hcs
  by_cases hlt22:k < 22
  ·obtain ⟨p,hp⟩:∃ p,refSigns[k]?=some p:=⟨_,List.getElem?_eq_getElem (show k < refSigns.length from hlt22)⟩
   obtain ⟨v,i⟩:=p
   obtain ⟨hv7,hi2,hvz⟩:=refSigns_ok k (v,i) hp
   obtain ⟨g0,g1,g2⟩:=sgCells_get refSigns k (v,i) hp
   have c0:wr.cell? ⟨g,k*3,none⟩=some (.int .i64 v):=by have:=HC2.out _ _ g0;rw [add_zero_addr] at this;exact this
   have c1:wr.cell? ⟨g,k*3+1,none⟩=some (.bool (sgD i)):=by have:=HC2.out _ _ g1;rw [add_zero_addr] at this;exact this
   have c2:wr.cell? ⟨g,k*3+2,none⟩=some (.bool (sgT i)):=by have:=HC2.out _ _ g2;rw [add_zero_addr] at this;exact this
   clear g0 g1 g2
   have hdrop:refSigns.drop k=(v,i)::refSigns.drop (k+1):=by
    rw [List.drop_eq_getElem_cons (show k < refSigns.length from hlt22)]
    congr 1
    rw [List.getElem?_eq_getElem (show k < refSigns.length from hlt22)] at hp
    simpa using hp
   have HD:=Lib.hid hdrop
   clear hdrop hp
   have HW:=Lib.hid (fun w=>rword_any s v i w (by omega) hi2 (fun h=>hvz (by omega)))
   have hvi0:(0:Int)≤(k:Int):=by omega
   have hvi1:(k:Int) < 22:=by omega
   by_cases hl:l=[]
   ·have hm:refM s l (v,i)=false:=by unfold refM;rw [hl];rfl
    have HN:=Lib.hid (show refSigns.find? (refM s l)=(refSigns.drop (k+1)).find? (refM s l) from by rw [HF.out,HD.out,List.find?_cons,hm])
    have hl1:(l == [])=true:=by simpa using hl
    have hl2:l.isEmpty=true:=by simpa using hl
    clear hm hl
    go_wp2_with fail
    go_roundw
    case rel=>exact ⟨k+1,by omega,by go_num,HN.out,hbel,HB.out,HC2.out,hgl⟩
    case measure=>simp [intOf];omega
   ·have hl1:(l == [])=false:=by simpa using hl
    have hl2:l.isEmpty=false:=by simpa using hl
    cases hm:(rW s v i == l) with
    | true =>
     have hM:refM s l (v,i)=true:=by unfold refM;rw [hl2,hm];rfl
     have HR:=Lib.hid (show refSigns.find? (refM s l)=some (v,i) from by rw [HF.out,HD.out,List.find?_cons,hM])
     clear hM hl
     go_wp2_with (go_at_call 200;refine (HW.out _).mono ?_;rintro e w2 ⟨rfl,hb⟩;have k1:=HB.out.after hb;have r0:w2.cell? ⟨w.heap.size,0,none⟩=some (.int .i64 0):=k1.cell 0;have r1:w2.cell? ⟨w.heap.size,1,none⟩=some (.bool false):=k1.cell 1;have r2:w2.cell? ⟨w.heap.size,2,none⟩=some (.bool false):=k1.cell 2;have f0:=k1.frozen 0;have f1:=k1.frozen 1;have f2:=k1.frozen 2;have y0:=(hb.cell (p:=⟨g,k*3,none⟩) hgl).trans c0;have y1:=(hb.cell (p:=⟨g,k*3+1,none⟩) hgl).trans c1;have y2:=(hb.cell (p:=⟨g,k*3+2,none⟩) hgl).trans c2;have K1:=Lib.hid k1;have hgl2:g < w2.heap.size:=Nat.lt_of_lt_of_le hgl hb.size;clear k1)
     exact bodyPost_ret (v:=.tuple #[.agg #[.int .i64 v,.bool (sgD i),.bool (sgT i)],.int .i64 0]) (by simp [results,Tryz.results168,go_sem,r0,r1,r2]) rfl (Ret.mk' (by rw [HR.out];rfl) zqb)
    | false =>
     have hM:refM s l (v,i)=false:=by unfold refM;rw [hm,Bool.and_false]
     have HN:=Lib.hid (show refSigns.find? (refM s l)=(refSigns.drop (k+1)).find? (refM s l) from by rw [HF.out,HD.out,List.find?_cons,hM])
     clear hM hl
     go_wp2_with (go_at_call 200;refine (HW.out _).mono ?_;rintro e w2 ⟨rfl,hb⟩;have k1:=HB.out.after hb;have r0:w2.cell? ⟨w.heap.size,0,none⟩=some (.int .i64 0):=k1.cell 0;have r1:w2.cell? ⟨w.heap.size,1,none⟩=some (.bool false):=k1.cell 1;have r2:w2.cell? ⟨w.heap.size,2,none⟩=some (.bool false):=k1.cell 2;have f0:=k1.frozen 0;have f1:=k1.frozen 1;have f2:=k1.frozen 2;have y0:=(hb.cell (p:=⟨g,k*3,none⟩) hgl).trans c0;have y1:=(hb.cell (p:=⟨g,k*3+1,none⟩) hgl).trans c1;have y2:=(hb.cell (p:=⟨g,k*3+2,none⟩) hgl).trans c2;have K1:=Lib.hid k1;have hgl2:g < w2.heap.size:=Nat.lt_of_lt_of_le hgl hb.size;clear k1)
     go_roundw
     case rel=>exact ⟨k+1,by omega,by go_num,HN.out,zqb,K1.out,fun j u h=>(hb.cell (p:=(⟨g,0,none⟩:Addr).add j) (by rw [add_zero_addr];exact hgl)).trans (HC2.out j u h),hgl2⟩
     case measure=>simp [intOf];omega
  ·have HR:=Lib.hid (show refSigns.find? (refM s l)=none from by rw [HF.out,show k=22 from by omega];rfl)
   go_wp2_with fail
   exact bodyPost_ret (v:=.tuple #[.agg #[.int .i64 0,.bool false,.bool false],.int .i64 4]) (by simp [results,Tryz.results168,go_sem,q0,q1,q2]) rfl (Ret.mk' (by rw [HR.out];rfl) zqb)
end
section
open Go.RowKit
theorem rptm_FS (s:Int)(hs:1≤s∧s≤4)(l:List UInt8):Ctr Tryz.prog 168 [.sc (.int .u8 s),.sc (.string (bs l))] (ptT (scanT (tmM s l) 0 8)):=by
 rw [parse_law]
 exact Ctr.of_sc (v:=ptV (refSigns.find? (refM s l))) rfl (fun F=>ptT_rp _ F) fun w=>rparseTime_any s l w hs
end
section
open Go
theorem looksR:true=Tryz.pinned.checked.prog.looks []:=by kernel_rfl
theorem mainR:Tryz.pinned.checked.prog.mainIs=some (Rows.notationReadsCard.stood.harness.1,Rows.notationReadsCard.stood.harness.2.toList):=by kernel_rfl
end
end Go.Proofs.YthehkchjdkdbiaaGreatDoor
