/- Cells at one spot are read in one way: the plain law. -/
import Derived.Test.YthehkchjdkdbiaaGreatDoorRInsHq
import Derived.Test.YthehkchjdkdbiaaGreatDoorMk1Hq
import Derived.Test.YthehkchjdkdbiaaGreatDoorGdHq
set_option maxHeartbeats 4000000
set_option maxRecDepth 100000
set_option linter.unusedVariables false
set_option linter.unusedSimpArgs false
namespace Go.Proofs.YthehkchjdkdbiaaGreatDoor
section
open Go.RowKit
theorem Ctr.of_ins {P:Program} {f:FuncId} {cs:List (Int×Int×Bool)} {st:List Int} {post:List AV} {ys:List Value} {res:AV} {v:Value} (hs2:scs post=some ys) (hv:∀ F,RP F res v)
  (h:∀ w A1 A2 c1 c2,InsAt w w.heap.size A1 A2 cs st→Calls P f (.agg #[.slice A1 cs.length c1,.slice A2 st.length c2]::ys).toArray w (Ret v w)):Ctr P f (.ag (eIns cs st)::post) res:=by
 intro w F vs hF hR
 match vs,hR.1,hR.2 with
 | u::us,hlen,hR2 =>
  have r:=hR2 0 _ u rfl rfl
  obtain ⟨xs,rfl,q1,q2⟩:∃ xs:Array Value,u=.agg xs∧xs.size=2∧∀ (i:Nat) av u,(eIns cs st)[i]?=some av→xs[i]?=some u→RP F av u:=by
   cases r with|ag l cs a b=>exact ⟨cs,rfl,a,b⟩
  have g:∀ i (h:i<2),xs[i]?=some (xs[i]'(by omega)):=fun i h=>Array.getElem?_eq_getElem (by omega)
  obtain ⟨A1,c1,A2,c2,e1,e2,hI⟩:=ins_of_rp hF (q2 0 _ _ rfl (g 0 zqo)) (q2 1 _ _ rfl (g 1 zqo))
  have ex:xs=#[.slice A1 cs.length c1,.slice A2 st.length c2]:=by
   apply Array.ext (by simp [q1])
   intro i hi hi2
   match i,(show i<2 by omega) with
   | 0,_=>exact e1
   | 1,_=>exact e2
  have ey:us=ys:=scs_of (G:=⟨F,fun _=>0,fun _=>0,fun _=>undef,fun _ _=>False⟩) hs2 (by simpa using hlen) fun i av u a b=>.pu _ _ (hR2 (i+1) av u (by simpa using a) (by simpa using b))
  subst ex ey
  exact (h w A1 A2 c1 c2 hI).mono fun e w' ⟨he,hb⟩=>⟨v,F,he,hb,fun _ _ h=>h,fun p u x=>by rw [hb.cell (cell_block (hF p u x))];exact hF p u x,fun _ _ h=>.inl h,hv F⟩
theorem pInsCheck_FS (cs:List (Int×Int×Bool))(st:List Int):Ctr Tryz.prog 103 [.ag (eIns cs st)] (.sc (.int .i64 (insE cs st))) :=
 Ctr.of_ins (post:=[]) rfl (fun _=>.sc _) fun w A1 A2 c1 c2 hI=>insCheck A1 A2 cs st cs.length st.length c1 c2 w hI rfl rfl
theorem rInsCheck_FS (cs:List (Int×Int×Bool))(st:List Int):Ctr Tryz.prog 56 [.ag (eIns cs st)] (.sc (.int .i64 (insE cs st))) :=
 Ctr.of_ins (post:=[]) rfl (fun _=>.sc _) fun w A1 A2 c1 c2 hI=>rInsCheck A1 A2 cs st cs.length st.length c1 c2 w hI rfl rfl
end
section
open Go.RowKit
attribute [local go_sem]mk_bs bs_size bs_toList bs_append bs_extract
attribute [local simp]run_cut run_cut_to run_cut_from run_add_bs
theorem pCell_marks_1 (c f r g h L:Int)(w:World)(hc:1≤c∧c≤14)(hf:0≤f∧f≤18)(hm:(r < 0∨3 < r)∨(g < 0∨4 < g)) :
  Calls Tryz.prog 36 #[.int .u8 1,.agg #[.int .i64 c,.int .i64 f,.int .i64 r,.int .i64 g,.int .i64 h],.int .i64 L] w (Ret (.tuple #[.string (bs []),.int .i64 23]) w):=by
 by_cases h1:r < 0
 ·clear hm
  go_enter Tryz.func36,Tryz.ntmps36
  go_wp2_with (go_at_call 84;refine (placed_1 _ _ _ hc hf).mono ?_;rintro e w'⟨rfl,rfl⟩)
  go_ret2
  exact Ret.mk' rfl zqb
 ·by_cases h2:3 < r
  ·clear hm
   go_enter Tryz.func36,Tryz.ntmps36
   go_wp2_with (go_at_call 84;refine (placed_1 _ _ _ hc hf).mono ?_;rintro e w'⟨rfl,rfl⟩)
   go_ret2
   exact Ret.mk' rfl zqb
  ·by_cases h3:g < 0
   ·clear hm
    go_enter Tryz.func36,Tryz.ntmps36
    go_wp2_with (go_at_call 84;refine (placed_1 _ _ _ hc hf).mono ?_;rintro e w'⟨rfl,rfl⟩)
    go_ret2
    exact Ret.mk' rfl zqb
   ·have h4:4 < g:=by omega
    clear hm
    go_enter Tryz.func36,Tryz.ntmps36
    go_wp2_with (go_at_call 84;refine (placed_1 _ _ _ hc hf).mono ?_;rintro e w'⟨rfl,rfl⟩)
    go_ret2
    exact Ret.mk' rfl zqb
theorem pCell_holds_1 (c f r g h L:Int)(w:World)(hc:1≤c∧c≤14)(hf:0≤f∧f≤18)(hr:0≤r∧r≤3)(hg:0≤g∧g≤4)(hm:((L < 0∨15 < L)∨(h < 0∨L < h))∨(0 < h∧f=0)) :
  Calls Tryz.prog 36 #[.int .u8 1,.agg #[.int .i64 c,.int .i64 f,.int .i64 r,.int .i64 g,.int .i64 h],.int .i64 L] w (Ret (.tuple #[.string (bs []),.int .i64 24]) w):=by
 have n1:¬ r < 0:=by omega
 have n2:¬ 3 < r:=by omega
 have n3:¬ g < 0:=by omega
 have n4:¬ 4 < g:=by omega
 by_cases h1:L < 0
 ·clear hm
  go_enter Tryz.func36,Tryz.ntmps36
  go_wp2_with (go_at_call 84;refine (placed_1 _ _ _ hc hf).mono ?_;rintro e w'⟨rfl,rfl⟩)
  go_ret2
  exact Ret.mk' rfl zqb
 ·by_cases h2:15 < L
  ·clear hm
   go_enter Tryz.func36,Tryz.ntmps36
   go_wp2_with (go_at_call 84;refine (placed_1 _ _ _ hc hf).mono ?_;rintro e w'⟨rfl,rfl⟩)
   go_ret2
   exact Ret.mk' rfl zqb
  ·by_cases h3:h < 0
   ·clear hm
    go_enter Tryz.func36,Tryz.ntmps36
    go_wp2_with (go_at_call 84;refine (placed_1 _ _ _ hc hf).mono ?_;rintro e w'⟨rfl,rfl⟩)
    go_ret2
    exact Ret.mk' rfl zqb
   ·by_cases h4:L < h
    ·clear hm
     go_enter Tryz.func36,Tryz.ntmps36
     go_wp2_with (go_at_call 84;refine (placed_1 _ _ _ hc hf).mono ?_;rintro e w'⟨rfl,rfl⟩)
     go_ret2
     exact Ret.mk' rfl zqb
    ·have h5:0 < h:=by omega
     have h6:f=0:=by omega
     subst h6
     clear hm
     go_enter Tryz.func36,Tryz.ntmps36
     go_wp2_with (go_at_call 84;refine (placed_1 _ _ _ hc hf).mono ?_;rintro e w'⟨rfl,rfl⟩)
     go_ret2
     exact Ret.mk' rfl zqb
theorem pCell_ok_1 (c f r g h L:Int)(w:World)(hc:1≤c∧c≤14)(hf:0≤f∧f≤18)(hr:0≤r∧r≤3)(hg:0≤g∧g≤4)(hm:¬ (((L < 0∨15 < L)∨(h < 0∨L < h))∨(0 < h∧f=0))) :
  Calls Tryz.prog 36 #[.int .u8 1,.agg #[.int .i64 c,.int .i64 f,.int .i64 r,.int .i64 g,.int .i64 h],.int .i64 L] w (Ret (if cellOk 1 c f r g h L=true then .tuple #[.string (bs (cellS 1 c f r g h L)),.int .i64 0] else .tuple #[.string (bs []),.int .i64 31]) w):=by
 have n1:¬ r < 0:=by omega
 have n2:¬ 3 < r:=by omega
 have n3:¬ g < 0:=by omega
 have n4:¬ 4 < g:=by omega
 have n5:¬ L < 0:=by omega
 have n6:¬ 15 < L:=by omega
 have n7:¬ h < 0:=by omega
 have n8:¬ L < h:=by omega
 have hh:0≤h∧h≤15:=by omega
 by_cases hz:0 < h
 ·have hf0:(f == 0)=false:=by simp;omega
  clear hm
  cases hok:cellOk 1 c f r g h L
  all_goals
   go_enter Tryz.func36,Tryz.ntmps36
   go_wp2_with (first|(go_at_call 84;refine (placed_1 _ _ _ hc hf).mono ?_;rintro e w'⟨rfl,rfl⟩)|(go_at_call 87;refine (pcell_1 _ _ _ _ _ _ _ hc hf hr hg hh).mono ?_;rintro e w1⟨rfl,hb1⟩))
   go_ret2
   exact Ret.mk' rfl zqb
 ·clear hm
  cases hok:cellOk 1 c f r g h L
  all_goals
   go_enter Tryz.func36,Tryz.ntmps36
   go_wp2_with (first|(go_at_call 84;refine (placed_1 _ _ _ hc hf).mono ?_;rintro e w'⟨rfl,rfl⟩)|(go_at_call 87;refine (pcell_1 _ _ _ _ _ _ _ hc hf hr hg hh).mono ?_;rintro e w1⟨rfl,hb1⟩))
   go_ret2
   exact Ret.mk' rfl zqb
theorem pCell_place_1 (c f r g h L:Int)(w:World)(hb:(c < 1∨14 < c)∨(f < 0∨18 < f)) :
  Calls Tryz.prog 36 #[.int .u8 1,.agg #[.int .i64 c,.int .i64 f,.int .i64 r,.int .i64 g,.int .i64 h],.int .i64 L] w (Ret (.tuple #[.string (bs []),.int .i64 (symErr 1 c f)]) w):=by
 rw [symErr_bad 1 c f (by decide) hb]
 obtain⟨E,hE1,hE2⟩:∃ E:Int,(if c < 1∨14 < c then 12 else 13)=E∧E≠0:=⟨_,rfl,by by_cases hc:c < 1∨14 < c<;>simp [hc]⟩
 have hb2:(E == 0)=false:=by simp;exact hE2
 have hb3:(E != 0)=true:=by simp;exact hE2
 have hpl:=placed_bad_1 c f
 rw [hE1] at hpl ⊢
 have H:=Lib.hid hpl
 have HB:=Lib.hid hb
 clear hpl hE1 hb
 go_enter Tryz.func36,Tryz.ntmps36
 go_wp2_with (go_at_call 84;refine (H.out _ HB.out).mono ?_;rintro e w'⟨rfl,rfl⟩)
 go_ret2
 exact Ret.mk' rfl zqb
theorem pCell_1 (c f r g h L:Int)(w:World) :
  Calls Tryz.prog 36 #[.int .u8 1,.agg #[.int .i64 c,.int .i64 f,.int .i64 r,.int .i64 g,.int .i64 h],.int .i64 L] w (Ret (.tuple #[.string (bs (cellTxt 1 c f r g h L)),.int .i64 (cellErr 1 c f r g h L)]) w):=by
 by_cases hb:(c<1∨14<c)∨(f<0∨18<f)
 ·have e:=cellErr_place 1 c f r g h L (by decide) hb
  rw [e.1,e.2];exact pCell_place_1 c f r g h L w hb
 ·have hc:1≤c∧c≤14:=by omega
  have hf:0≤f∧f≤18:=by omega
  by_cases h1:(r<0∨3<r)∨(g<0∨4<g)
  ·have e:=cellErr_marks 1 c f r g h L (by decide) hc hf h1
   rw [e.1,e.2];exact pCell_marks_1 c f r g h L w hc hf h1
  ·have hr:0≤r∧r≤3:=by omega
   have hg:0≤g∧g≤4:=by omega
   by_cases h2:((L<0∨15<L)∨(h<0∨L<h))∨(0<h∧f=0)
   ·have e:=cellErr_holds 1 c f r g h L (by decide) hc hf h1 h2
    rw [e.1,e.2];exact pCell_holds_1 c f r g h L w hc hf hr hg h2
   ·have e:=cellErr_ok 1 c f r g h L (by decide) hc hf h1 h2
    rw [e];exact pCell_ok_1 c f r g h L w hc hf hr hg h2
end
section
open Go.RowKit
attribute [local go_sem]mk_bs bs_size bs_toList bs_append bs_extract
theorem works_e1:symTxt 4 6 4=[68]:=by decide +kernel
theorem works_e2:symErr 4 6 4=0:=by decide +kernel
theorem works_e3:placeOf 4 0 [38]=(2,5,0):=by decide +kernel
theorem works_e4:cellTxt 1 1 2 1 0 3 4=[99,46,95,51]:=by decide +kernel
theorem works_e5:cellErr 1 1 2 1 0 3 4=0:=by decide +kernel
theorem works_place (w:World):Calls Tryz.prog 35 #[.int .u8 4,.int .i64 0,.string (bs [38])] w (Ret (.tuple #[.agg #[.int .i64 2,.int .i64 5],.int .i64 0]) w):=by
 have h:=place_any 4 0 [38] w
 unfold placeV at h
 rw [works_e3] at h
 exact h
theorem works_any (w:World):Calls Tryz.prog 10 #[] w (Ret (.bool true) w):=by
 have e1:=works_e1
 have e2:=works_e2
 have e4:=works_e4
 have e5:=works_e5
 go_enter Tryz.func10,Tryz.ntmps10
 go_wp2_with (first
  | (go_at_call 34;refine (psymbol_any _ _ _ _).mono ?_;rintro e w1 ⟨rfl,hb1⟩)
  | (go_at_call 35;refine (works_place _).mono ?_;rintro e w2 ⟨rfl,hb2⟩)
  | (go_at_call 36;refine (pCell_1 _ _ _ _ _ _ _).mono ?_;rintro e w3 ⟨rfl,hb3⟩;have k3:=(Blk.new _ _ _).after hb3;have x0:w3.cell? ⟨w2.heap.size,0,none⟩=some (.int .i64 2):=k3.cell 0;have x1:w3.cell? ⟨w2.heap.size,1,none⟩=some (.int .i64 5):=k3.cell 1;clear k3))
 go_ret
 exact Ret.mk' rfl zqb
end
section
open Go.RowKit
attribute [local go_sem]mk_bs bs_size bs_toList bs_append bs_extract
def spotOf(s c:Int):Int:=if s=4∨6<c then 0 else c
def apartOne (s c f:Nat):Bool:=(rS s c f).isEmpty|| (spotErr s (spotOf s c) == 0 && scanC (plM s (spotOf s c) (rS s c f)) 1 14 == some (c,f))
theorem apartAll1:((List.range' 1 14).all fun c=>(List.range 19).all fun f=>apartOne 1 c f)=true:=by decide +kernel
theorem apartAll2:((List.range' 1 14).all fun c=>(List.range 19).all fun f=>apartOne 2 c f)=true:=by decide +kernel
theorem apartAll3:((List.range' 1 14).all fun c=>(List.range 19).all fun f=>apartOne 3 c f)=true:=by decide +kernel
theorem apartAll4:((List.range' 1 14).all fun c=>(List.range 19).all fun f=>apartOne 4 c f)=true:=by decide +kernel
theorem apart_law (s c f:Int) (h:symErr s c f=0):rS s c f≠[]∧placeOf s (spotOf s c) (rS s c f)=(c,f,0):=by
 have hs:1≤s∧s≤4:=by
  by_cases hs:1≤s∧s≤4
  ·exact hs
  ·unfold symErr at h;rw [if_pos hs]at h;cases h
 have hb:¬ ((c<1∨14<c)∨(f<0∨18<f)):=by
  intro hb
  rw [symErr_bad s c f hs hb]at h
  split at h<;>cases h
 have hne:rS s c f≠[]:=by
  intro h0
  unfold symErr at h
  rw [if_neg (fun k=>k hs),if_neg (by omega),if_neg (by omega),if_pos h0]at h
  cases h
 refine ⟨hne,?_⟩
 obtain ⟨c,rfl⟩:=Int.eq_ofNat_of_zero_le (show 0≤c by omega)
 obtain ⟨f,rfl⟩:=Int.eq_ofNat_of_zero_le (show 0≤f by omega)
 have hall:((List.range' 1 14).all fun c=>(List.range 19).all fun f=>apartOne s.toNat c f)=true:=by
  have h4:s=1∨s=2∨s=3∨s=4:=by omega
  rcases h4 with rfl|rfl|rfl|rfl
  ·exact apartAll1
  ·exact apartAll2
  ·exact apartAll3
  ·exact apartAll4
 obtain ⟨s,rfl⟩:=Int.eq_ofNat_of_zero_le (show 0≤s by omega)
 rw [Int.toNat_natCast,List.all_eq_true]at hall
 have h2:=hall c (List.mem_range'_1.2 zqo)
 rw [List.all_eq_true]at h2
 have h3:=h2 f (List.mem_range.2 zqo)
 unfold apartOne at h3
 have hne':(rS (s:Nat) (c:Nat) (f:Nat)).isEmpty=false:=by simpa using hne
 rw [hne']at h3
 simp only [Bool.false_or,Bool.and_eq_true,beq_iff_eq]at h3
 exact placeOf_some h3.1 h3.2
end
section
theorem split_pre (p:UInt8→Bool):∀ (a a' b b':List UInt8),(∀ x∈a,p x=true)→(∀ x∈a',p x=true)→(∀ x,b.head?=some x→p x=false)→(∀ x,b'.head?=some x→p x=false)→a++b=a'++b'→a=a'∧b=b':=by
 intro a
 induction a with
 | nil =>
  intro a' b b' _ ha' hb _ he
  cases a' with
  | nil=>exact ⟨rfl,he⟩
  | cons y r =>
   have h1:b.head?=some y:=by rw [List.nil_append] at he;rw [he];rfl
   have h2:=hb y h1
   rw [ha' y (by simp)] at h2
   cases h2
 | cons x r ih =>
  intro a' b b' ha ha' hb hb' he
  cases a' with
  | nil =>
   have h1:b'.head?=some x:=by rw [List.nil_append] at he;rw [← he];rfl
   have h2:=hb' x h1
   rw [ha x (by simp)] at h2
   cases h2
  | cons y r' =>
   rw [List.cons_append,List.cons_append,List.cons.injEq] at he
   obtain ⟨h1,h2⟩:=he
   obtain ⟨h3,h4⟩:=ih r' b b' (fun z hz=>ha z (by simp [hz])) (fun z hz=>ha' z (by simp [hz])) hb hb' h2
   exact ⟨by rw [h1,h3],h4⟩
def isR(b:UInt8):Bool:=b == 46|| b == 58|| b == 39
def isG(s:Int)(b:UInt8):Bool:=b == 35|| (s == 1 && (b == 44|| b == 94|| b == 40))|| (s == 2 && b == 116)
def isH(s:Int)(b:UInt8):Bool:=if s=1 then b == 95 else b == 42
def isM(s:Int)(b:UInt8):Bool:=isR b|| isG s b|| isH s b
theorem symNoMark:((List.range' 1 4).all fun s=>(List.range' 1 14).all fun c=>(List.range 19).all fun f=>(rS (s:Nat) (c:Nat) (f:Nat)).all fun b=>!isM (s:Nat) b)=true:=by decide +kernel
theorem sym_noMark (s c f:Int)(hs:1≤s∧s≤4)(hc:1≤c∧c≤14)(hf:0≤f∧f≤18):∀ x∈rS s c f,(!isM s x)=true:=by
 obtain⟨s,rfl⟩:=Int.eq_ofNat_of_zero_le (show 0≤s by omega)
 obtain⟨c,rfl⟩:=Int.eq_ofNat_of_zero_le (show 0≤c by omega)
 obtain⟨f,rfl⟩:=Int.eq_ofNat_of_zero_le hf.1
 have h:=symNoMark
 rw [List.all_eq_true]at h
 have h1:=h s (List.mem_range'_1.2 zqo)
 rw [List.all_eq_true]at h1
 have h2:=h1 c (List.mem_range'_1.2 zqo)
 rw [List.all_eq_true]at h2
 have h3:=h2 f (List.mem_range.2 zqo)
 rw [List.all_eq_true]at h3
 exact h3
theorem rR_isR(s n:Int):∀ x∈rR s n,isR x=true:=by
 intro x hx
 unfold rR at hx
 split at hx
 ·simp at hx;subst hx;rfl
 ·split at hx
  ·simp at hx;subst hx;rfl
  ·split at hx
   ·simp at hx;subst hx;rfl
   ·simp at hx
theorem rG_isG(s n:Int)(hs:1≤s∧s≤4)(hn:0≤n∧n≤4):∀ x∈rG s n,isG s x=true∧isR x=false:=by
 have s4:s=1∨s=2∨s=3∨s=4:=by omega
 have n4:n=0∨n=1∨n=2∨n=3∨n=4:=by omega
 rcases s4 with rfl|rfl|rfl|rfl<;>rcases n4 with rfl|rfl|rfl|rfl|rfl<;>decide
theorem pH_head(s n L:Int)(hs:1≤s∧s≤4):∀ x,(pH s n L).head?=some x→isH s x=true∧isG s x=false∧isR x=false:=by
 intro x hx
 have s4:s=1∨s=2∨s=3∨s=4:=by omega
 unfold pH rH at hx
 split at hx
 ·cases hx
 ·rcases s4 with rfl|rfl|rfl|rfl
  ·simp at hx;subst hx;decide
  ·split at hx
   ·cases ‹(2:Int)=1›
   ·split at hx
    ·simp at hx;subst hx;decide
    ·cases hx
  ·simp at hx
  ·split at hx
   ·cases ‹(4:Int)=1›
   ·split at hx
    ·simp at hx;subst hx;decide
    ·cases hx
theorem tail_head (s g h L:Int)(hs:1≤s∧s≤4)(hg:0≤g∧g≤4):∀ x,(rG s g++pH s h L).head?=some x→isM s x=true∧isR x=false:=by
 intro x hx
 cases hq:rG s g with
 | nil =>
  rw [hq,List.nil_append]at hx
  obtain⟨a,b,c⟩:=pH_head s h L hs x hx
  exact⟨by unfold isM;rw [a,Bool.or_true],c⟩
 | cons y r =>
  rw [hq]at hx
  have hy:y=x:=by simpa using hx
  obtain⟨a,b⟩:=rG_isG s g hs hg y (by rw [hq];simp)
  rw [hy]at a b
  exact⟨by unfold isM;rw [a,Bool.or_true,Bool.true_or],b⟩
theorem marks_head (s r g h L:Int)(hs:1≤s∧s≤4)(hg:0≤g∧g≤4):∀ x,(rR s r++(rG s g++pH s h L)).head?=some x→(!isM s x)=false:=by
 intro x hx
 cases hq:rR s r with
 | nil =>
  rw [hq,List.nil_append]at hx
  rw [(tail_head s g h L hs hg x hx).1];rfl
 | cons y q =>
  rw [hq]at hx
  have hy:y=x:=by simpa using hx
  have a:=rR_isR s r y (by rw [hq];simp)
  rw [hy]at a
  unfold isM;rw [a,Bool.true_or,Bool.true_or];rfl
theorem marks_split (s r g h r' g' h' L:Int) (hs:1≤s∧s≤4) (hg:0≤g∧g≤4) (hg':0≤g'∧g'≤4) (he:rR s r++(rG s g++pH s h L)=rR s r'++(rG s g'++pH s h' L)) :
  rR s r=rR s r'∧rG s g=rG s g'∧pH s h L=pH s h' L:=by
 obtain ⟨a,b⟩:=split_pre isR _ _ _ _ (rR_isR s r) (rR_isR s r') (fun x hx=>(tail_head s g h L hs hg x hx).2) (fun x hx=>(tail_head s g' h' L hs hg' x hx).2) he
 obtain ⟨c,d⟩:=split_pre (isG s) _ _ _ _ (fun x hx=>(rG_isG s g hs hg x hx).1) (fun x hx=>(rG_isG s g' hs hg' x hx).1) (fun x hx=>(pH_head s h L hs x hx).2.1) (fun x hx=>(pH_head s h' L hs x hx).2.1) b
 exact ⟨a,c,d⟩
theorem right_inj(s r r':Int)(hs:1≤s∧s≤4)(hr:0≤r∧r≤3)(hr':0≤r'∧r'≤3)(h1:okR s r=true)(h2:okR s r'=true)(he:rR s r=rR s r'):r=r':=by
 have s4:s=1∨s=2∨s=3∨s=4:=by omega
 have n4:r=0∨r=1∨r=2∨r=3:=by omega
 have m4:r'=0∨r'=1∨r'=2∨r'=3:=by omega
 revert h1 h2 he
 rcases s4 with rfl|rfl|rfl|rfl<;>rcases n4 with rfl|rfl|rfl|rfl<;>rcases m4 with rfl|rfl|rfl|rfl<;>decide
theorem grace_inj(s r r':Int)(hs:1≤s∧s≤4)(hr:0≤r∧r≤4)(hr':0≤r'∧r'≤4)(h1:okG s r=true)(h2:okG s r'=true)(he:rG s r=rG s r'):r=r':=by
 have s4:s=1∨s=2∨s=3∨s=4:=by omega
 have n4:r=0∨r=1∨r=2∨r=3∨r=4:=by omega
 have m4:r'=0∨r'=1∨r'=2∨r'=3∨r'=4:=by omega
 revert h1 h2 he
 rcases s4 with rfl|rfl|rfl|rfl<;>rcases n4 with rfl|rfl|rfl|rfl|rfl<;>rcases m4 with rfl|rfl|rfl|rfl|rfl<;>decide
theorem dig2_inj:((List.range 16).all fun a=>(List.range 16).all fun b=>!(dig2 a == dig2 b)|| a == b)=true:=by decide +kernel
theorem hold_inj (s h h' L:Int) (hs:1≤s∧s≤4) (hh:0≤h∧h≤15) (hh':0≤h'∧h'≤15) (h1:okH s h L=true) (h2:okH s h' L=true) (he:pH s h L=pH s h' L):h=h':=by
 have ne:∀ k:Int,k≠0→okH s k L=true→pH s k L≠[]∧pH s k L=rH s k L:=by
  intro k hk ho
  have e:pH s k L=rH s k L:=if_neg hk
  unfold okH at ho
  have hb:(k == 0)=false:=by simpa using hk
  rw [hb,Bool.false_or]at ho
  refine ⟨?_,e⟩
  rw [e]
  intro h0
  rw [h0]at ho
  cases ho
 by_cases z:h=0
 ·by_cases z':h'=0
  ·rw [z,z']
  ·have:pH s h L=[]:=if_pos z
   exact absurd (he.symm.trans this) (ne h' z' h2).1
 ·by_cases z':h'=0
  ·have:pH s h' L=[]:=if_pos z'
   exact absurd (he.trans this) (ne h z h1).1
  ·obtain ⟨a1,a2⟩:=ne h z h1
   obtain ⟨b1,b2⟩:=ne h' z' h2
   rw [a2,b2]at he
   rw [a2]at a1
   rw [b2]at b1
   unfold rH at he a1 b1
   by_cases s1:s=1
   ·rw [if_pos s1,if_pos s1,List.cons.injEq]at he
    have hd:=dig2_inj
    rw [List.all_eq_true]at hd
    have hd1:=hd h.toNat (List.mem_range.2 zqo)
    rw [List.all_eq_true]at hd1
    have hd2:=hd1 h'.toNat (List.mem_range.2 zqo)
    rw [he.2]at hd2
    simp at hd2
    omega
   ·rw [if_neg s1]at a1 b1
    by_cases q:(s=2∨s=4)∧h=L
    ·by_cases q':(s=2∨s=4)∧h'=L
     ·rw [q.2,q'.2]
     ·rw [if_neg q']at b1;exact absurd rfl b1
    ·rw [if_neg q]at a1;exact absurd rfl a1
theorem spot_of (s crs c:Int)(hs:spotErr s crs=0)(h:standsB s crs c=true):crs=spotOf s c:=by
 have hk:¬ ¬ (1≤s∧s≤4):=by intro k;unfold spotErr at hs;rw [if_pos k]at hs;cases hs
 unfold spotErr at hs
 rw [if_neg hk]at hs
 have hb:¬ ((crs<0∨6<crs)∨(s=4∧crs≠0)):=by intro k;rw [if_pos k]at hs;cases hs
 unfold standsB at h
 unfold spotOf
 by_cases h0:0<crs
 ·rw [if_pos h0]at h
  have:c=crs:=by simpa using h
  rw [if_neg (by omega)];exact this.symm
 ·rw [if_neg h0]at h
  have h':s=4∨6<c:=by simpa using h
  rw [if_pos h'];omega
theorem cell_inj (s crs c f r g h c' f' r' g' h' L:Int) (hsp:spotErr s crs=0) (hc:1≤c∧c≤14) (hf:0≤f∧f≤18) (hr:0≤r∧r≤3) (hg:0≤g∧g≤4) (hh:0≤h∧h≤15)
  (hc':1≤c'∧c'≤14) (hf':0≤f'∧f'≤18) (hr':0≤r'∧r'≤3) (hg':0≤g'∧g'≤4) (hh':0≤h'∧h'≤15)
  (hst:standsB s crs c=true) (hst':standsB s crs c'=true) (ho:cellOk s c f r g h L=true) (ho':cellOk s c' f' r' g' h' L=true) (he:cellS s c f r g h L=cellS s c' f' r' g' h' L) :
  c=c'∧f=f'∧r=r'∧g=g'∧h=h':=by
 have hs:1≤s∧s≤4:=by
  by_cases k:1≤s∧s≤4
  ·exact k
  ·unfold spotErr at hsp;rw [if_pos k] at hsp;cases hsp
 simp only [cellOk,Bool.and_eq_true] at ho ho'
 obtain ⟨l1,l2⟩:=sym_law s c f hs hc hf
 obtain ⟨m1,m2⟩:=sym_law s c' f' hs hc' hf'
 unfold cellS at he
 rw [l2 ho.1.1.1,m2 ho'.1.1.1,List.append_assoc,List.append_assoc,List.append_assoc,List.append_assoc] at he
 obtain ⟨a,b⟩:=split_pre (fun x=>!isM s x) _ _ _ _ (sym_noMark s c f hs hc hf) (sym_noMark s c' f' hs hc' hf') (marks_head s r g h L hs hg) (marks_head s r' g' h' L hs hg') he
 obtain ⟨x,y,z⟩:=marks_split s r g h r' g' h' L hs hg hg' b
 have e0:symErr s c f=0:=by
  have hne:rS s c f≠[]:=by intro k;rw [k] at l1;rw [l1] at ho;simp at ho
  unfold symErr;rw [if_neg (fun k=>k hs),if_neg (by omega),if_neg (by omega),if_neg hne]
 have e0':symErr s c' f'=0:=by
  have hne:rS s c' f'≠[]:=by intro k;rw [k] at m1;rw [m1] at ho';simp at ho'
  unfold symErr;rw [if_neg (fun k=>k hs),if_neg (by omega),if_neg (by omega),if_neg hne]
 have p1:=(apart_law s c f e0).2
 have p2:=(apart_law s c' f' e0').2
 rw [← spot_of s crs c hsp hst,a] at p1
 rw [← spot_of s crs c' hsp hst',p1] at p2
 simp only [Prod.mk.injEq,and_true] at p2
 exact ⟨p2.1,p2.2,right_inj s r r' hs hr hr' ho.1.1.2 ho'.1.1.2 x,grace_inj s g g' hs hg hg' ho.1.2 ho'.1.2 y,hold_inj s h h' L hs hh hh' ho.2 ho'.2 z⟩
end
end Go.Proofs.YthehkchjdkdbiaaGreatDoor
