/- A walk that knows values as trees: an own slice is handed on in a drawn region. -/
import Derived.Test.YthehkchjdkdbiaaGreatDoorMk2Gq
import Derived.Test.YthehkchjdkdbiaaGreatDoorMk3Gq
import Derived.Test.YthehkchjdkdbiaaGreatDoorMk4Gq
import Derived.Test.YthehkchjdkdbiaaGreatDoorCell1Gq
import Derived.Test.YthehkchjdkdbiaaGreatDoorRqAGq
import Derived.Test.YthehkchjdkdbiaaGreatDoorRInsGq
set_option maxHeartbeats 8000000
set_option maxRecDepth 100000
set_option linter.unusedVariables false
set_option linter.unusedSimpArgs false
namespace Go.Proofs.YthehkchjdkdbiaaGreatDoor
section
open Go.RowKit
def tabN (w:World) (F:View):Prop :=
 (∀ (i:Nat)v,bsL[i]?=some v→F ⟨1,i,none⟩=some (.int .i64 v))∧Lib.TabIs Tryz.prog w "internal/strconv.uint64pow10" .u64 Lib.pow10Tab ∧
 (∃ m,w.cell? ⟨2,0,none⟩=some (.int .i64 m))
def gloN:Nat:=max 5 2+1
theorem pow10N:Tryz.prog.globalNamed "internal/strconv.uint64pow10"=some 5:=by kernel_rfl
theorem varN_lt {w:World} {cs:Array Value} {s:String} {g:Nat} (hg:Tryz.prog.globalNamed s=some g)(h:w.var? Tryz.prog s=some cs):g<w.heap.size:=by
 unfold World.var? at h
 rw [hg]at h
 rcases Nat.lt_or_ge g w.heap.size with h1|h1
 ·exact h1
 ·simp [Array.getElem?_eq_none h1]at h
theorem cellN_keeps {w w':World} {b i:Nat} {v:Value} (h:w'.heap[b]?=w.heap[b]?) (hc:w.cell? ⟨b,i,none⟩=some v):w'.cell? ⟨b,i,none⟩=some v:=by
 unfold World.cell? at hc ⊢
 rw [show w'.heap[(⟨b,i,none⟩:Addr).block]?=w.heap[(⟨b,i,none⟩:Addr).block]? from h];exact hc
theorem tabN_keeps {w w':World} {s:String} {k:IntKind} {l:List Int} {g:Nat} (hg:Tryz.prog.globalNamed s=some g)(hb:w'.heap[g]?=w.heap[g]?)(h:Lib.TabIs Tryz.prog w s k l):Lib.TabIs Tryz.prog w' s k l:=by
 unfold Lib.TabIs World.var? at h ⊢
 rw [hg]at h ⊢
 simp only [Option.bind_some]at h ⊢
 rw [hb];exact h
theorem stabN:Stab tabN gloN:=by
 refine⟨fun w F h=>?_,fun w w' F F' hb hF h=>?_⟩
 ·obtain⟨h0,h1,⟨m,h3⟩⟩:=h
  have a1:=varN_lt pow10N h1
  have a3:=cell_block h3
  unfold gloN
  omega
 ·obtain⟨h0,h1,⟨m,h3⟩⟩:=h
  exact⟨fun i v x=>hF _ _ (h0 i v x),tabN_keeps pow10N (hb _ (by unfold gloN;omega)) h1,⟨m,cellN_keeps (hb _ (by unfold gloN;omega)) h3⟩⟩
theorem tabN_bases {z:Int} (h:0≤z∧z≤6):∀ w F,tabN w F→F ⟨1,z.toNat,none⟩=some (.int .i64 (basV z)):=fun w F hB=>hB.1 _ _ (basV_at h)
theorem Ctg.of_scN {B:World→View→Prop} {P:Program} {f:FuncId} {args:List AV} {xs:List Value} {res:AV} {v:Value} (hs:scs args=some xs)(hv:∀ F,RP F res v)(h:∀ w F,B w F→Calls P f xs.toArray w (Ret v w)):Ctg B P f args res:=by
 intro w F vs hB hF hR
 have:vs=xs:=scs_of (G:=⟨F,fun _=>0,fun _=>0,fun _=>undef,fun _ _=>False⟩) hs hR.1 fun i av u a b=>.pu _ _ (hR.2 i av u a b)
 subst this
 exact (h w F hB).mono fun e w'⟨he,hb⟩=>⟨v,F,he,hb,fun _ _ h=>h,fun p u x=>by rw [hb.cell (cell_block (hF p u x))];exact hF p u x,fun _ _ h=>.inl h,hv F⟩
theorem itoaN_G (n:Int)(h:I64 n):Ctg tabN Tryz.prog 108 [.sc (.int .i64 n)] (.sc (.string (bs (Lib.itoa n)))) :=
 Ctg.of_scN (v:=.string (bs (Lib.itoa n))) rfl (fun _=>.sc _) fun w F hB=>(Tryz.strconv_Itoa n h.1 (by have:=h.2;omega) w hB.2.1).mono fun e w'⟨he,k,os,hw⟩=>⟨he,by
  subst hw
  refine⟨rfl,rfl,rfl,?_,fun i hi=>?_⟩
  ·show w.heap.size≤(w.heap++os).size
   rw [Array.size_append];omega
  ·show (w.heap++os)[i]?=w.heap[i]?
   rw [Array.getElem?_append_left hi]⟩
theorem Ctg.mono {B B':World→View→Prop} {P:Program} {f:FuncId} {args:List AV} {res:AV} (h:Ctg B P f args res)(hb:∀ w F,B' w F→B w F):Ctg B' P f args res:=fun w F vs k=>h w F vs (hb w F k)
end
section
open Go.RowKit
attribute [local go_sem]mk_bs bs_size bs_toList bs_append bs_extract
attribute [local simp]run_cut run_cut_to run_cut_from run_add_bs
theorem psymbol_any (s c f:Int)(w:World) :
  Calls Tryz.prog 34 #[.int .u8 s,.agg #[.int .i64 c,.int .i64 f]] w (Ret (.tuple #[.string (bs (symTxt s c f)),.int .i64 (symErr s c f)]) w):=by
 by_cases hs:1≤s∧s≤4
 ·have h4:s=1∨s=2∨s=3∨s=4:=by omega
  by_cases h:(c < 1∨14 < c)∨(f < 0∨18 < f)
  ·rcases h4 with rfl|rfl|rfl|rfl
   ·exact psymbol_bad_1 c f w h
   ·exact psymbol_bad_2 c f w h
   ·exact psymbol_bad_3 c f w h
   ·exact psymbol_bad_4 c f w h
  ·have hc:1≤c∧c≤14:=by omega
   have hf:0≤f∧f≤18:=by omega
   rcases h4 with rfl|rfl|rfl|rfl
   ·exact psymbol_ok_1 c f w hc hf
   ·exact psymbol_ok_2 c f w hc hf
   ·exact psymbol_ok_3 c f w hc hf
   ·exact psymbol_ok_4 c f w hc hf
 ·have e0:symErr s c f=30:=if_pos hs
  have e1:symTxt s c f=[]:=by unfold symTxt;rw [e0,if_neg (by decide)]
  rw [e0,e1]
  have hpl:∀ w:World,Calls Tryz.prog 84 #[.int .u8 s,.int .i64 c,.int .i64 f] w fun e w'=>e=.returned (.tuple #[.nilIface,.int .i64 30])∧w=w':=by
   intro w
   have hs':s < 1∨4 < s:=by omega
   clear hs
   go_enter Tryz.func84,Tryz.ntmps84
   go_wp2_with (go_at_call 50;refine (of_bad _ _ hs').mono ?_;rintro e w'⟨rfl,rfl⟩)
   go_ret2
   exact⟨rfl,rfl⟩
  have H:=Lib.hid hpl
  clear hpl hs e0 e1
  go_enter Tryz.func34,Tryz.ntmps34
  go_wp2_with (go_at_call 84;refine (H.out _).mono ?_;rintro e w'⟨rfl,rfl⟩)
  go_ret2
  exact Ret.mk' rfl zqb
theorem place_any (s crs:Int) (l:List UInt8) (w:World) :
  Calls Tryz.prog 35 #[.int .u8 s,.int .i64 crs,.string (bs l)] w (Ret (placeV s crs l) w):=by
 by_cases hs:1≤s∧s≤4
 ·have h4:s=1∨s=2∨s=3∨s=4:=by omega
  rcases h4 with rfl|rfl|rfl|rfl
  ·by_cases h:spotErr 1 crs=0
   ·exact place_ok_1 crs l w h
   ·exact place_bad_1 crs l w h
  ·by_cases h:spotErr 2 crs=0
   ·exact place_ok_2 crs l w h
   ·exact place_bad_2 crs l w h
  ·by_cases h:spotErr 3 crs=0
   ·exact place_ok_3 crs l w h
   ·exact place_bad_3 crs l w h
  ·by_cases h:spotErr 4 crs=0
   ·exact place_ok_4 crs l w h
   ·exact place_bad_4 crs l w h
 ·have e0:spotErr s crs=30:=if_pos hs
  have HR:=Lib.hid (placeOf_bad (l:=l) (show spotErr s crs≠0 from by rw [e0];decide))
  rw [e0] at HR
  have hs':s < 1∨4 < s:=by omega
  have hst:∀ w:World,Calls Tryz.prog 85 #[.int .u8 s,.int .i64 crs] w fun e w'=>e=.returned (.tuple #[.nilIface,.int .i64 30])∧w=w':=by
   intro w
   clear hs e0 HR
   go_enter Tryz.func85,Tryz.ntmps85
   go_wp2_with (go_at_call 50;refine (of_bad _ _ hs').mono ?_;rintro e w' ⟨rfl,rfl⟩)
   go_ret2
   exact ⟨rfl,rfl⟩
  have HC:=Lib.hid hst
  clear hs e0 hst
  go_enter Tryz.func35,Tryz.ntmps35
  go_wp2_with (go_at_call 85;refine (HC.out _).mono ?_;rintro e w' ⟨rfl,rfl⟩)
  go_returns
  exact Ret.mk' (by unfold placeV;rw [HR.out]) zqb
end
section
open Go.RowKit
attribute [local go_sem]mk_bs bs_size bs_toList bs_append bs_extract
theorem works_e1:symTxt 4 6 4=[68]:=by decide +kernel
theorem works_e2:symErr 4 6 4=0:=by decide +kernel
theorem works_e3:placeOf 4 0 [38]=(2,5,0):=by decide +kernel
theorem works_e4:cellTxt 1 1 2 1 0 3 4=[99,46,95,51]:=by decide +kernel
theorem works_e5:cellErr 1 1 2 1 0 3 4=0:=by decide +kernel
theorem works_place (w:World):Calls Tryz.prog 35 #[.int .u8 4,.int .i64 0,.string (bs [38])] w (Ret (.tuple #[.agg #[.int .i64 2,.int .i64 5],.int .i64 0]) w):=by
 have h:=place_any 4 0 [38] w
 unfold placeV at h
 rw [works_e3] at h
 exact h
theorem works_any (w:World):Calls Tryz.prog 10 #[] w (Ret (.bool true) w):=by
 have e1:=works_e1
 have e2:=works_e2
 have e4:=works_e4
 have e5:=works_e5
 go_enter Tryz.func10,Tryz.ntmps10
 go_wp2_with (first
  | (go_at_call 34;refine (psymbol_any _ _ _ _).mono ?_;rintro e w1 ⟨rfl,hb1⟩)
  | (go_at_call 35;refine (works_place _).mono ?_;rintro e w2 ⟨rfl,hb2⟩)
  | (go_at_call 36;refine (pCell_1 _ _ _ _ _ _ _).mono ?_;rintro e w3 ⟨rfl,hb3⟩;have k3:=(Blk.new _ _ _).after hb3;have x0:w3.cell? ⟨w2.heap.size,0,none⟩=some (.int .i64 2):=k3.cell 0;have x1:w3.cell? ⟨w2.heap.size,1,none⟩=some (.int .i64 5):=k3.cell 1;clear k3))
 go_ret
 exact Ret.mk' rfl zqb
end
section
open Go.RowKit
attribute [local go_sem]mk_bs bs_size bs_toList bs_append bs_extract
def spotOf(s c:Int):Int:=if s=4∨6<c then 0 else c
def apartOne (s c f:Nat):Bool:=(rS s c f).isEmpty|| (spotErr s (spotOf s c) == 0 && scanC (plM s (spotOf s c) (rS s c f)) 1 14 == some (c,f))
theorem apartAll1:((List.range' 1 14).all fun c=>(List.range 19).all fun f=>apartOne 1 c f)=true:=by decide +kernel
theorem apartAll2:((List.range' 1 14).all fun c=>(List.range 19).all fun f=>apartOne 2 c f)=true:=by decide +kernel
theorem apartAll3:((List.range' 1 14).all fun c=>(List.range 19).all fun f=>apartOne 3 c f)=true:=by decide +kernel
theorem apartAll4:((List.range' 1 14).all fun c=>(List.range 19).all fun f=>apartOne 4 c f)=true:=by decide +kernel
theorem apart_law (s c f:Int) (h:symErr s c f=0):rS s c f≠[]∧placeOf s (spotOf s c) (rS s c f)=(c,f,0):=by
 have hs:1≤s∧s≤4:=by
  by_cases hs:1≤s∧s≤4
  ·exact hs
  ·unfold symErr at h;rw [if_pos hs]at h;cases h
 have hb:¬ ((c<1∨14<c)∨(f<0∨18<f)):=by
  intro hb
  rw [symErr_bad s c f hs hb]at h
  split at h<;>cases h
 have hne:rS s c f≠[]:=by
  intro h0
  unfold symErr at h
  rw [if_neg (fun k=>k hs),if_neg (by omega),if_neg (by omega),if_pos h0]at h
  cases h
 refine ⟨hne,?_⟩
 obtain ⟨c,rfl⟩:=Int.eq_ofNat_of_zero_le (show 0≤c by omega)
 obtain ⟨f,rfl⟩:=Int.eq_ofNat_of_zero_le (show 0≤f by omega)
 have hall:((List.range' 1 14).all fun c=>(List.range 19).all fun f=>apartOne s.toNat c f)=true:=by
  have h4:s=1∨s=2∨s=3∨s=4:=by omega
  rcases h4 with rfl|rfl|rfl|rfl
  ·exact apartAll1
  ·exact apartAll2
  ·exact apartAll3
  ·exact apartAll4
 obtain ⟨s,rfl⟩:=Int.eq_ofNat_of_zero_le (show 0≤s by omega)
 rw [Int.toNat_natCast,List.all_eq_true]at hall
 have h2:=hall c (List.mem_range'_1.2 zqo)
 rw [List.all_eq_true]at h2
 have h3:=h2 f (List.mem_range.2 zqo)
 unfold apartOne at h3
 have hne':(rS (s:Nat) (c:Nat) (f:Nat)).isEmpty=false:=by simpa using hne
 rw [hne']at h3
 simp only [Bool.false_or,Bool.and_eq_true,beq_iff_eq]at h3
 exact placeOf_some h3.1 h3.2
end
section
theorem split_pre (p:UInt8→Bool):∀ (a a' b b':List UInt8),(∀ x∈a,p x=true)→(∀ x∈a',p x=true)→(∀ x,b.head?=some x→p x=false)→(∀ x,b'.head?=some x→p x=false)→a++b=a'++b'→a=a'∧b=b':=by
 intro a
 induction a with
 | nil =>
  intro a' b b' _ ha' hb _ he
  cases a' with
  | nil=>exact ⟨rfl,he⟩
  | cons y r =>
   have h1:b.head?=some y:=by rw [List.nil_append] at he;rw [he];rfl
   have h2:=hb y h1
   rw [ha' y (by simp)] at h2
   cases h2
 | cons x r ih =>
  intro a' b b' ha ha' hb hb' he
  cases a' with
  | nil =>
   have h1:b'.head?=some x:=by rw [List.nil_append] at he;rw [← he];rfl
   have h2:=hb' x h1
   rw [ha x (by simp)] at h2
   cases h2
  | cons y r' =>
   rw [List.cons_append,List.cons_append,List.cons.injEq] at he
   obtain ⟨h1,h2⟩:=he
   obtain ⟨h3,h4⟩:=ih r' b b' (fun z hz=>ha z (by simp [hz])) (fun z hz=>ha' z (by simp [hz])) hb hb' h2
   exact ⟨by rw [h1,h3],h4⟩
def isR(b:UInt8):Bool:=b == 46|| b == 58|| b == 39
def isG(s:Int)(b:UInt8):Bool:=b == 35|| (s == 1 && (b == 44|| b == 94|| b == 40))|| (s == 2 && b == 116)
def isH(s:Int)(b:UInt8):Bool:=if s=1 then b == 95 else b == 42
def isM(s:Int)(b:UInt8):Bool:=isR b|| isG s b|| isH s b
theorem symNoMark:((List.range' 1 4).all fun s=>(List.range' 1 14).all fun c=>(List.range 19).all fun f=>(rS (s:Nat) (c:Nat) (f:Nat)).all fun b=>!isM (s:Nat) b)=true:=by decide +kernel
theorem sym_noMark (s c f:Int)(hs:1≤s∧s≤4)(hc:1≤c∧c≤14)(hf:0≤f∧f≤18):∀ x∈rS s c f,(!isM s x)=true:=by
 obtain⟨s,rfl⟩:=Int.eq_ofNat_of_zero_le (show 0≤s by omega)
 obtain⟨c,rfl⟩:=Int.eq_ofNat_of_zero_le (show 0≤c by omega)
 obtain⟨f,rfl⟩:=Int.eq_ofNat_of_zero_le hf.1
 have h:=symNoMark
 rw [List.all_eq_true]at h
 have h1:=h s (List.mem_range'_1.2 zqo)
 rw [List.all_eq_true]at h1
 have h2:=h1 c (List.mem_range'_1.2 zqo)
 rw [List.all_eq_true]at h2
 have h3:=h2 f (List.mem_range.2 zqo)
 rw [List.all_eq_true]at h3
 exact h3
theorem rR_isR(s n:Int):∀ x∈rR s n,isR x=true:=by
 intro x hx
 unfold rR at hx
 split at hx
 ·simp at hx;subst hx;rfl
 ·split at hx
  ·simp at hx;subst hx;rfl
  ·split at hx
   ·simp at hx;subst hx;rfl
   ·simp at hx
theorem rG_isG(s n:Int)(hs:1≤s∧s≤4)(hn:0≤n∧n≤4):∀ x∈rG s n,isG s x=true∧isR x=false:=by
 have s4:s=1∨s=2∨s=3∨s=4:=by omega
 have n4:n=0∨n=1∨n=2∨n=3∨n=4:=by omega
 rcases s4 with rfl|rfl|rfl|rfl<;>rcases n4 with rfl|rfl|rfl|rfl|rfl<;>decide
theorem pH_head(s n L:Int)(hs:1≤s∧s≤4):∀ x,(pH s n L).head?=some x→isH s x=true∧isG s x=false∧isR x=false:=by
 intro x hx
 have s4:s=1∨s=2∨s=3∨s=4:=by omega
 unfold pH rH at hx
 split at hx
 ·cases hx
 ·rcases s4 with rfl|rfl|rfl|rfl
  ·simp at hx;subst hx;decide
  ·split at hx
   ·cases ‹(2:Int)=1›
   ·split at hx
    ·simp at hx;subst hx;decide
    ·cases hx
  ·simp at hx
  ·split at hx
   ·cases ‹(4:Int)=1›
   ·split at hx
    ·simp at hx;subst hx;decide
    ·cases hx
theorem tail_head (s g h L:Int)(hs:1≤s∧s≤4)(hg:0≤g∧g≤4):∀ x,(rG s g++pH s h L).head?=some x→isM s x=true∧isR x=false:=by
 intro x hx
 cases hq:rG s g with
 | nil =>
  rw [hq,List.nil_append]at hx
  obtain⟨a,b,c⟩:=pH_head s h L hs x hx
  exact⟨by unfold isM;rw [a,Bool.or_true],c⟩
 | cons y r =>
  rw [hq]at hx
  have hy:y=x:=by simpa using hx
  obtain⟨a,b⟩:=rG_isG s g hs hg y (by rw [hq];simp)
  rw [hy]at a b
  exact⟨by unfold isM;rw [a,Bool.or_true,Bool.true_or],b⟩
theorem marks_head (s r g h L:Int)(hs:1≤s∧s≤4)(hg:0≤g∧g≤4):∀ x,(rR s r++(rG s g++pH s h L)).head?=some x→(!isM s x)=false:=by
 intro x hx
 cases hq:rR s r with
 | nil =>
  rw [hq,List.nil_append]at hx
  rw [(tail_head s g h L hs hg x hx).1];rfl
 | cons y q =>
  rw [hq]at hx
  have hy:y=x:=by simpa using hx
  have a:=rR_isR s r y (by rw [hq];simp)
  rw [hy]at a
  unfold isM;rw [a,Bool.true_or,Bool.true_or];rfl
theorem marks_split (s r g h r' g' h' L:Int) (hs:1≤s∧s≤4) (hg:0≤g∧g≤4) (hg':0≤g'∧g'≤4) (he:rR s r++(rG s g++pH s h L)=rR s r'++(rG s g'++pH s h' L)) :
  rR s r=rR s r'∧rG s g=rG s g'∧pH s h L=pH s h' L:=by
 obtain ⟨a,b⟩:=split_pre isR _ _ _ _ (rR_isR s r) (rR_isR s r') (fun x hx=>(tail_head s g h L hs hg x hx).2) (fun x hx=>(tail_head s g' h' L hs hg' x hx).2) he
 obtain ⟨c,d⟩:=split_pre (isG s) _ _ _ _ (fun x hx=>(rG_isG s g hs hg x hx).1) (fun x hx=>(rG_isG s g' hs hg' x hx).1) (fun x hx=>(pH_head s h L hs x hx).2.1) (fun x hx=>(pH_head s h' L hs x hx).2.1) b
 exact ⟨a,c,d⟩
theorem right_inj(s r r':Int)(hs:1≤s∧s≤4)(hr:0≤r∧r≤3)(hr':0≤r'∧r'≤3)(h1:okR s r=true)(h2:okR s r'=true)(he:rR s r=rR s r'):r=r':=by
 have s4:s=1∨s=2∨s=3∨s=4:=by omega
 have n4:r=0∨r=1∨r=2∨r=3:=by omega
 have m4:r'=0∨r'=1∨r'=2∨r'=3:=by omega
 revert h1 h2 he
 rcases s4 with rfl|rfl|rfl|rfl<;>rcases n4 with rfl|rfl|rfl|rfl<;>rcases m4 with rfl|rfl|rfl|rfl<;>decide
theorem grace_inj(s r r':Int)(hs:1≤s∧s≤4)(hr:0≤r∧r≤4)(hr':0≤r'∧r'≤4)(h1:okG s r=true)(h2:okG s r'=true)(he:rG s r=rG s r'):r=r':=by
 have s4:s=1∨s=2∨s=3∨s=4:=by omega
 have n4:r=0∨r=1∨r=2∨r=3∨r=4:=by omega
 have m4:r'=0∨r'=1∨r'=2∨r'=3∨r'=4:=by omega
 revert h1 h2 he
 rcases s4 with rfl|rfl|rfl|rfl<;>rcases n4 with rfl|rfl|rfl|rfl|rfl<;>rcases m4 with rfl|rfl|rfl|rfl|rfl<;>decide
theorem dig2_inj:((List.range 16).all fun a=>(List.range 16).all fun b=>!(dig2 a == dig2 b)|| a == b)=true:=by decide +kernel
theorem hold_inj (s h h' L:Int) (hs:1≤s∧s≤4) (hh:0≤h∧h≤15) (hh':0≤h'∧h'≤15) (h1:okH s h L=true) (h2:okH s h' L=true) (he:pH s h L=pH s h' L):h=h':=by
 have ne:∀ k:Int,k≠0→okH s k L=true→pH s k L≠[]∧pH s k L=rH s k L:=by
  intro k hk ho
  have e:pH s k L=rH s k L:=if_neg hk
  unfold okH at ho
  have hb:(k == 0)=false:=by simpa using hk
  rw [hb,Bool.false_or]at ho
  refine ⟨?_,e⟩
  rw [e]
  intro h0
  rw [h0]at ho
  cases ho
 by_cases z:h=0
 ·by_cases z':h'=0
  ·rw [z,z']
  ·have:pH s h L=[]:=if_pos z
   exact absurd (he.symm.trans this) (ne h' z' h2).1
 ·by_cases z':h'=0
  ·have:pH s h' L=[]:=if_pos z'
   exact absurd (he.trans this) (ne h z h1).1
  ·obtain ⟨a1,a2⟩:=ne h z h1
   obtain ⟨b1,b2⟩:=ne h' z' h2
   rw [a2,b2]at he
   rw [a2]at a1
   rw [b2]at b1
   unfold rH at he a1 b1
   by_cases s1:s=1
   ·rw [if_pos s1,if_pos s1,List.cons.injEq]at he
    have hd:=dig2_inj
    rw [List.all_eq_true]at hd
    have hd1:=hd h.toNat (List.mem_range.2 zqo)
    rw [List.all_eq_true]at hd1
    have hd2:=hd1 h'.toNat (List.mem_range.2 zqo)
    rw [he.2]at hd2
    simp at hd2
    omega
   ·rw [if_neg s1]at a1 b1
    by_cases q:(s=2∨s=4)∧h=L
    ·by_cases q':(s=2∨s=4)∧h'=L
     ·rw [q.2,q'.2]
     ·rw [if_neg q']at b1;exact absurd rfl b1
    ·rw [if_neg q]at a1;exact absurd rfl a1
theorem spot_of (s crs c:Int)(hs:spotErr s crs=0)(h:standsB s crs c=true):crs=spotOf s c:=by
 have hk:¬ ¬ (1≤s∧s≤4):=by intro k;unfold spotErr at hs;rw [if_pos k]at hs;cases hs
 unfold spotErr at hs
 rw [if_neg hk]at hs
 have hb:¬ ((crs<0∨6<crs)∨(s=4∧crs≠0)):=by intro k;rw [if_pos k]at hs;cases hs
 unfold standsB at h
 unfold spotOf
 by_cases h0:0<crs
 ·rw [if_pos h0]at h
  have:c=crs:=by simpa using h
  rw [if_neg (by omega)];exact this.symm
 ·rw [if_neg h0]at h
  have h':s=4∨6<c:=by simpa using h
  rw [if_pos h'];omega
theorem cell_inj (s crs c f r g h c' f' r' g' h' L:Int) (hsp:spotErr s crs=0) (hc:1≤c∧c≤14) (hf:0≤f∧f≤18) (hr:0≤r∧r≤3) (hg:0≤g∧g≤4) (hh:0≤h∧h≤15)
  (hc':1≤c'∧c'≤14) (hf':0≤f'∧f'≤18) (hr':0≤r'∧r'≤3) (hg':0≤g'∧g'≤4) (hh':0≤h'∧h'≤15)
  (hst:standsB s crs c=true) (hst':standsB s crs c'=true) (ho:cellOk s c f r g h L=true) (ho':cellOk s c' f' r' g' h' L=true) (he:cellS s c f r g h L=cellS s c' f' r' g' h' L) :
  c=c'∧f=f'∧r=r'∧g=g'∧h=h':=by
 have hs:1≤s∧s≤4:=by
  by_cases k:1≤s∧s≤4
  ·exact k
  ·unfold spotErr at hsp;rw [if_pos k] at hsp;cases hsp
 simp only [cellOk,Bool.and_eq_true] at ho ho'
 obtain ⟨l1,l2⟩:=sym_law s c f hs hc hf
 obtain ⟨m1,m2⟩:=sym_law s c' f' hs hc' hf'
 unfold cellS at he
 rw [l2 ho.1.1.1,m2 ho'.1.1.1,List.append_assoc,List.append_assoc,List.append_assoc,List.append_assoc] at he
 obtain ⟨a,b⟩:=split_pre (fun x=>!isM s x) _ _ _ _ (sym_noMark s c f hs hc hf) (sym_noMark s c' f' hs hc' hf') (marks_head s r g h L hs hg) (marks_head s r' g' h' L hs hg') he
 obtain ⟨x,y,z⟩:=marks_split s r g h r' g' h' L hs hg hg' b
 have e0:symErr s c f=0:=by
  have hne:rS s c f≠[]:=by intro k;rw [k] at l1;rw [l1] at ho;simp at ho
  unfold symErr;rw [if_neg (fun k=>k hs),if_neg (by omega),if_neg (by omega),if_neg hne]
 have e0':symErr s c' f'=0:=by
  have hne:rS s c' f'≠[]:=by intro k;rw [k] at m1;rw [m1] at ho';simp at ho'
  unfold symErr;rw [if_neg (fun k=>k hs),if_neg (by omega),if_neg (by omega),if_neg hne]
 have p1:=(apart_law s c f e0).2
 have p2:=(apart_law s c' f' e0').2
 rw [← spot_of s crs c hsp hst,a] at p1
 rw [← spot_of s crs c' hsp hst',p1] at p2
 simp only [Prod.mk.injEq,and_true] at p2
 exact ⟨p2.1,p2.2,right_inj s r r' hs hr hr' ho.1.1.2 ho'.1.1.2 x,grace_inj s g g' hs hg hg' ho.1.2 ho'.1.2 y,hold_inj s h h' L hs hh hh' ho.2 ho'.2 z⟩
end
section
open Go.RowKit
def pcOk(s crs L:Int)(l:List UInt8)(c f r g h:Nat):Prop:=(1≤c∧c≤14)∧f≤18∧standsB s crs c=true∧stM s c f l L r g h=true
theorem pcOk_uniq {s crs L:Int} {l:List UInt8} {c f r g h c' f' r' g' h':Nat} (hsp:spotErr s crs=0) (hL:0≤L∧L≤15) (a:pcOk s crs L l c f r g h) (b:pcOk s crs L l c' f' r' g' h') :
  c=c'∧f=f'∧r=r'∧g=g'∧h=h':=by
 obtain ⟨a1,a2,a3,a4⟩:=a
 obtain ⟨b1,b2,b3,b4⟩:=b
 obtain ⟨a5,a6,a7⟩:=stM_ok a4
 obtain ⟨b5,b6,b7⟩:=stM_ok b4
 have k:=cell_inj s crs c f r g h c' f' r' g' h' L hsp zqo zqo zqo zqo zqo zqo zqo zqo zqo zqo a3 b3 a6 b6 (a7.trans b7.symm)
 omega
end
section
open Go.RowKit
theorem scanC_mem (m:Nat→Nat→Bool):∀ (n c a b:Nat),scanC m c n=some (a,b)→c≤a∧a<c+n∧b≤18∧m a b=true:=by
 intro n
 induction n with
 | zero=>intro c a b h;cases h
 | succ n ih =>
  intro c a b h
  rw [scanC_succ] at h
  cases e:scanF (m c) 0 19 with
  | none =>
   rw [e] at h
   obtain⟨x,y,z⟩:=ih (c+1) a b h
   exact⟨by omega,by omega,z⟩
  | some f =>
   rw [e] at h
   simp only [Option.some.injEq,Prod.mk.injEq] at h
   obtain⟨rfl,rfl⟩:=h
   unfold scanF at e
   have h1:=List.find?_some e
   have h2:=List.mem_of_find?_eq_some e
   rw [List.mem_range'_1] at h2
   exact⟨by omega,by omega,by omega,h1⟩
theorem placeOf_cases {s crs:Int} (l:List UInt8) (h:spotErr s crs=0) :
  (∃ c f:Nat,placeOf s crs l=((c:Int),(f:Int),0)∧(1≤c∧c≤14)∧f≤18∧standsB s crs c=true∧rS s c f=l)∨placeOf s crs l=(0,0,4):=by
 cases e:scanC (plM s crs l) 1 14 with
 | none=>exact .inr (placeOf_none h e)
 | some cf =>
  obtain ⟨c,f⟩:=cf
  obtain ⟨x,y,z,m⟩:=scanC_mem _ _ _ _ _ e
  unfold plM at m
  simp only [Bool.and_eq_true] at m
  exact .inl ⟨c,f,placeOf_some h e,by omega,z,m.1,by simpa using m.2.2⟩
theorem spotErr_sys {s crs:Int} (h:spotErr s crs=0):1≤s∧s≤4:=by
 by_cases k:1≤s∧s≤4
 ·exact k
 ·unfold spotErr at h;rw [if_pos k]at h;cases h
theorem pcOk_sym {s crs L:Int} {l:List UInt8} {c f r g h:Nat} (hsp:spotErr s crs=0) (a:pcOk s crs L l c f r g h) :
  1≤(rS s c f).length∧(rS s c f).length≤l.length∧placeOf s crs (l.take (rS s c f).length)=((c:Int),(f:Int),0):=by
 obtain ⟨a1,a2,a3,a4⟩:=a
 obtain ⟨a5,a6,a7⟩:=stM_ok a4
 have hs:=spotErr_sys hsp
 obtain ⟨l1,l2⟩:=sym_law s c f hs zqo zqo
 have hok:pOk s c f=true:=by
  cases e:pOk s c f with
  | true=>rfl
  | false=>unfold cellOk at a6;rw [e]at a6;simp at a6
 have hne:rS s c f≠[]:=by intro k;rw [k]at l1;rw [l1]at hok;simp at hok
 have e0:symErr s c f=0:=by unfold symErr;rw [if_neg (fun k=>k hs),if_neg (by omega),if_neg (by omega),if_neg hne]
 have hl:l=rS s c f++(rR s r++(rG s g++pH s h L)):=by
  rw [← a7];unfold cellS;rw [l2 hok];simp
 have ht:l.take (rS s c f).length=rS s c f:=by rw [hl];simp
 have hlen:(rS s c f).length≤l.length:=by rw [hl];simp
 have hp:=(apart_law s c f e0).2
 rw [← spot_of s crs c hsp a3]at hp
 refine ⟨?_,hlen,by rw [ht];exact hp⟩
 cases hq:rS s c f with
 | nil=>exact absurd hq hne
 | cons x t=>simp
end
section
open Go.RowKit
theorem rm_sound {s crs:Int} {w:List UInt8} {n:Nat} {c f:Int} {x:Int×Int×Int} (hsp:spotErr s crs=0) (h1:1≤n) (hn:n≤w.length) (hp:placeOf s crs (w.take n)=(c,f,0)) (hm:rm_mk s (decide (0<f)) (w.drop n)=some x) :
  ∃ c' f' r g h:Nat,c=(c':Int)∧f=(f':Int)∧pcOk s crs 15 w c' f' r g h∧x=((r:Int),(g:Int),rm_hold s h):=by
 have hs:=spotErr_sys hsp
 rcases placeOf_cases (w.take n) hsp with⟨c',f',p1,p2,p3,p4,p5⟩|p
 ·rw [hp] at p1
  obtain ⟨rfl,rfl⟩:c=(c':Int)∧f=(f':Int):=by
   have:=Prod.mk.inj p1
   exact ⟨this.1,(Prod.mk.inj this.2).1⟩
  obtain ⟨r,g,h,q1,q2,q3,q4,q5,q6,q7,q8,q9⟩:=rm_of hs hm
  obtain ⟨l1,l2⟩:=sym_law s c' f' hs zqo zqo
  have hne:rS s c' f'≠[]:=by
   rw [p5]
   intro e
   have:=congrArg List.length e
   rw [List.length_take,List.length_nil] at this
   omega
  have hok:pOk s c' f'=true:=by
   rw [l1]
   cases hz:rS s c' f' with
   | nil=>exact absurd hz hne
   | cons _ _=>rfl
  have hw:cellS s c' f' r g h 15=w:=by
   unfold cellS
   rw [l2 hok,p5,List.append_assoc,List.append_assoc,← List.append_assoc (rR s r),← q8,List.take_append_drop]
  refine ⟨c',f',r,g,h,rfl,rfl,⟨p2,p3,p4,?_⟩,q9⟩
  unfold stM
  rw [hw]
  have hd:decide (r≤3∧g≤4∧(h:Int)≤15∧(0<h→(f':Int)≠0))=true:=decide_eq_true ⟨q1,q2,by omega,fun k=>by have:=of_decide_eq_true (q7 k);omega⟩
  rw [hd]
  unfold cellOk
  rw [hok,q4,q5,q6]
  simp
 ·rw [hp] at p
  have:=Prod.mk.inj (Prod.mk.inj p).2
  exact absurd this.2 (by decide)
theorem rm_complete {s crs:Int} {w:List UInt8} {c f r g h:Nat} (hsp:spotErr s crs=0) (a:pcOk s crs 15 w c f r g h) :
  1≤(rS s c f).length∧(rS s c f).length≤w.length∧placeOf s crs (w.take (rS s c f).length)=((c:Int),(f:Int),0)∧rm_mk s (decide (0<(f:Int))) (w.drop (rS s c f).length)=some ((r:Int),(g:Int),rm_hold s h):=by
 obtain ⟨b1,b2,b3⟩:=pcOk_sym hsp a
 have hs:=spotErr_sys hsp
 obtain ⟨a1,a2,a3,a4⟩:=a
 obtain ⟨a5,a6,a7⟩:=stM_ok a4
 obtain ⟨l1,l2⟩:=sym_law s c f hs zqo zqo
 unfold cellOk at a6
 simp only [Bool.and_eq_true] at a6
 have hw:w=rS s c f++(rR s r++rG s g++pH s h 15):=by
  rw [← a7];unfold cellS;rw [l2 a6.1.1.1];simp
 refine ⟨b1,b2,b3,?_⟩
 have hd:w.drop (rS s c f).length=rR s r++rG s g++pH s h 15:=by rw [hw,List.drop_left]
 rw [hd]
 exact rm_back hs zqo zqo zqo a6.1.1.2 a6.1.2 a6.2 (fun k=>decide_eq_true zqo)
end
section
open Go.RowKit
def ri_lt(b:UInt8):Nat:=([67,68,69,70,71,65,66]:List UInt8).idxOf b
def ri_alt:List UInt8→Int×List UInt8
 | b::r=>if b=35 then(1,r)else if b=98 then(-1,r)else(0,b::r)
 | []=>(0,[])
def ri_oct (r:List UInt8):Option Int :=
 if r=[45,49]then some (-1)else
 match r with
 | [b]=>if 48≤b.toNat∧b.toNat≤57 then some ((b.toNat:Int)-48)else none
 | _=>none
def ri_nm (t:List UInt8):(Int×Int×Int)×Int :=
 match t with
 | []=>((0,0,0),4)
 | c::r =>
  if 7≤ri_lt c then ((0,0,0),4)else
  match ri_oct (ri_alt r).2 with
  | none=>((0,0,0),4)
  | some o=>if sndOk (ri_lt c) (ri_alt r).1 o=true then (((ri_lt c:Nat),(ri_alt r).1,o),0)else ((0,0,0),10)
def ri_cut (t:List UInt8):Option (List UInt8×List UInt8) :=
 match rq_wds 47 t with
 | a::b::r=>some (a,t.drop (a.length+1))
 | _=>none
def ri_plus(b:List UInt8):List UInt8×Bool:=if b.getLast?=some 43 then(b.dropLast,true)else(b,false)
def ri_crs (t:List UInt8):(Int×Int×Bool)×Int :=
 match ri_cut t with
 | none=>((0,0,false),4)
 | some (a,b) =>
  if (ri_nm a).2=4 then ((0,0,false),4)else
  match rq_numR (ri_plus b).1 with
  | none=>((0,0,false),4)
  | some n=>if (ri_nm a).2≠0 then ((0,0,false),(ri_nm a).2)else ((sndV (ri_nm a).1.1 (ri_nm a).1.2.1 (ri_nm a).1.2.2,(n:Int),(ri_plus b).2),0)
theorem ri_alt_len(r:List UInt8):(ri_alt r).2.length≤r.length:=by
 unfold ri_alt
 split
 ·split
  ·simp
  ·split<;>simp
 ·simp
theorem ri_cut_at {a b:List UInt8} (h:rq_NoB 47 a):ri_cut (a++47::b)=some (a,b):=by
 unfold ri_cut
 rw [rq_wds_cons 47 a b h]
 obtain⟨x,y,hxy⟩:∃ x y,rq_wds 47 b=x::y:=by
  have:=rq_wds_len 47 b
  match hw:rq_wds 47 b with
  | []=>rw [hw]at this;simp at this
  | x::y=>exact⟨x,y,rfl⟩
 rw [hxy]
 dsimp only
 rw [show a++47::b=(a++[47])++b by simp,show a.length+1=(a++[47]).length by simp,List.drop_left]
theorem ri_cut_no {t:List UInt8} (h:rq_NoB 47 t):ri_cut t=none:=by
 unfold ri_cut
 rw [rq_wds_one 47 t h]
theorem ri_slash:∀ t:List UInt8,(∃ a b,t=a++47::b∧rq_NoB 47 a)∨rq_NoB 47 t
 | []=>.inr fun b hb=>by cases hb
 | x::r=>by
  by_cases h:x=47
  ·exact .inl ⟨[],r,by simp [h],fun b hb=>by cases hb⟩
  ·rcases ri_slash r with⟨a,b,e,hn⟩|hn
   ·refine .inl ⟨x::a,b,by simp [e],fun y hy=>?_⟩
    rcases List.mem_cons.1 hy with rfl|k
    ·exact h
    ·exact hn y k
   ·refine .inr fun y hy=>?_
    rcases List.mem_cons.1 hy with rfl|k
    ·exact h
    ·exact hn y k
def ri_col:List (List UInt8)→Option (List (List UInt8)×List (List UInt8))
 | []=>none
 | w::r=>if w=[58]then some ([],r)else (ri_col r).map fun x=>(w::x.1,x.2)
def ri_err:List (List UInt8)→Int
 | []=>0
 | w::r=>if (ri_crs w).2≠0 then (ri_crs w).2 else ri_err r
def ri_stp:List (List UInt8)→Int
 | []=>0
 | w::r=>if (rq_numR w).isSome then ri_stp r else 4
def ri_raw (t:List UInt8):(List (Int×Int×Bool)×List Int)×Int :=
 match ri_col (rq_wds 32 t)with
 | none=>(([],[]),4)
 | some (a,b)=>if ri_err a≠0 then (([],[]),ri_err a)else if ri_stp b≠0 then (([],[]),ri_stp b)else ((a.map fun w=>(ri_crs w).1,b.map fun w=>(((rq_numR w).getD 0:Nat):Int)),0)
end
section
open Go.RowKit
abbrev N5:=Nat×Nat×Nat×Nat×Nat
abbrev Crs:=Int×Int×Bool
open Classical in
noncomputable def nr_cl (s crs:Int)(w:List UInt8):Option N5 :=
 if h:∃ x:N5,pcOk s crs 15 w x.1 x.2.1 x.2.2.1 x.2.2.2.1 x.2.2.2.2 then some (Classical.choose h)else none
theorem nr_cl_some {s crs:Int} {w:List UInt8} {c f r g h:Nat} (hsp:spotErr s crs=0) (a:pcOk s crs 15 w c f r g h):nr_cl s crs w=some (c,f,r,g,h):=by
 have ex:∃ x:N5,pcOk s crs 15 w x.1 x.2.1 x.2.2.1 x.2.2.2.1 x.2.2.2.2:=⟨(c,f,r,g,h),a⟩
 unfold nr_cl
 rw [dif_pos ex]
 obtain ⟨e1,e2,e3,e4,e5⟩:=pcOk_uniq hsp zqo (Classical.choose_spec ex) a
 exact congrArg some (Prod.ext e1 (Prod.ext e2 (Prod.ext e3 (Prod.ext e4 e5))))
theorem nr_cl_of {s crs:Int} {w:List UInt8} {x:N5} (h:nr_cl s crs w=some x):pcOk s crs 15 w x.1 x.2.1 x.2.2.1 x.2.2.2.1 x.2.2.2.2:=by
 unfold nr_cl at h
 split at h
 ·rename_i ex
  cases h
  exact Classical.choose_spec ex
 ·cases h
theorem nr_cl_none {s crs:Int} {w:List UInt8}:(∀ c f r g h:Nat,¬ pcOk s crs 15 w c f r g h)↔nr_cl s crs w=none:=by
 constructor
 ·intro h
  unfold nr_cl
  rw [dif_neg]
  rintro ⟨x,hx⟩
  exact h _ _ _ _ _ hx
 ·intro h c f r g k a
  unfold nr_cl at h
  rw [dif_pos ⟨(c,f,r,g,k),a⟩]at h
  cases h
noncomputable def nr_wd (s:Int)(n i:Nat)(w:List UInt8):Option (Option N5) :=
 if i<n then (if w=[45] then some none else (nr_cl s ((i:Int)+1) w).map some) else (nr_cl s 0 w).map some
noncomputable def nr_x (s:Int)(n:Nat)(W:List (List UInt8))(i:Nat):List N5:=((nr_wd s n i ((W[i]?).getD [])).getD none).toList
noncomputable def nr_L (s:Int)(n:Nat)(W:List (List UInt8))(k:Nat):List N5:=(List.range k).flatMap (nr_x s n W)
def nr_asc(l:List N5):Prop:=l.Pairwise fun a b=>a.1<b.1
open Classical in
noncomputable def nr_chW (s:Int)(n:Nat)(W:List (List UInt8)):Option (List N5) :=
 if n≤W.length∧(∀ i (h:i<W.length),(nr_wd s n i W[i]).isSome=true)∧nr_asc (nr_L s n W W.length)∧nr_L s n W W.length≠[]then some (nr_L s n W W.length)else none
theorem nr_ch_short {s:Int} {n:Nat} {W:List (List UInt8)} (h:W.length<n):nr_chW s n W=none:=if_neg fun k=>by have:=k.1;omega
theorem nr_ch_word {s:Int} {n i:Nat} {W:List (List UInt8)} (hi:i<W.length)(h:nr_wd s n i W[i]=none):nr_chW s n W=none:=if_neg fun k=>by
 have:=k.2.1 i hi
 rw [h]at this;cases this
theorem nr_ch_asc {s:Int} {n:Nat} {W:List (List UInt8)} (h:¬ nr_asc (nr_L s n W W.length)):nr_chW s n W=none:=if_neg fun k=>h k.2.2.1
theorem nr_ch_nil {s:Int} {n:Nat} {W:List (List UInt8)} (h:nr_L s n W W.length=[]):nr_chW s n W=none:=if_neg fun k=>k.2.2.2 h
theorem nr_ch_yes {s:Int} {n:Nat} {W:List (List UInt8)} (h1:n≤W.length) (h2:∀ i (h:i<W.length),(nr_wd s n i W[i]).isSome=true) (h3:nr_asc (nr_L s n W W.length)) (h4:nr_L s n W W.length≠[]) :
  nr_chW s n W=some (nr_L s n W W.length):=if_pos ⟨h1,h2,h3,h4⟩
theorem nr_L_0 (s:Int)(n:Nat)(W:List (List UInt8)):nr_L s n W 0=[]:=rfl
theorem nr_L_s (s:Int)(n:Nat)(W:List (List UInt8))(k:Nat):nr_L s n W (k+1)=nr_L s n W k++nr_x s n W k:=by
 unfold nr_L;rw [List.range_succ,List.flatMap_append];simp
theorem nr_L_pre (s:Int)(n:Nat)(W:List (List UInt8)) {k m:Nat} (h:k≤m):nr_L s n W k <+: nr_L s n W m:=by
 obtain⟨d,rfl⟩:=Nat.exists_eq_add_of_le h
 induction d with
 | zero=>exact List.prefix_refl _
 | succ d ih=>exact (ih (by omega)).trans (by rw [← Nat.add_assoc,nr_L_s];exact List.prefix_append _ _)
theorem nr_x_at {s:Int} {n:Nat} {W:List (List UInt8)} {k:Nat} (h:k<W.length):nr_x s n W k=((nr_wd s n k W[k]).getD none).toList:=by
 unfold nr_x;rw [List.getElem?_eq_getElem h];rfl
theorem nr_cl_crs {s:Int} {c:Nat} {w:List UInt8} {x:N5} (hc:0<c)(h:nr_cl s c w=some x):x.1=c:=by
 have a:=(nr_cl_of h).2.2.1
 unfold standsB at a
 rw [if_pos (by omega)]at a
 have:=of_decide_eq_true (by simpa using a:decide ((x.1:Int)=(c:Int))=true)
 omega
theorem nr_cl_out {s:Int} {w:List UInt8} {x:N5} (h:nr_cl s 0 w=some x):s=4∨6<x.1:=by
 have a:=(nr_cl_of h).2.2.1
 unfold standsB at a
 rw [if_neg (by omega)]at a
 simp only [Bool.or_eq_true,beq_iff_eq,decide_eq_true_eq]at a
 omega
theorem nr_cl_bd {s crs:Int} {w:List UInt8} {x:N5} (h:nr_cl s crs w=some x):1≤x.1∧x.1≤14∧x.2.1≤18∧x.2.2.1≤3∧x.2.2.2.1≤4∧x.2.2.2.2≤15:=by
 obtain⟨a1,a2,a3,a4⟩:=nr_cl_of h
 obtain⟨a5,a6,a7⟩:=stM_ok a4
 omega
theorem nr_wd_bd {s:Int} {n i:Nat} {w:List UInt8} {x:N5} (h:nr_wd s n i w=some (some x)):1≤x.1∧x.1≤14∧x.2.1≤18∧x.2.2.1≤3∧x.2.2.2.1≤4∧x.2.2.2.2≤15:=by
 unfold nr_wd at h
 split at h
 ·split at h
  ·cases h
  ·obtain⟨y,hy,e⟩:=Option.map_eq_some_iff.1 h
   cases e
   exact nr_cl_bd hy
 ·obtain⟨y,hy,e⟩:=Option.map_eq_some_iff.1 h
  cases e
  exact nr_cl_bd hy
theorem nr_x_bd {s:Int} {n:Nat} {W:List (List UInt8)} {i:Nat} {x:N5} (h:x∈nr_x s n W i):1≤x.1∧x.1≤14∧x.2.1≤18∧x.2.2.1≤3∧x.2.2.2.1≤4∧x.2.2.2.2≤15:=by
 unfold nr_x at h
 cases hw:nr_wd s n i ((W[i]?).getD [])with
 | none=>rw [hw]at h;cases h
 | some o =>
  rw [hw]at h
  cases o with
  | none=>cases h
  | some y =>
   obtain rfl:x=y:=by simpa using h
   exact nr_wd_bd hw
theorem nr_L_bd {s:Int} {n:Nat} {W:List (List UInt8)} {k:Nat} {x:N5} (h:x∈nr_L s n W k):1≤x.1∧x.1≤14∧x.2.1≤18∧x.2.2.1≤3∧x.2.2.2.1≤4∧x.2.2.2.2≤15:=by
 obtain⟨i,_,hi⟩:=List.mem_flatMap.1 h
 exact nr_x_bd hi
theorem nr_asc_len:∀ {l:List N5} {a:Nat},nr_asc l→(∀ x∈l,a<x.1∧x.1≤14)→l.length+a≤14∨l=[]
 | [],_,_,_=>.inr rfl
 | x::r,a,h,hb=>by
  have h1:=hb x (by simp)
  obtain⟨h2,h3⟩:=List.pairwise_cons.1 h
  rcases nr_asc_len (a:=x.1) h3 (fun y hy=>⟨h2 y hy,(hb y (by simp [hy])).2⟩) with k|k
  ·simp only [List.length_cons];omega
  ·subst k;simp only [List.length_cons,List.length_nil];omega
def nr_rev (s:Int)(words:List (List UInt8)):List (List UInt8):=if s=2 then words.reverse else words
def nr_staff(s:Int)(cs:List Crs):Nat:=if s=4 then 0 else min cs.length 6
noncomputable def nr_ch (s:Int)(n:Nat)(words:List (List UInt8)):Option (List N5):=nr_chW s n (nr_rev s words)
structure NC where
 bar:Bool
 v:Nat
 i:Nat
 tie:Bool
 l:List N5
noncomputable def nr_body (s:Int) (n:Nat) (bar:Bool) (v i:Nat) (ws:List (List UInt8)):Option NC :=
 if ws=[[126]]∧s≠4 then some ⟨bar,v,i,true,[]⟩else if ws=[[37]]∧s≠3 then some ⟨bar,v,i,false,[]⟩else (nr_ch s n ws).map fun l=>⟨bar,v,i,false,l⟩
noncomputable def nr_time (s:Int)(n:Nat)(bar:Bool):List (List UInt8)→Option NC
 | sg::w::r=>(scanT (tmM s sg) 0 8).bind fun x=>nr_body s n bar x.1 x.2 (w::r)
 | _=>none
noncomputable def nr_form (s:Int)(n:Nat)(t:List UInt8):Option NC :=
 match rq_wds 32 t with
 | w::r=>if w=[124]then nr_time s n true r else nr_time s n false (w::r)
 | []=>none
def nr_note (cs:List Crs) (x:N5):Int:=if cs.length<x.1 then 12 else if (cs.getD (x.1-1) (0,0,false)).2.1<(x.2.1:Int)then 13 else 0
def nr_notes(cs:List Crs):List N5→Int
 | []=>0
 | x::r=>if nr_note cs x≠0 then nr_note cs x else nr_notes cs r
def nr_chk(cs:List Crs)(first:Bool)(x:NC):Int:=if first=true∧x.v=0 then 20 else if(first && x.tie)=true then 21 else nr_notes cs x.l
noncomputable def nr_err (s:Int)(cs:List Crs)(k:Nat)(t:List UInt8):Int :=
 match nr_form s (nr_staff s cs) t with
 | none=>4
 | some x=>nr_chk cs (k == 0) x
noncomputable def nr_nc (s:Int) (cs:List Crs) (t:List UInt8):NC:=(nr_form s (nr_staff s cs) t).getD ⟨false,0,0,false,[]⟩
noncomputable def nr_bad (s:Int)(cs:List Crs):Nat→List (List UInt8)→Option (Nat×Int)
 | _,[]=>none
 | k,t::r=>if nr_err s cs k t≠0 then some (k,nr_err s cs k t) else nr_bad s cs (k+1) r
theorem nr_bad_at {s:Int} {cs:List Crs}:∀ {L:List (List UInt8)} {k j:Nat} (hj:j<L.length),(∀ i (hi:i<L.length),i<j→nr_err s cs (k+i) L[i]=0)→nr_err s cs (k+j) L[j]≠0→nr_bad s cs k L=some (k+j,nr_err s cs (k+j) L[j])
 | t::r,k,0,hj,_,h=>by
  unfold nr_bad
  rw [if_pos (by simpa using h)];rfl
 | t::r,k,j+1,hj,h1,h=>by
  have h0:=h1 0 (by simp) (by omega)
  simp only [Nat.add_zero,List.getElem_cons_zero] at h0
  unfold nr_bad
  rw [if_neg (by rw [h0];decide),nr_bad_at (k:=k+1) (j:=j) (by simpa using hj) (fun i hi hij=>by
   have:=h1 (i+1) (by simpa using hi) (by omega)
   rw [List.getElem_cons_succ] at this
   rw [← this];congr 1;omega) (by
   rw [List.getElem_cons_succ] at h
   rw [show k+1+j=k+(j+1) by omega];exact h)]
  rw [List.getElem_cons_succ,show k+1+j=k+(j+1) by omega]
theorem nr_bad_none {s:Int} {cs:List Crs}:∀ {L:List (List UInt8)} {k:Nat},(∀ i (hi:i<L.length),nr_err s cs (k+i) L[i]=0)→nr_bad s cs k L=none
 | [],_,_=>rfl
 | t::r,k,h=>by
  have h0:=h 0 (by simp)
  simp only [Nat.add_zero,List.getElem_cons_zero] at h0
  unfold nr_bad
  rw [if_neg (by rw [h0];decide)]
  exact nr_bad_none fun i hi=>by
   have:=h (i+1) (by simpa using hi)
   rw [List.getElem_cons_succ] at this
   rw [← this];congr 1;omega
def nr_evW(x:NC)(w:N5→Int):Ev:=⟨x.bar,x.v,sgD x.i,sgT x.i,x.tie,x.l.map fun n=>(n.1,n.2.1,n.2.2.1,n.2.2.2.1,w n)⟩
def nr_ev0(x:NC):Ev:=nr_evW x fun _=>0
def nr_lg (E:List NC)(i:Nat)(x:N5):Int:=(longestN (E.map nr_ev0) i x.1:Int)
def nr_hE (s:Int)(E:List NC)(i:Nat)(x:N5):Bool:=decide (x.2.2.2.2≠0) && (decide (nr_lg E i x=0)|| (decide (s=1) && decide (nr_lg E i x<x.2.2.2.2)))
def nr_hV(s:Int)(E:List NC)(i:Nat)(x:N5):Int:=if x.2.2.2.2=0 then 0 else if s=1 then(x.2.2.2.2:Int)else nr_lg E i x
def nr_hB (s:Int) (E:List NC):Option Nat:=(List.range E.length).find? fun i=>((E[i]?).getD ⟨false,0,0,false,[]⟩).l.any (nr_hE s E i)
def nr_fin (s:Int)(E:List NC):List Ev:=E.mapIdx fun i x=>nr_evW x (nr_hV s E i)
def nr_sys(l:List UInt8):Option Int :=
 if l.take 10=[116,97,98,108,97,116,117,114,101,32]then
  (if [102,114,101,110,99,104]=l.drop 10 then some 1 else if [105,116,97,108,105,97,110]=l.drop 10 then some 2 else if [115,112,97,110,105,115,104]=l.drop 10 then some 3 else if [103,101,114,109,97,110]=l.drop 10 then some 4 else none)
 else none
def nr_ins (t:List UInt8):(List Crs×List Int)×Int :=
 if (ri_raw t).2≠0 then (([],[]),(ri_raw t).2)else if insE (ri_raw t).1.1 (ri_raw t).1.2≠0 then (([],[]),insE (ri_raw t).1.1 (ri_raw t).1.2)else ((ri_raw t).1,0)
abbrev NRes:=Int×Pce×Int×Int
def nr_no(line e:Int):NRes:=(0,⟨[],[],[]⟩,line,e)
noncomputable def nr_evs (s:Int)(cs:List Crs)(st:List Int)(tl:List UInt8)(L:List (List UInt8)):NRes :=
 match nr_bad s cs 0 L with
 | some (k,e)=>nr_no ((k:Int)+3) e
 | none =>
  if tl≠[] then nr_no ((L.length:Int)+3) 4 else
  match nr_hB s (L.map (nr_nc s cs)) with
  | some i=>nr_no ((i:Int)+3) 24
  | none=>(s,⟨cs,st,nr_fin s (L.map (nr_nc s cs))⟩,0,0)
noncomputable def nr_two (s:Int)(tl:List UInt8):List (List UInt8)→NRes
 | []=>nr_no 2 4
 | l::L =>
  if (nr_ins l).2≠0 then nr_no 2 (nr_ins l).2 else
  if 400<L.length+(if tl=[]then 0 else 1)then nr_no 403 2 else nr_evs s (nr_ins l).1.1 (nr_ins l).1.2 tl L
noncomputable def nr_one (tl:List UInt8):List (List UInt8)→NRes
 | []=>nr_no 1 4
 | l::L=>match nr_sys l with
  | none=>nr_no 1 4
  | some s=>nr_two s tl L
noncomputable def nr_read (t:List UInt8):NRes:=nr_one (rq_spl 10 t).2 (rq_spl 10 t).1
end
section
open Go.RowKit
theorem Ctr.of_ins {P:Program} {f:FuncId} {cs:List (Int×Int×Bool)} {st:List Int} {post:List AV} {ys:List Value} {res:AV} {v:Value} (hs2:scs post=some ys) (hv:∀ F,RP F res v)
  (h:∀ w A1 A2 c1 c2,InsAt w w.heap.size A1 A2 cs st→Calls P f (.agg #[.slice A1 cs.length c1,.slice A2 st.length c2]::ys).toArray w (Ret v w)):Ctr P f (.ag (eIns cs st)::post) res:=by
 intro w F vs hF hR
 match vs,hR.1,hR.2 with
 | u::us,hlen,hR2 =>
  have r:=hR2 0 _ u rfl rfl
  obtain ⟨xs,rfl,q1,q2⟩:∃ xs:Array Value,u=.agg xs∧xs.size=2∧∀ (i:Nat) av u,(eIns cs st)[i]?=some av→xs[i]?=some u→RP F av u:=by
   cases r with|ag l cs a b=>exact ⟨cs,rfl,a,b⟩
  have g:∀ i (h:i<2),xs[i]?=some (xs[i]'(by omega)):=fun i h=>Array.getElem?_eq_getElem (by omega)
  obtain ⟨A1,c1,A2,c2,e1,e2,hI⟩:=ins_of_rp hF (q2 0 _ _ rfl (g 0 zqo)) (q2 1 _ _ rfl (g 1 zqo))
  have ex:xs=#[.slice A1 cs.length c1,.slice A2 st.length c2]:=by
   apply Array.ext (by simp [q1])
   intro i hi hi2
   match i,(show i<2 by omega) with
   | 0,_=>exact e1
   | 1,_=>exact e2
  have ey:us=ys:=scs_of (G:=⟨F,fun _=>0,fun _=>0,fun _=>undef,fun _ _=>False⟩) hs2 (by simpa using hlen) fun i av u a b=>.pu _ _ (hR2 (i+1) av u (by simpa using a) (by simpa using b))
  subst ex ey
  exact (h w A1 A2 c1 c2 hI).mono fun e w' ⟨he,hb⟩=>⟨v,F,he,hb,fun _ _ h=>h,fun p u x=>by rw [hb.cell (cell_block (hF p u x))];exact hF p u x,fun _ _ h=>.inl h,hv F⟩
theorem pInsCheck_FS (cs:List (Int×Int×Bool))(st:List Int):Ctr Tryz.prog 103 [.ag (eIns cs st)] (.sc (.int .i64 (insE cs st))) :=
 Ctr.of_ins (post:=[]) rfl (fun _=>.sc _) fun w A1 A2 c1 c2 hI=>insCheck A1 A2 cs st cs.length st.length c1 c2 w hI rfl rfl
theorem rInsCheck_FS (cs:List (Int×Int×Bool))(st:List Int):Ctr Tryz.prog 56 [.ag (eIns cs st)] (.sc (.int .i64 (insE cs st))) :=
 Ctr.of_ins (post:=[]) rfl (fun _=>.sc _) fun w A1 A2 c1 c2 hI=>rInsCheck A1 A2 cs st cs.length st.length c1 c2 w hI rfl rfl
end
section
open Go.RowKit
def eEvO (e:Ev):List AV:=[.sc (.bool e.bar),.sc (.int .i64 e.val),.sc (.bool e.dot),.sc (.bool e.three),.sc (.bool e.tie),.ow 69 5 (e.stops.map eStp)]
theorem fz0(av:AV):av.fz 0=av:=by cases av<;>rfl
theorem fz0_rows (l:List (List AV)):(l.map fun r=>r.map (AV.fz 0))=l:=by
 refine (List.map_congr_left fun r _=>?_).trans (List.map_id _)
 exact (List.map_congr_left fun x _=>fz0 x).trans (List.map_id _)
theorem eEvO_fz (e:Ev):(eEvO e).map (AV.fz 1)=eEv e:=by
 show [_,_,_,_,_,AV.ls 5 ((e.stops.map eStp).map fun r=>r.map (AV.fz 0))]=_
 rw [fz0_rows];rfl
theorem eEvO_rows (l:List Ev):((l.map eEvO).map fun r=>r.map (AV.fz 1))=l.map eEv:=by
 rw [List.map_map]
 exact List.map_congr_left fun e _=>eEvO_fz e
theorem eStp_own(l:List Stp):∀ q∈l.map eStp,∀ av∈q,av.own=false:=fun q hq av hav=>by
 obtain⟨s,_,rfl⟩:=List.mem_map.1 hq
 simp only [eStp,List.mem_cons,List.not_mem_nil,or_false]at hav
 rcases hav with rfl|rfl|rfl|rfl|rfl<;>rfl
theorem own_shal {d:Nat} {av:AV} (h:av.own=false):av.shal d=true:=by
 cases d<;>cases av<;>first|rfl|cases h
theorem eEvO_shal (l:List Ev):∀ r∈l.map eEvO,∀ av∈r,av.shal 1=true:=fun r hr av hav=>by
 obtain⟨e,_,rfl⟩:=List.mem_map.1 hr
 simp only [eEvO,List.mem_cons,List.not_mem_nil,or_false]at hav
 rcases hav with rfl|rfl|rfl|rfl|rfl|rfl
 ·rfl
 ·rfl
 ·rfl
 ·rfl
 ·rfl
 ·show ((e.stops.map eStp).all fun r=>r.all (AV.shal 0))=true
  rw [List.all_eq_true]
  intro q hq
  rw [List.all_eq_true]
  exact fun x hx=>own_shal (eStp_own _ q hq x hx)
end
section
open Go.RowKit
section
variable {P:Program} {C:Cx} {σ:St} {o:Oper} {d:Tmp} {av:AV} {ops:Array Oper} {rest:List Oper} {Q:Exit→St→Prop} {mem:List Bool} {Mc McB:List (Nat×AO)} {e0 nk0 k:Nat}
theorem DTK.mv {x:Operand} (hm:mem.getD k false=true) (hg:o.guard=none) (hds:o.dst=some d) (hdN:Nat.blt d C.N=true) (ho:o.op=.assign x) (hx:σ.ev x=some av) (hs:msSub Mc σ.M) (hsB:Nat.blt k e0=true→msSub McB σ.M)
  (r:DTK P C ops mem Mc McB e0 nk0 (k+1) rest (σ.put d av) Q):DTK P C ops mem Mc McB e0 nk0 k (o::rest) σ Q:=by
 have he:ent1 o.dst true av=[(d,av)]:=by rw [hds];rfl
 refine DTK.wr av hm (Nat.ble_eq_true_of_le (Nat.le_refl _)) hs hsB ⟨hg,fun t H=>?_⟩ (by rw [he];exact r)
 rw [he]
 have hmem:x∈o.op.operands.toList:=by rw [ho];simp [Op.operands]
 exact WO.of_wv (σ:=⟨t,σ.M,σ.nk⟩) hds hdN (stepV_of ho (show stepV P ⟨t,σ.M,σ.nk⟩ (.assign x)=some av from (ev_agree H hmem).trans hx))
end
end
end Go.Proofs.YthehkchjdkdbiaaGreatDoor
