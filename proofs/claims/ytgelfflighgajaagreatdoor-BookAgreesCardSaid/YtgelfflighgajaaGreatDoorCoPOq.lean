/- The column of an event: plain words. -/
import Derived.Test.YtgelfflighgajaaGreatDoorEROq
set_option maxHeartbeats 8000000
set_option maxRecDepth 100000
set_option linter.unusedVariables false
set_option linter.unusedSimpArgs false
namespace Go.Proofs.YtgelfflighgajaaGreatDoor
section
open Go.RowKit
structure StpOk(p:Pce)(k:Nat)(x:Stp):Prop where
 crs:1≤x.1∧x.1≤p.cs.length
 c14:x.1≤14
 fret:0≤x.2.1∧x.2.1≤fretsOf p.cs x.1
 f18:x.2.1≤18
 hold:0≤x.2.2.2.2∧x.2.2.2.2≤longestN p.evs k x.1
 h0:0<x.2.2.2.2→x.2.1≠0
theorem stpOk_of {p:Pce} {i:Nat} {last:Int} {s:Stp} (hI:insE p.cs p.st=0)(h:stopE p i s last=0):StpOk p i s∧last<s.1:=by
 have hb:=stopE_bd hI h
 unfold stopE at h
 by_cases h1:s.1<1∨(p.cs.length:Int)<s.1
 ·rw [if_pos h1]at h;cases h
 ·rw [if_neg h1]at h
  by_cases h2:s.2.1<0∨fretsOf p.cs s.1<s.2.1
  ·rw [if_pos h2]at h;cases h
  ·rw [if_neg h2]at h
   by_cases h3:s.1≤last
   ·rw [if_pos h3]at h;cases h
   ·rw [if_neg h3]at h
    by_cases h4:(s.2.2.1<0∨3<s.2.2.1)∨(s.2.2.2.1<0∨4<s.2.2.2.1)
    ·rw [if_pos h4]at h;cases h
    ·rw [if_neg h4]at h
     by_cases h5:(s.2.2.2.2<0∨(longestN p.evs i s.1:Int)<s.2.2.2.2)∨(0<s.2.2.2.2∧s.2.1=0)
     ·rw [if_pos h5]at h;cases h
     ·exact⟨⟨by omega,by omega,by omega,by omega,by omega,by omega⟩,by omega⟩
theorem stopsE_ok {p:Pce} {i:Nat} (hI:insE p.cs p.st=0):∀ {l:List Stp} {last:Int},stopsE p i last l=0→(∀ x∈l,StpOk p i x∧last<x.1)∧l.Pairwise fun x y=>x.1<y.1:=by
 intro l
 induction l with
 | nil=>intro _ _;exact⟨fun x hx=>(by cases hx),.nil⟩
 | cons x r ih =>
  intro last h
  unfold stopsE at h
  by_cases h1:stopE p i x last≠0
  ·rw [if_pos h1] at h;exact absurd h h1
  ·rw [if_neg h1] at h
   have hx:=stpOk_of hI (by simpa using h1:stopE p i x last=0)
   obtain⟨q1,q2⟩:=ih h
   refine⟨fun y hy=>?_,.cons (fun y hy=>(q1 y hy).2) q2⟩
   rcases List.mem_cons.1 hy with rfl|hy
   ·exact hx
   ·exact⟨(q1 y hy).1,by have:=(q1 y hy).2;omega⟩
structure EvOk(p:Pce)(k:Nat)(e:Ev):Prop where
 sg:sgOk e.val e.dot e.three=true
 first:¬ ((k:Int)=0∧e.val=0)
 tie:e.tie=true→e.stops=[]∧0<k
 stops:∀ x∈e.stops,StpOk p k x
 asc:e.stops.Pairwise fun x y=>x.1<y.1
theorem evOk_of {p:Pce} (h:pceE p=0) {k:Nat} (hk:k<p.evs.length):EvOk p k p.evs[k]:=by
 obtain ⟨h1,h2,h3⟩:=pceE_zero h
 obtain ⟨a,b,c,d⟩:=evE_zero (h3 k hk)
 obtain ⟨q1,q2⟩:=stopsE_ok h1 d
 refine ⟨a,b,fun ht=>?_,fun x hx=>(q1 x hx).1,q2⟩
 have:¬ (0<p.evs[k].stops.length∨(k:Int)=0):=fun hh=>c ⟨ht,hh⟩
 exact ⟨List.eq_nil_of_length_eq_zero zqo,by omega⟩
theorem runL_le'(c:Int):∀ (n:Nat)(l:List Ev),runL c n l≤l.length:=by
 intro n
 induction n with
 | zero=>intro l;unfold runL;first|exact Nat.zero_le _|(split<;>exact Nat.zero_le _)
 | succ n ih =>
  intro l
  cases l with
  | nil=>simp [runL]
  | cons e r =>
   unfold runL
   split
   ·exact Nat.zero_le _
   ·have:=ih r;simp;omega
theorem longestN_end {evs:List Ev} {i:Nat} (h:i<evs.length)(c:Int):i+longestN evs i c+1≤evs.length:=by
 unfold longestN
 rw [if_neg (by omega)]
 have:=runL_le' c 15 (evs.drop ((i:Int).toNat+1))
 simp only [Int.toNat_natCast,List.length_drop]at this ⊢
 omega
end
section
open Go.RowKit
attribute [local go_sem]mk_bs bs_size bs_toList bs_append bs_extract
attribute [local simp]run_cut run_cut_to run_cut_from run_add_bs
theorem of_4 (w:World):Calls Tryz.prog 122 #[.int .u8 4] w fun e w'=>e=.returned (.tuple #[(.iface 261 (.agg #[])),.bool true])∧w=w':=by
 go_enter Tryz.func122,Tryz.ntmps122
 go_wp2
 go_ret2
 exact⟨rfl,rfl⟩
end
section
open Go.RowKit
attribute [local go_sem]mk_bs bs_size bs_toList bs_append bs_extract
attribute [local simp]run_cut run_cut_to run_cut_from run_add_bs
theorem phas_4 (n:Int)(w:World):Calls Tryz.prog 300 #[.agg #[],.int .i64 n] w (Ret (.bool (if (4:Int)=3 then n != 8 else if (4:Int)=4 then n == 8 else true)) w):=by
 go_enter Tryz.func300,Tryz.ntmps300
 go_wp2
 go_ret
 exact Ret.mk' rfl zqb
theorem ptw3_4 (v:Int) (w:World) (hv:1≤v∧v≤7) :
  Calls Tryz.prog 182 #[(.iface 261 (.agg #[])),.agg #[.int .i64 v,.bool false,.bool true]] w (Ret (.tuple #[.string (bs (tW v 2)),.bool (tOk 4 v 2)]) w):=by
 obtain ⟨hv1,hv7⟩:=hv
 have e1:tW v 2=cut [66,83,77,67,81,88,68] (v - 1) v++[51]:=by unfold tW;rw [if_neg (by omega)];rfl
 have e2:tOk 4 v 2=decide ((4:Int)≠4):=by unfold tOk;rw [if_neg (by omega)];rfl
 have H5:=Lib.hid (phas_4 5)
 rw [e1,e2]
 have hb1:(v == 0)=false:=by simp;omega
 have g0:0≤v - 1:=by omega
 have g1:v - 1≤v:=by omega
 have gl:(cut [66,83,77,67,81,88,68] (v - 1) v).length+1≤9223372036854775807:=by
  have:=cut_length [66,83,77,67,81,88,68] (v - 1) v
  simp at this;omega
 have w1:IntKind.i64.wrap (v - 1)=v - 1:=IntWalk.i64_in _ zqo
 clear e1 e2
 go_enter Tryz.func182,Tryz.ntmps182
 go_wp2_with fail
 go_region_held3 (fun w'=>w'.cell? ⟨w.heap.size,0,none⟩=some (.int .i64 v))
  (first|(simp [bc];done)|go_keep)
  ((go_at_call 300;refine (H5.out _).mono ?_;rintro e w' ⟨rfl,hb⟩;obtain ⟨bc,bf⟩:=bcell hb))
 go_wp2_with fail
 go_ret2
 exact Ret.mk' (by simp) zqb
theorem ptw_4 (v:Int) (i:Nat) (w:World) (hv:0≤v∧v≤7) (hi:i≤2) (hz:v=0→i=0) :
    Calls Tryz.prog 182 #[(.iface 261 (.agg #[])),.agg #[.int .i64 v,.bool (sgD i),.bool (sgT i)]] w (Ret (.tuple #[.string (bs (tW v i)),.bool (tOk 4 v i)]) w):=by
  have h3:i=0∨i=1∨i=2:=by omega
  have h8:v=0∨v=1∨v=2∨v=3∨v=4∨v=5∨v=6∨v=7:=by omega
  have H6:=Lib.hid (phas_4 6)
  have HV:=Lib.hid hv
  clear hi hv
  rcases h3 with rfl|rfl|rfl
  · rcases h8 with rfl|rfl|rfl|rfl|rfl|rfl|rfl|rfl
    all_goals
      clear hz
      simp only [sgD,sgT]
      go_enter Tryz.func182,Tryz.ntmps182
      go_wp2_with (go_at_call 300;refine (H6.out _).mono ?_;rintro e w' ⟨rfl,hb⟩)
      go_ret2
      exact Ret.mk' rfl zqb
  · rcases h8 with rfl|rfl|rfl|rfl|rfl|rfl|rfl|rfl
    all_goals first
      | (exfalso;revert hz;decide)
      | (clear hz
         simp only [sgD,sgT]
         go_enter Tryz.func182,Tryz.ntmps182
         go_wp2_with fail
         go_ret2
         exact Ret.mk' rfl zqb)
  · exact ptw3_4 v w ⟨by have:=HV.out;by_cases h0:v=0<;>omega,HV.out.2⟩
end
section
open Go.RowKit
attribute [local go_sem]mk_bs bs_size bs_toList bs_append bs_extract
attribute [local simp]run_cut run_cut_to run_cut_from run_add_bs
theorem pright_4 (n:Int)(w:World)(h:0≤n∧n≤3) :
  Calls Tryz.prog 304 #[.agg #[],.int .i64 n] w (Ret (.tuple #[.string (bs (rR 4 n)),.bool (okR 4 n)]) w):=by
 have h4:n=0∨n=1∨n=2∨n=3:=by omega
 clear h
 rcases h4 with rfl|rfl|rfl|rfl
 all_goals
  go_enter Tryz.func304,Tryz.ntmps304
  go_wp2
  go_ret2
  exact Ret.mk' rfl zqb
theorem pgrace_4 (n:Int)(w:World)(h:0≤n∧n≤4) :
  Calls Tryz.prog 299 #[.agg #[],.int .i64 n] w (Ret (.tuple #[.string (bs (rG 4 n)),.bool (okG 4 n)]) w):=by
 have h4:n=0∨n=1∨n=2∨n=3∨n=4:=by omega
 clear h
 rcases h4 with rfl|rfl|rfl|rfl|rfl
 all_goals
  go_enter Tryz.func299,Tryz.ntmps299
  go_wp2
  go_ret2
  exact Ret.mk' rfl zqb
theorem phold_4 (n L:Int) (w:World) (h:0≤n∧n≤15) :
  Calls Tryz.prog 283 #[.agg #[],.int .i64 n,.int .i64 L] w (Ret (.tuple #[.string (bs (pH 4 n L)),.bool (okH 4 n L)]) w):=by
 obtain ⟨hn0,hn1⟩:=h
 by_cases h0:n=0
 ·subst h0
  go_enter Tryz.func283,Tryz.ntmps283
  go_wp2
  go_ret2
  exact Ret.mk' rfl zqb
 ·have hb:(n == 0)=false:=by simp;exact h0
  have e0:pH 4 n L=rH 4 n L:=if_neg h0
  have e1:okH 4 n L=!(rH 4 n L).isEmpty:=by unfold okH;rw [hb];rfl
  rw [e0,e1]
  by_cases hL:n=L
  ·have e2:rH 4 n L=[42]:=by unfold rH;rw [if_neg (by decide),if_pos ⟨by decide,hL⟩]
   have hbL:(n == L)=true:=by simpa using hL
   rw [e2]
   clear e0 e1 e2 hL
   go_enter Tryz.func283,Tryz.ntmps283
   go_wp2
   go_ret2
   exact Ret.mk' rfl zqb
  ·have e2:rH 4 n L=[]:=by unfold rH;rw [if_neg (by decide),if_neg (fun h=>hL h.2)]
   have hbL:(n == L)=false:=by simpa using hL
   rw [e2]
   clear e0 e1 e2 hL
   go_enter Tryz.func283,Tryz.ntmps283
   go_wp2
   go_ret2
   exact Ret.mk' rfl zqb
theorem pcell_4 (c f r g h L:Int) (w:World) (hc:1≤c∧c≤14) (hf:0≤f∧f≤18) (hr:0≤r∧r≤3) (hg:0≤g∧g≤4) (hh:0≤h∧h≤15) :
  Calls Tryz.prog 183 #[(.iface 261 (.agg #[])),.agg #[.int .i64 c,.int .i64 f,.int .i64 r,.int .i64 g,.int .i64 h],.int .i64 L] w
   (Ret (.tuple #[.string (bs (cellS 4 c f r g h L)),.bool (cellOk 4 c f r g h L)]) w):=by
 have a1:=(pS_len 4 c f (by decide) hc hf).1
 have a2:=rR_len 4 r
 have a3:=rG_len 4 g
 have a4:=pH_len 4 h L
 have b1:(pS 4 c f).length+(rR 4 r).length≤9223372036854775807:=by omega
 have b2:(pS 4 c f).length+(rR 4 r).length+(rG 4 g).length≤9223372036854775807:=by omega
 have b2':(pS 4 c f).length+((rR 4 r).length+(rG 4 g).length)≤9223372036854775807:=by omega
 have b3:(pS 4 c f).length+(rR 4 r).length+(rG 4 g).length+(pH 4 h L).length≤9223372036854775807:=by omega
 have b3':(pS 4 c f).length+((rR 4 r).length+((rG 4 g).length+(pH 4 h L).length))≤9223372036854775807:=by omega
 have b3c:(pS 4 c f).length+((rR 4 r).length+(rG 4 g).length)+(pH 4 h L).length≤9223372036854775807:=by omega
 clear a1 a2 a3 a4
 unfold cellS cellOk
 go_enter Tryz.func183,Tryz.ntmps183
 go_wp2_with (first
  | (go_at_call 305;refine (psym_4 _ _ _ hc hf).mono ?_;rintro e w1 ⟨rfl,hb1⟩;have k1:=(Blk.new _ _ _).after hb1;have x1:w1.cell? ⟨w.heap.size,2,none⟩=some (.int .i64 r):=k1.cell 2;have K1:=Lib.hid k1;clear k1)
  | (go_at_call 304;refine (pright_4 _ _ hr).mono ?_;rintro e w2 ⟨rfl,hb2⟩;have k2:=K1.out.after hb2;have x2:w2.cell? ⟨w.heap.size,3,none⟩=some (.int .i64 g):=k2.cell 3;have K2:=Lib.hid k2;clear k2)
  | (go_at_call 299;refine (pgrace_4 _ _ hg).mono ?_;rintro e w3 ⟨rfl,hb3⟩;have k3:=K2.out.after hb3;have x3:w3.cell? ⟨w.heap.size,4,none⟩=some (.int .i64 h):=k3.cell 4;have K3:=Lib.hid k3;clear k3)
  | (go_at_call 283;refine (phold_4 _ _ _ hh).mono ?_;rintro e w4 ⟨rfl,hb4⟩))
 all_goals go_ret2
 all_goals exact Ret.mk' (by simp [*]) zqb
end
section
open Go.RowKit
theorem rRight2_FS (v:Int)(d t:Bool):Ctr Tryz.prog 137 [.ag [.sc (.int .i64 v),.sc (.bool d),.sc (.bool t)]] (.sc (.bool (sgOk v d t))):=by
 intro w F vs hF hR
 match vs,hR.1 with
 | [x],_ =>
  obtain⟨cs,rfl,h1,h2⟩:∃ cs:Array Value,x=.agg cs∧cs.size=3∧∀ (i:Nat)av u,[AV.sc (.int .i64 v),.sc (.bool d),.sc (.bool t)][i]?=some av→cs[i]?=some u→RP F av u:=by
   cases hR.2 0 _ x rfl rfl with|ag l cs a b=>exact⟨cs,rfl,a,b⟩
  have g:∀ i (h:i<3),cs[i]?=some (cs[i]'(by omega)):=fun i h=>Array.getElem?_eq_getElem (by omega)
  have e:cs=#[.int .i64 v,.bool d,.bool t]:=by
   apply Array.ext (by simp [h1])
   intro i hi hi2
   match i,(show i<3 by omega)with
   | 0,_=>exact (h2 0 _ _ rfl (g 0 zqo)).sc_eq
   | 1,_=>exact (h2 1 _ _ rfl (g 1 zqo)).sc_eq
   | 2,_=>exact (h2 2 _ _ rfl (g 2 zqo)).sc_eq
  subst e
  exact (right_any v d t w).mono fun e w'⟨he,hb⟩=>⟨_,F,he,hb,fun _ _ h=>h,fun p u x=>by rw [hb.cell (cell_block (hF p u x))];exact hF p u x,fun _ _ h=>.inl h,.sc _⟩
theorem rLong_FS (p:Pce) (hO:PcOk p) (i x:Int):Ctr Tryz.prog 86 [ePce p,.sc (.int .i64 i),.sc (.int .i64 x)] (.sc (.int .i64 (longestN p.evs i x))) :=
 Ctr.of_pc (pre:=[]) (post:=[.sc (.int .i64 i),.sc (.int .i64 x)]) rfl rfl (fun _=>.sc _) fun w M hM=>rLongest_any M p i x w hM hO
end
section
open Go.RowKit
section
variable {P:Program} {C:Cx} {σ σ':St} {G G':Gh} {a:Act} {w w':World} {ops:Array Oper} {Q:Exit→St→Prop}
def DoesS (P:Program) (C:Cx) (ops:Array Oper) (o:Oper) (σ:St) (av:AV) (M':List (Nat×AO)) (nk':Nat):Prop :=
 o.guard=none∧∀ t,(∀ q∈o.looksAt ops,look q t=look q σ.t)→WO P C o ⟨t,σ.M,σ.nk⟩ ⟨ent1 o.dst true av++t,M',nk'⟩
inductive DS (P:Program) (C:Cx) (ops:Array Oper) (mem:List Bool) (Mc:List (Nat×AO)) (nk0:Nat):Nat→List Oper→St→St→Prop
 | nil (k:Nat) (σ:St):DS P C ops mem Mc nk0 k [] σ σ
 | val (k:Nat) (o:Oper) (rest:List Oper) (d:Tmp) (av:AV) (nk:Nat) (σ σ':St):mem.getD k false=false→o.dst=some d→Nat.blt d C.N=true→(nk=nk0∨(nk=σ.nk∧behindB ops mem k=true))→DoesV P C ops o σ.t Mc nk av →
   DS P C ops mem Mc nk0 (k+1) rest (σ.put d av) σ'→DS P C ops mem Mc nk0 k (o::rest) σ σ'
 | mem (k:Nat) (o:Oper) (rest:List Oper) (av:AV) (M':List (Nat×AO)) (nk':Nat) (σ σ':St):mem.getD k false=true→Nat.ble σ.nk nk'=true→msSub Mc M'→DoesS P C ops o σ av M' nk' →
   DS P C ops mem Mc nk0 (k+1) rest ⟨ent1 o.dst true av++σ.t,M',nk'⟩ σ'→DS P C ops mem Mc nk0 k (o::rest) σ σ'
theorem DS.data {mem:List Bool} {Mc:List (Nat×AO)} {nk0 k:Nat} {l:List Oper} {σ σ':St} (h:DS P C ops mem Mc nk0 k l σ σ'):∃ (avs:Nat→AV) (ms:Nat→List (Nat×AO)) (nks:Nat→Nat),ms 0=σ.M∧nks 0=σ.nk ∧
  σ'=⟨ents l.toArray avs (fun _=>true) l.length++σ.t,ms l.length,nks l.length⟩ ∧
  ∀ (j:Nat) (oj:Oper),l[j]?=some oj →
   ((mem.getD (k+j) false=false∧(∃ d,oj.dst=some d∧d<C.N)∧ms (j+1)=ms j∧nks (j+1)=nks j∧∃ nk,(nk=nk0∨(nk=nks j∧behindB ops mem (k+j)=true))∧DoesV P C ops oj (ents l.toArray avs (fun _=>true) j++σ.t) Mc nk (avs j)) ∨
    (mem.getD (k+j) false=true∧nks j≤nks (j+1)∧msSub Mc (ms (j+1))∧DoesS P C ops oj ⟨ents l.toArray avs (fun _=>true) j++σ.t,ms j,nks j⟩ (avs j) (ms (j+1)) (nks (j+1)))):=by
 have key:∀ (o:Oper) (rest:List Oper) (av:AV) (avs:Nat→AV),∀ m,m≤rest.length→ents (o::rest).toArray (fun j=>if j=0 then av else avs (j-1)) (fun _=>true) (m+1)=ents rest.toArray avs (fun _=>true) m++ent1 o.dst true av:=by
  intro o rest av avs m
  induction m with
  | zero=>intro _;simp [ents]
  | succ m ihm =>
   intro hm
   rw [ents,ihm (by omega),ents]
   simp
 induction h with
 | nil k σ=>exact ⟨fun _=>.sc undef,fun _=>σ.M,fun _=>σ.nk,rfl,rfl,rfl,fun j oj h=>by simp at h⟩
 | val k o rest d av nk σ σ' hm hd hN hq hdo _ ih =>
  obtain ⟨avs,ms,nks,m0,n0,e1,e2⟩:=ih
  have hent:ent1 o.dst true av=[(d,av)]:=by rw [hd];rfl
  refine ⟨fun j=>if j=0 then av else avs (j-1),fun j=>if j=0 then σ.M else ms (j-1),fun j=>if j=0 then σ.nk else nks (j-1),rfl,rfl,?_,fun j oj hj=>?_⟩
  ·rw [e1,List.length_cons,key o rest av avs _ (Nat.le_refl _),hent]
   simp [St.put]
  ·cases j with
   | zero =>
    cases hj
    exact .inl ⟨hm,⟨d,hd,of_blt hN⟩,m0,n0,nk,hq,by simpa [ents] using hdo⟩
   | succ j =>
    have hj':rest[j]?=some oj:=by simpa using hj
    have q2:=e2 j oj hj'
    rw [key o rest av avs j (by have:=(List.getElem?_eq_some_iff.1 hj').1;omega),hent]
    simpa [St.put,Nat.add_assoc,Nat.add_comm 1 j] using q2
 | mem k o rest av M' nk' σ σ' hm hn hsub hdo _ ih =>
  obtain ⟨avs,ms,nks,m0,n0,e1,e2⟩:=ih
  refine ⟨fun j=>if j=0 then av else avs (j-1),fun j=>if j=0 then σ.M else ms (j-1),fun j=>if j=0 then σ.nk else nks (j-1),rfl,rfl,?_,fun j oj hj=>?_⟩
  ·rw [e1,List.length_cons,key o rest av avs _ (Nat.le_refl _)]
   simp
  ·cases j with
   | zero =>
    cases hj
    refine .inr ⟨hm,?_,?_,?_⟩
    ·show σ.nk≤nks 0
     rw [n0];exact Nat.le_of_ble_eq_true hn
    ·show msSub Mc (ms 0)
     rw [m0];exact hsub
    ·show DoesS P C ops o _ av (ms 0) (nks 0)
     rw [m0,n0];simpa [ents] using hdo
   | succ j =>
    have hj':rest[j]?=some oj:=by simpa using hj
    have q2:=e2 j oj hj'
    rw [key o rest av avs j (by have:=(List.getElem?_eq_some_iff.1 hj').1;omega)]
    simpa [Nat.add_assoc,Nat.add_comm 1 j] using q2
theorem WA.drawS {l:List Oper} (mem:List Bool) (Mc:List (Nat×AO)) (hB:Region.lexB .any l.toArray=true) (hch:chainB l.toArray mem=true) (hMc:msSub Mc σ.M) (h:DS P C l.toArray mem Mc σ.nk 0 l σ σ') (k:Q .normal σ'):WA P C l.toArray σ Q:=by
 intro G a w ok
 obtain ⟨avs,ms,nks,m0,n0,e1,e2⟩:=h.data
 simp only [Nat.zero_add] at e2
 simp only [Region.lexB,Bool.and_eq_true] at hB
 obtain ⟨FA,FB⟩:=lex_facts (ops:=l.toArray) l.toArray.size 0 (Array.replicate l.toArray.size false) (by simp) (by simp) (fun i hi=>by simp [Array.getD_eq_getD_getElem?,hi] at hi ⊢;simp [hi]) hB.2
 have sz:l.toArray.size=l.length:=by simp
 have mconst:∀ i,i < l.length→mem.getD i false=false→ms (i+1)=ms i∧nks (i+1)=nks i:=fun i hi hf=>by
  have q:=e2 i l[i] (List.getElem?_eq_getElem hi)
  rcases q with ⟨_,_,a,b,_⟩|⟨a,_⟩
  ·exact ⟨a,b⟩
  ·rw [hf] at a;cases a
 have mmono:∀ i,i < l.length→nks i≤nks (i+1):=fun i hi=>by
  have q:=e2 i l[i] (List.getElem?_eq_getElem hi)
  rcases q with ⟨_,_,_,b,_⟩|⟨_,b,_⟩
  ·rw [b];exact Nat.le_refl _
  ·exact b
 have hnp0:C.np≤nks 0:=by rw [n0];exact ok.df.2.1
 have hnpj:∀ i,i≤l.length→C.np≤nks i:=fun i=>by
  induction i with
  | zero=>exact fun _=>hnp0
  | succ i ih=>exact fun h=>Nat.le_trans (ih zqo) (mmono i zqo)
 have msub:∀ i,i≤l.length→msSub Mc (ms i):=fun i=>by
  induction i with
  | zero=>intro _;rw [m0];exact hMc
  | succ i ih =>
   intro hi
   have q:=e2 i l[i] (List.getElem?_eq_getElem (by omega))
   rcases q with ⟨_,_,a,_⟩|⟨_,_,a,_⟩
   ·rw [a];exact ih (by omega)
   ·exact a
 have hchj:∀ j,j < l.length→mem.getD j false=true→behindB l.toArray mem j=true:=fun j hj hmj=>by
  have h1:(!(mem.getD j false)|| behindB l.toArray mem j)=true:=List.all_eq_true.1 hch j (by simpa using hj)
  rw [hmj] at h1;exact h1
 have hbeh:∀ i j,i < j→behindB l.toArray mem j=true→mem.getD i false=true→needs l.toArray i l.toArray.size j=true:=fun i j hij hb hmi=>by
  have h1:(!(mem.getD i false)|| needs l.toArray i l.toArray.size j)=true:=List.all_eq_true.1 hb i (List.mem_range.2 hij)
  rw [hmi] at h1;exact h1
 let cu:Array Bool→Nat:=fun listed=>cur (fun i=>mem.getD i false) (fun i=>listed.getD i false) l.length
 let KS:Array Bool→St:=fun listed=>⟨ents l.toArray avs (fun i=>listed.getD i false) l.length++σ.t,ms (cu listed),nks (cu listed)⟩
 have key:∀ (fuel:Nat) (listed:Array Bool) (G:Gh) (a:Act) (w:World),listed.size=l.length→(∀ j oj,l.toArray[j]?=some oj→listed.getD j false=true→∀ e∈oj.after,Region.binds .any e=true→listed.getD e.on false=true) →
   (List.range l.length).countP (fun i=>!listed.getD i false)≤fuel→Ok C (KS listed) G a w→wpAny P .any l.toArray (Post C Q) fuel listed a w:=by
  intro fuel
  have done:∀ (listed:Array Bool) (G:Gh) (a:Act) (w:World),listed.size=l.length→Region.ready .any l.toArray listed=[]→Ok C (KS listed) G a w→Post C Q .normal a w:=by
   intro listed G a w hsz hr ok
   have hall:∀ n i,i < n→i < l.length→listed.getD i false=true:=by
    intro n
    induction n with
    | zero=>intro i h;omega
    | succ n ih =>
     intro i hi hlt
     by_cases e:i < n
     ·exact ih i e hlt
     ·have hin:i=n:=by omega
      subst hin
      cases hli:listed.getD i false with
      | true=>rfl
      | false =>
       have hoi:l.toArray[i]?=some l[i]:=by simp [hlt]
       have:i∈Region.ready .any l.toArray listed:=mem_ready.2 ⟨by
        have:listed.getD i true=listed.getD i false:=by simp [Array.getD_eq_getD_getElem?,hsz,hlt]
        rw [this];exact hli,l[i],hoi,fun e he hb=>ih e.on (FA i l[i] (Nat.zero_le _) hoi e he hb) (by have:=FA i l[i] (Nat.zero_le _) hoi e he hb;omega)⟩
       rw [hr] at this;cases this
   have hcu:ms (cu listed)=ms l.length∧nks (cu listed)=nks l.length:=by
    have hs:∀ i,i < l.length→(fun i=>mem.getD i false) i=true→(fun i=>listed.getD i false) i=decide (i < l.length):=fun i hi _=>by
     show listed.getD i false=_
     rw [hall (i+1) i (by omega) hi,decide_eq_true hi]
    have h1:=cur_at (f:=ms) (fun i hi hf=>(mconst i hi hf).1) hs l.length (Nat.le_refl _)
    have h2:=cur_at (f:=nks) (fun i hi hf=>(mconst i hi hf).2) hs l.length (Nat.le_refl _)
    rw [Nat.min_self] at h1 h2
    exact ⟨h1,h2⟩
   refine ⟨σ',G,k,ok.congr_ (fun t=>?_) (by rw [e1];exact hcu.1.symm) (by rw [e1];exact hcu.2.symm)⟩
   rw [e1]
   show look t (_++_)=look t (_++_)
   rw [look_app,look_app,ents_agree (s':=fun i=>listed.getD i false) fun i hi _=>(hall (i+1) i (by omega) hi).symm]
  induction fuel with
  | zero =>
   intro listed G a w hsz hcl hf ok
   have hr:Region.ready .any l.toArray listed=[]:=by
    apply List.eq_nil_iff_forall_not_mem.2
    intro j hj
    obtain ⟨h1,oj,h2,_⟩:=mem_ready.1 hj
    have hlt:j < l.length:=by have:=(Array.getElem?_eq_some_iff.1 h2).1;omega
    have h3:listed.getD j false=false:=by
     have:listed.getD j false=listed.getD j true:=by simp [Array.getD_eq_getD_getElem?,hsz,hlt]
     rw [this];exact h1
    have:=List.countP_eq_zero.1 (Nat.le_zero.1 hf) j (List.mem_range.2 hlt)
    simp [h3] at this
   exact ⟨hr,done listed G a w hsz hr ok⟩
  | succ fuel ih =>
   intro listed G a w hsz hcl hf ok
   refine ⟨fun hr=>done listed G a w hsz hr ok,fun j hj=>?_⟩
   obtain ⟨h1,oj,h2,h4⟩:=mem_ready.1 hj
   have hlt:j < l.length:=by have:=(Array.getElem?_eq_some_iff.1 h2).1;omega
   have h3:listed.getD j false=false:=by
    have:listed.getD j false=listed.getD j true:=by simp [Array.getD_eq_getD_getElem?,hsz,hlt]
    rw [this];exact h1
   have hlj:l[j]?=some oj:=by simpa using h2
   have hdoes:=e2 j oj hlj
   have hlook:∀ t∈oj.looksAt l.toArray,∀ i,i < l.length→(l.toArray[i]?).bind (·.dst)=some t→listed.getD i false=decide (i < j):=by
    intro t ht i hi hdi
    have hoi:l.toArray[i]?=some l[i]:=by simp [hi]
    rw [hoi] at hdi
    have hdi:l[i].dst=some t:=hdi
    rcases Nat.lt_trichotomy i j with hij|hij|hij
    ·rw [decide_eq_true hij]
     by_cases hno:∃ e,e∈oj.after∧Region.binds .any e=true∧e.on=i
     ·obtain ⟨e,he,hb,rfl⟩:=hno
      exact h4 e he hb
     ·exact absurd ht ((Oper.apart_spec (FB i j _ _ (Nat.zero_le _) hij hoi h2 fun e he hb h=>hno ⟨e,he,hb,h⟩)).1 t hdi)
    ·subst hij;rw [h3];simp
    ·rw [decide_eq_false (by omega)]
     cases hli:listed.getD i false with
     | false=>rfl
     | true =>
      by_cases hno:∃ e,e∈(l[i]).after∧Region.binds .any e=true∧e.on=j
      ·obtain ⟨e,he,hb,he2⟩:=hno
       have:=hcl i _ hoi hli e he hb
       rw [he2,h3] at this;cases this
      ·exact absurd ht ((Oper.apart_spec (FB j i _ _ (Nat.zero_le _) hij h2 hoi fun e he hb h=>hno ⟨e,he,hb,h⟩)).2.2 t hdi)
   have hents:∀ t,look t (ents l.toArray avs (fun _=>true) j)=look t (ents l.toArray avs (fun i=>decide (i < j)) l.length):=by
    intro t
    have:∀ m,j≤m→look t (ents l.toArray avs (fun i=>decide (i < j)) m)=look t (ents l.toArray avs (fun i=>decide (i < j)) j):=by
     intro m
     induction m with
     | zero=>intro h;rw [Nat.le_zero.1 h]
     | succ m ihm =>
      intro h
      by_cases e:j=m+1
      ·rw [e]
      ·rw [ents,look_app,look_ent1,if_neg (fun x=>by have:=of_decide_eq_true x.1;omega),ihm (by omega)];rfl
    rw [this l.length (by omega)]
    exact ents_agree fun i hi _=>(decide_eq_true hi).symm
   have hlooks:∀ t∈oj.looksAt l.toArray,look t (KS listed).t=look t (ents l.toArray avs (fun _=>true) j++σ.t):=fun t ht=>by
    show look t (_++_)=look t (_++_)
    rw [look_app,look_app,hents t,ents_agree fun i hi hdi=>(hlook t ht i hi hdi)]
   have hslots:∀ t,look t (ents l.toArray avs (fun i=>(listed.setIfInBounds j true).getD i false) l.length++σ.t)=look t (ent1 oj.dst true (avs j)++(KS listed).t):=by
    intro t
    by_cases et:oj.dst=some t
    ·have hR:look t (ent1 oj.dst true (avs j)++(KS listed).t)=some (avs j):=by
      rw [look_app,look_ent1,if_pos ⟨rfl,et⟩];rfl
     rw [hR,look_app,ents_top (j:=j) hlt (by rw [h2];exact et) (by simp [Array.getD_eq_getD_getElem?,hsz,hlt]) fun i hij hi hdi=>?_]
     ·rfl
     ·have hoi:l.toArray[i]?=some l[i]:=by simp [hi]
      rw [hoi] at hdi
      have hdi:l[i].dst=some t:=hdi
      have hne:j≠i:=by omega
      cases hli:listed.getD i false with
      | false=>simpa [Array.getD_eq_getD_getElem?,Array.getElem?_setIfInBounds_ne hne] using hli
      | true =>
       by_cases hno:∃ e,e∈(l[i]).after∧Region.binds .any e=true∧e.on=j
       ·obtain ⟨e,he,hb,he2⟩:=hno
        have:=hcl i _ hoi hli e he hb
        rw [he2,h3] at this;cases this
       ·exact absurd hdi ((Oper.apart_spec (FB j i _ _ (Nat.zero_le _) hij h2 hoi fun e he hb h=>hno ⟨e,he,hb,h⟩)).2.1 t et)
    ·have hR:look t (ent1 oj.dst true (avs j)++(KS listed).t)=look t (KS listed).t:=by
      rw [look_app,look_ent1,if_neg (fun x=>et x.2)];rfl
     rw [hR]
     show _=look t (_++_)
     rw [look_app,look_app]
     congr 1
     refine ents_agree fun i hi hdi=>?_
     by_cases e2:j=i
     ·subst e2
      rw [h2] at hdi
      exact absurd hdi et
     ·simp [Array.getD_eq_getD_getElem?,Array.getElem?_setIfInBounds_ne e2]
   have hset:∀ i,j≠i→(listed.setIfInBounds j true).getD i false=listed.getD i false:=fun i e=>by simp [Array.getD_eq_getD_getElem?,Array.getElem?_setIfInBounds_ne e]
   have hsetj:(listed.setIfInBounds j true).getD j false=true:=by simp [Array.getD_eq_getD_getElem?,hsz,hlt]
   have hclose:∀ i oi,l.toArray[i]?=some oi→(listed.setIfInBounds j true).getD i false=true→∀ e∈oi.after,Region.binds .any e=true→(listed.setIfInBounds j true).getD e.on false=true:=by
    intro i oi hi hli e he hb
    have mono:∀ q,listed.getD q false=true→(listed.setIfInBounds j true).getD q false=true:=fun q hq=>by
     by_cases e:j=q
     ·subst e;rw [hq] at h3;cases h3
     ·rw [hset q e];exact hq
    by_cases e2:j=i
    ·subst e2
     rw [h2] at hi;cases hi
     exact mono _ (h4 e he hb)
    ·refine mono _ (hcl i oi hi ?_ e he hb)
     rw [← hset i e2];exact hli
   have hcount:(List.range l.length).countP (fun i=>!(listed.setIfInBounds j true).getD i false)≤fuel:=by
    have:=countP_lt (p:=fun i=>!listed.getD i false) (q:=fun i=>!(listed.setIfInBounds j true).getD i false) (fun i hi=>by
       by_cases e:j=i
       ·subst e;rw [hsetj] at hi;cases hi
       ·rw [hset i e] at hi;exact hi) hlt (by simp only [h3];rfl) (by simp only [hsetj];rfl)
    omega
   unfold wpOp
   simp only [h2]
   rcases hdoes with ⟨hmf,⟨d,hd,hdN⟩,hmc,hnc,nk,hnk,hmi,hti,hdo⟩|⟨hmt,hnle,hsub,hgd,hdo⟩
   ·-- memory stays
    have hot:onlyT (KS listed).t (oj.looksAt l.toArray)=onlyT (ents l.toArray avs (fun _=>true) j++σ.t) (oj.looksAt l.toArray):=onlyT_congr hlooks
    have hnkle:nk≤nks (cu listed):=by
     rcases hnk with rfl|⟨rfl,hbj⟩
     ·have:=cur_ge (f:=nks) (j:=0) (s:=fun i=>listed.getD i false) (mem:=fun i=>mem.getD i false) (fun i hi hf=>(mconst i hi hf).2) mmono (fun i _ h=>by omega) l.length (Nat.le_refl _)
      rw [Nat.min_zero,n0] at this
      exact this
     ·have:=cur_ge (f:=nks) (j:=j) (s:=fun i=>listed.getD i false) (mem:=fun i=>mem.getD i false) (fun i hi hf=>(mconst i hi hf).2) mmono (fun i hi hij hmi=>needs_ready hcl h2 h4 _ (hbeh i j hij hbj hmi)) l.length (Nat.le_refl _)
      rw [show min l.length j=j by omega] at this
      exact this
    have okO:Ok C ⟨onlyT (ents l.toArray avs (fun _=>true) j++σ.t) (oj.looksAt l.toArray),Mc,nk⟩ G a w :=
     ok.few (hnp:=by rcases hnk with h|⟨h,_⟩<;>rw [h]<;>first|exact hnpj j (by omega)|(rw [← n0];exact hnp0)) (ht:=fun i av hx=>⟨by rw [← hot] at hx;exact look_onlyT hx,tsInn_at hti i av hx⟩) (hM:=fun q o hx=>⟨msSub_at (msub _ (cur_le _)) q o hx,(msInn_at hmi q o hx).1,(msInn_at hmi q o hx).2⟩)
    have next:∀ (v:Value) (G':Gh) (w':World),Ok C (KS listed) G' a w'→R G' (avs j) v→Bd nk (avs j)→wpAny P .any l.toArray (Post C Q) fuel (listed.setIfInBounds j true) (a.put oj.dst v) w':=by
     intro v G' w' ok' hr hb
     have ok2:=ok'.set (d:=some d) hr (hb.mono hnkle) fun x hx=>by cases hx;exact hdN
     rw [hd]
     have hcu:cu (listed.setIfInBounds j true)=cu listed:=cur_congr fun i hi hmi=>by
      by_cases e:j=i
      ·subst e;rw [hmf] at hmi;cases hmi
      ·exact hset i e
     exact ih (listed.setIfInBounds j true) G' _ w' (by simpa using hsz) hclose hcount (ok2.congr_ (fun t=>by rw [hslots t,hd];rfl) (by show ms _=ms _;rw [hcu]) (by show nks _=nks _;rw [hcu]))
    rcases hdo with ⟨hg,hv⟩|⟨hg,hv⟩
    ·rw [if_pos (guardK_wanted okO hg)]
     exact .inl (hv G a w okO _ _ fun v G' w' hk hr hb=>next v G' w' (hk _ _ ok) hr hb)
    ·rw [if_neg (by rw [guardK_wanted okO hg];simp)]
     exact next undef G w ok (by rw [hv];exact .pu _ _ (.sc _)) (by rw [hv];exact .sc _)
   ·-- memory is written
    have hbj:=hchj j hlt hmt
    have hst:∀ i,i < l.length→mem.getD i false=true→listed.getD i false=decide (i < j):=fun i hi hmi=>by
     rcases Nat.lt_trichotomy i j with hij|hij|hij
     ·rw [decide_eq_true hij]
      exact needs_ready hcl h2 h4 _ (hbeh i j hij hbj hmi)
     ·subst hij;rw [h3];simp
     ·rw [decide_eq_false (by omega)]
      cases hli:listed.getD i false with
      | false=>rfl
      | true =>
       have:=needs_listed hcl _ _ (hbeh j i hij (hchj i hi hmi) hmt) hli
       rw [h3] at this;cases this
    have hM:ms (cu listed)=ms j∧nks (cu listed)=nks j:=by
     have h1:=cur_at (f:=ms) (fun i hi hf=>(mconst i hi hf).1) hst l.length (Nat.le_refl _)
     have h2:=cur_at (f:=nks) (fun i hi hf=>(mconst i hi hf).2) hst l.length (Nat.le_refl _)
     rw [show min l.length j=j by omega] at h1 h2
     exact ⟨h1,h2⟩
    have hst':∀ i,i < l.length→mem.getD i false=true→(listed.setIfInBounds j true).getD i false=decide (i < j+1):=fun i hi hmi=>by
     by_cases e:j=i
     ·subst e;rw [hsetj];simp
     ·rw [hset i e,hst i hi hmi]
      have:(i < j)↔(i < j+1):=by omega
      simp [this]
    have hM':ms (cu (listed.setIfInBounds j true))=ms (j+1)∧nks (cu (listed.setIfInBounds j true))=nks (j+1):=by
     have h1:=cur_at (f:=ms) (fun i hi hf=>(mconst i hi hf).1) hst' l.length (Nat.le_refl _)
     have h2:=cur_at (f:=nks) (fun i hi hf=>(mconst i hi hf).2) hst' l.length (Nat.le_refl _)
     rw [show min l.length (j+1)=j+1 by omega] at h1 h2
     exact ⟨h1,h2⟩
    rw [if_pos (by simp [Region.wanted,hgd])]
    have ok1:Ok C ⟨(KS listed).t,ms j,nks j⟩ G a w:=ok.congr_ (fun _=>rfl) (by exact hM.1.symm) (by exact hM.2.symm)
    refine .inl (hdo (KS listed).t hlooks G a w ok1 _ _ fun G' a' w' ok'=>?_)
    exact ih (listed.setIfInBounds j true) G' a' w' (by simpa using hsz) hclose hcount (ok'.congr_ hslots (by exact hM'.1) (by exact hM'.2))
 have hcu0:cu (Array.replicate l.toArray.size false)=0:=by
  have:∀ m,cur (fun i=>mem.getD i false) (fun i=>(Array.replicate l.toArray.size false).getD i false) m=0:=by
   intro m
   induction m with
   | zero=>rfl
   | succ m ih=>unfold cur;rw [if_neg (fun x=>by have:=x.2;rw [rep_getD] at this;cases this),ih]
  exact this _
 refine key _ (Array.replicate l.toArray.size false) G a _ (by simp) (fun j oj _ h=>?_) ?_ (ok.drew.congr_ (fun t=>?_) (by show ms _=_;rw [hcu0,m0]) (by show nks _=_;rw [hcu0,n0]))
 ·rw [rep_getD] at h;cases h
 ·rw [sz]
  exact Nat.le_trans List.countP_le_length (by simp)
 ·show look t (_++_)=_
  rw [look_app,ents_none fun i hi _=>?_]
  ·rfl
  ·exact rep_getD _ _
end
end
section
open Go.RowKit
section
variable {P:Program} {C:Cx} {σ:St} {o:Oper} {d:Tmp} {av:AV} {ops:Array Oper} {rest l:List Oper} {Q:Exit→St→Prop} {mem:List Bool} {Mc:List (Nat×AO)} {nk0 k:Nat}
def DSK (P:Program)(C:Cx)(ops:Array Oper)(mem:List Bool)(Mc:List (Nat×AO))(nk0 k:Nat)(l:List Oper)(σ:St)(Q:Exit→St→Prop):Prop:=∃ σ',DS P C ops mem Mc nk0 k l σ σ'∧Q .normal σ'
theorem DSK.nil(h:Q .normal σ):DSK P C ops mem Mc nk0 k [] σ Q:=⟨σ,.nil k σ,h⟩
theorem DSK.v0 (hd:memB C.N ops mem Mc k nk0 σ.t o=some (d,true)) (h:WV P C o ⟨onlyT σ.t (o.looksAt ops),Mc,nk0⟩ av) (r:DSK P C ops mem Mc nk0 (k+1) rest (σ.put d av) Q):DSK P C ops mem Mc nk0 k (o::rest) σ Q:=by
 obtain ⟨a,b,c,e,f,g⟩:=memB_of hd
 obtain ⟨s,x,y⟩:=r
 exact ⟨s,.val k o rest d av nk0 σ s a b c (.inl rfl) ⟨e,f,.inl ⟨g,h⟩⟩ x,y⟩
theorem DSK.wr {M':List (Nat×AO)} {nk':Nat} (av:AV) (hm:mem.getD k false=true) (hn:Nat.ble σ.nk nk'=true) (hs:msSub Mc M') (h:DoesS P C ops o σ av M' nk') (r:DSK P C ops mem Mc nk0 (k+1) rest ⟨ent1 o.dst true av++σ.t,M',nk'⟩ Q):DSK P C ops mem Mc nk0 k (o::rest) σ Q:=by
 obtain ⟨s,x,y⟩:=r
 exact ⟨s,.mem k o rest av M' nk' σ s hm hn hs h x,y⟩
theorem DSK.st (hd:memB C.N ops mem Mc k nk0 σ.t o=some (d,true)) (h:stepV P ⟨onlyT σ.t (o.looksAt ops),Mc,nk0⟩ o.op=some av) (r:DSK P C ops mem Mc nk0 (k+1) rest (σ.put d av) Q):DSK P C ops mem Mc nk0 k (o::rest) σ Q:=DSK.v0 hd (stepV_of rfl h) r
theorem DSK.sto {T m:Nat} {x y:Operand} {q i j:Nat} {ob ob':AO} {l:List AV} {M2:List (Nat×AO)} (hm:mem.getD k false=true) (hg:o.guard=none) (hds:o.dst=none) (ho:o.op=.store T x y) (hn:sizeB P T=some m) (hx:σ.ev x=some (.pt q i j)) (hk:look q σ.M=some ob) (hy:σ.ev y=some av)
  (hB:av.cellB=true) (hl:av.cells=l) (hlm:l.length=m) (h1:l.all AV.oneB=true) (hp:ob.put i j l=some ob') (hM:remS q σ.M=some M2) (hs:msSub Mc ((q,ob')::M2)) (r:DSK P C ops mem Mc nk0 (k+1) rest ⟨σ.t,(q,ob')::M2,σ.nk⟩ Q):DSK P C ops mem Mc nk0 k (o::rest) σ Q:=by
 have he:∀ av,ent1 o.dst true av=[]:=fun av=>by rw [hds];rfl
 refine DSK.wr (.sc undef) hm (Nat.ble_eq_true_of_le (Nat.le_refl _)) hs ⟨hg,fun t H=>?_⟩ (by rw [he];exact r)
 rw [he]
 have hmem:∀ z∈[x,y],z∈o.op.operands.toList:=fun z hz=>by rw [ho];simp [Op.operands] at hz ⊢;exact hz
 rw [remS_eq hM]
 exact wo_rem (WO.store (σ:=⟨t,σ.M,σ.nk⟩) ho hds hn ((ev_agree H (hmem x (by simp))).trans hx) hk ((ev_agree H (hmem y (by simp))).trans hy) hB hl hlm h1 hp)
theorem WA.ds (mem:List Bool)(ms:List Nat)(hB:Region.lexB .any l.toArray=true)(hch:chainB l.toArray mem=true)(hMc:msSub (onlyM σ.M ms) σ.M)
  (h:DSK P C l.toArray mem (onlyM σ.M ms) σ.nk 0 l σ Q):WA P C l.toArray σ Q:=let⟨_,a,b⟩:=h;WA.drawS mem (onlyM σ.M ms) hB hch hMc a b
end
end
section
open Go.RowKit
section
variable {B:World→View→Prop} {gl:Nat} {P:Program} {C:Cx} {σ:St} {o:Oper} {d:Tmp} {ops:Array Oper} {rest:List Oper} {Q:Exit→St→Prop}
theorem set_same_ {α:Type} {l:List α} {i:Nat} {x:α} (h:l[i]?=some x):l.set i x=l:=by
 obtain⟨hi,rfl⟩:=List.getElem?_eq_some_iff.1 h
 exact List.set_getElem_self hi
theorem WO.stO {T T' n:Nat} {x y:Operand} {k i j:Nat} {rows:List (List AV)} {r:List AV} {av:AV} (ho:o.op=.store T x y) (hds:o.dst=none) (hn:sizeB P T=some 1) (hx:σ.ev x=some (.pt k i j)) (hk:look k σ.M=some (.row T' n rows)) (hy:σ.ev y=some av)
  (h1:av.oneB=true) (hr:rows[i]?=some r) (hj:j < r.length):WO P C o σ (σ.upd k (.rof T' n rows i j av)):=by
 intro G a w ok N Q' hN
 obtain ⟨p,ep,p1,p2,p3⟩:=(ok.evr hx).2.pt_of
 obtain ⟨hb,hr2⟩:=ok.evr hy
 obtain ⟨hB,hcl⟩:=oneB_cells h1
 obtain ⟨c1,c2⟩:=cells_of hr2 hB
 rw [hcl] at c1 c2
 obtain ⟨v,hv⟩:∃ v,a.eval y=v:=⟨_,rfl⟩
 rw [hv] at c1 c2
 have c1':v.cells.size=1:=c1
 have hone:∀ u∈v.cells.toList,u.oneCell'=true:=fun u hu=>by
  obtain ⟨q,hq,rfl⟩:=List.getElem_of_mem hu
  have hq':q < v.cells.size:=by simpa using hq
  obtain rfl:q=0:=by omega
  exact oneB_of (c2 0 av _ rfl (by simp at hq;simp [hq])) h1
 obtain rfl:=addr_eq p1 p2 p3
 obtain ⟨hn',hg,hR⟩:=(ok.ob k _ hk).2.2
 obtain ⟨g,cur,hvg,hφg,hh⟩:=hR.blk (by have:=(List.getElem?_eq_some_iff.1 hr).1;omega)
 have hgb:=hg g hvg
 have hpu:putL j [r[j]] r=r:=by rw [putL_one _ _ _ hj];exact set_same_ (List.getElem?_eq_getElem hj)
 obtain ⟨q1,q2⟩:=hR.put (X':=XH G i j av) hr (j:=j) (l:=[r[j]]) (by simp;omega) (us:=v.cells.toList) (by simpa using c1') hone hh hvg (fun s x u ψ hs hu=>by
  have hs0:s < 1:=by simpa using (List.getElem?_eq_some_iff.1 hs).1
  obtain rfl:s=0:=by omega
  unfold XH
  rw [if_pos ⟨rfl,Nat.add_zero j⟩]
  exact c2 0 av u rfl (by simpa using hu)) (fun q s ψ x u _ hne h=>by
  have hn:¬ (q=i∧s=j):=fun e=>hne ⟨e.1,Nat.le_of_eq e.2.symm,by rw [e.2];exact Nat.lt_succ_self j⟩
  unfold XH
  rw [if_neg hn]
  exact h)
 rw [hpu,set_same_ hr] at q2
 have hle:i*G.n k+j+v.cells.toList.length≤cur.size:=by rw [hn'];exact q1
 have hst:=run_storeCells_at P g (i*G.n k+j) T' v.cells.toList 0 cur w hh (by simpa using hle) hone
 rw [Nat.add_zero,← putL_eq _ _ _ (by simpa using hle)] at hst
 unfold Oper.wp execOp
 simp only [ho,ep,hv,Instr.storeAt,Instr.sureAddr,storeVar,Sem.run_bind,Sem.run_pure,Result.andThen_ok,run_sizeB hn,← hgb,hst]
 rw [if_neg (by rw [c1'];simp)]
 simp only [Sem.run_bind,Sem.run_pure,Result.andThen_ok,hst,Oper.upon]
 rw [hds]
 refine hN G _ _ (ok.write _ hk hφg ?_ hb)
 exact ⟨hn',hg,by rw [hn'];exact q2⟩
def stOV (P:Program)(σ:St):Op→Option (Nat×TypeId×Nat×List (List AV)×Nat×Nat×AV)
 | .store T x y =>
  match σ.ev x,σ.ev y with
  | some (.pt k i j),some av =>
   match sizeB P T,look k σ.M with
   | some 1,some (.row T' n rows)=>bif av.oneB then some (k,T',n,rows,i,j,av)else none
   | _,_=>none
  | _,_=>none
 | _=>none
theorem WL.stO {q n i j:Nat} {T':TypeId} {rows:List (List AV)} {r:List AV} {av:AV} {t:List (Nat×AV)} {M M':List (Nat×AO)} {nk:Nat} (hg:o.guard=none) (hds:o.dst=none) (h:stOV P ⟨t,M,nk⟩ o.op=some (q,T',n,rows,i,j,av)) (hM:remS q M=some M') (hr:rows[i]?=some r) (hj:j < r.length)
  (k:WL P C ops rest ⟨t,(q,.rof T' n rows i j av)::M',nk⟩ Q):WL P C ops (o::rest) ⟨t,M,nk⟩ Q:=by
 rw [remS_eq hM] at k
 clear hM
 refine WL.op hg ?_ k
 unfold stOV at h
 split at h
 ·rename_i T x y ho
  split at h
  ·rename_i k' i' j' av' hx hy
   split at h
   ·rename_i T2 n' rows' hm hk
    cases hb:av'.oneB with
    | false=>rw [hb] at h;cases h
    | true =>
     rw [hb] at h
     cases h
     exact wo_rem (WO.stO (σ:=⟨t,M,nk⟩) ho hds hm hx hk hy hb hr hj)
   ·cases h
  ·cases h
 ·cases h
theorem WV.ldO {T T' n:Nat} {x:Operand} {k i j:Nat} {rows:List (List AV)} {r:List AV} {av:AV} (ho:o.op=.load T x) (hT:aggB P T=some false) (hx:σ.ev x=some (.pt k i j)) (hk:look k σ.M=some (.rof T' n rows i j av)) (hr:rows[i]?=some r) (hj:j<r.length):WV P C o σ av :=
 WV.val (fun G a w ok=>(ok.ob k _ hk).2.1) fun G a w ok=>by
  obtain ⟨p,e,h1,h2,h3⟩:=(ok.evr hx).2.pt_of
  obtain rfl:=addr_eq h1 h2 h3
  obtain ⟨hn,hg,hR⟩:=(ok.ob k _ hk).2.2
  obtain ⟨u,hu,ψ,hX⟩:=hR.cell_at hg hr (List.getElem?_eq_getElem hj)
  unfold XH at hX
  rw [if_pos ⟨rfl,rfl⟩] at hX
  rw [← hn] at hu
  exact ⟨u,by unfold execOp;simp [ho,e,run_load1 hT hu],hX⟩
theorem WV.ldN {T T' n:Nat} {x:Operand} {k i j hi hj:Nat} {rows:List (List AV)} {r:List AV} {y av:AV} (ho:o.op=.load T x) (hT:aggB P T=some false) (hx:σ.ev x=some (.pt k i j)) (hk:look k σ.M=some (.rof T' n rows hi hj y)) (hne:i≠hi) (hr:rows[i]?=some r) (hjr:r[j]?=some av):WV P C o σ av:=by
 have key:∀ G a w,Ok C σ G a w→∃ u,w.cell? ⟨G.b k,i*G.n k+j,none⟩=some u∧RP G.F av u:=fun G a w ok=>by
  obtain ⟨hn,hg,hR⟩:=(ok.ob k _ hk).2.2
  obtain ⟨u,hu,ψ,hX⟩:=hR.cell_at hg hr hjr
  unfold XH at hX
  rw [if_neg (fun e=>hne e.1)] at hX
  rw [← hn] at hu
  exact ⟨u,hu,hX⟩
 refine WV.val (fun G a w ok=>?_) fun G a w ok=>?_
 ·obtain ⟨u,_,hX⟩:=key G a w ok
  exact hX.bd _
 ·obtain ⟨u,hu,hX⟩:=key G a w ok
  obtain ⟨p,e,h1,h2,h3⟩:=(ok.evr hx).2.pt_of
  obtain rfl:=addr_eq h1 h2 h3
  exact ⟨u,by unfold execOp;simp [ho,e,run_load1 hT hu],.pu _ _ hX⟩
def ldoV (P:Program)(σ:St):Op→Option (List (List AV)×Nat×Nat×Nat×Nat×AV)
 | .load T x =>
  match aggB P T,σ.ev x with
  | some false,some (.pt k i j) =>
   match look k σ.M with
   | some (.rof _ _ rows hi hj av)=>some (rows,i,j,hi,hj,av)
   | _=>none
  | _,_=>none
 | _=>none
theorem ldoV_O {rows:List (List AV)} {i j hi hj:Nat} {r:List AV} {av:AV} (h:ldoV P σ o.op=some (rows,i,j,hi,hj,av))(e1:i=hi)(e2:j=hj)(hr:rows[i]?=some r)(hjr:j<r.length):WV P C o σ av:=by
 subst e1 e2
 unfold ldoV at h
 split at h
 ·rename_i T x ho
  split at h
  ·rename_i k i' j' hT hx
   split at h
   ·rename_i T' n rows' hi' hj' av' hk
    cases h
    exact WV.ldO ho hT hx hk hr hjr
   ·cases h
  ·cases h
 ·cases h
theorem ldoV_N {rows:List (List AV)} {i j hi hj:Nat} {r:List AV} {av y:AV} (h:ldoV P σ o.op=some (rows,i,j,hi,hj,y))(hne:i≠hi)(hr:rows[i]?=some r)(hjr:r[j]?=some av):WV P C o σ av:=by
 unfold ldoV at h
 split at h
 ·rename_i T x ho
  split at h
  ·rename_i k i' j' hT hx
   split at h
   ·rename_i T' n rows' hi' hj' av' hk
    cases h
    exact WV.ldN ho hT hx hk hne hr hjr
   ·cases h
  ·cases h
 ·cases h
theorem WL.ldO {rows:List (List AV)} {i j hi hj:Nat} {r:List AV} {av:AV} (hd:dstB C.N o=some d)(h:ldoV P σ o.op=some (rows,i,j,hi,hj,av))(e1:i=hi)(e2:j=hj)(hr:rows[i]?=some r)(hjr:j<r.length)(k:WL P C ops rest (σ.put d av) Q):WL P C ops (o::rest) σ Q:=WL.vl hd (ldoV_O h e1 e2 hr hjr) k
theorem DK.ldO {rows:List (List AV)} {i j hi hj:Nat} {r:List AV} {av:AV} (hd:dstD C.N ops σ o=some d)(h:ldoV P (σ.only (o.looksAt ops)) o.op=some (rows,i,j,hi,hj,av))(e1:i=hi)(e2:j=hj)(hr:rows[i]?=some r)(hjr:j<r.length)(k:DK P C ops rest (σ.put d av) Q):DK P C ops (o::rest) σ Q:=DK.vl hd (ldoV_O h e1 e2 hr hjr) k
theorem DK.ldN {rows:List (List AV)} {i j hi hj:Nat} {r:List AV} {av y:AV} (hd:dstD C.N ops σ o=some d)(h:ldoV P (σ.only (o.looksAt ops)) o.op=some (rows,i,j,hi,hj,y))(hne:i≠hi)(hr:rows[i]?=some r)(hjr:r[j]?=some av)(k:DK P C ops rest (σ.put d av) Q):DK P C ops (o::rest) σ Q:=DK.vl hd (ldoV_N h hne hr hjr) k
theorem Tr.shut (k:Nat) {T n:Nat} {rows rows':List (List AV)} {i j:Nat} {r:List AV} {av:AV} (hk:look k σ.M=some (.rof T n rows i j av)) (hr:rows[i]?=some r) (hj:j<r.length) (hp:av.pu0=true) (he:rows.set i (r.set j av)=rows'):Tr C σ (σ.upd k (.row T n rows')):=fun G a w ok=>by
 subst he
 obtain ⟨g1,g2,g3,g4,g5⟩:=ok.ob k _ hk
 refine ⟨G,ok.reob hk ⟨g1,trivial,g3,g4,?_⟩⟩
 obtain ⟨h1,vs,Φ,h2,h3,h4,h5,h6,h7,h8,h9⟩:=g5
 have hi:i<rows.length:=(List.getElem?_eq_some_iff.1 hr).1
 refine ⟨fun q hq=>?_,vs,Φ,h2,by simpa using h3,h4,h5,h6,h7,fun q r1 r2 a1 a2=>?_,fun q r1 r2 s x u a1 a2 a3 a4=>?_⟩
 ·rcases List.mem_or_eq_of_mem_set hq with hq|rfl
  ·exact h1 q hq
  ·rw [List.length_set];exact h1 r (List.mem_of_getElem? hr)
 ·by_cases e:i=q
  ·subst e
   rw [List.getElem?_set_self hi] at a1
   cases a1
   rw [List.length_set];exact h8 i r r2 hr a2
  ·rw [List.getElem?_set_ne e] at a1
   exact h8 q r1 r2 a1 a2
 ·by_cases e:i=q
  ·subst e
   rw [List.getElem?_set_self hi] at a1
   cases a1
   by_cases e2:j=s
   ·subst e2
    rw [List.getElem?_set_self hj] at a3
    cases a3
    have:=h9 i r r2 j r[j] u hr a2 (List.getElem?_eq_getElem hj) a4
    unfold XH at this
    rw [if_pos ⟨rfl,rfl⟩] at this
    exact (pu0_bd hp 0).rp this
   ·rw [List.getElem?_set_ne e2] at a3
    have:=h9 i r r2 s x u hr a2 a3 a4
    unfold XH at this
    rw [if_neg (fun h=>e2 h.2.symm)] at this
    exact this
  ·rw [List.getElem?_set_ne e] at a1
   have:=h9 q r1 r2 s x u a1 a2 a3 a4
   unfold XH at this
   rw [if_neg (fun h=>e h.1.symm)] at this
   exact this
end
end
section
open Go.RowKit
section
variable {B:World→View→Prop} {gl:Nat} {P:Program} {C:Cx} {σ:St} {o:Oper} {d:Tmp} {ops:Array Oper} {rest:List Oper} {Q:Exit→St→Prop} {mem:List Bool} {Mc:List (Nat×AO)} {nk0 k:Nat}
def nlqV (P:Program)(σ:St):Op→Option (List (List AV))
 | .binOp .eql T x y _ =>
  match P.underlying T,σ.ev x,σ.ev y with
  | some (.slice _),some (.ls _ rows),some (.sc (.slice none _ _))=>some rows
  | _,_,_=>none
 | _=>none
theorem WL.nlq {rows:List (List AV)} (hd:dstB C.N o=some d) (h:nlqV P σ o.op=some rows) (hk:∀ b:Bool,(b=true→rows=[])→WL P C ops rest (σ.put d (.sc (.bool b))) Q):WL P C ops (o::rest) σ Q:=by
 intro G a w ok
 unfold nlqV at h
 split at h
 ·rename_i T x y Ty ho
  split at h
  ·rename_i e n rows' m c hT hx hy
   cases h
   obtain ⟨A,cap,ad,u,e1,h1,h2,h3,h4,h5⟩:=(ok.evr hx).2.pu_of.ls_of
   have ey:=ok.evs hy
   obtain ⟨q1,q2,q3⟩:=dstB_of hd
   refine wpList_plain q1 fun K hK=>?_
   unfold Oper.wp execOp
   have hrun:=Lib.run_eql_slice_nil (P:=P) w T e A rows.length cap m c hT
   simp only [ho,e1,ey,eqGuard,Sem.run_bind,Sem.run_pure,Result.andThen_ok,hrun]
   simp only [Bool.not_true,Bool.false_eq_true,if_false,Sem.run_bind,Sem.run_pure,Result.andThen_ok,hrun,Oper.upon]
   refine hK _ _ (hk A.isNone (fun hn=>?_) G _ w ?_)
   ·cases A with
    | some z=>cases hn
    | none =>
     rcases Nat.eq_zero_or_pos rows.length with h0|h0
     ·exact List.eq_nil_of_length_eq_zero h0
     ·exact absurd (h2 h0) (by simp)
   ·rw [q2]
    exact ok.set (d:=some d) (.pu _ _ (.sc _)) (.sc _) fun x hx=>by cases hx;exact of_blt q3
  ·cases h
 ·cases h
theorem Tr.nilC (k j n:Nat) {T:TypeId} {cells cells':List AV} (hk:look k σ.M=some (.box T cells)) (hj:cells[j]?=some (.sc (.slice none 0 0))) (he:cells.set j (.ls n [])=cells'):Tr C σ (σ.upd k (.box T cells')):=fun G a w ok=>by
 subst he
 obtain ⟨g1,g2,g3,cs,Φ,g4,g5,g6,g7,g8⟩:=ok.ob k _ hk
 have hjl:=(List.getElem?_eq_some_iff.1 hj).1
 refine ⟨G,ok.reob hk ⟨g1,fun i av hx=>?_,g3,cs,Φ,g4,by simpa using g5,g6,g7,fun i av u hx hu=>?_⟩⟩
 ·by_cases e:j=i
  ·subst e
   rw [List.getElem?_set_self hjl] at hx
   cases hx;exact .ls _ _
  ·rw [List.getElem?_set_ne e] at hx;exact g2 i av hx
 ·by_cases e:j=i
  ·subst e
   rw [List.getElem?_set_self hjl] at hx
   cases hx
   have:=(g8 j _ u hj hu).r rfl
   rw [this.sc_eq]
   exact .inl (.pu _ _ (.ls n [] none 0 ⟨0,0,none⟩ (fun _ _=>undef) (by simp) (by simp) (by simp) (by simp) (by simp)))
  ·rw [List.getElem?_set_ne e] at hx;exact g8 i av u hx hu
theorem DSK.ct (hB:Holds B gl C) {f:FuncId} {args args':List AV} {res res':AV} {M M' M2:List (Nat×AO)} {nk nk' n2:Nat} (ks:List Nat) (hd:wrB mem C.N k o=some d) (he:calE σ o.op=some (f,args')) (hc:∀ vs w,(callFunc f vs).run P w=.ok (.enter f vs) w)
  (h:Cto B gl P f args M nk res M' nk') (hks:ksB ks nk σ.nk=true) (ha:args.map (AV.ren (rhoC ks nk σ.nk))=args') (hp:args.all (AV.inn nk)=true) (hM:TrM σ (rhoC ks nk σ.nk) nk M)
  (hq:(Nat.ble nk nk' && M'.all (fun x=>x.2.inn nk') && M'.all (fun x=>Nat.blt x.1 nk') && res.inn nk')=true) (hr:res.ren (rhoC ks nk σ.nk)=res') (hM2:renM (rhoC ks nk σ.nk) M'++remL ks σ.M=M2) (hn2:σ.nk+(nk'-nk)=n2) (hs:msSub Mc M2)
  (r:DSK P C ops mem Mc nk0 (k+1) rest ⟨(d,res')::σ.t,M2,n2⟩ Q):DSK P C ops mem Mc nk0 k (o::rest) σ Q:=by
 subst hM2 hn2
 obtain ⟨a,b,c,e⟩:=wrB_of hd
 have hent:ent1 o.dst true res'=[(d,res')]:=by rw [b];rfl
 simp only [Bool.and_eq_true] at hq
 unfold calE at he
 split at he
 ·rename_i y xs ts ho
  split at he
  ·rename_i fv args0 hy hx
   split at he
   ·rename_i f' caps hf
    cases he
    refine DSK.wr res' a (Nat.ble_eq_true_of_le (Nat.le_add_right _ _)) hs ⟨c,fun t H=>?_⟩ (by rw [hent];exact r)
    rw [hent]
    have hmem:∀ q∈y::xs,q∈o.op.operands.toList:=fun q hq=>by rw [ho];simp [Op.operands,Call.operands] at hq ⊢;exact hq
    have:=WO.cto (P:=P) (C:=C) (σ:=⟨t,σ.M,σ.nk⟩) (xs:=⟨xs⟩) hB ks ho hc ((ev_agree H (hmem y (by simp))).trans hy) hf ((evs_agree H fun q hq=>hmem q (List.mem_cons_of_mem _ hq)).trans hx) rfl h hks ha hp (trM_same (σ:=σ) (σ':=⟨t,σ.M,σ.nk⟩) (ρ:=rhoC ks nk σ.nk) rfl hM) hq.1.1.1 hq.1.1.2 hq.1.2 hq.2 hr (by rw [b];exact e)
    rw [b] at this
    exact this
   ·cases he
  ·cases he
 ·cases he
end
end
section
open Go.RowKit
section
variable {P:Program} {C:Cx} {σ:St} {o:Oper} {d:Tmp} {ops:Array Oper} {rest:List Oper} {Q:Exit→St→Prop} {mem:List Bool} {Mc:List (Nat×AO)} {nk0 k:Nat}
theorem put_row {T n i j:Nat} {rows:List (List AV)} {r l:List AV} (hr:rows[i]?=some r) (hj:j+l.length≤r.length) (hp:l.all AV.pu0=true):(AO.row T n rows).put i j l=some (.row T n (rows.set i (putL j l r))):=by
 simp only [AO.put,hr]
 rw [if_pos ⟨hj,hp⟩]
end
end
section
open Go.RowKit
def sp(t:List UInt8):List UInt8:=32::t
def stT (s:Int)(L:Int→Nat)(x:Stp):List UInt8:=cellS s x.1 x.2.1 x.2.2.1 x.2.2.2.1 x.2.2.2.2 (L x.1)
def stOn(l:List Stp)(c:Int):Option Stp:=l.find? fun x=>x.1 == c
def stF(s:Int)(L:Int→Nat)(l:List Stp)(c:Int):List UInt8 :=
 match stOn l c with
 | some x=>stT s L x
 | none=>[45]
def asc:Int→List Stp→Prop
 | _,[]=>True
 | m,x::r=>m<x.1∧asc x.1 r
theorem asc_of {p:Pce} {i:Int}:∀ {l:List Stp} {last:Int},stopsE p i last l=0→asc last l
 | [],_,_=>trivial
 | x::r,last,h=>by
  unfold stopsE at h
  by_cases h1:stopE p i x last≠0
  ·rw [if_pos h1]at h;exact absurd h h1
  ·rw [if_neg h1]at h
   refine⟨?_,asc_of h⟩
   by_cases h2:last<x.1
   ·exact h2
   ·exfalso;apply h1
    unfold stopE
    split
    ·decide
    ·split
     ·decide
     ·rw [if_pos (by omega)];decide
theorem asc_lt:∀ {l:List Stp} {m:Int},asc m l→∀ x∈l,m<x.1
 | y::r,m,h,x,hx=>by
  rcases List.mem_cons.1 hx with rfl|hx
  ·exact h.1
  ·have:=asc_lt h.2 x hx;have:=h.1;omega
theorem asc_take {l:List Stp}:∀ {m:Int} (k:Nat)(h:k<l.length),asc m l→∀ x∈l.take k,x.1<l[k].1:=by
 induction l with
 | nil=>intro m k h;simp at h
 | cons y r ih =>
  intro m k h ha x hx
  cases k with
  | zero=>simp at hx
  | succ k =>
   simp only [List.take_succ_cons,List.mem_cons] at hx
   rcases hx with rfl|hx
   ·exact asc_lt ha.2 _ (by simp)
   ·simpa using ih k (by simpa using h) ha.2 x hx
theorem stOn_none {l:List Stp} {c:Int} (h:∀ x∈l,x.1≠c):stOn l c=none:=by
 unfold stOn
 rw [List.find?_eq_none]
 intro x hx
 simpa using h x hx
theorem stOn_snoc (l:List Stp)(x:Stp)(c:Int)(h:∀ y∈l,y.1<x.1):stOn (l++[x]) c=if c=x.1 then some x else stOn l c:=by
 by_cases e:c=x.1
 ·rw [if_pos e]
  have h0:stOn l c=none:=stOn_none fun y hy=>by have:=h y hy;omega
  unfold stOn at h0 ⊢
  rw [List.find?_append,h0]
  simp [e]
 ·rw [if_neg e]
  unfold stOn
  rw [List.find?_append]
  have:[x].find? (fun y=>y.1 == c)=none:=by simp;omega
  rw [this,Option.or_none]
theorem stF_snoc (s:Int)(L:Int→Nat)(l:List Stp)(x:Stp)(c:Int)(h:∀ y∈l,y.1<x.1):stF s L (l++[x]) c=if c=x.1 then stT s L x else stF s L l c:=by
 unfold stF
 rw [stOn_snoc l x c h]
 by_cases e:c=x.1
 ·rw [if_pos e,if_pos e]
 ·rw [if_neg e,if_neg e]
def cAt(s:Int)(n j:Nat):Int:=if s=2 then(n:Int)-j else(j:Int)+1
def staffL (s:Int)(L:Int→Nat)(n:Nat)(l:List Stp):List (List UInt8):=(List.range n).map fun j=>stF s L l (cAt s n j)
theorem staffL_nil(s:Int)(L:Int→Nat)(n:Nat):staffL s L n []=List.replicate n [45]:=by
 unfold staffL
 apply List.ext_getElem
 ·simp
 ·intro i h1 h2;simp [stF,stOn]
theorem staffL_snoc (s:Int)(L:Int→Nat)(n:Nat)(l:List Stp)(x:Stp)(hs:s≠4)(h:∀ y∈l,y.1<x.1)(h1:1≤x.1)(hn:x.1≤n):staffL s L n (l++[x])=(staffL s L n l).set (lineV s x.1 n-1).toNat (stT s L x):=by
 apply List.ext_getElem
 ·simp [staffL]
 ·intro j h2 h3
  have hj:j<n:=by simpa [staffL]using h2
  rw [List.getElem_set]
  simp only [staffL,List.getElem_map,List.getElem_range]
  rw [stF_snoc s L l x _ h]
  have e:cAt s n j=x.1↔(lineV s x.1 n-1).toNat=j:=by
   unfold cAt lineV
   rw [if_neg hs]
   by_cases e2:s=2
   ·rw [if_pos e2,if_pos e2];omega
   ·rw [if_neg e2,if_neg e2];omega
  by_cases e3:cAt s n j=x.1
  ·rw [if_pos e3,if_pos (e.1 e3)]
  ·rw [if_neg e3,if_neg (fun q=>e3 (e.2 q))]
def outL (s:Int)(L:Int→Nat)(n:Nat)(l:List Stp):List (List UInt8) :=
 if s=2 then ((l.filter fun x=>decide ((n:Int)<x.1)).map (stT s L)).reverse else (l.filter fun x=>decide ((n:Int)<x.1)).map (stT s L)
theorem outL_in (s:Int)(L:Int→Nat)(n:Nat)(l:List Stp)(x:Stp)(h:x.1≤n):outL s L n (l++[x])=outL s L n l:=by
 unfold outL
 have:[x].filter (fun x=>decide ((n:Int)<x.1))=[]:=by simp;omega
 rw [List.filter_append,this,List.append_nil]
theorem outL_out (s:Int)(L:Int→Nat)(n:Nat)(l:List Stp)(x:Stp)(h:¬ x.1≤n):outL s L n (l++[x])=if s=2 then stT s L x::outL s L n l else outL s L n l++[stT s L x]:=by
 unfold outL
 have:[x].filter (fun x=>decide ((n:Int)<x.1))=[x]:=by simp;omega
 rw [List.filter_append,this]
 by_cases e:s=2
 ·rw [if_pos e,if_pos e,if_pos e];simp
 ·rw [if_neg e,if_neg e,if_neg e];simp
theorem outL_len(s:Int)(L:Int→Nat)(n:Nat)(l:List Stp):(outL s L n l).length≤l.length:=by
 unfold outL
 split
 ·simp;exact List.length_filter_le _ _
 ·simp;exact List.length_filter_le _ _
def headW (s:Int)(e:Ev):List (List UInt8):=if e.bar=true then [[124],tW e.val (sgI e.dot e.three)]else [tW e.val (sgI e.dot e.three)]
def staffN(s:Int)(p:Pce):Nat:=if s=4 then 0 else min p.cs.length 6
def colW (s:Int) (p:Pce) (i:Int) (e:Ev):List (List UInt8) :=
 headW s e++(if e.tie=true then [[126]] else if e.stops.length=0 then [[37]] else
  if s=2 then outL s (fun c=>longestN p.evs i c) (staffN s p) e.stops++staffL s (fun c=>longestN p.evs i c) (staffN s p) e.stops
  else staffL s (fun c=>longestN p.evs i c) (staffN s p) e.stops++outL s (fun c=>longestN p.evs i c) (staffN s p) e.stops)
def spW (l:List (List UInt8)):List UInt8:=l.flatMap sp
def joinW:List (List UInt8)→List UInt8
 | []=>[]
 | x::r=>x++spW r
theorem joinW_lib (l:List (List UInt8)):Lib.join l [32]=joinW l:=by
 cases l with
 | nil=>rfl
 | cons x r =>
  rw [Lib.join_cons]
  show x++Lib.joinTail [32] r=x++r.flatMap sp
  unfold Lib.joinTail
  rw [List.flatMap_def];rfl
def colS (s:Int)(p:Pce)(i:Int)(e:Ev):List UInt8:=joinW (colW s p i e)
theorem stOn_eq {l:List Stp} {c:Int} {x:Stp} (h:stOn l c=some x):x∈l∧x.1=c:=by
 unfold stOn at h
 exact⟨List.mem_of_find?_eq_some h,by simpa using List.find?_some h⟩
theorem cellS_len(s c f r g h L:Int)(hs:1≤s∧s≤4)(hc:1≤c∧c≤14)(hf:0≤f∧f≤18):(cellS s c f r g h L).length≤12:=by
 unfold cellS
 have h1:=(pS_len s c f hs hc hf).1
 have h2:=rR_len s r
 have h3:=rG_len s g
 have h4:=pH_len s h L
 simp only [List.length_append];omega
theorem spW_len {n:Nat}:∀ {l:List (List UInt8)},(∀ t∈l,t.length≤n)→(spW l).length≤(n+1)*l.length
 | [],_=>by simp [spW]
 | x::r,h=>by
  have h1:=spW_len (l:=r) fun t ht=>h t (by simp [ht])
  have h2:=h x (by simp)
  unfold spW at h1 ⊢
  rw [List.flatMap_cons,List.length_append,List.length_cons,Nat.mul_succ]
  have:(sp x).length=x.length+1:=by simp [sp]
  omega
end
end Go.Proofs.YtgelfflighgajaaGreatDoor
