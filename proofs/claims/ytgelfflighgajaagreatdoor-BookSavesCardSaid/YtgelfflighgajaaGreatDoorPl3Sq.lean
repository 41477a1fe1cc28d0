/- Symbol and Place of the program, in one system. -/
import Derived.Test.YtgelfflighgajaaGreatDoorSymSq
import Derived.Test.YtgelfflighgajaaGreatDoorRefSq
import Derived.Test.YtgelfflighgajaaGreatDoorRLgSq
set_option linter.unusedVariables false
set_option linter.unusedSimpArgs false
namespace Go.Proofs.YtgelfflighgajaaGreatDoor
def pS (s c f:Int):List UInt8:=if s=1 then frS c f else if s=2 then itS c f else if s=3 then spS c f else geS c f
def pOk (s c f:Int):Bool:=if s=1 then frOk c f else if s=2 then itOk c f else if s=3 then spOk c f else geOk c f
def symOne (s c f:Nat):Bool:=(pOk s c f == !(rS s c f).isEmpty) && (!pOk s c f || pS s c f == rS s c f)
theorem symAll:((List.range' 1 4).all fun s=>(List.range' 1 14).all fun c=>(List.range 19).all fun f=>symOne s c f)=true:=by
 decide +kernel
theorem sym_law (s c f:Int) (hs:1≤s∧s≤4) (hc:1≤c∧c≤14) (hf:0≤f∧f≤18) :
  pOk s c f=!(rS s c f).isEmpty∧(pOk s c f=true→pS s c f=rS s c f):=by
 obtain ⟨s,rfl⟩:=Int.eq_ofNat_of_zero_le (show 0≤s by omega)
 obtain ⟨c,rfl⟩:=Int.eq_ofNat_of_zero_le (show 0≤c by omega)
 obtain ⟨f,rfl⟩:=Int.eq_ofNat_of_zero_le hf.1
 have h:=symAll
 rw [List.all_eq_true] at h
 have h1:=h s (List.mem_range'_1.2 (by omega))
 rw [List.all_eq_true] at h1
 have h2:=h1 c (List.mem_range'_1.2 (by omega))
 rw [List.all_eq_true] at h2
 have h3:=h2 f (List.mem_range.2 (by omega))
 unfold symOne at h3
 simp only [Bool.and_eq_true,beq_iff_eq,Bool.or_eq_true,Bool.not_eq_true'] at h3
 refine ⟨h3.1,fun hk=>?_⟩
 rcases h3.2 with h4|h4
 ·rw [hk] at h4;cases h4
 ·exact h4
end Go.Proofs.YtgelfflighgajaaGreatDoor
namespace Go.Proofs.YtgelfflighgajaaGreatDoor
def tmLet:List UInt8:=[66,83,77,67,81,88,68]
def tW (v:Int) (i:Nat):List UInt8:=if v=0 then [45] else if i=0 then cut tmLet (v-1) v else if i=1 then cut tmLet (v-1) v++[46] else cut tmLet (v-1) v++[51]
def tOk (s v:Int) (i:Nat):Bool:=if v=0 then decide (s≠4) else (decide (i≠2) || decide (s≠4))
def sgD (i:Nat):Bool:=i == 1
def sgT (i:Nat):Bool:=i == 2
def sgOk (v:Int) (d t:Bool):Bool:=(v == 0 && !d && !t) || (decide (1≤v) && decide (v≤7) && !(d && t))
def sgI (d t:Bool):Nat:=if d then 1 else if t then 2 else 0
def tkV (v:Int) (d t:Bool):Int :=
 if v<1∨7<v∨(d && t)=true then 0 else if d then 384/2 ^ (v-1).toNat/2*3 else if t then 384/2 ^ (v-1).toNat/3*2 else 384/2 ^ (v-1).toNat
theorem tkAll:((List.range' 1 7).all fun v=>[(false,false),(true,false),(false,true)].all fun p=>decide (0<tkV (v:Nat) p.1 p.2))=true:=by decide +kernel
theorem tkV_pos (v:Int) (d t:Bool) (hv:1≤v∧v≤7) (h:(d && t)=false):0<tkV v d t:=by
 obtain ⟨v,rfl⟩:=Int.eq_ofNat_of_zero_le (show 0≤v by omega)
 have h1:=tkAll
 rw [List.all_eq_true] at h1
 have h2:=h1 v (List.mem_range'_1.2 (by omega))
 rw [List.all_eq_true] at h2
 cases d<;>cases t
 ·exact of_decide_eq_true (h2 (false,false) (by simp))
 ·exact of_decide_eq_true (h2 (false,true) (by simp))
 ·exact of_decide_eq_true (h2 (true,false) (by simp))
 ·cases h
end Go.Proofs.YtgelfflighgajaaGreatDoor
namespace Go.Proofs.YtgelfflighgajaaGreatDoor
open Go.RowKit
def lineV (s c n:Int):Int:=if s=4 then 0 else if s=2 then n+1-c else c
theorem insE_len {cs:List (Int×Int×Bool)} {st:List Int} (h:insE cs st=0):1≤cs.length∧cs.length≤14∧st.length≤18∧stepsBad 0 st=false∧crsE st cs=0:=by
 unfold insE at h
 by_cases h1:14<cs.length∨18<st.length
 ·rw [if_pos h1] at h;cases h
 ·rw [if_neg h1] at h
  by_cases h2:cs.length=0
  ·rw [if_pos h2] at h;cases h
  ·rw [if_neg h2] at h
   by_cases h3:stepsBad 0 st=true
   ·rw [if_pos h3] at h;cases h
   ·rw [if_neg h3] at h
    exact ⟨by omega,by omega,by omega,by simpa using h3,h⟩
end Go.Proofs.YtgelfflighgajaaGreatDoor
namespace Go.Proofs.YtgelfflighgajaaGreatDoor
open Go.RowKit
def fretsOf (cs:List (Int×Int×Bool)) (c:Int):Int:=(cs.getD (c.toNat-1) (0,0,false)).2.1
def stopE (p:Pce) (i:Int) (s:Stp) (last:Int):Int :=
 if s.1<1∨(p.cs.length:Int)<s.1 then 12
 else if s.2.1<0∨fretsOf p.cs s.1<s.2.1 then 13
 else if s.1≤last then 22
 else if (s.2.2.1<0∨3<s.2.2.1)∨(s.2.2.2.1<0∨4<s.2.2.2.1) then 23
 else if (s.2.2.2.2<0∨(longestN p.evs i s.1:Int)<s.2.2.2.2)∨(0<s.2.2.2.2∧s.2.1=0) then 24
 else 0
def stopsE (p:Pce) (i:Int):Int→List Stp→Int
 | _,[]=>0
 | last,s::r=>if stopE p i s last≠0 then stopE p i s last else stopsE p i s.1 r
def evE (p:Pce) (i:Int) (e:Ev):Int :=
 if sgOk e.val e.dot e.three=false∨(i=0∧e.val=0) then 20
 else if e.tie=true∧(0<e.stops.length∨i=0) then 21
 else stopsE p i 0 e.stops
def evsE (p:Pce):Nat→List Ev→Int
 | _,[]=>0
 | i,e::r=>if evE p i e≠0 then evE p i e else evsE p (i+1) r
def pceE (p:Pce):Int:=if insE p.cs p.st≠0 then insE p.cs p.st else if 400<p.evs.length then 2 else evsE p 0 p.evs
theorem stopsE_at {p:Pce} {i last:Int} {l:List Stp} {k:Nat} (h:k<l.length):stopsE p i last (l.drop k)=if stopE p i l[k] last≠0 then stopE p i l[k] last else stopsE p i l[k].1 (l.drop (k+1)):=by
 rw [List.drop_eq_getElem_cons h];rfl
theorem evsE_at {p:Pce} {l:List Ev} {k:Nat} (h:k<l.length):evsE p k (l.drop k)=if evE p k l[k]≠0 then evE p k l[k] else evsE p (k+1) (l.drop (k+1)):=by
 rw [List.drop_eq_getElem_cons h];rfl
section
variable {p:Pce} {i last:Int} {s:Stp}
theorem stopE_crs (h:s.1<1∨(p.cs.length:Int)<s.1):stopE p i s last=12:=if_pos h
theorem stopE_fret (h:¬ (s.1<1∨(p.cs.length:Int)<s.1)) (h1:s.2.1<0∨fretsOf p.cs s.1<s.2.1):stopE p i s last=13:=by unfold stopE;rw [if_neg h,if_pos h1]
theorem stopE_order (h:¬ (s.1<1∨(p.cs.length:Int)<s.1)) (h1:¬ (s.2.1<0∨fretsOf p.cs s.1<s.2.1)) (h2:s.1≤last):stopE p i s last=22:=by unfold stopE;rw [if_neg h,if_neg h1,if_pos h2]
theorem stopE_mark (h:¬ (s.1<1∨(p.cs.length:Int)<s.1)) (h1:¬ (s.2.1<0∨fretsOf p.cs s.1<s.2.1)) (h2:¬ s.1≤last) (h3:(s.2.2.1<0∨3<s.2.2.1)∨(s.2.2.2.1<0∨4<s.2.2.2.1)):stopE p i s last=23:=by unfold stopE;rw [if_neg h,if_neg h1,if_neg h2,if_pos h3]
theorem stopE_hold (h:¬ (s.1<1∨(p.cs.length:Int)<s.1)) (h1:¬ (s.2.1<0∨fretsOf p.cs s.1<s.2.1)) (h2:¬ s.1≤last) (h3:¬ ((s.2.2.1<0∨3<s.2.2.1)∨(s.2.2.2.1<0∨4<s.2.2.2.1)))
  (h4:(s.2.2.2.2<0∨(longestN p.evs i s.1:Int)<s.2.2.2.2)∨(0<s.2.2.2.2∧s.2.1=0)):stopE p i s last=24:=by unfold stopE;rw [if_neg h,if_neg h1,if_neg h2,if_neg h3,if_pos h4]
theorem stopE_ok (h:¬ (s.1<1∨(p.cs.length:Int)<s.1)) (h1:¬ (s.2.1<0∨fretsOf p.cs s.1<s.2.1)) (h2:¬ s.1≤last) (h3:¬ ((s.2.2.1<0∨3<s.2.2.1)∨(s.2.2.2.1<0∨4<s.2.2.2.1)))
  (h4:¬ ((s.2.2.2.2<0∨(longestN p.evs i s.1:Int)<s.2.2.2.2)∨(0<s.2.2.2.2∧s.2.1=0))):stopE p i s last=0:=by unfold stopE;rw [if_neg h,if_neg h1,if_neg h2,if_neg h3,if_neg h4]
end
theorem fretsOf_at {cs:List (Int×Int×Bool)} {q:Nat} (h:q<cs.length):fretsOf cs ((q:Int)+1)=cs[q].2.1:=by
 unfold fretsOf
 have:((q:Int)+1).toNat-1=q:=by omega
 rw [this,List.getD_eq_getElem?_getD,List.getElem?_eq_getElem h];rfl
end Go.Proofs.YtgelfflighgajaaGreatDoor
namespace Go.Proofs.YtgelfflighgajaaGreatDoor
open Go.RowKit
set_option maxHeartbeats 1600000
set_option maxRecDepth 100000
attribute [local go_sem] mk_bs bs_size bs_toList bs_append bs_extract
attribute [local simp] run_cut run_cut_to run_cut_from run_add_bs
theorem of_bad (n:Int) (w:World) (h:n<1∨4<n):Calls Tryz.prog 122 #[.int .u8 n] w fun e w'=>e=.returned (.tuple #[.nilIface,.bool false])∧w=w':=by
 have h1:(n == 1)=false:=by simp;omega
 have h2:(n == 2)=false:=by simp;omega
 have h3:(n == 3)=false:=by simp;omega
 have h4:(n == 4)=false:=by simp;omega
 go_enter Tryz.func122,Tryz.ntmps122
 go_wp2
 go_ret2
 exact ⟨rfl,rfl⟩
theorem psym_1 (c f:Int) (w:World) (hc:1≤c∧c≤14) (hf:0≤f∧f≤18) :
  Calls Tryz.prog 280 #[.agg #[],.agg #[.int .i64 c,.int .i64 f]] w (Ret (.tuple #[.string (bs (pS 1 c f)),.bool (pOk 1 c f)]) w):=fr_symbol c f w hc hf
theorem psym_2 (c f:Int) (w:World) (hc:1≤c∧c≤14) (hf:0≤f∧f≤18) :
  Calls Tryz.prog 290 #[.agg #[],.agg #[.int .i64 c,.int .i64 f]] w (Ret (.tuple #[.string (bs (pS 2 c f)),.bool (pOk 2 c f)]) w):=it_symbol c f w hc hf
theorem psym_3 (c f:Int) (w:World) (hc:1≤c∧c≤14) (hf:0≤f∧f≤18) :
  Calls Tryz.prog 298 #[.agg #[],.agg #[.int .i64 c,.int .i64 f]] w (Ret (.tuple #[.string (bs (pS 3 c f)),.bool (pOk 3 c f)]) w):=sp_symbol c f w hf
theorem psym_4 (c f:Int) (w:World) (hc:1≤c∧c≤14) (hf:0≤f∧f≤18) :
  Calls Tryz.prog 305 #[.agg #[],.agg #[.int .i64 c,.int .i64 f]] w (Ret (.tuple #[.string (bs (pS 4 c f)),.bool (pOk 4 c f)]) w):=ge_symbol c f w hc hf
end Go.Proofs.YtgelfflighgajaaGreatDoor
namespace Go.Proofs.YtgelfflighgajaaGreatDoor
open Go.RowKit
set_option maxHeartbeats 1600000
set_option maxRecDepth 100000
abbrev Lck:=Int×Int×Int
def lckCells (x:Lck):List Value:=[.int .i64 x.1,.int .i64 x.2.1,.int .i64 x.2.2]
theorem lck_len (l:List Lck):∀ r∈l.map lckCells,r.length=3:=by intro r h;obtain ⟨x,_,rfl⟩:=List.mem_map.1 h;rfl
theorem lck_one (l:List Lck):∀ r∈l.map lckCells,∀ u∈r,u.oneCell'=true:=by
 intro r h u hu;obtain ⟨x,_,rfl⟩:=List.mem_map.1 h
 simp only [lckCells,List.mem_cons,List.not_mem_nil,or_false] at hu
 rcases hu with rfl|rfl|rfl<;>rfl
theorem infoLack:(Tryz.prog.info? 308).map (fun i=>(i.zero,i.size,i.bytes))=some (some (.agg #[.int .i64 0,.int .i64 0,.int .i64 0]),3,24):=by kernel_rfl
def SayAt (w:World) (B0 b:Nat) (l:List Lck):Prop :=
 ∃ Q d,Blk w b 204 #[.slice Q l.length d]∧w.ownsRow B0 308 3 (.slice Q l.length d) l.length (l.map lckCells).flatten
theorem SayAt.start (w:World) (B0 b:Nat) (h:Blk w b 204 #[.slice none 0 0]):SayAt w B0 b []:=⟨none,0,h,⟨by simp,.inl ⟨rfl,rfl⟩⟩⟩
theorem SayAt.after {w w':World} {B0 b:Nat} {l:List Lck} (h:SayAt w B0 b l) (hb:Below w.heap.size w w'):SayAt w' B0 b l:=by
 obtain ⟨Q,d,h1,h2⟩:=h
 exact ⟨Q,d,h1.after hb,own_keep h2 fun g _ hlt=>hb.block g hlt⟩
def SayKeeps (b:Nat) (w w':World):Prop:=Below b w w'∧w.heap.size≤w'.heap.size∧∀ (g:Nat) (t:TypeId) (cs:Array Value),Blk w g t cs→g≠b→t≠308→Blk w' g t cs
def SayPost (B0 b:Nat) (l:List Lck) (w:World) (e:Ending) (w':World):Prop:=e=.returned (.tuple #[])∧SayAt w' B0 b l∧SayKeeps b w w'
theorem own_ne {w:World} {base g:Nat} {e t:TypeId} {size n:Nat} {v:Value} {xs:List Value} {cs:Array Value} (h:w.ownsRow base e size v n xs) (hg:Blk w g t cs) (hne:t≠e):v.ownBlock≠some g:=by
 rcases h.2 with⟨rfl,_⟩|⟨g',cap,cur,rfl,_,hh,_⟩
 ·simp [Value.ownBlock]
 ·intro he
  have:g'=g:=by simpa [Value.ownBlock] using he
  subst this
  unfold Blk at hg
  rw [hh] at hg
  injection hg with hg
  injection hg with _ ht
  exact hne ht.symm
theorem say_ok (c what:Int) (b be B0:Nat) (l:List Lck) (w:World) (h:SayAt w B0 b l) :
  Calls Tryz.prog 214 #[.bool true,.int .i64 c,.int .i64 what,.pointer (some ⟨b,0,none⟩),.pointer (some ⟨be,0,none⟩)] w (SayPost B0 b l w):=by
 have H:=Lib.hid h
 clear h
 go_enter Tryz.func214,Tryz.ntmps214
 go_wp2
 exact bodyPost_end (v:=.tuple #[]) (by simp [results,Tryz.results214,go_sem]) rfl ⟨rfl,H.out,Below.refl _ _,Nat.le_refl _,fun g t cs h _ _=>h⟩
theorem say_no (c what ev:Int) (b be B0:Nat) (l:List Lck) (w:World) (h:SayAt w B0 b l) (hev:w.cell? ⟨be,0,none⟩=some (.int .i64 ev)) (hb:b<B0) (hB:B0≤w.heap.size) (hl:l.length≤32000) :
    Calls Tryz.prog 214 #[.bool false,.int .i64 c,.int .i64 what,.pointer (some ⟨b,0,none⟩),.pointer (some ⟨be,0,none⟩)] w (SayPost B0 b (l++[(ev,c,what)]) w):=by
  obtain ⟨i0,hi0,hz0,hz1,hz2⟩:=info_parts infoLack
  obtain ⟨Q,d,hQ,hown⟩:=h
  have HQ:=Lib.hid hQ
  have HO:=Lib.hid hown
  have hbl:b<w.heap.size:=hQ.lt
  have hbe:be<w.heap.size:=World.block_lt_of_cell? w _ hev
  have q0:w.cell? ⟨b,0,none⟩=some (.slice Q l.length d):=hQ.cell 0
  have f0:=hQ.frozen 0
  clear hQ hown
  go_enter Tryz.func214,Tryz.ntmps214
  go_wp2_with (at_builtin
               refine wpList_append_rd rfl (.tmp 10) (.tmp 15) _ rfl B0 308 i0 _ 3 24 Tryz.underlying204 hi0 hz0 hz1 hz2 rfl (by omega) (.slice Q l.length d) l.length (l.map lckCells) rfl (own_keep HO.out fun g _ hlt=>Below.heap_alloc _ _ _ hlt) (lck_len _) (by simp) _ (some ⟨w.heap.size,0,none⟩) [lckCells (ev,c,what)] 1 1 rfl rfl (rd_block (blk_new' rfl) rfl) (lck_len [(ev,c,what)]) (lck_one [(ev,c,what)]) (by show l.length+1≤maxLen;unfold maxLen;omega) (by show (l.length+1)*24≤_;omega) (by simp;omega) ?_
               intro Q' d' w3 hown3 hg3 hat3
               have hne:(Value.slice Q l.length d).ownBlock≠some b:=fun e=>by have:=(own_lt HO.out _ e).1;omega
               have kb:Blk w3 b 204 #[.slice Q l.length d]:=blk_grown (HQ.out.alloc _) hg3 (fun e=>hne e.symm)
               have z0:w3.cell? ⟨b,0,none⟩=some (.slice Q l.length d):=kb.cell 0
               have zf0:=kb.frozen 0
               have KB:=Lib.hid kb
               clear kb)
  have hsz3:w.heap.size+1≤w3.heap.size:=by have:=hg3.size;simpa using this
  refine bodyPost_end (v:=.tuple #[]) (by simp [results,Tryz.results214,go_sem]) rfl ⟨rfl,⟨Q',d',?_,?_⟩,?_,?_,?_⟩
  · rw [List.length_append]
    exact KB.out.set_ 0 _
  · rw [List.length_append,List.map_append]
    exact own_keep hown3 fun g hg hlt=>Below.heap_setCell _ _ _ _ (by have:=(own_lt hown3 g hg).1;show g≠b;omega)
  · refine Below.setCell (p:=⟨b,0,none⟩) ?_ (Nat.le_refl b) _
    refine Below.grown ((Below.refl _ _).alloc (by omega) _) hg3 (by simp;omega) (fun g hgv=>by have:=(own_lt HO.out g hgv).1;omega)
  · simp [World.setCell];omega
  · intro g t cs hg hgb ht
    refine Blk.far (p:=⟨b,0,none⟩) ?_ hgb _
    exact blk_grown (hg.alloc _) hg3 (fun e=>own_ne HO.out hg ht e.symm)
end Go.Proofs.YtgelfflighgajaaGreatDoor
namespace Go.Proofs.YtgelfflighgajaaGreatDoor
open Go.RowKit
set_option maxHeartbeats 1600000
set_option maxRecDepth 100000
attribute [local go_sem] mk_bs bs_size bs_toList bs_append bs_extract
attribute [local simp] run_cut run_cut_to run_cut_from run_add_bs
theorem of_2 (w:World):Calls Tryz.prog 122 #[.int .u8 2] w fun e w'=>e=.returned (.tuple #[(.iface 257 (.agg #[])),.bool true])∧w=w':=by
 go_enter Tryz.func122,Tryz.ntmps122
 go_wp2
 go_ret2
 exact ⟨rfl,rfl⟩
end Go.Proofs.YtgelfflighgajaaGreatDoor
namespace Go.Proofs.YtgelfflighgajaaGreatDoor
open Go.RowKit
set_option maxHeartbeats 1600000
set_option maxRecDepth 100000
attribute [local go_sem] mk_bs bs_size bs_toList bs_append bs_extract
attribute [local simp] run_cut run_cut_to run_cut_from run_add_bs
theorem of_3 (w:World):Calls Tryz.prog 122 #[.int .u8 3] w fun e w'=>e=.returned (.tuple #[(.iface 259 (.agg #[])),.bool true])∧w=w':=by
 go_enter Tryz.func122,Tryz.ntmps122
 go_wp2
 go_ret2
 exact ⟨rfl,rfl⟩
end Go.Proofs.YtgelfflighgajaaGreatDoor
