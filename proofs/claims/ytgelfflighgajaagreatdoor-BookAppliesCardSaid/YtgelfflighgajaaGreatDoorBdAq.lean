/- A strings.Builder that the call has made: what its methods write and read, all other memory as it stands. -/
import Derived.Test.YtgelfflighgajaaGreatDoorSpAq
import Derived.Test.YtgelfflighgajaaGreatDoorERAq
set_option linter.unusedVariables false
set_option linter.unusedSimpArgs false
namespace Go.Proofs.YtgelfflighgajaaGreatDoor
open Go.RowKit
def tabB (w:World) (F:View):Prop :=
 (∀ (i:Nat) v,ftL[i]?=some v→F ⟨0,i,none⟩=some (.int .i64 v))∧(∀ (i:Nat) v,bsL[i]?=some v→F ⟨1,i,none⟩=some (.int .i64 v)) ∧
 Lib.TabIs Tryz.prog w "internal/strconv.uint64pow10" .u64 Lib.pow10Tab
def gloB:Nat:=3+1
theorem pow10_at:Tryz.prog.globalNamed "internal/strconv.uint64pow10"=some 3:=by kernel_rfl
theorem var_some {w:World} {cs:Array Value} (h:w.var? Tryz.prog "internal/strconv.uint64pow10"=some cs):gloB≤w.heap.size:=by
 unfold World.var? at h
 rw [pow10_at] at h
 rcases Nat.lt_or_ge 3 w.heap.size with h1|h1
 ·exact h1
 ·simp [Array.getElem?_eq_none h1] at h
theorem stabB:Stab tabB gloB:=⟨fun w F h=>var_some h.2.2,fun w w' F F' hb hF h=>⟨fun i v x=>hF _ _ (h.1 i v x),fun i v x=>hF _ _ (h.2.1 i v x),by
 have h3:=h.2.2
 unfold Lib.TabIs World.var? at h3 ⊢
 rw [pow10_at] at h3 ⊢
 simp only [Option.bind_some] at h3 ⊢
 rw [hb _ (Nat.lt_succ_self _)];exact h3⟩⟩
theorem tab_fifths {z:Int} (h:0≤z∧z≤6):∀ w F,tabB w F→F ⟨0,z.toNat,none⟩=some (.int .i64 (ftV z)):=fun w F hB=>hB.1 _ _ (ftV_at h)
theorem tab_bases {z:Int} (h:0≤z∧z≤6):∀ w F,tabB w F→F ⟨1,z.toNat,none⟩=some (.int .i64 (basV z)):=fun w F hB=>hB.2.1 _ _ (basV_at h)
theorem Ctg.of_sc {B:World→View→Prop} {P:Program} {f:FuncId} {args:List AV} {xs:List Value} {res:AV} {v:Value} (hs:scs args=some xs) (hv:∀ F,RP F res v) (h:∀ w F,B w F→Calls P f xs.toArray w (Ret v w)):Ctg B P f args res:=by
 intro w F vs hB hF hR
 have:vs=xs:=scs_of (G:=⟨F,fun _=>0,fun _=>0,fun _=>undef,fun _ _=>False⟩) hs hR.1 fun i av u a b=>.pu _ _ (hR.2 i av u a b)
 subst this
 exact (h w F hB).mono fun e w' ⟨he,hb⟩=>⟨v,F,he,hb,fun _ _ h=>h,fun p u x=>by rw [hb.cell (cell_block (hF p u x))];exact hF p u x,fun _ _ h=>.inl h,hv F⟩
theorem itoa_G (n:Int) (h:I64 n):Ctg tabB Tryz.prog 116 [.sc (.int .i64 n)] (.sc (.string (bs (Lib.itoa n)))) :=
 Ctg.of_sc (v:=.string (bs (Lib.itoa n))) rfl (fun _=>.sc _) fun w F hB=>(Tryz.strconv_Itoa n h.1 (by have:=h.2;omega) w hB.2.2).mono fun e w' ⟨he,k,os,hw⟩=>⟨he,by
  subst hw
  refine ⟨rfl,rfl,rfl,?_,fun i hi=>?_⟩
  ·show w.heap.size≤(w.heap++os).size
   rw [Array.size_append];omega
  ·show (w.heap++os)[i]?=w.heap[i]?
   rw [Array.getElem?_append_left hi]⟩
end Go.Proofs.YtgelfflighgajaaGreatDoor
namespace Go.Proofs.YtgelfflighgajaaGreatDoor
open Go.RowKit
theorem crsE_fr {st:List Int}:∀ {cs:List (Int×Int×Bool)},crsE st cs=0→∀ k (h:k<cs.length),0≤cs[k].2.1∧cs[k].2.1≤st.length:=by
 intro cs
 induction cs with
 | nil=>intro _ k h;simp at h
 | cons x r ih =>
  intro h k hk
  unfold crsE at h
  by_cases h1:x.2.1<0∨(st.length:Int)<x.2.1
  ·rw [if_pos h1] at h;cases h
  ·rw [if_neg h1] at h
   by_cases h2:(x.1<0∨127<x.1)∨127<topOf st x
   ·rw [if_pos h2] at h;cases h
   ·rw [if_neg h2] at h
    cases k with
    | zero=>simp;omega
    | succ k=>simpa using ih h k (by simpa using hk)
theorem stopE_bd {p:Pce} {i last:Int} {s:Stp} (hI:insE p.cs p.st=0) (h:stopE p i s last=0) :
  (1≤s.1∧s.1≤14)∧(0≤s.2.1∧s.2.1≤18)∧(0≤s.2.2.1∧s.2.2.1≤3)∧(0≤s.2.2.2.1∧s.2.2.2.1≤4)∧(0≤s.2.2.2.2∧s.2.2.2.2≤15):=by
 obtain ⟨l1,l2,l3,_,l5⟩:=insE_len hI
 unfold stopE at h
 by_cases h1:s.1<1∨(p.cs.length:Int)<s.1
 ·rw [if_pos h1] at h;cases h
 ·rw [if_neg h1] at h
  by_cases h2:s.2.1<0∨fretsOf p.cs s.1<s.2.1
  ·rw [if_pos h2] at h;cases h
  ·rw [if_neg h2] at h
   by_cases h3:s.1≤last
   ·rw [if_pos h3] at h;cases h
   ·rw [if_neg h3] at h
    by_cases h4:(s.2.2.1<0∨3<s.2.2.1)∨(s.2.2.2.1<0∨4<s.2.2.2.1)
    ·rw [if_pos h4] at h;cases h
    ·rw [if_neg h4] at h
     by_cases h5:(s.2.2.2.2<0∨(longestN p.evs i s.1:Int)<s.2.2.2.2)∨(0<s.2.2.2.2∧s.2.1=0)
     ·rw [if_pos h5] at h;cases h
     ·have hL:=longestN_le p.evs i s.1
      have hk:s.1.toNat-1<p.cs.length:=by omega
      have hf:fretsOf p.cs s.1=p.cs[s.1.toNat-1].2.1:=by
       have:=fretsOf_at hk
       rw [← this];congr 1;omega
      have:=crsE_fr l5 _ hk
      refine ⟨⟨by omega,by omega⟩,⟨by omega,by omega⟩,⟨by omega,by omega⟩,⟨by omega,by omega⟩,by omega,by omega⟩
theorem stopsE_bd {p:Pce} {i:Int} (hI:insE p.cs p.st=0):∀ {l:List Stp} {last:Int},stopsE p i last l=0→∀ k (h:k<l.length),∃ la,stopE p i l[k] la=0:=by
 intro l
 induction l with
 | nil=>intro _ _ k h;simp at h
 | cons x r ih =>
  intro last h k hk
  unfold stopsE at h
  by_cases h1:stopE p i x last≠0
  ·rw [if_pos h1] at h;exact absurd h h1
  ·rw [if_neg h1] at h
   cases k with
   | zero=>exact ⟨last,by simpa using h1⟩
   | succ k=>simpa using ih h k (by simpa using hk)
theorem evsE_bd {p:Pce}:∀ {l:List Ev} {n:Nat},evsE p n l=0→∀ k (h:k<l.length),evE p ((n+k:Nat):Int) l[k]=0:=by
 intro l
 induction l with
 | nil=>intro _ _ k h;simp at h
 | cons x r ih =>
  intro n h k hk
  unfold evsE at h
  by_cases h1:evE p n x≠0
  ·rw [if_pos h1] at h;exact absurd h h1
  ·rw [if_neg h1] at h
   cases k with
   | zero=>simpa using h1
   | succ k =>
    have:=ih h k (by simpa using hk)
    rw [show n+1+k=n+(k+1) by omega] at this
    simpa using this
theorem pceE_zero {p:Pce} (h:pceE p=0):insE p.cs p.st=0∧p.evs.length≤400∧∀ k (hk:k<p.evs.length),evE p k p.evs[k]=0:=by
 unfold pceE at h
 by_cases h1:insE p.cs p.st≠0
 ·rw [if_pos h1] at h;exact absurd h h1
 ·rw [if_neg h1] at h
  by_cases h2:400<p.evs.length
  ·rw [if_pos h2] at h;cases h
  ·rw [if_neg h2] at h
   refine ⟨by simpa using h1,by omega,fun k hk=>?_⟩
   have:=evsE_bd h k hk
   simpa using this
theorem evE_zero {p:Pce} {i:Int} {e:Ev} (h:evE p i e=0):sgOk e.val e.dot e.three=true∧¬ (i=0∧e.val=0)∧¬ (e.tie=true∧(0<e.stops.length∨i=0))∧stopsE p i 0 e.stops=0:=by
 unfold evE at h
 by_cases h1:sgOk e.val e.dot e.three=false∨(i=0∧e.val=0)
 ·rw [if_pos h1] at h;cases h
 ·rw [if_neg h1] at h
  by_cases h2:e.tie=true∧(0<e.stops.length∨i=0)
  ·rw [if_pos h2] at h;cases h
  ·rw [if_neg h2] at h
   refine ⟨?_,fun x=>h1 (.inr x),h2,h⟩
   cases hs:sgOk e.val e.dot e.three with
   | true=>rfl
   | false=>exact absurd (.inl hs) h1
theorem stopsIn_of {p:Pce} (h:pceE p=0) (k:Nat) (hk:k<p.evs.length):StopsIn p.evs[k]:=by
 obtain ⟨h1,h2,h3⟩:=pceE_zero h
 intro j hj
 obtain ⟨la,hla⟩:=stopsE_bd h1 (evE_zero (h3 k hk)).2.2.2 j hj
 exact stopE_bd h1 hla
def lksTo (s:Int) (p:Pce):Nat→List Lck
 | 0=>[]
 | k+1=>lksTo s p k++(match p.evs[k]? with|some e=>lackE s p k e|none=>[])
theorem lksTo_at (s:Int) (p:Pce) {k:Nat} (h:k<p.evs.length):lksTo s p (k+1)=lksTo s p k++lackE s p k p.evs[k]:=by
 show lksTo s p k++_=_
 rw [List.getElem?_eq_getElem h]
theorem lackE_len (s:Int) (p:Pce) (i:Int) (e:Ev) (h:e.stops.length≤20):(lackE s p i e).length≤63:=by
 rw [lackE_eq]
 have a:=lk1_len s i e.val
 have b:=lk2_len s i e.three
 have c:=lk3_len s i e.tie e.stops.length
 have d:=flat_len s i (fun c=>longestN p.evs i c) e.stops
 simp only [List.length_append];omega
theorem lksTo_len (s:Int) {p:Pce} (hO:PcOk p):∀ k,k≤p.evs.length→(lksTo s p k).length≤27000:=by
 have hn:=hO.n3
 have:∀ k,k≤p.evs.length→(lksTo s p k).length≤63*k:=by
  intro k
  induction k with
  | zero=>intro _;simp [lksTo]
  | succ k ih =>
   intro hk
   rw [lksTo_at s p (by omega),List.length_append]
   have:=ih (by omega)
   have:=lackE_len s p k p.evs[k] (hO.n4 k (by omega))
   omega
 intro k hk
 have:=this k hk
 omega
end Go.Proofs.YtgelfflighgajaaGreatDoor
namespace Go.Proofs.YtgelfflighgajaaGreatDoor
open Go.RowKit
structure StpOk (p:Pce) (k:Nat) (x:Stp):Prop where
 crs:1≤x.1∧x.1≤p.cs.length
 c14:x.1≤14
 fret:0≤x.2.1∧x.2.1≤fretsOf p.cs x.1
 f18:x.2.1≤18
 hold:0≤x.2.2.2.2∧x.2.2.2.2≤longestN p.evs k x.1
 h0:0<x.2.2.2.2→x.2.1≠0
theorem stpOk_of {p:Pce} {i:Nat} {last:Int} {s:Stp} (hI:insE p.cs p.st=0) (h:stopE p i s last=0):StpOk p i s∧last<s.1:=by
 have hb:=stopE_bd hI h
 unfold stopE at h
 by_cases h1:s.1<1∨(p.cs.length:Int)<s.1
 ·rw [if_pos h1] at h;cases h
 ·rw [if_neg h1] at h
  by_cases h2:s.2.1<0∨fretsOf p.cs s.1<s.2.1
  ·rw [if_pos h2] at h;cases h
  ·rw [if_neg h2] at h
   by_cases h3:s.1≤last
   ·rw [if_pos h3] at h;cases h
   ·rw [if_neg h3] at h
    by_cases h4:(s.2.2.1<0∨3<s.2.2.1)∨(s.2.2.2.1<0∨4<s.2.2.2.1)
    ·rw [if_pos h4] at h;cases h
    ·rw [if_neg h4] at h
     by_cases h5:(s.2.2.2.2<0∨(longestN p.evs i s.1:Int)<s.2.2.2.2)∨(0<s.2.2.2.2∧s.2.1=0)
     ·rw [if_pos h5] at h;cases h
     ·exact ⟨⟨by omega,by omega,by omega,by omega,by omega,by omega⟩,by omega⟩
theorem stopsE_ok {p:Pce} {i:Nat} (hI:insE p.cs p.st=0):∀ {l:List Stp} {last:Int},stopsE p i last l=0→(∀ x∈l,StpOk p i x∧last<x.1)∧l.Pairwise fun x y=>x.1<y.1:=by
 intro l
 induction l with
 | nil=>intro _ _;exact ⟨fun x hx=>(by cases hx),.nil⟩
 | cons x r ih =>
  intro last h
  unfold stopsE at h
  by_cases h1:stopE p i x last≠0
  ·rw [if_pos h1] at h;exact absurd h h1
  ·rw [if_neg h1] at h
   have hx:=stpOk_of hI (by simpa using h1:stopE p i x last=0)
   obtain ⟨q1,q2⟩:=ih h
   refine ⟨fun y hy=>?_,.cons (fun y hy=>(q1 y hy).2) q2⟩
   rcases List.mem_cons.1 hy with rfl|hy
   ·exact hx
   ·exact ⟨(q1 y hy).1,by have:=(q1 y hy).2;omega⟩
structure EvOk (p:Pce) (k:Nat) (e:Ev):Prop where
 sg:sgOk e.val e.dot e.three=true
 first:¬ ((k:Int)=0∧e.val=0)
 tie:e.tie=true→e.stops=[]∧0<k
 stops:∀ x∈e.stops,StpOk p k x
 asc:e.stops.Pairwise fun x y=>x.1<y.1
theorem evOk_of {p:Pce} (h:pceE p=0) {k:Nat} (hk:k<p.evs.length):EvOk p k p.evs[k]:=by
 obtain ⟨h1,h2,h3⟩:=pceE_zero h
 obtain ⟨a,b,c,d⟩:=evE_zero (h3 k hk)
 obtain ⟨q1,q2⟩:=stopsE_ok h1 d
 refine ⟨a,b,fun ht=>?_,fun x hx=>(q1 x hx).1,q2⟩
 have:¬ (0<p.evs[k].stops.length∨(k:Int)=0):=fun hh=>c ⟨ht,hh⟩
 exact ⟨List.eq_nil_of_length_eq_zero (by omega),by omega⟩
theorem runL_le' (c:Int):∀ (n:Nat) (l:List Ev),runL c n l≤l.length:=by
 intro n
 induction n with
 | zero=>intro l;unfold runL;first|exact Nat.zero_le _|(split<;>exact Nat.zero_le _)
 | succ n ih =>
  intro l
  cases l with
  | nil=>simp [runL]
  | cons e r =>
   unfold runL
   split
   ·exact Nat.zero_le _
   ·have:=ih r;simp;omega
theorem longestN_end {evs:List Ev} {i:Nat} (h:i<evs.length) (c:Int):i+longestN evs i c+1≤evs.length:=by
 unfold longestN
 rw [if_neg (by omega)]
 have:=runL_le' c 15 (evs.drop ((i:Int).toNat+1))
 simp only [Int.toNat_natCast,List.length_drop] at this ⊢
 omega
end Go.Proofs.YtgelfflighgajaaGreatDoor
namespace Go.Proofs.YtgelfflighgajaaGreatDoor
open Go.RowKit
set_option maxRecDepth 100000
set_option maxHeartbeats 4000000
theorem ownsRowF_base {w:World} {B e size n:Nat} {v:Value} {xs:List Value} (h:w.ownsRowF B e size v n xs):w.ownsRowF 0 e size v n xs:=by
 refine ⟨h.1,?_⟩
 rcases h.2 with x|⟨g,cap,cur,fz,e,hb,r⟩
 ·exact .inl x
 ·exact .inr ⟨g,cap,cur,fz,e,Nat.zero_le _,r⟩
theorem append_strF {P:Program} (w:World) (t u ty e:TypeId) (i:TypeInfo) (ht:P.underlying t=some (.slice e)) (hu:P.underlying u=some .string) (hi:P.info? e=some i) (hz:i.zero=some (.int .u8 0)) (hs1:i.size=1) (hby:i.bytes=1)
  (v:Value) (n:Nat) (xs:List Value) (hown:w.ownsRowF 0 e 1 v n xs) (s:ByteArray) (hb:n+s.size≤1000000000) :
  ∃ v' w',(Builtin.append_ #[t,u] ty #[v,.string s]).run P w=.ok v' w'∧w'.ownsRowF 0 e 1 v' (n+s.size) (xs++Lib.strCells s)∧w.grownBy w' v.ownBlock∧∀ g,v'.ownBlock=some g→v.ownBlock=some g∨w.heap.size≤g:=by
 rcases hown.2 with⟨rfl,rfl⟩|⟨g,cap,cur,fz,rfl,hbg,hg,hfz,hnc,hcm,hcs,htake⟩
 ·obtain ⟨v',w',h1,h2,h3,_⟩:=Lib.run_append_own_stringF (P:=P) w w.heap.size t u ty e i ht hu hi hz hs1 hby (.slice none 0 0) 0 xs ⟨hown.1,.inl ⟨rfl,rfl⟩⟩ s (by unfold maxLen;omega) (by omega) (Nat.le_refl _)
  exact ⟨v',w',h1,ownsRowF_base h2,h3,fun g hg=>.inr (h2.lt g hg).1⟩
 ·obtain ⟨v',w',h1,h2,h3,_⟩:=Lib.run_append_own_stringF (P:=P) w 0 t u ty e i ht hu hi hz hs1 hby _ n xs hown s (by unfold maxLen;omega) (by omega) (Nat.zero_le _)
  refine ⟨v',w',h1,h2,h3,fun g' hg'=>?_⟩
  have hxl:xs.length=n:=by simpa using hown.1
  have hcs1:cur.size=cap:=by simpa using hcs
  by_cases hroom:n+s.size≤cap
  ·have hr:=Lib.run_append_room_stringF (P:=P) w t u ty e i ht hu hi hs1 g n cap cur fz hg (by simpa using hfz) s hroom (by omega)
   rw [hr] at h1
   cases h1
   exact .inl hg'
  ·have hr:=Lib.run_append_grow_string (P:=P) w t u ty e i (.int .u8 0) ht hu hi hz ⟨g,0,none⟩ n cap xs (by rw [hs1];simpa using hxl) (hown.cells (g:=g) rfl) s (by omega) (by omega) (by rw [hby];exact growslice_fits (by omega) (by omega))
   rw [hr] at h1
   cases h1
   simp [Value.ownBlock] at hg'
   right;omega
theorem run_appendStr {P:Program} {o:Oper} {a:Act} {w w':World} {x y:Operand} {T U:TypeId} {s:ByteArray} {v v':Value} {N:Act→World→Prop} {Q':Exit→Act→World→Prop} (ho:o.op=.call { callee:=.builtin .append,args:=#[x,y],argTypes:=#[T,U] }) (ex:a.eval x=v) (ey:a.eval y=.string s)
  (hrun:(Builtin.append_ #[T,U] o.type #[v,.string s]).run P w=.ok v' w') (hN:N (a.put o.dst v') w'):o.wp P a w N Q':=by
 unfold Oper.wp execOp
 have hargs:(#[x,y]:Array Operand).map a.eval=#[v,.string s]:=by simp [ex,ey]
 simp only [ho,resolve,invoke,builtin,Sem.run_bind,Sem.run_pure,Result.andThen_ok,hargs,hrun,Oper.upon]
 exact hN
theorem strCells_bs (s:List UInt8):Lib.strCells (bs s)=Lib.byteCells s:=by
 unfold Lib.strCells Lib.byteCells
 rfl
theorem bldSize:(Tryz.prog.info? 109).map (·.size)=some 2:=by kernel_rfl
theorem bldLies:liesAt Tryz.prog Tryz.prog.depth 109 (2/Tryz.prog.cellsOf 109) 0 109 1=true:=by kernel_rfl
theorem byteInfo:(Tryz.prog.info? 5).map (fun i=>(i.zero,i.size,i.bytes))=some (some (.int .u8 0),1,1):=by kernel_rfl
theorem byteCellsOf:Tryz.prog.cellsOf 5=1:=by kernel_rfl
theorem bld_copy_used (b:Nat) (w:World) (h0:w.cell? ⟨b,0,none⟩=some (.pointer (some ⟨b,0,none⟩))) :
  Calls Tryz.prog 125 #[.pointer (some ⟨b,0,none⟩)] w fun e w'=>e=.returned (.tuple #[])∧w'=w:=by
 obtain ⟨j,hj,_⟩:=Option.map_eq_some_iff.1 bldSize
 go_enter Tryz.func125,Tryz.ntmps125
 go_wp2
 rw [Lib.run_neq_ptr_same w _ Tryz.underlying107 hj]
 go_wp2
 go_end0
 exact ⟨rfl,rfl⟩
theorem bld_copy_fresh (b:Nat) (w:World) (h0:w.cell? ⟨b,0,none⟩=some (.pointer none)) (hsh:w.shape? b=some (109,2)) (hfz:w.frozen? ⟨b,0,none⟩=false) :
  Calls Tryz.prog 125 #[.pointer (some ⟨b,0,none⟩)] w fun e w'=>e=.returned (.tuple #[])∧w'=w.setCell ⟨b,0,none⟩ (.pointer (some ⟨b,0,none⟩)):=by
 obtain ⟨j,hj,hjs⟩:=Option.map_eq_some_iff.1 bldSize
 go_enter Tryz.func125,Tryz.ntmps125
 go_wp2
 rw [Lib.run_to_unsafe w ⟨b,0,none⟩ Tryz.underlying107 Tryz.underlying266 hj (by rw [hjs];decide) hsh (Nat.zero_lt_succ 1)]
 simp only [Result.andThen]
 rw [Oper.upon_value]
 go_wp2
 rw [run_callFunc_extern Tryz.func184 (by kernel_rfl) (by kernel_rfl) (by kernel_rfl) (e:=Extern.AbiNoEscape.same) (by kernel_rfl)]
 rw [Lib.run_noEscape]
 simp only [Result.andThen]
 rw [Oper.upon_value]
 go_wp2
 rw [Lib.run_from_unsafe w ⟨b,0,none⟩ Tryz.underlying266 Tryz.underlying107 hj hsh bldLies]
 simp only [Result.andThen]
 rw [Oper.upon_value]
 go_wp2
 go_end0
 exact ⟨rfl,rfl⟩
theorem bld_copy (w:World) (b:Nat) (p v:Value) (hp:p=.pointer none∨p=.pointer (some ⟨b,0,none⟩)) (hbk:w.heap[b]?=some (.cells #[p,v] 109 (0,0))) :
  Calls Tryz.prog 125 #[.pointer (some ⟨b,0,none⟩)] w fun e w'=>e=.returned (.tuple #[])∧w'.heap[b]?=some (.cells #[.pointer (some ⟨b,0,none⟩),v] 109 (0,0))∧Kept (fun x=>x=b) w w'∧w'.heap.size=w.heap.size:=by
 have c0:w.cell? ⟨b,0,none⟩=some p:=by rw [Lib.cell_of_heap hbk];rfl
 rcases hp with rfl|rfl
 ·refine (bld_copy_fresh b w c0 (by simp [World.shape?,hbk]) (Lib.frozen_of_heap hbk 0)).mono ?_
  rintro e w' ⟨rfl,rfl⟩
  refine ⟨rfl,heap_setCell_same w b 0 _ _ _ hbk,⟨rfl,rfl,rfl,by simp [World.setCell],fun k hk hne=>heap_setCell_other w _ k _ hne⟩,by simp [World.setCell]⟩
 ·refine (bld_copy_used b w c0).mono ?_
  rintro e w' ⟨rfl,rfl⟩
  exact ⟨rfl,hbk,Kept.refl _ _,rfl⟩
theorem bldW_ok:BldW Tryz.prog 58 109 5:=by
 intro w b φ l s hφ h hl
 obtain ⟨p,v,hp,hbk,hown,hfp⟩:=h
 obtain ⟨i0,hi,hz0,hz1,hz2⟩:=info_parts (P:=Tryz.prog) byteInfo
 have hblt:b < w.heap.size:=(Array.getElem?_eq_some_iff.1 hbk).1
 go_enter Tryz.func58,Tryz.ntmps58
 go_wp2_with (go_at_call 125;refine (bld_copy w b p v hp hbk).mono ?_)
 rintro e w1 ⟨rfl,hb1,hk1,hs1⟩
 have hown1:w1.ownsRowF 0 5 1 v l.length (Lib.byteCells l):=ownsRowF_keep hown fun g hg=>hk1.block g (hown.lt g hg).2 (fun e=>(hfp g hg).2 e)
 have c0:w1.cell? ⟨b,0,none⟩=some (.pointer (some ⟨b,0,none⟩)):=by rw [Lib.cell_of_heap hb1];rfl
 have c1:w1.cell? ⟨b,1,none⟩=some v:=by rw [Lib.cell_of_heap hb1];rfl
 obtain ⟨v',w2,hrun,hown',hgrow,hnew⟩:=append_strF (P:=Tryz.prog) w1 57 9 57 5 i0 Tryz.underlying57 Tryz.underlying9 hi hz0 hz1 hz2 v l.length _ hown1 (bs s) (by rw [bs_size];omega)
 obtain ⟨ao,n',cap,rfl⟩:∃ ao n' cap,v'=.slice ao n' cap:=by
  rcases hown'.2 with ⟨hv,_⟩|⟨g,cap,cur,fz,hv,_⟩
  ·exact ⟨_,_,_,hv⟩
  ·exact ⟨_,_,_,hv⟩
 have hb2:w2.heap[b]?=some (.cells #[.pointer (some ⟨b,0,none⟩),v] 109 (0,0)):=by
  rw [hgrow.block b (by omega) (fun e=>(hfp b e.symm).2 rfl)]
  exact hb1
 have d0:w2.cell? ⟨b,0,none⟩=some (.pointer (some ⟨b,0,none⟩)):=by rw [Lib.cell_of_heap hb2];rfl
 have d1:w2.cell? ⟨b,1,none⟩=some v:=by rw [Lib.cell_of_heap hb2];rfl
 have f1:w2.frozen? ⟨b,1,none⟩=false:=Lib.frozen_of_heap hb2 1
 have hsz:w.heap.size≤w2.heap.size:=by have:=hgrow.size;omega
 have hvb:∀ g,(Value.slice ao n' cap).ownBlock=some g→φ g∨(w.heap.size≤g∧g < w2.heap.size):=fun g hg=>by
  rcases hnew g hg with h|h
  ·exact .inl (hfp g h).1
  ·exact .inr ⟨by omega,(hown'.lt g hg).2⟩
 have hvb2:∀ g,(Value.slice ao n' cap).ownBlock=some g→g≠b:=fun g hg e=>by
  rcases hnew g hg with h|h
  ·exact (hfp g h).2 e
  ·omega
 go_wp2_with (at_builtin;refine wpList_plain rfl fun K hK=>run_appendStr rfl rfl rfl hrun (hK _ _ ?_))
 go_ret2
 refine ⟨by rw [bs_size];rfl,⟨?_,?_,?_,by simp [World.setCell];exact hsz,fun k hk hn=>?_⟩,.pointer (some ⟨b,0,none⟩),.slice ao n' cap,.inr rfl,?_,?_,fun g hg=>⟨?_,hvb2 g hg⟩⟩
 ·exact hgrow.os.trans hk1.os
 ·exact hgrow.tape.trans hk1.tape
 ·exact hgrow.output.trans hk1.output
 ·have hkb:k≠b:=fun e=>hn (e ▸ hφ)
  simp only [World.setCell,Array.getElem?_modify]
  rw [if_neg (fun h=>hkb h.symm),hgrow.block k (by omega) (fun e=>hn (hfp k e.symm).1)]
  exact hk1.block k hk hkb
 ·exact heap_setCell_same w2 b 1 _ _ _ hb2
 ·have:=ownsRowF_keep (w':=w2.setCell ⟨b,1,none⟩ (.slice ao n' cap)) hown' fun g hg=>by
   simp only [World.setCell,Array.getElem?_modify]
   rw [if_neg (fun h=>hvb2 g hg h.symm)]
  rw [bs_size] at this
  simpa [strCells_bs,Lib.byteCells,List.length_append] using this
 ·rcases hvb g hg with h|h
  ·exact .inl h
  ·exact .inr ⟨h.1,by simpa [World.setCell] using h.2⟩
theorem bldS_ok:BldS Tryz.prog 59 109 5:=by
 intro w b φ l hφ h h0
 obtain ⟨p,v,hp,hbk,hown,hfp⟩:=h
 have hl0:l.length≠0:=by simpa using h0
 obtain ⟨g,cap,cur,fz,rfl,hbg,hg,hfz,hnc,hcm,hcs,htake⟩:∃ g cap cur fz,v=.slice (some ⟨g,0,none⟩) l.length cap∧0≤g∧w.heap[g]?=some (.cells cur 5 fz)∧fz.2≤l.length*1∧l.length≤cap∧cap≤maxLen∧cur.size=cap*1∧cur.toList.take (l.length*1)=Lib.byteCells l:=by
  rcases hown.2 with⟨_,hz⟩|⟨g,cap,cur,fz,hv,r⟩
  ·exact absurd hz hl0
  ·exact ⟨g,cap,cur,fz,hv,r⟩
 have hgb:g≠b:=(hfp g rfl).2
 have c1:w.drew.cell? ⟨b,1,none⟩=some (.slice (some ⟨g,0,none⟩) l.length cap):=by
  have:w.drew.heap[b]?=some (.cells #[p,.slice (some ⟨g,0,none⟩) l.length cap] 109 (0,0)):=hbk
  rw [Lib.cell_of_heap this];rfl
 have hUS:(Builtin.unsafeString_ #[202,3] 9 #[.pointer (some ⟨g,0,none⟩),.int .i64 l.length]).run Tryz.prog w.drew=.ok (.string ⟨l.toArray⟩) (w.drew.freeze ⟨g,0,none⟩ l.length):=by
  have hg':w.drew.heap[g]?=some (.cells cur 5 fz):=hg
  refine Lib.run_unsafeString_row w.drew 202 3 9 5 Tryz.underlying202 byteCellsOf g cur.size (by simp [World.shape?,hg']) l h0 (by omega) (by unfold maxLen at hcm;omega) ?_
  intro j x hx
  exact hown.cells (g:=g) rfl j (.int .u8 x.toNat) (by simp [Lib.byteCells,hx])
 have hSD:(Builtin.unsafeSliceData_ #[57] 202 #[.slice (some ⟨g,0,none⟩) l.length cap]).run Tryz.prog w.drew=.ok (.pointer (some ⟨g,0,none⟩)) w.drew :=
  Lib.run_unsafeSliceData_row _ _ _ _ _ _ (by omega)
 have hother:∀ k,k≠g→(w.drew.freeze ⟨g,0,none⟩ l.length).heap[k]?=w.heap[k]?:=fun k hk=>by
  unfold World.freeze
  rw [if_neg hl0]
  simp only [Array.getElem?_modify]
  rw [if_neg (fun h=>hk h.symm)]
  rfl
 have hsize:(w.drew.freeze ⟨g,0,none⟩ l.length).heap.size=w.heap.size:=by
  unfold World.freeze
  rw [if_neg hl0]
  simp only [Array.size_modify]
  rfl
 have hkept:Kept φ w (w.drew.freeze ⟨g,0,none⟩ l.length):=by
  refine ⟨?_,?_,?_,Nat.le_of_eq hsize.symm,fun k hk hn=>hother k fun e=>hn (e ▸ (hfp g rfl).1)⟩
  all_goals (unfold World.freeze;rw [if_neg hl0];rfl)
 have hbld:BldIs (w.drew.freeze ⟨g,0,none⟩ l.length) 109 5 b (fun x=>φ x∨(w.heap.size≤x∧x<(w.drew.freeze ⟨g,0,none⟩ l.length).heap.size)) l:=by
  have hA:Lib.BuilderAtF 109 5 0 b p (Lib.byteCells l) w.drew:=⟨Nat.zero_le _,_,hbk,by rw [Lib.byteCells_length];exact hown,fun e=>(hfp b e).2 rfl⟩
  obtain ⟨_,v2,hb2,hown2,_⟩:=hA.froze (g:=g) (cap:=cap) (by rw [Lib.byteCells_length];exact c1)
  rw [Lib.byteCells_length] at hb2 hown2
  rw [hother b (fun e=>hgb e.symm),hbk] at hb2
  have ev:v2=.slice (some ⟨g,0,none⟩) l.length cap:=by
   simp only [Option.some.injEq,Obj.cells.injEq] at hb2
   have:=hb2.1
   simp at this
   exact this.symm
  subst ev
  exact ⟨p,_,hp,(hother b (fun e=>hgb e.symm)).trans hbk,hown2,fun x hx=>⟨.inl (hfp x hx).1,(hfp x hx).2⟩⟩
 have mixed:Tryz.prog.follows .mixedOrders=true:=by kernel_rfl
 go_enter Tryz.func59,Tryz.ntmps59
 go_wp2
 go_region_o
 all_goals (go_wp2;go_ret;exact ⟨rfl,hkept,hbld⟩)
end Go.Proofs.YtgelfflighgajaaGreatDoor
