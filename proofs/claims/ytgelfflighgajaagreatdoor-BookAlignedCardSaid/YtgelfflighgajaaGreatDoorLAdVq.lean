/- The law BookAligned. -/
import Derived.Test.YtgelfflighgajaaGreatDoorW11Vq
import Derived.Test.YtgelfflighgajaaGreatDoorRsPVq
import Derived.Test.YtgelfflighgajaaGreatDoorClubVq
set_option maxHeartbeats 8000000
set_option maxRecDepth 100000
set_option linter.unusedVariables false
set_option linter.unusedSimpArgs false
namespace Go.Proofs.YtgelfflighgajaaGreatDoor
open Go.RowKit Go.WideShapes Go.ChangeShapes Go.Joins Go.Deep
section
variable {H:Type} {enc:TypeId×Value→H} {w:World} {base:Nat} {spare:Nat→Bool} {held:Bool}
theorem open_rows_rp {α:Type} {T e:TypeId} {m n:Nat} {en:α→List AV} {v:Value} {x:DataW H×List MemPlace} (hu:Tryz.prog.underlying T=some (.slice e)) (hc:Tryz.prog.cellsOf e=m) (hlen:∀ a,(en a).length=m)
  (hel:∀ (k:Nat) (cs:List Value) (y:DataW H×List MemPlace),DataW.trod enc Tryz.prog w base spare held k e cs=some y→cs.length=m→∃ a:α,∀ (j:Nat) av u,(en a)[j]?=some av→cs[j]?=some u→u.oneCell'=true∧RP (fun q=>w.cell? q) av u)
  (h:DataW.trod enc Tryz.prog w base spare held n T [v]=some x):∃ l:List α,RP (fun q=>w.cell? q) (.ls m (l.map en)) v:=by
 rcases open_slice (P:=Tryz.prog) hu h with⟨h0,_⟩|⟨a,len,cap,mm,n',D,Pl,hcs,hb,hl,hm,hmm,_,hi⟩
 ·obtain rfl:v=.slice none 0 0:=by simpa using h0
  exact ⟨[],.ls m [] none 0 ⟨0,0,none⟩ (fun _ _=>undef) (by simp) (by simp) (fun h=>absurd h (by simp)) (fun i r j av h=>by simp at h) (fun i r j av h=>by simp at h)⟩
 ·obtain rfl:v=.slice (some a) len cap:=by simpa using hcs
  have hlm:len≤mm:=by rw [hmm];split<;>omega
  obtain ⟨l,hll,hq⟩:=list_of (Q:=fun i (x:α×List Value)=>(∀ j,j<m→∃ u,x.2[j]?=some u∧w.cell? (a.add (i*m+j))=some u)∧∀ (j:Nat) av u,(en x.1)[j]?=some av→x.2[j]?=some u→u.oneCell'=true∧RP (fun q=>w.cell? q) av u) len (fun i hil=>by
   obtain ⟨cs',hc',ht'⟩:=hi i (by omega)
   rw [hc] at hc'
   obtain ⟨_,hcl,hat⟩:=World.cells?_some hc'
   obtain ⟨b,hb2⟩:=hel _ _ _ ht' hcl
   refine ⟨(b,cs'),fun j hj=>?_,hb2⟩
   have:=hat j hj
   rw [add_of_add] at this
   exact ⟨cs'[j]'(by omega),List.getElem?_eq_getElem _,by rw [this];exact List.getElem?_eq_getElem _⟩)
  refine ⟨l.map (·.1),?_⟩
  have hlm2:len=((l.map (·.1)).map en).length:=by simp [hll]
  have key:∀ (i:Nat) r (j:Nat) av,((l.map (·.1)).map en)[i]?=some r→r[j]?=some av→∃ x u,l[i]?=some x∧x.2[j]?=some u∧w.cell? (a.add (i*m+j))=some u∧u.oneCell'=true∧RP (fun q=>w.cell? q) av u:=fun i r j av hr hav=>by
   rw [List.map_map,List.getElem?_map] at hr
   cases hx:l[i]? with
   | none=>simp [hx] at hr
   | some x =>
    rw [hx] at hr
    obtain rfl:en x.1=r:=by simpa using hr
    obtain ⟨hkl,hkx⟩:=List.getElem?_eq_some_iff.1 hx
    have q:=hq i hkl
    rw [hkx] at q
    have hj:j<m:=by have:=(List.getElem?_eq_some_iff.1 hav).1;rw [hlen] at this;exact this
    obtain ⟨u,hu1,hu2⟩:=q.1 j hj
    obtain ⟨q1,q2⟩:=q.2 j av u hav hu1
    exact ⟨x,u,rfl,hu1,hu2,q1,q2⟩
  rw [hlm2]
  refine .ls m _ (some a) cap a (fun i j=>((l[i]?).bind fun x=>x.2[j]?).getD undef) (by rw [← hlm2];exact hl) (fun r hr=>?_) (fun _=>rfl) (fun i r j av hr hav=>?_) (fun i r j av hr hav=>?_)
  ·obtain ⟨x,_,rfl⟩:=List.mem_map.1 hr;exact hlen x
  ·obtain ⟨x,u,h1,h2,h3,h4,_⟩:=key i r j av hr hav
   simp only [h1,Option.bind_some,h2,Option.getD_some]
   exact ⟨h3,h4⟩
  ·obtain ⟨x,u,h1,h2,_,_,h5⟩:=key i r j av hr hav
   simp only [h1,Option.bind_some,h2,Option.getD_some]
   exact h5
end
end Go.Proofs.YtgelfflighgajaaGreatDoor
namespace Go.Proofs.YtgelfflighgajaaGreatDoor
open Go.RowKit
structure En where
 t:List UInt8
 s:Int
 p:Pce
structure BkOk(b:List En):Prop where
 n:b.length≤70
 p:∀ k(h:k<b.length),PcOk b[k].p
 t:∀ k(h:k<b.length),b[k].t.length≤1000
end Go.Proofs.YtgelfflighgajaaGreatDoor
namespace Go.Proofs.YtgelfflighgajaaGreatDoor
open Go.RowKit Go.WideShapes Go.ChangeShapes Go.Joins Go.Deep
section
variable {P:Program} {C:Cx} {σ:St} {o:Oper}
theorem WV.rem_ {T Ty:TypeId} {x y:Operand} {k:IntKind} {m n:Int} (ho:o.op=.binOp .rem T x y Ty)(hx:σ.ev x=some (.sc (.int k m)))(hy:σ.ev y=some (.sc (.int k n)))(hn:n≠0):WV P C o σ (.sc (.int k (m.tmod n))) :=
 WV.sc fun G a w ok=>by unfold execOp;simp [ho,ok.evs hx,ok.evs hy,eqGuard,binOp,Op.intDiv,hn]
end
def eU8 (z:Int):List AV:=[.sc (.int .u8 z)]
section
variable {H:Type} {enc:TypeId×Value→H} {w:World} {base:Nat} {spare:Nat→Bool} {held:Bool}
theorem cellsU8:Tryz.prog.cellsOf 5=1:=by kernel_rfl
theorem open_u8cell {k:Nat} {u:Value} {y:Option (DataW H×List MemPlace)} (h:DataW.trod enc Tryz.prog w base spare held k 5 [u]=y)(hy:y.isSome=true):∃ z:Int,u=.int .u8 z:=by
 obtain⟨y,rfl⟩:=Option.isSome_iff_exists.1 hy
 obtain⟨z,e,_⟩:=DataW.trod_int Tryz.underlying5 h
 exact⟨z,by simpa using e⟩
theorem open_u8s_rp {n:Nat} {v:Value} {x:DataW H×List MemPlace} (h:DataW.trod enc Tryz.prog w base spare held n 57 [v]=some x):∃ l:List Int,RP (fun q=>w.cell? q) (.ls 1 (l.map eU8)) v :=
 open_rows_rp (en:=eU8) Tryz.underlying57 cellsU8 (fun _=>rfl) (fun k cs y hy hl=>by
  match cs,hl with
  | [u0],_ =>
   obtain ⟨z,rfl⟩:=open_u8cell hy rfl
   refine ⟨z,fun j av u a b=>?_⟩
   match j with
   | 0=>cases a;cases b;exact ⟨rfl,.sc _⟩
   | j+1=>simp [eU8] at a) h
theorem open_u8s_arg {r:Reach} {b0:Nat} {v:Value} {d:DataW H} {p:List MemPlace} (hv:Value.okWide Tryz.prog w r b0 57 v) (h:DataW.Trod enc Tryz.prog w base spare held 57 v d p) :
  ∃ l:List Int,RP (fun q=>w.cell? q) (.ls 1 (l.map eU8)) v:=by
 obtain ⟨a0,len,cap,rfl⟩:=okWide_slice Tryz.underlying57 hv
 obtain ⟨fuel,hf⟩:=h
 exact open_u8s_rp (by simpa [Value.cells] using hf)
end
end Go.Proofs.YtgelfflighgajaaGreatDoor
namespace Go.Proofs.YtgelfflighgajaaGreatDoor
open Go.RowKit
def prcE (a b:List Ev) (p:Int×Int):Int:=if p.1<0 then alnE (evG b p.2)else if p.2<0 then alnE (evG a p.1)else dstE (evG a p.1) (evG b p.2)
def prcA (a b:List Ev):List (Int×Int)→Int
 | []=>0
 | p::r=>prcE a b p+prcA a b r
theorem prcE_b {a b:List Ev} {i k:Nat} (h1:i<a.length) (h2:k<b.length):prcE a b ((i:Int),(k:Int))=dstE a[i] b[k]:=by
 unfold prcE
 rw [if_neg (by show ¬ (i:Int)<0;omega),if_neg (by show ¬ (k:Int)<0;omega)]
 show dstE (evG a i) (evG b k)=_
 rw [evG_get h1,evG_get h2]
theorem prcE_l {a b:List Ev} {i:Nat} (h1:i<a.length):prcE a b ((i:Int),-1)=alnE a[i]:=by
 unfold prcE
 rw [if_neg (by show ¬ (i:Int)<0;omega),if_pos (by show (-1:Int)<0;omega)]
 show alnE (evG a i)=_
 rw [evG_get h1]
theorem prcE_r {a b:List Ev} {k:Nat} (h2:k<b.length):prcE a b (-1,(k:Int))=alnE b[k]:=by
 unfold prcE
 rw [if_pos (by show (-1:Int)<0;omega)]
 show alnE (evG b k)=_
 rw [evG_get h2]
theorem csA_le_b {a b:List Ev} {i k:Nat} (h:i<a.length) (h2:k<b.length):csA a b i k≤dstE a[i] b[k]+csA a b (i+1) (k+1):=by
 rw [csA_b h h2];omega
theorem csA_le_l {a b:List Ev} {i k:Nat} (h:i<a.length)(hk:k≤b.length):csA a b i k≤alnE a[i]+csA a b (i+1) k:=by
 by_cases h2:k<b.length
 ·rw [csA_b h h2];omega
 ·obtain rfl:k=b.length:=by omega
  rw [csA_l h];exact Int.le_refl _
theorem csA_le_r {a b:List Ev} {i k:Nat} (hi:i≤a.length)(h2:k<b.length):csA a b i k≤alnE b[k]+csA a b i (k+1):=by
 by_cases h:i<a.length
 ·rw [csA_b h h2];omega
 ·obtain rfl:i=a.length:=by omega
  rw [csA_r h2];exact Int.le_refl _
theorem aln_ge {a b:List Ev} {i k:Nat} {P:List (Int×Int)} (h:Aln a b i k P):csA a b i k≤prcA a b P:=by
 induction h with
 | nil=>rw [csA_end];exact Int.le_refl _
 | both i k P h1 h2 _ ih =>
  have h3:=csA_le_b h1 h2
  show _≤prcE a b _+prcA a b P
  rw [prcE_b h1 h2];omega
 | left i k P h1 hA ih =>
  have h3:=csA_le_l h1 (aln_le hA).2
  show _≤prcE a b _+prcA a b P
  rw [prcE_l h1];omega
 | right i k P h2 hA ih =>
  have h3:=csA_le_r (aln_le hA).1 h2
  show _≤prcE a b _+prcA a b P
  rw [prcE_r h2];omega
theorem prs_cost {a b:List Ev}:∀ (f i k:Nat),i≤a.length→k≤b.length→a.length-i+(b.length-k)≤f→prcA a b (prs a b f i k)=csA a b i k
 | 0,i,k,hi,hk,h=>by
  obtain rfl:i=a.length:=by omega
  obtain rfl:k=b.length:=by omega
  rw [csA_end];rfl
 | f+1,i,k,hi,hk,h=>by
  unfold prs
  by_cases h1:i<a.length∧k<b.length∧csA a b i k=dsA a b i k+csA a b (i+1) (k+1)
  ·rw [if_pos h1]
   show prcE a b _+prcA a b _=_
   rw [prcE_b h1.1 h1.2.1,prs_cost f (i+1) (k+1) (by omega) (by omega) (by omega)]
   have q:=h1.2.2
   rw [dsA_at h1.1 h1.2.1] at q
   exact q.symm
  ·rw [if_neg h1]
   by_cases h2:i<a.length∧csA a b i k=alA a i+csA a b (i+1) k
   ·rw [if_pos h2]
    show prcE a b _+prcA a b _=_
    rw [prcE_l h2.1,prs_cost f (i+1) k (by omega) hk (by omega)]
    have q:=h2.2
    rw [alA_at h2.1] at q
    exact q.symm
   ·rw [if_neg h2]
    by_cases h3:k<b.length
    ·rw [if_pos h3]
     show prcE a b _+prcA a b _=_
     rw [prcE_r h3,prs_cost f i (k+1) hi (by omega) (by omega)]
     by_cases h4:i<a.length
     ·have e:=csA_b h4 h3
      have n1:¬ csA a b i k=dstE a[i] b[k]+csA a b (i+1) (k+1):=fun q=>h1 ⟨h4,h3,by rw [dsA_at h4 h3];exact q⟩
      have n2:¬ csA a b i k=alnE a[i]+csA a b (i+1) k:=fun q=>h2 ⟨h4,by rw [alA_at h4];exact q⟩
      omega
     ·obtain rfl:i=a.length:=by omega
      rw [csA_r h3]
    ·obtain rfl:k=b.length:=by omega
     by_cases h4:i<a.length
     ·exact absurd ⟨h4,by rw [alA_at h4];exact csA_l h4⟩ h2
     ·obtain rfl:i=a.length:=by omega
      rw [if_neg h3,csA_end];rfl
theorem prsA_cost {a b:List Ev}:prcA a b (prsA a b)=csA a b 0 0:=prs_cost _ 0 0 (Nat.zero_le _) (Nat.zero_le _) (by omega)
theorem prsA_aln {a b:List Ev}:Aln a b 0 0 (prsA a b):=prs_aln (a.length+b.length) 0 0 (Nat.zero_le _) (Nat.zero_le _) (by omega)
theorem dstE_comm(x y:Ev):dstE x y=dstE y x:=by
 unfold dstE
 have e1:(if tkV x.val x.dot x.three=tkV y.val y.dot y.three then(0:Int)else 1)=if tkV y.val y.dot y.three=tkV x.val x.dot x.three then 0 else 1:=by
  by_cases h:tkV x.val x.dot x.three=tkV y.val y.dot y.three
  ·rw [if_pos h,if_pos h.symm]
  ·rw [if_neg h,if_neg fun q=>h q.symm]
 have e2:(if x.tie=y.tie then(0:Int)else 1)=if y.tie=x.tie then 0 else 1:=by
  by_cases h:x.tie=y.tie
  ·rw [if_pos h,if_pos h.symm]
  ·rw [if_neg h,if_neg fun q=>h q.symm]
 rw [e1,e2];omega
theorem cst_nil:∀ l,cst l []=csE l
 | []=>rfl
 | x::r=>by show alnE x+cst r []=alnE x+csE r;rw [cst_nil r]
theorem cst_comm:∀ (n:Nat) (a b:List Ev),a.length+b.length≤n→cst a b=cst b a
 | _,[],b,_=>by rw [cst_nil b];rfl
 | _,x::r,[],_=>by rw [cst_nil (x::r)];rfl
 | 0,x::r,y::s,h=>by simp at h
 | n+1,x::r,y::s,h=>by
  simp only [List.length_cons] at h
  have h1:=cst_comm n r s (by omega)
  have h2:=cst_comm n r (y::s) (by simp only [List.length_cons];omega)
  have h3:=cst_comm n (x::r) s (by simp only [List.length_cons];omega)
  have h4:cst (x::r) (y::s)=min (min (dstE x y+cst r s) (alnE x+cst r (y::s))) (alnE y+cst (x::r) s):=rfl
  have h5:cst (y::s) (x::r)=min (min (dstE y x+cst s r) (alnE y+cst s (x::r))) (alnE x+cst (y::s) r):=rfl
  have h6:=dstE_comm x y
  rw [h4,h5,h1,h2,h3,h6]
  omega
theorem csA_comm (a b:List Ev):csA a b 0 0=csA b a 0 0:=cst_comm _ _ _ (Nat.le_refl _)
theorem aln_cons {a b:List Ev} {i k:Nat} {p:Int×Int} {R:List (Int×Int)} (h:Aln a b i k (p::R)):(p=((i:Int),(k:Int))∧i<a.length∧k<b.length∧Aln a b (i+1) (k+1) R)∨(p=((i:Int),-1)∧i<a.length∧Aln a b (i+1) k R)∨(p=(-1,(k:Int))∧k<b.length∧Aln a b i (k+1) R):=by
 cases h with
 | both _ _ _ h1 h2 h3=>exact .inl ⟨rfl,h1,h2,h3⟩
 | left _ _ _ h1 h3=>exact .inr (.inl ⟨rfl,h1,h3⟩)
 | right _ _ _ h2 h3=>exact .inr (.inr ⟨rfl,h2,h3⟩)
theorem aln_nil {a b:List Ev} {i k:Nat} (h:Aln a b i k []):i=a.length∧k=b.length:=by
 cases h;exact⟨rfl,rfl⟩
theorem aln_len {a b:List Ev} {i k:Nat} {P:List (Int×Int)} (h:Aln a b i k P):P.length+i+k≤a.length+b.length:=by
 induction h with
 | nil=>simp
 | both i k P h1 h2 _ ih=>simp only [List.length_cons];omega
 | left i k P h1 _ ih=>simp only [List.length_cons];omega
 | right i k P h1 _ ih=>simp only [List.length_cons];omega
theorem evG_20 {a:List Ev} (h:∀ e∈a,e.stops.length≤20)(z:Int):(evG a z).stops.length≤20:=by
 unfold evG
 rw [List.getD_eq_getElem?_getD]
 cases e:a[z.toNat]? with
 | none=>simp [ev0]
 | some x=>exact h x (List.mem_of_getElem? e)
theorem alnE_bd {e:Ev} (h:e.stops.length≤20):0≤alnE e∧alnE e≤21:=by unfold alnE;omega
theorem prcE_bd {a b:List Ev} (ha:∀ e∈a,e.stops.length≤20) (hb:∀ e∈b,e.stops.length≤20) (p:Int×Int):0≤prcE a b p∧prcE a b p≤42:=by
 have h1:=evG_20 ha p.1
 have h2:=evG_20 hb p.2
 have h3:=alnE_bd h1
 have h4:=alnE_bd h2
 have h5:=dstE_bd (evG a p.1) (evG b p.2)
 unfold prcE
 split
 ·omega
 ·split<;>omega
def chA(cs:List Int)(j:Nat):Int:=match cs[j]? with|some z=>z.tmod 3|none=>0
def stA (n m:Nat) (cs:List Int):Nat→Nat→Nat→Nat→List (Int×Int)
 | 0,_,_,_=>[]
 | f+1,j,i,k =>
  if i<n∨k<m then
   if k=m∨(chA cs j=1∧i<n) then ((i:Int),-1)::stA n m cs f (j+1) (i+1) k
   else if i=n∨chA cs j=2 then (-1,(k:Int))::stA n m cs f (j+1) i (k+1)
   else ((i:Int),(k:Int))::stA n m cs f (j+1) (i+1) (k+1)
  else []
theorem stA_e {n m:Nat} {cs:List Int} {f j:Nat}:stA n m cs f j n m=[]:=by
 cases f with
 | zero=>rfl
 | succ f=>exact if_neg (by omega)
theorem stA_l {n m:Nat} {cs:List Int} {f j i k:Nat} (h0:i<n∨k<m) (h:k=m∨(chA cs j=1∧i<n)):stA n m cs (f+1) j i k=((i:Int),-1)::stA n m cs f (j+1) (i+1) k:=by
 exact (if_pos h0).trans (if_pos h)
theorem stA_r {n m:Nat} {cs:List Int} {f j i k:Nat} (h0:i<n∨k<m)(h:¬ (k=m∨(chA cs j=1∧i<n)))(h2:i=n∨chA cs j=2):stA n m cs (f+1) j i k=(-1,(k:Int))::stA n m cs f (j+1) i (k+1):=by
 exact (if_pos h0).trans ((if_neg h).trans (if_pos h2))
theorem stA_b {n m:Nat} {cs:List Int} {f j i k:Nat} (h0:i<n∨k<m) (h:¬ (k=m∨(chA cs j=1∧i<n))) (h2:¬ (i=n∨chA cs j=2)):stA n m cs (f+1) j i k=((i:Int),(k:Int))::stA n m cs f (j+1) (i+1) (k+1):=by
 exact (if_pos h0).trans ((if_neg h).trans (if_neg h2))
theorem stA_aln {a b:List Ev} {cs:List Int}:∀ (f j i k:Nat),i≤a.length→k≤b.length→a.length-i+(b.length-k)≤f→Aln a b i k (stA a.length b.length cs f j i k)
 | 0,j,i,k,hi,hk,h=>by
  obtain rfl:i=a.length:=by omega
  obtain rfl:k=b.length:=by omega
  exact .nil
 | f+1,j,i,k,hi,hk,h=>by
  by_cases h0:i<a.length∨k<b.length
  ·by_cases h1:k=b.length∨(chA cs j=1∧i<a.length)
   ·rw [stA_l h0 h1]
    exact .left i k _ (by omega) (stA_aln f (j+1) (i+1) k (by omega) hk (by omega))
   ·by_cases h2:i=a.length∨chA cs j=2
    ·rw [stA_r h0 h1 h2]
     exact .right i k _ (by omega) (stA_aln f (j+1) i (k+1) hi (by omega) (by omega))
    ·rw [stA_b h0 h1 h2]
     exact .both i k _ (by omega) (by omega) (stA_aln f (j+1) (i+1) (k+1) (by omega) (by omega) (by omega))
  ·obtain rfl:i=a.length:=by omega
   obtain rfl:k=b.length:=by omega
   rw [stA_e];exact .nil
def stAA (a b:List Ev)(cs:List Int):List (Int×Int):=stA a.length b.length cs (a.length+b.length) 0 0 0
theorem stAA_aln {a b:List Ev} {cs:List Int}:Aln a b 0 0 (stAA a b cs):=stA_aln _ 0 0 0 (Nat.zero_le _) (Nat.zero_le _) (by omega)
end Go.Proofs.YtgelfflighgajaaGreatDoor
namespace Go.Proofs.YtgelfflighgajaaGreatDoor
open Go.RowKit
theorem price_FS (cs cs2:List (Int×Int×Bool)) (st st2:List Int) (a b:List Ev) (P:List (Int×Int)) (hA:Aln a b 0 0 P) (hla:a.length≤60) (hlb:b.length≤60) (h20a:∀ e∈a,e.stops.length≤20) (h20b:∀ e∈b,e.stops.length≤20) :
  Ctr Tryz.prog 31 [ePce ⟨cs,st,a⟩,ePce ⟨cs2,st2,b⟩,.ls 2 (P.map ePr)] (.sc (.int .i64 (prcA a b P))):=by
 have hlen:=aln_len hA
 have hQl:(P.map ePr).length=P.length:=List.length_map _
 have hQ:∀ k (h:k < P.length),(P.map ePr)[((k:Nat):Int).toNat]?=some (ePr P[k]):=fun k h=>map_at h
 obtain ⟨QQ,hQQ⟩:∃ z,P.map ePr=z:=⟨_,rfl⟩
 rw [hQQ] at hQ hQl ⊢
 clear hQQ
 refine Ctr.intro Tryz.func31 rfl Tryz.ntmps31 (Nat.le_of_ble_eq_true rfl) (bd_all rfl) fun w0 F0=>?_;dsimp only [St.init,number,Nat.reduceAdd]
 repeat refine W.go rfl ?_
 refine (?_:W _ _ _ _ _)
 dsimp only [St.put,Nat.reduceAdd]
 refine W.loop (fun s:Nat×Nat×Nat×Int=>s.1≤P.length∧Aln a b s.2.1 s.2.2.1 (P.drop s.1)∧s.2.2.2+prcA a b (P.drop s.1)=prcA a b P∧0≤s.2.2.2∧s.2.2.2≤42*s.1)
  (fun s=>⟨[(2,.ls 2 QQ),(3,.pt 0 0 0),(4,.pt 1 0 0),(7,.sc (.int .i64 s.2.1)),(8,.sc (.int .i64 s.2.2.1)),(9,.sc (.int .i64 s.2.2.2)),(10,.sc (.int .i64 s.1))],[(0,.box 28 [.ls 3 (cs.map eCrs),.ls 1 (st.map eInt),.ls 6 (a.map eEv)]),(1,.box 28 [.ls 3 (cs2.map eCrs),.ls 1 (st2.map eInt),.ls 6 (b.map eEv)])],2⟩) (fun s=>P.length - s.1) (0,0,0,0) ⟨by simp,by simpa using hA,by simp,by simp,by simp⟩ (Tr.ren id (by repeat (first|exact trivial|refine ⟨⟨?_,?_⟩,?_⟩|rfl)) (by repeat (first|exact trivial|refine ⟨⟨?_,?_,?_⟩,?_⟩|rfl)) rfl) fun s hs=>?_
 obtain ⟨j,i,k,S⟩:=s
 obtain ⟨hj,hAl,hS,hS0,hS1⟩:=hs
 dsimp only at hj hAl hS hS0 hS1 ⊢
 by_cases hlt:j < P.length
 rotate_left
 ·obtain rfl:j=P.length:=by omega
  rw [List.drop_length] at hAl hS
  obtain ⟨rfl,rfl⟩:=aln_nil hAl
  have hS2:S=prcA a b P:=by rw [← hS];simp [prcA]
  rw [← hS2]
  repeat (first|refine W.gob rfl ?_|refine WL.nil ?_|refine WL.bf rfl rfl rfl (by omega) ?_|refine WL.e1 rfl ?_|refine WL.gyes rfl rfl rfl rfl ?_|refine WL.len rfl rfl (by first|exact List.length_map _|exact List.length_replicate|rfl) ?_|refine W.condF rfl ?_)
  refine (?_:W _ _ _ _ _)
  dsimp only [St.put,Nat.reduceAdd]
  exact W.ret (fin1 rfl rfl rfl rfl)
 have hq:=hQ j hlt
 rw [List.drop_eq_getElem_cons hlt] at hAl hS
 obtain ⟨hi,hk⟩:=aln_le hAl
 have hpb:=prcE_bd h20a h20b P[j]
 have hSc:S+(prcE a b P[j]+prcA a b (P.drop (j+1)))=prcA a b P:=hS
 rcases aln_cons hAl with ⟨hp,h1,h2,h3⟩|⟨hp,h1,h3⟩|⟨hp,h2,h3⟩
 ·rw [hp] at hq hpb hSc
  have hq:QQ[((j:Nat):Int).toNat]?=some [.sc (.int .i64 (i:Int)),.sc (.int .i64 (k:Int))]:=hq
  have hal:=h20a _ (List.getElem_mem h1)
  have hbl:=h20b _ (List.getElem_mem h2)
  have hD:=rDist_FS a[i] b[k] hal hbl
  have hDb:=dstE_bd a[i] b[k]
  rw [prcE_b h1 h2] at hSc hpb
  obtain ⟨dd,hdd⟩:∃ z,dstE a[i] b[k]=z:=⟨_,rfl⟩
  rw [hdd] at hD hDb hSc hpb
  clear hA hAl hS
  repeat (first|refine W.gob rfl ?_|refine WL.nil ?_|refine WL.bt rfl rfl rfl (by omega) ?_|refine WL.e1 rfl ?_|refine WL.len rfl rfl (by first|exact List.length_map _|exact List.length_replicate|rfl) ?_|refine W.condT rfl ?_)
  refine (?_:WL _ _ _ _ _ _)
  dsimp only [St.put,Nat.reduceAdd]
  refine WL.idx rfl rfl (by omega) hq ?_
  repeat (first|refine W.gob rfl ?_|refine WL.nil ?_|refine WL.bf rfl rfl rfl (by omega) ?_|refine WL.nt rfl rfl rfl (by omega) ?_|refine WL.nf rfl rfl rfl (by omega) ?_|refine WL.e1 rfl ?_|refine WL.gyes rfl rfl rfl rfl ?_|refine WL.opno rfl rfl rfl rfl rfl rfl rfl ?_|refine WL.len rfl rfl (by first|exact List.length_map _|exact List.length_replicate|rfl) ?_|refine W.condF rfl ?_)
  refine (?_:W _ _ _ _ _)
  dsimp only [St.put,Nat.reduceAdd]
  refine W.drawK (by kernel_rfl) (by kernel_rfl) ?_
  repeat (first|refine DK.st rfl ?_|refine DK.idx rfl rfl (by omega) (by first|exact map_at (by omega)|exact map_atZ (by omega) (by omega)) ?_)
  refine DK.vl rfl (WV.call rfl (callF Tryz.func65 rfl rfl) rfl rfl hD) ?_
  repeat (first|refine DK.st rfl ?_|refine DK.ar rfl rfl (by unfold I64;omega) ?_|refine DK.nil ?_)
  repeat (first|refine W.gob rfl ?_|refine WL.nil ?_|refine WL.e1 rfl ?_|refine WL.ar rfl rfl (by unfold I64;omega) ?_)
  dsimp only [St.put,Nat.reduceAdd]
  refine ⟨(j+1,i+1,k+1,S+dd),⟨by show j+1≤_;omega,h3,by show S+dd+prcA a b (P.drop (j+1))=_;omega,by show 0≤S+dd;omega,by show S+dd≤42*((j+1:Nat):Int);omega⟩,by show P.length - (j+1) < P.length - j;omega,?_⟩
  exact (Tr.ren id (by repeat (first|exact trivial|refine ⟨⟨?_,?_⟩,?_⟩|rfl)) (by repeat (first|exact trivial|refine ⟨⟨?_,?_,?_⟩,?_⟩|rfl)) rfl)
 ·rw [hp] at hq hpb hSc
  have hq:QQ[((j:Nat):Int).toNat]?=some [.sc (.int .i64 (i:Int)),.sc (.int .i64 (-1))]:=hq
  have hal:=h20a _ (List.getElem_mem h1)
  rw [prcE_l h1] at hSc hpb
  have halE:alnE a[i]=1+(a[i].stops.length:Int):=rfl
  rw [halE] at hSc hpb
  clear hA hAl hS halE
  repeat (first|refine W.gob rfl ?_|refine WL.nil ?_|refine WL.bt rfl rfl rfl (by omega) ?_|refine WL.e1 rfl ?_|refine WL.len rfl rfl (by first|exact List.length_map _|exact List.length_replicate|rfl) ?_|refine W.condT rfl ?_)
  refine (?_:WL _ _ _ _ _ _)
  dsimp only [St.put,Nat.reduceAdd]
  refine WL.idx rfl rfl (by omega) hq ?_
  repeat (first|refine W.gob rfl ?_|refine WL.nil ?_|refine WL.bt rfl rfl rfl (by omega) ?_|refine WL.bf rfl rfl rfl (by omega) ?_|refine WL.nt rfl rfl rfl (by omega) ?_|refine WL.nf rfl rfl rfl (by omega) ?_|refine WL.e1 rfl ?_|refine WL.gyes rfl rfl rfl rfl ?_|refine WL.opno rfl rfl rfl rfl rfl rfl rfl ?_|refine WL.ar rfl rfl (by unfold I64;omega) ?_|refine WL.len rfl rfl (by first|exact List.length_map _|exact List.length_replicate|rfl) ?_|refine WL.idx rfl rfl (by omega) (by first|exact map_at (by omega)|exact map_atZ (by omega) (by omega)) ?_|refine W.condT rfl ?_|refine W.condF rfl ?_)
  dsimp only [St.put,Nat.reduceAdd]
  refine ⟨(j+1,i+1,k,S+1+a[i].stops.length),⟨by show j+1≤_;omega,h3,by show S+1+(a[i].stops.length:Int)+prcA a b (P.drop (j+1))=_;omega,by show 0≤S+1+(a[i].stops.length:Int);omega,by show S+1+(a[i].stops.length:Int)≤42*((j+1:Nat):Int);omega⟩,by show P.length - (j+1) < P.length - j;omega,?_⟩
  exact (Tr.ren id (by repeat (first|exact trivial|refine ⟨⟨?_,?_⟩,?_⟩|rfl)) (by repeat (first|exact trivial|refine ⟨⟨?_,?_,?_⟩,?_⟩|rfl)) rfl)
 ·rw [hp] at hq hpb hSc
  have hq:QQ[((j:Nat):Int).toNat]?=some [.sc (.int .i64 (-1)),.sc (.int .i64 (k:Int))]:=hq
  have hbl:=h20b _ (List.getElem_mem h2)
  rw [prcE_r h2] at hSc hpb
  have hblE:alnE b[k]=1+(b[k].stops.length:Int):=rfl
  rw [hblE] at hSc hpb
  clear hA hAl hS hblE
  repeat (first|refine W.gob rfl ?_|refine WL.nil ?_|refine WL.bt rfl rfl rfl (by omega) ?_|refine WL.e1 rfl ?_|refine WL.len rfl rfl (by first|exact List.length_map _|exact List.length_replicate|rfl) ?_|refine W.condT rfl ?_)
  refine (?_:WL _ _ _ _ _ _)
  dsimp only [St.put,Nat.reduceAdd]
  refine WL.idx rfl rfl (by omega) hq ?_
  repeat (first|refine W.gob rfl ?_|refine WL.nil ?_|refine WL.bt rfl rfl rfl (by omega) ?_|refine WL.bf rfl rfl rfl (by omega) ?_|refine WL.nt rfl rfl rfl (by omega) ?_|refine WL.nf rfl rfl rfl (by omega) ?_|refine WL.e1 rfl ?_|refine WL.gyes rfl rfl rfl rfl ?_|refine WL.opno rfl rfl rfl rfl rfl rfl rfl ?_|refine WL.ar rfl rfl (by unfold I64;omega) ?_|refine WL.len rfl rfl (by first|exact List.length_map _|exact List.length_replicate|rfl) ?_|refine WL.idx rfl rfl (by omega) (by first|exact map_at (by omega)|exact map_atZ (by omega) (by omega)) ?_|refine W.condT rfl ?_|refine W.condF rfl ?_)
  dsimp only [St.put,Nat.reduceAdd]
  refine ⟨(j+1,i,k+1,S+1+b[k].stops.length),⟨by show j+1≤_;omega,h3,by show S+1+(b[k].stops.length:Int)+prcA a b (P.drop (j+1))=_;omega,by show 0≤S+1+(b[k].stops.length:Int);omega,by show S+1+(b[k].stops.length:Int)≤42*((j+1:Nat):Int);omega⟩,by show P.length - (j+1) < P.length - j;omega,?_⟩
  exact (Tr.ren id (by repeat (first|exact trivial|refine ⟨⟨?_,?_⟩,?_⟩|rfl)) (by repeat (first|exact trivial|refine ⟨⟨?_,?_,?_⟩,?_⟩|rfl)) rfl)
theorem chA_at {cs:List Int} {j:Nat} (h:j<cs.length):chA cs j=cs[j].tmod 3:=by unfold chA;rw [List.getElem?_eq_getElem h]
theorem chA_no {cs:List Int} {j:Nat} (h:¬ j<cs.length):chA cs j=0:=by unfold chA;rw [List.getElem?_eq_none (by omega)]
theorem steer_FS (cs0 cs2:List (Int×Int×Bool)) (st st2:List Int) (a b:List Ev) (cs:List Int) (hla:a.length≤60) (hlb:b.length≤60) :
  Ctr Tryz.prog 32 [ePce ⟨cs0,st,a⟩,ePce ⟨cs2,st2,b⟩,.ls 1 (cs.map eU8)] (.ls 2 ((stAA a b cs).map ePr)):=by
 have hQ:∀ k (h:k < cs.length),(cs.map eU8)[((k:Nat):Int).toNat]?=some (eU8 cs[k]):=fun k h=>map_at h
 have hQl:(cs.map eU8).length=cs.length:=List.length_map _
 have hst:stAA a b cs=stA a.length b.length cs (a.length+b.length) 0 0 0:=rfl
 obtain ⟨QQ,hQQ⟩:∃ z,cs.map eU8=z:=⟨_,rfl⟩
 rw [hQQ] at hQ hQl ⊢
 clear hQQ
 refine Ctr.intro Tryz.func32 rfl Tryz.ntmps32 (Nat.le_of_ble_eq_true rfl) (bd_all rfl) fun w0 F0=>?_;dsimp only [St.init,number,Nat.reduceAdd]
 repeat refine W.go rfl ?_
 refine (?_:W _ _ _ _ _)
 dsimp only [St.put,Nat.reduceAdd]
 first|refine W.tr (Tr.nil (t:=7) 123 2 rfl rfl) ?_|refine WL.tr (Tr.nil (t:=7) 123 2 rfl rfl) ?_
 dsimp only [St.put,St.new,St.upd,Nat.reduceAdd]
 refine (?_:W _ _ _ _ _)
 refine W.loop (fun s:Nat×Nat×List (Int×Int)=>s.1≤a.length∧s.2.1≤b.length∧s.2.2.length≤s.1+s.2.1∧∃ f,a.length - s.1+(b.length - s.2.1)≤f∧s.2.2++stA a.length b.length cs f s.2.2.length s.1 s.2.1=stAA a b cs)
  (fun s=>⟨[(2,.ls 1 QQ),(3,.pt 0 0 0),(4,.pt 1 0 0),(7,.sl 2),(8,.sc (.int .i64 s.1)),(9,.sc (.int .i64 s.2.1))],[(0,.box 28 [.ls 3 (cs0.map eCrs),.ls 1 (st.map eInt),.ls 6 (a.map eEv)]),(1,.box 28 [.ls 3 (cs2.map eCrs),.ls 1 (st2.map eInt),.ls 6 (b.map eEv)]),(2,.row 123 2 (s.2.2.map ePr))],3⟩) (fun s=>(a.length - s.1)+(b.length - s.2.1)) (0,0,[]) ⟨by simp,by simp,by simp,a.length+b.length,by simp,by rw [hst];rfl⟩ (Tr.ren (fun q=>bif Nat.beq q 0 then 0 else q) (by repeat (first|exact trivial|refine ⟨⟨?_,?_⟩,?_⟩|rfl)) (by repeat (first|exact trivial|refine ⟨⟨?_,?_,?_⟩,?_⟩|rfl|exact congrArg (fun q=>some (AO.row _ _ q)) rfl)) rfl) fun s hs=>?_
 obtain ⟨i,k,L⟩:=s
 obtain ⟨hi,hk,hLl,f,hf,hL⟩:=hs
 dsimp only at hi hk hLl hf hL ⊢
 by_cases hend:i < a.length∨k < b.length
 rotate_left
 ·obtain rfl:i=a.length:=by omega
  obtain rfl:k=b.length:=by omega
  rw [stA_e,List.append_nil] at hL
  rw [← hL]
  repeat (first|refine W.gob rfl ?_|refine WL.nil ?_|refine WL.bf rfl rfl rfl (by omega) ?_|refine WL.e1 rfl ?_|refine WL.gyes rfl rfl rfl rfl ?_|refine WL.len rfl rfl (by first|exact List.length_map _|exact List.length_replicate|rfl) ?_|refine W.condF rfl ?_)
  refine (?_:W _ _ _ _ _)
  dsimp only [St.put,Nat.reduceAdd]
  refine W.tr (Tr.freeze 2 rfl) ?_
  exact W.ret (fin1 rfl rfl rfl rfl)
 obtain ⟨g,rfl⟩:∃ g,f=g+1:=⟨f - 1,by omega⟩
 have hLm:(L.map ePr).length=L.length:=List.length_map _
 by_cases hc:L.length < cs.length
 ·have hq:=hQ L.length hc
  have hch:=chA_at hc
  obtain ⟨z,hz⟩:∃ z,cs[L.length]=z:=⟨_,rfl⟩
  rw [hz] at hq hch
  have hq:QQ[((L.length:Nat):Int).toNat]?=some [.sc (.int .u8 z)]:=hq
  obtain ⟨c,hcc⟩:∃ c,z.tmod 3=c:=⟨_,rfl⟩
  rw [hcc] at hch
  by_cases hA:k=b.length
  ·have hi':i < a.length:=by omega
   rw [stA_l hend (.inl hA)] at hL
   repeat (first|refine W.gob rfl ?_|refine WL.nil ?_|refine WL.bt rfl rfl rfl (by omega) ?_|refine WL.e1 rfl ?_|refine WL.opno rfl rfl rfl rfl rfl rfl rfl ?_|refine WL.len rfl rfl (by first|exact List.length_map _|exact List.length_replicate|rfl) ?_|refine W.condT rfl ?_)
   refine (?_:WL _ _ _ _ _ _)
   dsimp only [St.put,Nat.reduceAdd]
   refine WL.idx rfl rfl (by omega) hq ?_
   repeat refine WL.e1 rfl ?_
   refine (?_:WL _ _ _ _ _ _)
   dsimp only [St.put,Nat.reduceAdd]
   refine WL.vl rfl (WV.rem_ rfl rfl rfl (by decide)) ?_
   rw [hcc]
   repeat (first|refine W.gob rfl ?_|refine WL.nil ?_|refine WL.bt rfl rfl rfl (by omega) ?_|refine WL.e1 rfl ?_|refine WL.opno rfl rfl rfl rfl rfl rfl rfl ?_|refine WL.ar rfl rfl (by unfold I64;omega) ?_|refine WL.len rfl rfl (by first|exact List.length_map _|exact List.length_replicate|rfl) ?_|refine WL.app rfl rfl rfl (by first|omega|(simp;done)|(simp;omega)) ?_|refine W.condT rfl ?_)
   dsimp only [St.put,Nat.reduceAdd]
   refine ⟨(i+1,k,L++[((i:Int),-1)]),⟨by show i+1≤_;omega,hk,by simp;omega,g,by dsimp only;omega,by rw [List.length_append,List.append_assoc];exact hL⟩,by dsimp only;omega,?_⟩
   exact (Tr.ren (fun q=>bif Nat.beq q 2 then 4 else q) (by repeat (first|exact trivial|refine ⟨⟨?_,?_⟩,?_⟩|rfl)) (by repeat (first|exact trivial|refine ⟨⟨?_,?_,?_⟩,?_⟩|rfl|exact congrArg (fun q=>some (AO.row _ _ q)) (by rw [List.map_append];rfl))) rfl)
  by_cases hB:c=1
  ·by_cases hC:i < a.length
   ·rw [stA_l hend (.inr ⟨hch.trans hB,hC⟩)] at hL
    repeat (first|refine W.gob rfl ?_|refine WL.nil ?_|refine WL.bt rfl rfl rfl (by omega) ?_|refine WL.e1 rfl ?_|refine WL.opno rfl rfl rfl rfl rfl rfl rfl ?_|refine WL.len rfl rfl (by first|exact List.length_map _|exact List.length_replicate|rfl) ?_|refine W.condT rfl ?_)
    refine (?_:WL _ _ _ _ _ _)
    dsimp only [St.put,Nat.reduceAdd]
    refine WL.idx rfl rfl (by omega) hq ?_
    repeat refine WL.e1 rfl ?_
    refine (?_:WL _ _ _ _ _ _)
    dsimp only [St.put,Nat.reduceAdd]
    refine WL.vl rfl (WV.rem_ rfl rfl rfl (by decide)) ?_
    rw [hcc]
    repeat (first|refine W.gob rfl ?_|refine WL.nil ?_|refine WL.bt rfl rfl rfl (by omega) ?_|refine WL.bf rfl rfl rfl (by omega) ?_|refine WL.e1 rfl ?_|refine WL.gyes rfl rfl rfl rfl ?_|refine WL.ar rfl rfl (by unfold I64;omega) ?_|refine WL.len rfl rfl (by first|exact List.length_map _|exact List.length_replicate|rfl) ?_|refine WL.app rfl rfl rfl (by first|omega|(simp;done)|(simp;omega)) ?_|refine W.condT rfl ?_)
    dsimp only [St.put,Nat.reduceAdd]
    refine ⟨(i+1,k,L++[((i:Int),-1)]),⟨by show i+1≤_;omega,hk,by simp;omega,g,by dsimp only;omega,by rw [List.length_append,List.append_assoc];exact hL⟩,by dsimp only;omega,?_⟩
    exact (Tr.ren (fun q=>bif Nat.beq q 2 then 4 else q) (by repeat (first|exact trivial|refine ⟨⟨?_,?_⟩,?_⟩|rfl)) (by repeat (first|exact trivial|refine ⟨⟨?_,?_,?_⟩,?_⟩|rfl|exact congrArg (fun q=>some (AO.row _ _ q)) (by rw [List.map_append];rfl))) rfl)
   ·have hC':i=a.length:=by omega
    rw [stA_r hend (fun h=>h.elim hA fun x=>hC x.2) (.inl hC')] at hL
    repeat (first|refine W.gob rfl ?_|refine WL.nil ?_|refine WL.bt rfl rfl rfl (by omega) ?_|refine WL.bf rfl rfl rfl (by omega) ?_|refine WL.e1 rfl ?_|refine WL.gyes rfl rfl rfl rfl ?_|refine WL.len rfl rfl (by first|exact List.length_map _|exact List.length_replicate|rfl) ?_|refine W.condT rfl ?_)
    refine (?_:WL _ _ _ _ _ _)
    dsimp only [St.put,Nat.reduceAdd]
    refine WL.idx rfl rfl (by omega) hq ?_
    repeat refine WL.e1 rfl ?_
    refine (?_:WL _ _ _ _ _ _)
    dsimp only [St.put,Nat.reduceAdd]
    refine WL.vl rfl (WV.rem_ rfl rfl rfl (by decide)) ?_
    rw [hcc]
    repeat (first|refine W.gob rfl ?_|refine WL.nil ?_|refine WL.bt rfl rfl rfl (by omega) ?_|refine WL.bf rfl rfl rfl (by omega) ?_|refine WL.e1 rfl ?_|refine WL.gyes rfl rfl rfl rfl ?_|refine WL.opno rfl rfl rfl rfl rfl rfl rfl ?_|refine WL.ar rfl rfl (by unfold I64;omega) ?_|refine WL.len rfl rfl (by first|exact List.length_map _|exact List.length_replicate|rfl) ?_|refine WL.app rfl rfl rfl (by first|omega|(simp;done)|(simp;omega)) ?_|refine W.condT rfl ?_|refine W.condF rfl ?_)
    dsimp only [St.put,Nat.reduceAdd]
    refine ⟨(i,k+1,L++[(-1,(k:Int))]),⟨hi,by show k+1≤_;omega,by simp;omega,g,by dsimp only;omega,by rw [List.length_append,List.append_assoc];exact hL⟩,by dsimp only;omega,?_⟩
    exact (Tr.ren (fun q=>bif Nat.beq q 2 then 4 else q) (by repeat (first|exact trivial|refine ⟨⟨?_,?_⟩,?_⟩|rfl)) (by repeat (first|exact trivial|refine ⟨⟨?_,?_,?_⟩,?_⟩|rfl|exact congrArg (fun q=>some (AO.row _ _ q)) (by rw [List.map_append];rfl))) rfl)
  have nB:¬ (k=b.length∨(chA cs L.length=1∧i < a.length)):=fun h=>h.elim hA fun x=>hB (hch.symm.trans x.1)
  by_cases hC:i=a.length
  ·have hk':k < b.length:=by omega
   rw [stA_r hend nB (.inl hC)] at hL
   repeat (first|refine W.gob rfl ?_|refine WL.nil ?_|refine WL.bt rfl rfl rfl (by omega) ?_|refine WL.bf rfl rfl rfl (by omega) ?_|refine WL.e1 rfl ?_|refine WL.gyes rfl rfl rfl rfl ?_|refine WL.len rfl rfl (by first|exact List.length_map _|exact List.length_replicate|rfl) ?_|refine W.condT rfl ?_)
   refine (?_:WL _ _ _ _ _ _)
   dsimp only [St.put,Nat.reduceAdd]
   refine WL.idx rfl rfl (by omega) hq ?_
   repeat refine WL.e1 rfl ?_
   refine (?_:WL _ _ _ _ _ _)
   dsimp only [St.put,Nat.reduceAdd]
   refine WL.vl rfl (WV.rem_ rfl rfl rfl (by decide)) ?_
   rw [hcc]
   repeat (first|refine W.gob rfl ?_|refine WL.nil ?_|refine WL.bt rfl rfl rfl (by omega) ?_|refine WL.bf rfl rfl rfl (by omega) ?_|refine WL.e1 rfl ?_|refine WL.gyes rfl rfl rfl rfl ?_|refine WL.opno rfl rfl rfl rfl rfl rfl rfl ?_|refine WL.ar rfl rfl (by unfold I64;omega) ?_|refine WL.len rfl rfl (by first|exact List.length_map _|exact List.length_replicate|rfl) ?_|refine WL.app rfl rfl rfl (by first|omega|(simp;done)|(simp;omega)) ?_|refine W.condT rfl ?_|refine W.condF rfl ?_)
   dsimp only [St.put,Nat.reduceAdd]
   refine ⟨(i,k+1,L++[(-1,(k:Int))]),⟨hi,by show k+1≤_;omega,by simp;omega,g,by dsimp only;omega,by rw [List.length_append,List.append_assoc];exact hL⟩,by dsimp only;omega,?_⟩
   exact (Tr.ren (fun q=>bif Nat.beq q 2 then 4 else q) (by repeat (first|exact trivial|refine ⟨⟨?_,?_⟩,?_⟩|rfl)) (by repeat (first|exact trivial|refine ⟨⟨?_,?_,?_⟩,?_⟩|rfl|exact congrArg (fun q=>some (AO.row _ _ q)) (by rw [List.map_append];rfl))) rfl)
  by_cases hD:c=2
  ·have hk':k < b.length:=by omega
   rw [stA_r hend nB (.inr (hch.trans hD))] at hL
   repeat (first|refine W.gob rfl ?_|refine WL.nil ?_|refine WL.bt rfl rfl rfl (by omega) ?_|refine WL.e1 rfl ?_|refine WL.opno rfl rfl rfl rfl rfl rfl rfl ?_|refine WL.len rfl rfl (by first|exact List.length_map _|exact List.length_replicate|rfl) ?_|refine W.condT rfl ?_)
   refine (?_:WL _ _ _ _ _ _)
   dsimp only [St.put,Nat.reduceAdd]
   refine WL.idx rfl rfl (by omega) hq ?_
   repeat refine WL.e1 rfl ?_
   refine (?_:WL _ _ _ _ _ _)
   dsimp only [St.put,Nat.reduceAdd]
   refine WL.vl rfl (WV.rem_ rfl rfl rfl (by decide)) ?_
   rw [hcc]
   repeat (first|refine W.gob rfl ?_|refine WL.nil ?_|refine WL.bt rfl rfl rfl (by omega) ?_|refine WL.bf rfl rfl rfl (by omega) ?_|refine WL.e1 rfl ?_|refine WL.gyes rfl rfl rfl rfl ?_|refine WL.opno rfl rfl rfl rfl rfl rfl rfl ?_|refine WL.ar rfl rfl (by unfold I64;omega) ?_|refine WL.len rfl rfl (by first|exact List.length_map _|exact List.length_replicate|rfl) ?_|refine WL.app rfl rfl rfl (by first|omega|(simp;done)|(simp;omega)) ?_|refine W.condT rfl ?_|refine W.condF rfl ?_)
   dsimp only [St.put,Nat.reduceAdd]
   refine ⟨(i,k+1,L++[(-1,(k:Int))]),⟨hi,by show k+1≤_;omega,by simp;omega,g,by dsimp only;omega,by rw [List.length_append,List.append_assoc];exact hL⟩,by dsimp only;omega,?_⟩
   exact (Tr.ren (fun q=>bif Nat.beq q 2 then 4 else q) (by repeat (first|exact trivial|refine ⟨⟨?_,?_⟩,?_⟩|rfl)) (by repeat (first|exact trivial|refine ⟨⟨?_,?_,?_⟩,?_⟩|rfl|exact congrArg (fun q=>some (AO.row _ _ q)) (by rw [List.map_append];rfl))) rfl)
  have nD:¬ (i=a.length∨chA cs L.length=2):=fun h=>h.elim hC fun x=>hD (hch.symm.trans x)
  rw [stA_b hend nB nD] at hL
  repeat (first|refine W.gob rfl ?_|refine WL.nil ?_|refine WL.bt rfl rfl rfl (by omega) ?_|refine WL.e1 rfl ?_|refine WL.opno rfl rfl rfl rfl rfl rfl rfl ?_|refine WL.len rfl rfl (by first|exact List.length_map _|exact List.length_replicate|rfl) ?_|refine W.condT rfl ?_)
  refine (?_:WL _ _ _ _ _ _)
  dsimp only [St.put,Nat.reduceAdd]
  refine WL.idx rfl rfl (by omega) hq ?_
  repeat refine WL.e1 rfl ?_
  refine (?_:WL _ _ _ _ _ _)
  dsimp only [St.put,Nat.reduceAdd]
  refine WL.vl rfl (WV.rem_ rfl rfl rfl (by decide)) ?_
  rw [hcc]
  repeat (first|refine W.gob rfl ?_|refine WL.nil ?_|refine WL.bf rfl rfl rfl (by omega) ?_|refine WL.e1 rfl ?_|refine WL.gyes rfl rfl rfl rfl ?_|refine WL.opno rfl rfl rfl rfl rfl rfl rfl ?_|refine WL.ar rfl rfl (by unfold I64;omega) ?_|refine WL.len rfl rfl (by first|exact List.length_map _|exact List.length_replicate|rfl) ?_|refine WL.app rfl rfl rfl (by first|omega|(simp;done)|(simp;omega)) ?_|refine W.condF rfl ?_)
  dsimp only [St.put,Nat.reduceAdd]
  refine ⟨(i+1,k+1,L++[((i:Int),(k:Int))]),⟨by show i+1≤_;omega,by show k+1≤_;omega,by simp;omega,g,by dsimp only;omega,by rw [List.length_append,List.append_assoc];exact hL⟩,by dsimp only;omega,?_⟩
  exact (Tr.ren (fun q=>bif Nat.beq q 2 then 4 else q) (by repeat (first|exact trivial|refine ⟨⟨?_,?_⟩,?_⟩|rfl)) (by repeat (first|exact trivial|refine ⟨⟨?_,?_,?_⟩,?_⟩|rfl|exact congrArg (fun q=>some (AO.row _ _ q)) (by rw [List.map_append];rfl))) rfl)
 ·have hch:=chA_no hc
  by_cases hA:k=b.length
  ·have hi':i < a.length:=by omega
   rw [stA_l hend (.inl hA)] at hL
   repeat (first|refine W.gob rfl ?_|refine WL.nil ?_|refine WL.bt rfl rfl rfl (by omega) ?_|refine WL.bf rfl rfl rfl (by omega) ?_|refine WL.e1 rfl ?_|refine WL.opno rfl rfl rfl rfl rfl rfl rfl ?_|refine WL.ar rfl rfl (by unfold I64;omega) ?_|refine WL.len rfl rfl (by first|exact List.length_map _|exact List.length_replicate|rfl) ?_|refine WL.app rfl rfl rfl (by first|omega|(simp;done)|(simp;omega)) ?_|refine W.condT rfl ?_|refine W.condF rfl ?_)
   dsimp only [St.put,Nat.reduceAdd]
   refine ⟨(i+1,k,L++[((i:Int),-1)]),⟨by show i+1≤_;omega,hk,by simp;omega,g,by dsimp only;omega,by rw [List.length_append,List.append_assoc];exact hL⟩,by dsimp only;omega,?_⟩
   exact (Tr.ren (fun q=>bif Nat.beq q 2 then 4 else q) (by repeat (first|exact trivial|refine ⟨⟨?_,?_⟩,?_⟩|rfl)) (by repeat (first|exact trivial|refine ⟨⟨?_,?_,?_⟩,?_⟩|rfl|exact congrArg (fun q=>some (AO.row _ _ q)) (by rw [List.map_append];rfl))) rfl)
  have nB:¬ (k=b.length∨(chA cs L.length=1∧i < a.length)):=fun h=>h.elim hA fun x=>by have:=hch.symm.trans x.1;omega
  by_cases hC:i=a.length
  ·have hk':k < b.length:=by omega
   rw [stA_r hend nB (.inl hC)] at hL
   repeat (first|refine W.gob rfl ?_|refine WL.nil ?_|refine WL.bt rfl rfl rfl (by omega) ?_|refine WL.bf rfl rfl rfl (by omega) ?_|refine WL.e1 rfl ?_|refine WL.gyes rfl rfl rfl rfl ?_|refine WL.opno rfl rfl rfl rfl rfl rfl rfl ?_|refine WL.ar rfl rfl (by unfold I64;omega) ?_|refine WL.len rfl rfl (by first|exact List.length_map _|exact List.length_replicate|rfl) ?_|refine WL.app rfl rfl rfl (by first|omega|(simp;done)|(simp;omega)) ?_|refine W.condT rfl ?_|refine W.condF rfl ?_)
   dsimp only [St.put,Nat.reduceAdd]
   refine ⟨(i,k+1,L++[(-1,(k:Int))]),⟨hi,by show k+1≤_;omega,by simp;omega,g,by dsimp only;omega,by rw [List.length_append,List.append_assoc];exact hL⟩,by dsimp only;omega,?_⟩
   exact (Tr.ren (fun q=>bif Nat.beq q 2 then 4 else q) (by repeat (first|exact trivial|refine ⟨⟨?_,?_⟩,?_⟩|rfl)) (by repeat (first|exact trivial|refine ⟨⟨?_,?_,?_⟩,?_⟩|rfl|exact congrArg (fun q=>some (AO.row _ _ q)) (by rw [List.map_append];rfl))) rfl)
  have nD:¬ (i=a.length∨chA cs L.length=2):=fun h=>h.elim hC fun x=>by have:=hch.symm.trans x;omega
  rw [stA_b hend nB nD] at hL
  repeat (first|refine W.gob rfl ?_|refine WL.nil ?_|refine WL.bt rfl rfl rfl (by omega) ?_|refine WL.bf rfl rfl rfl (by omega) ?_|refine WL.e1 rfl ?_|refine WL.gyes rfl rfl rfl rfl ?_|refine WL.opno rfl rfl rfl rfl rfl rfl rfl ?_|refine WL.ar rfl rfl (by unfold I64;omega) ?_|refine WL.len rfl rfl (by first|exact List.length_map _|exact List.length_replicate|rfl) ?_|refine WL.app rfl rfl rfl (by first|omega|(simp;done)|(simp;omega)) ?_|refine W.condT rfl ?_|refine W.condF rfl ?_)
  dsimp only [St.put,Nat.reduceAdd]
  refine ⟨(i+1,k+1,L++[((i:Int),(k:Int))]),⟨by show i+1≤_;omega,by show k+1≤_;omega,by simp;omega,g,by dsimp only;omega,by rw [List.length_append,List.append_assoc];exact hL⟩,by dsimp only;omega,?_⟩
  exact (Tr.ren (fun q=>bif Nat.beq q 2 then 4 else q) (by repeat (first|exact trivial|refine ⟨⟨?_,?_⟩,?_⟩|rfl)) (by repeat (first|exact trivial|refine ⟨⟨?_,?_,?_⟩,?_⟩|rfl|exact congrArg (fun q=>some (AO.row _ _ q)) (by rw [List.map_append];rfl))) rfl)
end Go.Proofs.YtgelfflighgajaaGreatDoor
namespace Go.Proofs.YtgelfflighgajaaGreatDoor
open Go.RowKit
theorem longD60 {p:Pce} (h:longB p=false):p.evs.length≤60:=by
 unfold longB at h
 simp only [Bool.or_eq_false_iff,decide_eq_false_iff_not]at h
 omega
theorem sameI_sym {a b:Pce} (h:sameI a.cs a.st b.cs b.st=true):sameI b.cs b.st a.cs a.st=true:=by
 obtain ⟨h1,h2⟩:a.cs=b.cs∧a.st=b.st:=of_decide_eq_true h
 exact decide_eq_true ⟨h1.symm,h2.symm⟩
theorem plP_at {p:Pce} (h:pceE p=0):plP p =⟨p.cs,p.st,plE p⟩:=if_pos h
theorem aligned_G (a b:Pce) (chs:List Int):Ctg tabB Tryz.prog 6 [ePce a,ePce b,.ls 1 (chs.map eU8)] (.sc (.bool true)):=by
 have hLa:=long_FS a
 have hLb:=long_FS b
 cases hla:longB a with
 | true =>
  rw [hla] at hLa
  refine Ctg.intro stabB Tryz.func6 rfl Tryz.ntmps6 (Nat.le_of_ble_eq_true rfl) (bd_all rfl) fun w0 F0 hB=>?_;dsimp only [St.init,number,Nat.reduceAdd]
  repeat refine W.go rfl ?_
  refine (?_:WL _ _ _ _ _ _)
  dsimp only [St.put,Nat.reduceAdd]
  refine WL.vl rfl (WV.call rfl (callF Tryz.func14 rfl rfl) rfl rfl hLa) ?_
  repeat (first|refine W.gob rfl ?_|refine WL.nil ?_|refine WL.e1 rfl ?_|refine WL.opno rfl rfl rfl rfl rfl rfl rfl ?_|refine W.condT rfl ?_)
  refine (?_:WL _ _ _ _ _ _)
  dsimp only [St.put,Nat.reduceAdd]
  refine WL.vl rfl (WV.callG hB rfl (callF Tryz.func15 rfl rfl) rfl rfl works11_G) ?_
  repeat refine WL.ev rfl ?_
  refine (?_:W _ _ _ _ _)
  dsimp only [St.put,Nat.reduceAdd]
  exact W.ret (fin1 rfl rfl rfl rfl)
 | false =>
 rw [hla] at hLa
 cases hlb:longB b with
 | true =>
  rw [hlb] at hLb
  refine Ctg.intro stabB Tryz.func6 rfl Tryz.ntmps6 (Nat.le_of_ble_eq_true rfl) (bd_all rfl) fun w0 F0 hB=>?_;dsimp only [St.init,number,Nat.reduceAdd]
  repeat refine W.go rfl ?_
  refine (?_:WL _ _ _ _ _ _)
  dsimp only [St.put,Nat.reduceAdd]
  refine WL.vl rfl (WV.call rfl (callF Tryz.func14 rfl rfl) rfl rfl hLa) ?_
  repeat (first|refine WL.e1 rfl ?_|refine WL.gyes rfl rfl rfl rfl ?_)
  refine (?_:WL _ _ _ _ _ _)
  dsimp only [St.put,Nat.reduceAdd]
  refine WL.vl rfl (WV.call rfl (callF Tryz.func14 rfl rfl) rfl rfl hLb) ?_
  repeat (first|refine W.gob rfl ?_|refine WL.nil ?_|refine WL.e1 rfl ?_|refine WL.opno rfl rfl rfl rfl rfl rfl rfl ?_|refine W.condT rfl ?_)
  refine (?_:WL _ _ _ _ _ _)
  dsimp only [St.put,Nat.reduceAdd]
  refine WL.vl rfl (WV.callG hB rfl (callF Tryz.func15 rfl rfl) rfl rfl works11_G) ?_
  repeat refine WL.ev rfl ?_
  refine (?_:W _ _ _ _ _)
  dsimp only [St.put,Nat.reduceAdd]
  exact W.ret (fin1 rfl rfl rfl rfl)
 | false =>
 rw [hlb] at hLb
 have hOa:=pcOk_of3 hla
 have hOb:=pcOk_of3 hlb
 have h60a:=longD60 hla
 have h60b:=longD60 hlb
 have hCa:=rCheck_FS a hOa
 have hCb:=rCheck_FS b hOb
 by_cases ha:pceE a=0
 rotate_left
 ·obtain ⟨E,hE⟩:∃ E,pceE a=E:=⟨_,rfl⟩
  rw [hE] at ha hCa
  refine Ctg.intro stabB Tryz.func6 rfl Tryz.ntmps6 (Nat.le_of_ble_eq_true rfl) (bd_all rfl) fun w0 F0 hB=>?_;dsimp only [St.init,number,Nat.reduceAdd]
  repeat refine W.go rfl ?_
  refine (?_:WL _ _ _ _ _ _)
  dsimp only [St.put,Nat.reduceAdd]
  refine WL.vl rfl (WV.call rfl (callF Tryz.func14 rfl rfl) rfl rfl hLa) ?_
  repeat (first|refine WL.e1 rfl ?_|refine WL.gyes rfl rfl rfl rfl ?_)
  refine (?_:WL _ _ _ _ _ _)
  dsimp only [St.put,Nat.reduceAdd]
  refine WL.vl rfl (WV.call rfl (callF Tryz.func14 rfl rfl) rfl rfl hLb) ?_
  repeat (first|refine WL.e1 rfl ?_|refine WL.gyes rfl rfl rfl rfl ?_)
  refine (?_:WL _ _ _ _ _ _)
  dsimp only [St.put,Nat.reduceAdd]
  refine WL.vl rfl (WV.call rfl (callF Tryz.func28 rfl rfl) rfl rfl hCa) ?_
  repeat (first|refine W.gob rfl ?_|refine WL.nil ?_|refine WL.nt rfl rfl rfl (by omega) ?_|refine WL.e1 rfl ?_|refine WL.gyes rfl rfl rfl rfl ?_|refine WL.opno rfl rfl rfl rfl rfl rfl rfl ?_|refine W.condT rfl ?_)
  refine (?_:WL _ _ _ _ _ _)
  dsimp only [St.put,Nat.reduceAdd]
  refine WL.vl rfl (WV.callG hB rfl (callF Tryz.func15 rfl rfl) rfl rfl works11_G) ?_
  repeat refine WL.ev rfl ?_
  refine (?_:W _ _ _ _ _)
  dsimp only [St.put,Nat.reduceAdd]
  exact W.ret (fin1 rfl rfl rfl rfl)
 rw [ha] at hCa
 by_cases hb:pceE b=0
 rotate_left
 ·obtain ⟨E,hE⟩:∃ E,pceE b=E:=⟨_,rfl⟩
  rw [hE] at hb hCb
  refine Ctg.intro stabB Tryz.func6 rfl Tryz.ntmps6 (Nat.le_of_ble_eq_true rfl) (bd_all rfl) fun w0 F0 hB=>?_;dsimp only [St.init,number,Nat.reduceAdd]
  repeat refine W.go rfl ?_
  refine (?_:WL _ _ _ _ _ _)
  dsimp only [St.put,Nat.reduceAdd]
  refine WL.vl rfl (WV.call rfl (callF Tryz.func14 rfl rfl) rfl rfl hLa) ?_
  repeat (first|refine WL.e1 rfl ?_|refine WL.gyes rfl rfl rfl rfl ?_)
  refine (?_:WL _ _ _ _ _ _)
  dsimp only [St.put,Nat.reduceAdd]
  refine WL.vl rfl (WV.call rfl (callF Tryz.func14 rfl rfl) rfl rfl hLb) ?_
  repeat (first|refine WL.e1 rfl ?_|refine WL.gyes rfl rfl rfl rfl ?_)
  refine (?_:WL _ _ _ _ _ _)
  dsimp only [St.put,Nat.reduceAdd]
  refine WL.vl rfl (WV.call rfl (callF Tryz.func28 rfl rfl) rfl rfl hCa) ?_
  repeat (first|refine WL.nf rfl rfl rfl (by omega) ?_|refine WL.e1 rfl ?_|refine WL.gyes rfl rfl rfl rfl ?_)
  refine (?_:WL _ _ _ _ _ _)
  dsimp only [St.put,Nat.reduceAdd]
  refine WL.vl rfl (WV.call rfl (callF Tryz.func28 rfl rfl) rfl rfl hCb) ?_
  repeat (first|refine W.gob rfl ?_|refine WL.nil ?_|refine WL.nt rfl rfl rfl (by omega) ?_|refine WL.e1 rfl ?_|refine WL.gyes rfl rfl rfl rfl ?_|refine WL.opno rfl rfl rfl rfl rfl rfl rfl ?_|refine W.condT rfl ?_)
  refine (?_:WL _ _ _ _ _ _)
  dsimp only [St.put,Nat.reduceAdd]
  refine WL.vl rfl (WV.callG hB rfl (callF Tryz.func15 rfl rfl) rfl rfl works11_G) ?_
  repeat refine WL.ev rfl ?_
  refine (?_:W _ _ _ _ _)
  dsimp only [St.put,Nat.reduceAdd]
  exact W.ret (fin1 rfl rfl rfl rfl)
 rw [hb] at hCb
 have hSI:=rSameI_FS a.cs a.st b.cs b.st hOa.n1 hOa.n2 hOb.n1 hOb.n2
 cases hs:sameI a.cs a.st b.cs b.st with
 | false =>
  rw [hs] at hSI
  refine Ctg.intro stabB Tryz.func6 rfl Tryz.ntmps6 (Nat.le_of_ble_eq_true rfl) (bd_all rfl) fun w0 F0 hB=>?_;dsimp only [St.init,number,Nat.reduceAdd]
  repeat refine W.go rfl ?_
  refine (?_:WL _ _ _ _ _ _)
  dsimp only [St.put,Nat.reduceAdd]
  refine WL.vl rfl (WV.call rfl (callF Tryz.func14 rfl rfl) rfl rfl hLa) ?_
  repeat (first|refine WL.e1 rfl ?_|refine WL.gyes rfl rfl rfl rfl ?_)
  refine (?_:WL _ _ _ _ _ _)
  dsimp only [St.put,Nat.reduceAdd]
  refine WL.vl rfl (WV.call rfl (callF Tryz.func14 rfl rfl) rfl rfl hLb) ?_
  repeat (first|refine WL.e1 rfl ?_|refine WL.gyes rfl rfl rfl rfl ?_)
  refine (?_:WL _ _ _ _ _ _)
  dsimp only [St.put,Nat.reduceAdd]
  refine WL.vl rfl (WV.call rfl (callF Tryz.func28 rfl rfl) rfl rfl hCa) ?_
  repeat (first|refine WL.nf rfl rfl rfl (by omega) ?_|refine WL.e1 rfl ?_|refine WL.gyes rfl rfl rfl rfl ?_)
  refine (?_:WL _ _ _ _ _ _)
  dsimp only [St.put,Nat.reduceAdd]
  refine WL.vl rfl (WV.call rfl (callF Tryz.func28 rfl rfl) rfl rfl hCb) ?_
  repeat (first|refine WL.nf rfl rfl rfl (by omega) ?_|refine WL.e1 rfl ?_|refine WL.gyes rfl rfl rfl rfl ?_)
  refine (?_:WL _ _ _ _ _ _)
  dsimp only [St.put,Nat.reduceAdd]
  refine WL.vl rfl (WV.call rfl (callF Tryz.func29 rfl rfl) rfl rfl hSI) ?_
  repeat (first|refine W.gob rfl ?_|refine WL.nil ?_|refine WL.e1 rfl ?_|refine WL.gyes rfl rfl rfl rfl ?_|refine W.condT rfl ?_)
  refine (?_:WL _ _ _ _ _ _)
  dsimp only [St.put,Nat.reduceAdd]
  refine WL.vl rfl (WV.callG hB rfl (callF Tryz.func15 rfl rfl) rfl rfl works11_G) ?_
  repeat refine WL.ev rfl ?_
  refine (?_:W _ _ _ _ _)
  dsimp only [St.put,Nat.reduceAdd]
  exact W.ret (fin1 rfl rfl rfl rfl)
 | true =>
 rw [hs] at hSI
 have hC1:=pCollate_FS a b hOa hOb h60a h60b
 rw [(cll_4 ha hb hs).1,(cll_4 ha hb hs).2.2.2.1,(cll_4 ha hb hs).2.2.2.2] at hC1
 have hC2:=pCollate_FS b a hOb hOa h60b h60a
 rw [(cll_4 hb ha (sameI_sym hs)).1,(cll_4 hb ha (sameI_sym hs)).2.2.2.1,(cll_4 hb ha (sameI_sym hs)).2.2.2.2,← csA_comm] at hC2
 have hP1:=rPlain_FS a hOa
 rw [ha,plP_at ha] at hP1
 have hP2:=rPlain_FS b hOb
 rw [hb,plP_at hb] at hP2
 have hla:=plE_length a
 have hlb:=plE_length b
 have h20a:=plE_20 hOa
 have h20b:=plE_20 hOb
 have hS:=steer_FS a.cs b.cs a.st b.st (plE a) (plE b) chs (by omega) (by omega)
 have hR1:=price_FS a.cs b.cs a.st b.st (plE a) (plE b) (prsA (plE a) (plE b)) prsA_aln (by omega) (by omega) h20a h20b
 have hR2:=price_FS a.cs b.cs a.st b.st (plE a) (plE b) (stAA (plE a) (plE b) chs) stAA_aln (by omega) (by omega) h20a h20b
 have hge:csA (plE a) (plE b) 0 0≤prcA (plE a) (plE b) (stAA (plE a) (plE b) chs):=aln_ge stAA_aln
 rw [prsA_cost] at hR1
 obtain ⟨N,hN⟩:∃ z,csA (plE a) (plE b) 0 0=z:=⟨_,rfl⟩
 obtain ⟨L,hL⟩:∃ z,prsA (plE a) (plE b)=z:=⟨_,rfl⟩
 obtain ⟨L2,hL2⟩:∃ z,prsA (plE b) (plE a)=z:=⟨_,rfl⟩
 obtain ⟨M,hM⟩:∃ z,prcA (plE a) (plE b) (stAA (plE a) (plE b) chs)=z:=⟨_,rfl⟩
 rw [hM] at hR2 hge
 obtain ⟨K,hK⟩:∃ z,stAA (plE a) (plE b) chs=z:=⟨_,rfl⟩
 rw [hN] at hC1 hC2 hR1 hge
 rw [hL] at hC1 hR1
 rw [hL2] at hC2
 rw [hK] at hS hR2
 obtain ⟨PA,hPA⟩:∃ z,plE a=z:=⟨_,rfl⟩
 obtain ⟨PB,hPB⟩:∃ z,plE b=z:=⟨_,rfl⟩
 rw [hPA] at hP1 hS hR1 hR2
 rw [hPB] at hP2 hS hR1 hR2
 clear hM hK hN hL hL2 hPA hPB hla hlb h20a h20b
 refine Ctg.intro stabB Tryz.func6 rfl Tryz.ntmps6 (Nat.le_of_ble_eq_true rfl) (bd_all rfl) fun w0 F0 hB=>?_;dsimp only [St.init,number,Nat.reduceAdd]
 repeat refine W.go rfl ?_
 refine (?_:WL _ _ _ _ _ _)
 dsimp only [St.put,Nat.reduceAdd]
 refine WL.vl rfl (WV.call rfl (callF Tryz.func14 rfl rfl) rfl rfl hLa) ?_
 repeat (first|refine WL.e1 rfl ?_|refine WL.gyes rfl rfl rfl rfl ?_)
 refine (?_:WL _ _ _ _ _ _)
 dsimp only [St.put,Nat.reduceAdd]
 refine WL.vl rfl (WV.call rfl (callF Tryz.func14 rfl rfl) rfl rfl hLb) ?_
 repeat (first|refine WL.e1 rfl ?_|refine WL.gyes rfl rfl rfl rfl ?_)
 refine (?_:WL _ _ _ _ _ _)
 dsimp only [St.put,Nat.reduceAdd]
 refine WL.vl rfl (WV.call rfl (callF Tryz.func28 rfl rfl) rfl rfl hCa) ?_
 repeat (first|refine WL.nf rfl rfl rfl (by omega) ?_|refine WL.e1 rfl ?_|refine WL.gyes rfl rfl rfl rfl ?_)
 refine (?_:WL _ _ _ _ _ _)
 dsimp only [St.put,Nat.reduceAdd]
 refine WL.vl rfl (WV.call rfl (callF Tryz.func28 rfl rfl) rfl rfl hCb) ?_
 repeat (first|refine WL.nf rfl rfl rfl (by omega) ?_|refine WL.e1 rfl ?_|refine WL.gyes rfl rfl rfl rfl ?_)
 refine (?_:WL _ _ _ _ _ _)
 dsimp only [St.put,Nat.reduceAdd]
 refine WL.vl rfl (WV.call rfl (callF Tryz.func29 rfl rfl) rfl rfl hSI) ?_
 repeat (first|refine W.gob rfl ?_|refine WL.nil ?_|refine WL.e1 rfl ?_|refine WL.gyes rfl rfl rfl rfl ?_|refine W.condF rfl ?_)
 refine (?_:W _ _ _ _ _)
 dsimp only [St.put,Nat.reduceAdd]
 refine W.drawK (by kernel_rfl) (by kernel_rfl) ?_
 repeat refine DK.st rfl ?_
 refine DK.vl rfl (WV.call rfl (callF Tryz.func17 rfl rfl) rfl rfl (pcCopy_FS a hOa)) ?_
 repeat refine DK.st rfl ?_
 refine DK.vl rfl (WV.call rfl (callF Tryz.func17 rfl rfl) rfl rfl (pcCopy_FS b hOb)) ?_
 refine DK.vl rfl (WV.call rfl (callF Tryz.func25 rfl rfl) rfl rfl hC1) ?_
 repeat (first|refine DK.st rfl ?_|refine DK.nil ?_)
 repeat refine W.go rfl ?_
 refine (?_:W _ _ _ _ _)
 dsimp only [St.put,Nat.reduceAdd]
 refine W.drawK (by kernel_rfl) (by kernel_rfl) ?_
 repeat refine DK.st rfl ?_
 refine DK.vl rfl (WV.call rfl (callF Tryz.func17 rfl rfl) rfl rfl (pcCopy_FS b hOb)) ?_
 repeat refine DK.st rfl ?_
 refine DK.vl rfl (WV.call rfl (callF Tryz.func17 rfl rfl) rfl rfl (pcCopy_FS a hOa)) ?_
 refine DK.vl rfl (WV.call rfl (callF Tryz.func25 rfl rfl) rfl rfl hC2) ?_
 repeat (first|refine DK.st rfl ?_|refine DK.nil ?_)
 repeat refine W.go rfl ?_
 refine (?_:WL _ _ _ _ _ _)
 dsimp only [St.put,Nat.reduceAdd]
 refine WL.vl rfl (WV.call rfl (callF Tryz.func30 rfl rfl) rfl rfl hP1) ?_
 repeat (first|refine W.go rfl ?_|refine WL.ev rfl ?_)
 refine (?_:WL _ _ _ _ _ _)
 dsimp only [St.put,Nat.reduceAdd]
 refine WL.vl rfl (WV.call rfl (callF Tryz.func30 rfl rfl) rfl rfl hP2) ?_
 repeat (first|refine W.go rfl ?_|refine WL.ev rfl ?_)
 refine (?_:W _ _ _ _ _)
 dsimp only [St.put,Nat.reduceAdd]
 refine W.drawK (by kernel_rfl) (by kernel_rfl) ?_
 repeat (first|refine DK.bt rfl rfl (by omega) ?_|refine DK.tt rfl (by first|(simp;done)|fail) ?_|refine DK.st rfl ?_)
 refine DK.vl rfl (WV.call rfl (callF Tryz.func31 rfl rfl) rfl rfl hR1) ?_
 repeat (first|refine DK.bt rfl rfl (by omega) ?_|refine DK.tt rfl (by first|(simp;done)|fail) ?_|refine DK.st rfl ?_)
 refine DK.vl rfl (WV.call rfl (callF Tryz.func32 rfl rfl) rfl rfl hS) ?_
 refine DK.vl rfl (WV.call rfl (callF Tryz.func31 rfl rfl) rfl rfl hR2) ?_
 repeat (first|refine DK.bt rfl rfl (by omega) ?_|refine DK.tt rfl (by first|(simp;done)|fail) ?_|refine DK.st rfl ?_)
 refine DK.vl rfl (WV.callG hB rfl (callF Tryz.func15 rfl rfl) rfl rfl works11_G) ?_
 repeat (first|refine DK.tt rfl (by first|(simp;done)|fail) ?_|refine DK.nil ?_)
 refine (?_:W _ _ _ _ _)
 dsimp only [St.put,Nat.reduceAdd]
 exact W.ret (fin1 rfl rfl rfl rfl)
end Go.Proofs.YtgelfflighgajaaGreatDoor
