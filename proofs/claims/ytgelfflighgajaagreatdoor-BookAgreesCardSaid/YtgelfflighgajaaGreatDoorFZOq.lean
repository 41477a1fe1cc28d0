/- A walk that knows values as trees: a drawn region with one chain of writes; what stands until the last of these is known to all that come ahead of it. -/
import Derived.Test.YtgelfflighgajaaGreatDoorFXOq
set_option maxHeartbeats 4000000
set_option maxRecDepth 100000
set_option linter.unusedVariables false
set_option linter.unusedSimpArgs false
namespace Go.Proofs.YtgelfflighgajaaGreatDoor
section
open Go.RowKit
def eNt (x:Nt):List AV:=[.sc (.int .i64 x.1),.sc (.int .i64 x.2.1),.sc (.int .i64 x.2.2.1),.sc (.int .i64 x.2.2.2.1),.sc (.int .i64 x.2.2.2.2)]
def eRing (r:List Int):List AV:=(List.range 15).map fun c=>.sc (.int .i64 (r.getD c 0))
theorem eRing_at {r:List Int} {c:Nat} (h:c<15):(eRing r)[c]?=some (.sc (.int .i64 (r.getD c 0))):=by
 unfold eRing
 rw [List.getElem?_map,List.getElem?_range h];rfl
theorem eRing_len(r:List Int):(eRing r).length=15:=by unfold eRing;simp
theorem eRing_set {r:List Int} {c:Nat} {v:Int} (hc:c<r.length):(eRing r).set c (.sc (.int .i64 v))=eRing (r.set c v):=by
 unfold eRing
 apply List.ext_getElem (by simp)
 intro i h1 h2
 have hi:i<15:=by simpa using h2
 rw [List.getElem_set]
 simp only [List.getElem_map,List.getElem_range,List.getD_eq_getElem?_getD,List.getElem?_set]
 by_cases e:c=i
 ·subst e;simp [hc]
 ·simp [e]
theorem eNt_set {l:List Nt} {k:Nat} {n:Nt} (t:Int)(h:l[k]?=some n):(l.map eNt).set k (putL 4 [.sc (.int .i64 t)] (eNt n))=(setTo l k t).map eNt:=by
 unfold setTo
 rw [h]
 simp only [List.map_set]
 rfl
structure NsOk(s:NS):Prop where
 len:s.ring.length=15
 rng:∀ c,0≤s.ring.getD c 0∧s.ring.getD c 0≤s.out.length
 big:s.out.length≤10000
theorem setTo_len(l:List Nt)(k:Nat)(t:Int):(setTo l k t).length=l.length:=by unfold setTo;split<;>simp
theorem stopN_ok {s:NS} (h:NsOk s)(c:Nat)(t:Int):NsOk (stopN c t s)∧(stopN c t s).out.length=s.out.length:=by
 unfold stopN
 split
 ·refine⟨⟨by simpa using h.len,fun q=>?_,by rw [setTo_len];exact h.big⟩,setTo_len _ _ _⟩
  have:=h.rng q
  simp only [setTo_len,List.getD_eq_getElem?_getD]at this ⊢
  by_cases e:c=q
  ·subst e
   by_cases hq:c<s.ring.length
   ·rw [List.getElem?_set_self hq];simp
   ·rw [List.getElem?_eq_none (by simpa using hq)];simp
  ·rw [List.getElem?_set_ne e];exact this
 ·exact⟨h,rfl⟩
theorem finMn {P:Program} {C:Cx} {σ:St} {fn:Func} {avs:List AV} {res:AV} {M':List (Nat×AO)} {nk':Nat} (h:resL P σ fn.results.toList=some avs)(hp:avs.all (fun av=>!ownB av)=true)(e:resT avs=res)(hM:σ.M=M')(hk:σ.nk=nk'):QFinM P fn C res M' nk' .normal σ :=
 ⟨.inl rfl,(finM h hp e hM hk).2⟩
theorem stop_FS (c:Nat) (t:Int) (s:NS) (hc:c < 15) (h:NsOk s) :
  Cto truB 0 Tryz.prog 230 [.sc (.int .i64 c),.sc (.int .i64 t),.pt 0 0 0,.pt 1 0 0]
   [(0,.box 328 (eRing s.ring)),(1,.box 227 [.sl 2]),(2,.row 233 5 (s.out.map eNt))] 3 (.tu [])
   [(0,.box 328 (eRing (stopN c t s).ring)),(1,.box 227 [.sl 2]),(2,.row 233 5 ((stopN c t s).out.map eNt))] 3:=by
 have hl:=eRing_len s.ring
 have hrg:=h.rng c
 have hlen:=h.len
 have hbig:=h.big
 have hat:=eRing_at (r:=s.ring) hc
 have hs0:stopN c t s=if 0 < s.ring.getD c 0 then ⟨setTo s.out (s.ring.getD c 0 - 1).toNat t,s.ring.set c 0⟩ else s:=rfl
 obtain ⟨r,hr⟩:∃ r,s.ring.getD c 0=r:=⟨_,rfl⟩
 rw [hr] at hat hrg hs0
 refine Cto.intro truS Tryz.func230 rfl Tryz.ntmps230 (Nat.le_of_ble_eq_true rfl) rfl fun w0 F0 fp pg hB=>?_
 dsimp only [number,Nat.reduceAdd]
 repeat refine W.go rfl ?_
 refine (?_:WL _ _ _ _ _ _)
 refine WL.idp rfl rfl ⟨by omega,by omega⟩ (show 0+((c:Nat):Int).toNat*1=c by simp) ?_
 refine WL.ldx rfl rfl hat rfl ?_
 repeat (first|refine W.go rfl ?_|refine WL.ev rfl ?_)
 refine (?_:W _ _ _ _ _)
 (refine W.cond rfl (fun hif=>?_) (fun hif=>?_)<;>(try simp only [decide_eq_true_eq,decide_eq_false_iff_not,Int.not_lt,Int.not_le,Bool.not_eq_true',Bool.not_eq_false'] at hif))
 ·rw [if_pos hif] at hs0
  rw [hs0]
  have hk:(r - 1).toNat < s.out.length:=by omega
  have hn:=List.getElem?_eq_getElem hk
  have hrr:(s.out.map eNt)[(r - 1).toNat]?=some (eNt s.out[(r - 1).toNat]):=by rw [List.getElem?_map,hn];rfl
  repeat (first|refine W.gob rfl ?_|refine WL.e1 rfl ?_|refine WL.ar rfl rfl (by unfold I64;omega) ?_|refine WL.ixs rfl rfl zqs ?_)
  refine (?_:WL _ _ _ _ _ _)
  refine WL.sto rfl rfl rfl rfl hrr (by show 4+1≤5;omega) ?_
  repeat (first|refine W.gob rfl ?_|refine WL.nil ?_|refine WL.e1 rfl ?_)
  refine (?_:WL _ _ _ _ _ _)
  refine WL.idp rfl rfl ⟨by omega,by omega⟩ (show 0+((c:Nat):Int).toNat*1=c by simp) ?_
  refine WL.stx rfl rfl rfl rfl (by rw [hl];exact hc) ?_
  rw [eRing_set (by omega)]
  dsimp only
  refine WL.tr (σ':=⟨[],[(0,.box 328 (eRing (s.ring.set c 0))),(1,.box 227 [.sl 2]),(2,.row 233 5 ((setTo s.out (r - 1).toNat t).map eNt))],3⟩) (zqu (fun q=>q) (by repeat (first|exact trivial|refine ⟨⟨?_,?_,?_⟩,?_⟩|rfl|exact congrArg (fun q=>some (AO.row _ _ q)) (eNt_set t hn))) rfl) ?_
  repeat refine WL.nil ?_
  exact finMn rfl rfl rfl rfl rfl
 ·rw [if_neg (by omega)] at hs0
  rw [hs0]
  repeat refine W.go rfl ?_
  exact finMn rfl rfl rfl rfl rfl
end
section
open Go.RowKit
section
variable {P:Program} {C:Cx} {σ:St} {G:Gh} {a:Act} {w:World} {o:Oper} {d:Tmp} {ops:Array Oper} {rest:List Oper} {Q:Exit→St→Prop}
theorem WO.buildO {T e n q:Nat} {z:Value} {parts:Array (Nat×Operand)} {x0:Operand} {av0 y0:AV} {j0:Nat} (ho:o.op=.buildSlice T 1 parts) (hT:P.underlying T=some (.slice e)) (hn:sizeB P e=some n) (hz:(P.info? e).bind (·.zero)=some z)
  (hp:parts.toList=number 0 [x0]) (hb:Nat.ble (1*n) 16777216=true) (hds:o.dst=some d) (hd:Nat.blt d C.N=true) (hx:σ.ev x0=some av0) (hcB:av0.cellB=true) (hcl:av0.cells.length=n) (hc1:av0.cells.all AV.oneB=true) (hcj:av0.cells[j0]?=some y0) (hc0:∀ s x,s≠j0→av0.cells[s]?=some x→x.pu0=true) (hq:σ.nk=q) :
  WO P C o σ ((σ.new (.rwo e n [av0.cells] 0 j0 y0)).put d (.sl q)):=by
 intro G a w ok N Q' hN
 obtain ⟨hbd,hr⟩:=ok.evr hx
 obtain ⟨c1,c2⟩:=cells_of hr hcB
 have hv:(a.eval x0).cells.size=n:=c1.trans hcl
 have hrun:=run_buildS (P:=P) (T:=T) (e:=e) (n:=n) (m:=1) (vs:=[a.eval x0]) (parts:=parts.map fun (i,x)=>(i,a.eval x)) hT hn hz (by
  have:=number_map a.eval 0 [x0]
  rw [← hp] at this
  simpa using this) rfl (fun v hv'=>by obtain rfl:=List.mem_singleton.1 hv';exact hv) (Nat.le_of_ble_eq_true hb) w
 have hfl:(([a.eval x0]).map fun v=>v.cells.toList).flatten=(a.eval x0).cells.toList:=by simp
 have hown:=own_built w e n 1 (([a.eval x0]).map fun v=>v.cells.toList).flatten.toArray (by unfold maxLen;omega) (by
  rw [hfl,Array.toArray_toList,hv];omega)
 have honeR:∀ r∈[(a.eval x0).cells.toList],∀ u∈r,u.oneCell'=true:=fun r hr' u hu=>by
  obtain rfl:=List.mem_singleton.1 hr'
  obtain ⟨j,hj,rfl⟩:=List.getElem_of_mem hu
  have hj2:j<av0.cells.length:=by rw [← c1];simpa using hj
  exact oneB_of (c2 j _ _ (List.getElem?_eq_getElem hj2) (by simp at hj;simp [hj])) (List.all_eq_true.1 hc1 _ (List.getElem_mem hj2))
 have hsl:(.slice (some ⟨w.heap.size,0,none⟩) 1 1:Value).ownBlock=some w.heap.size:=rfl
 have hy:Bd σ.nk y0:=cells_bd hbd j0 y0 hcj
 have ok':=ok.newObj (w':=w.alloc (.cells (([a.eval x0]).map fun v=>v.cells.toList).flatten.toArray e)) (S:=fun _=>False) (b:=w.heap.size) (n:=n) (h:=.slice (some ⟨w.heap.size,0,none⟩) 1 1) (φ:=fun x=>x=w.heap.size) (ob:=.rwo e n [av0.cells] 0 j0 y0)
  (Kept.below ((Below.refl _ _).alloc (Nat.le_refl _) _)) (fun _ h=>h.elim) (fun _ _ _ _ _ h=>h) (fun _ _ _ h=>h)
  ⟨with_n,(fun g hg=>by rw [with_h,hsl] at hg;rw [with_b];exact (Option.some.inj hg).symm),by
   rw [with_h,with_f]
   refine ⟨fun r hr'=>by obtain rfl:=List.mem_singleton.1 hr';exact hcl,[(a.eval x0).cells.toList],fun _ _ _=>False,?_,rfl,honeR,fun g hg=>by rw [hsl] at hg;exact (Option.some.inj hg).symm,
    fun _ _ _ h=>h.elim,fun _ _ _ _ _ h=>h.elim,fun i r r' h1 h2=>?_,fun i r r' j av u h1 h2 h3 h4=>?_⟩
   ·exact own_weaken (by simpa using hown) (Nat.zero_le _)
   ·cases i with
    | zero=>cases h1;cases h2;simpa using c1
    | succ i=>simp at h1
   ·cases i with
    | succ i=>simp at h1
    | zero =>
     cases h1;cases h2
     have hR:=c2 j av u h3 (by simpa using h4)
     unfold XQ
     by_cases e:j=j0
     ·subst e
      rw [if_pos ⟨rfl,rfl⟩]
      rw [hcj] at h3
      cases h3
      exact hR.mono (G.with_le σ.nk _ _ _ _) hy
     ·rw [if_neg (fun h=>e h.2)]
      exact .pu _ _ _ (show RP G.F av u from (pu0_bd (hc0 j av e h3) 0).rp hR)⟩ (hy.mono (Nat.le_succ _)) (fun x hx=>by
   obtain rfl:x=w.heap.size:=hx
   refine ⟨.inl ok.bel.size,by simp,fun k o h1 h2=>?_,fun p u h1 h2=>?_⟩
   ·have:=(ok.my k o _ h1 h2).2;omega
   ·have:=cell_block (ok.fw p u h1);omega)
 unfold Oper.wp execOp
 simp only [ho,Sem.run_bind,hrun,Result.andThen_ok,Sem.run_pure,Oper.upon]
 rw [hds]
 subst hq
 exact hN _ _ _ (ok'.set (d:=some d) (av:=.sl σ.nk) (v:=.slice (some ⟨w.heap.size,0,none⟩) 1 1) (with_sl rfl) (.sl _ (Nat.lt_succ_self _)) fun x hx=>by cases hx;exact of_blt hd)
structure BdD where
 e:TypeId
 n:Nat
 cells:List AV
def bdoV (P:Program) (σ:St):Op→Option BdD
 | .buildSlice T 1 ⟨[(0,x)]⟩ =>
  match P.underlying T,σ.ev x with
  | some (.slice e),some av =>
   match sizeB P e,(P.info? e).bind (·.zero) with
   | some n,some _=>bif av.cellB && Nat.beq av.cells.length n && av.cells.all AV.oneB && Nat.ble (1*n) 16777216 then some ⟨e,n,av.cells⟩ else none
   | _,_=>none
  | _,_=>none
 | _=>none
def pu0But (j:Nat):Nat→List AV→Bool
 | _,[]=>true
 | s,x::r=>(Nat.beq s j|| x.pu0) && pu0But j (s+1) r
theorem pu0But_at {j:Nat}:∀ {l:List AV} {s:Nat},pu0But j s l=true→∀ i x,s+i≠j→l[i]?=some x→x.pu0=true
 | [],s,_,i,x,_,h=>by simp at h
 | y::r,s,hp,i,x,hi,h=>by
  simp only [pu0But,Bool.and_eq_true,Bool.or_eq_true] at hp
  cases i with
  | zero =>
   cases h
   rcases hp.1 with e|e
   ·exact absurd (Nat.eq_of_beq_eq_true e) hi
   ·exact e
  | succ i=>exact pu0But_at hp.2 i x (by omega) (by simpa using h)
theorem WL.bdO {x:BdD} {t:List (Nat×AV)} {M:List (Nat×AO)} {nk:Nat} (j:Nat) {y:AV} (hd:dstB C.N o=some d) (h:bdoV P ⟨t,M,nk⟩ o.op=some x) (hj:x.cells[j]?=some y) (hp:pu0But j 0 x.cells=true)
  (k:WL P C ops rest ⟨(d,.sl nk)::t,(nk,.rwo x.e x.n [x.cells] 0 j y)::M,nk+1⟩ Q):WL P C ops (o::rest) ⟨t,M,nk⟩ Q:=by
 obtain ⟨hg,hds,hdb⟩:=dstB_of hd
 refine WL.op hg ?_ k
 unfold bdoV at h
 split at h
 ·rename_i T x0 ho
  split at h
  ·rename_i e av hT hx
   split at h
   ·rename_i n z hn hz
    cases hb:av.cellB && Nat.beq av.cells.length n && av.cells.all AV.oneB && Nat.ble (1*n) 16777216 with
    | false=>rw [hb] at h;cases h
    | true =>
     rw [hb] at h
     cases h
     simp only [Bool.and_eq_true] at hb
     obtain ⟨⟨⟨b1,b2⟩,b3⟩,b4⟩:=hb
     exact WO.buildO (σ:=⟨t,M,nk⟩) ho hT hn hz rfl b4 hds hdb hx b1 (Nat.eq_of_beq_eq_true b2) b3 hj (fun s x hs hx=>pu0But_at hp s x zqo hx) rfl
   ·cases h
  ·cases h
 ·cases h
structure ApmD where
 T:TypeId
 n:Nat
 k:Nat
 q:Nat
 a:List (List AV)
 b:List (List AV)
def apmV (P:Program) (σ:St):Op→Option ApmD
 | .call { callee:=.builtin .append,args:=⟨[x,y]⟩,argTypes:=⟨[T,T']⟩ } =>
  match P.underlying T,σ.ev x,σ.ev y with
  | some (.slice e),some (.sl k),some (.sl q) =>
   match P.info? e,look k σ.M,look q σ.M with
   | some i,some (.rwn e' n rows),some (.rwn _ n' rows2) =>
    match i.zero with
    | some z=>bif Nat.beq T T' && Nat.beq e e' && Nat.beq n n' && Nat.beq i.size n && Nat.beq z.cells.size n && Nat.blt 0 n && Nat.ble i.bytes 100000 && !Nat.beq k q then some ⟨e,n,k,q,rows,rows2⟩else none
    | _=>none
   | _,_,_=>none
  | _,_,_=>none
 | _=>none
theorem WL.apM {x:ApmD} {t:List (Nat×AV)} {M M1 M':List (Nat×AO)} {nk:Nat} (hd:dstB C.N o=some d) (h:apmV P ⟨t,M,nk⟩ o.op=some x) (hM:remS x.k M=some M1) (hM2:remS x.q M1=some M') (hl:x.a.length+x.b.length≤1000000000)
  (k:WL P C ops rest ⟨(d,.sl nk)::t,(nk,.rwn x.T x.n (x.a++x.b))::M',nk+1⟩ Q):WL P C ops (o::rest) ⟨t,M,nk⟩ Q:=by
 rw [remS_eq hM2,remS_eq hM] at k
 obtain ⟨hg,hds,hdb⟩:=dstB_of hd
 refine WL.op hg ?_ k
 unfold apmV at h
 split at h
 ·rename_i x0 y0 T T' ho
  split at h
  ·rename_i e k' q' hT hx hy
   split at h
   ·rename_i i e' n rows e2 n' rows2 hi hk hq
    split at h
    ·rename_i z hz
     cases hb:Nat.beq T T' && Nat.beq e e' && Nat.beq n n' && Nat.beq i.size n && Nat.beq z.cells.size n && Nat.blt 0 n && Nat.ble i.bytes 100000 && !Nat.beq k' q' with
     | false=>rw [hb] at h;cases h
     | true =>
      rw [hb] at h
      simp only [Bool.and_eq_true,Bool.not_eq_true'] at hb
      cases h
      obtain ⟨⟨⟨⟨⟨⟨⟨b1,b2⟩,b3⟩,b4⟩,b5⟩,b6⟩,b7⟩,b8⟩:=hb
      obtain rfl:=Nat.eq_of_beq_eq_true b1
      obtain rfl:=Nat.eq_of_beq_eq_true b2
      obtain rfl:=Nat.eq_of_beq_eq_true b3
      exact WO.appendM (σ:=⟨t,M,nk⟩) ho hT hi hz (Nat.eq_of_beq_eq_true b4) rfl (Nat.eq_of_beq_eq_true b5) b6 hds hdb hx hk hy hq b8 rfl hl b7 rfl
    ·cases h
   ·cases h
  ·cases h
 ·cases h
end
end
section
open Go.RowKit
theorem cur_le_e {mem s:Nat→Bool} {e:Nat} (h:∀ i,e≤i→mem i=true→s i=false):∀ {m:Nat},cur mem s m≤e
 | 0=>Nat.zero_le _
 | m+1=>by
  unfold cur
  split
  ·rename_i x
   rcases Nat.lt_or_ge m e with h5|h5
   ·omega
   ·have:=h m h5 x.1
    rw [x.2]at this;cases this
  ·exact cur_le_e h
section
variable {P:Program} {C:Cx} {σ σ':St} {G G':Gh} {a:Act} {w w':World} {ops:Array Oper} {Q:Exit→St→Prop}
inductive DT (P:Program) (C:Cx) (ops:Array Oper) (mem:List Bool) (Mc McB:List (Nat×AO)) (e0 nk0:Nat):Nat→List Oper→St→St→Prop
 | nil (k:Nat) (σ:St):DT P C ops mem Mc McB e0 nk0 k [] σ σ
 | val (k:Nat) (o:Oper) (rest:List Oper) (d:Tmp) (av:AV) (nk:Nat) (mc:List (Nat×AO)) (σ σ':St):(mc=Mc∨(mc=McB∧needs ops k ops.size e0=true))→mem.getD k false=false→o.dst=some d→Nat.blt d C.N=true→(nk=nk0∨(nk=σ.nk∧behindB ops mem k=true))→DoesV P C ops o σ.t mc nk av →
   DT P C ops mem Mc McB e0 nk0 (k+1) rest (σ.put d av) σ'→DT P C ops mem Mc McB e0 nk0 k (o::rest) σ σ'
 | mem (k:Nat) (o:Oper) (rest:List Oper) (av:AV) (M':List (Nat×AO)) (nk':Nat) (σ σ':St):mem.getD k false=true→Nat.ble σ.nk nk'=true→msSub Mc M'→(Nat.blt k e0=true→msSub McB M')→DoesS P C ops o σ av M' nk' →
   DT P C ops mem Mc McB e0 nk0 (k+1) rest ⟨ent1 o.dst true av++σ.t,M',nk'⟩ σ'→DT P C ops mem Mc McB e0 nk0 k (o::rest) σ σ'
theorem DT.data {mem:List Bool} {Mc McB:List (Nat×AO)} {e0 nk0 k:Nat} {l:List Oper} {σ σ':St} (h:DT P C ops mem Mc McB e0 nk0 k l σ σ'):∃ (avs:Nat→AV) (ms:Nat→List (Nat×AO)) (nks:Nat→Nat),ms 0=σ.M∧nks 0=σ.nk ∧
  σ'=⟨ents l.toArray avs (fun _=>true) l.length++σ.t,ms l.length,nks l.length⟩ ∧
  ∀ (j:Nat) (oj:Oper),l[j]?=some oj →
   ((mem.getD (k+j) false=false∧(∃ d,oj.dst=some d∧d<C.N)∧ms (j+1)=ms j∧nks (j+1)=nks j∧∃ nk mc,(mc=Mc∨(mc=McB∧needs ops (k+j) ops.size e0=true))∧(nk=nk0∨(nk=nks j∧behindB ops mem (k+j)=true))∧DoesV P C ops oj (ents l.toArray avs (fun _=>true) j++σ.t) mc nk (avs j)) ∨
    (mem.getD (k+j) false=true∧nks j≤nks (j+1)∧msSub Mc (ms (j+1))∧(Nat.blt (k+j) e0=true→msSub McB (ms (j+1)))∧DoesS P C ops oj ⟨ents l.toArray avs (fun _=>true) j++σ.t,ms j,nks j⟩ (avs j) (ms (j+1)) (nks (j+1)))):=by
 have key:∀ (o:Oper) (rest:List Oper) (av:AV) (avs:Nat→AV),∀ m,m≤rest.length→ents (o::rest).toArray (fun j=>if j=0 then av else avs (j-1)) (fun _=>true) (m+1)=ents rest.toArray avs (fun _=>true) m++ent1 o.dst true av:=by
  intro o rest av avs m
  induction m with
  | zero=>intro _;simp [ents]
  | succ m ihm =>
   intro hm
   rw [ents,ihm (by omega),ents]
   simp
 induction h with
 | nil k σ=>exact ⟨fun _=>.sc undef,fun _=>σ.M,fun _=>σ.nk,rfl,rfl,rfl,fun j oj h=>by simp at h⟩
 | val k o rest d av nk mc σ σ' hmc0 hm hd hN hq hdo _ ih =>
  obtain ⟨avs,ms,nks,m0,n0,e1,e2⟩:=ih
  have hent:ent1 o.dst true av=[(d,av)]:=by rw [hd];rfl
  refine ⟨fun j=>if j=0 then av else avs (j-1),fun j=>if j=0 then σ.M else ms (j-1),fun j=>if j=0 then σ.nk else nks (j-1),rfl,rfl,?_,fun j oj hj=>?_⟩
  ·rw [e1,List.length_cons,key o rest av avs _ (Nat.le_refl _),hent]
   simp [St.put]
  ·cases j with
   | zero =>
    cases hj
    exact .inl ⟨hm,⟨d,hd,of_blt hN⟩,m0,n0,nk,mc,hmc0,hq,by simpa [ents] using hdo⟩
   | succ j =>
    have hj':rest[j]?=some oj:=by simpa using hj
    have q2:=e2 j oj hj'
    rw [key o rest av avs j (by have:=(List.getElem?_eq_some_iff.1 hj').1;omega),hent]
    simpa [St.put,Nat.add_assoc,Nat.add_comm 1 j] using q2
 | mem k o rest av M' nk' σ σ' hm hn hsub hsubB hdo _ ih =>
  obtain ⟨avs,ms,nks,m0,n0,e1,e2⟩:=ih
  refine ⟨fun j=>if j=0 then av else avs (j-1),fun j=>if j=0 then σ.M else ms (j-1),fun j=>if j=0 then σ.nk else nks (j-1),rfl,rfl,?_,fun j oj hj=>?_⟩
  ·rw [e1,List.length_cons,key o rest av avs _ (Nat.le_refl _)]
   simp
  ·cases j with
   | zero =>
    cases hj
    refine .inr ⟨hm,?_,?_,?_,?_⟩
    ·show σ.nk≤nks 0
     rw [n0];exact Nat.le_of_ble_eq_true hn
    ·show msSub Mc (ms 0)
     rw [m0];exact hsub
    ·show _→msSub McB (ms 0)
     rw [m0];exact hsubB
    ·show DoesS P C ops o _ av (ms 0) (nks 0)
     rw [m0,n0];simpa [ents] using hdo
   | succ j =>
    have hj':rest[j]?=some oj:=by simpa using hj
    have q2:=e2 j oj hj'
    rw [key o rest av avs j (by have:=(List.getElem?_eq_some_iff.1 hj').1;omega)]
    simpa [Nat.add_assoc,Nat.add_comm 1 j] using q2
theorem WA.drawT2 {l:List Oper} (mem:List Bool) (Mc McB:List (Nat×AO)) (e0:Nat) (hlast:∀ i,e0 < i→i < l.length→mem.getD i false=false) (hB:Region.lexB .any l.toArray=true) (hch:chainB l.toArray mem=true) (hMc:msSub Mc σ.M) (hMcB:msSub McB σ.M) (h:DT P C l.toArray mem Mc McB e0 σ.nk 0 l σ σ') (k:Q .normal σ'):WA P C l.toArray σ Q:=by
 intro G a w ok
 obtain ⟨avs,ms,nks,m0,n0,e1,e2⟩:=h.data
 simp only [Nat.zero_add] at e2
 simp only [Region.lexB,Bool.and_eq_true] at hB
 obtain ⟨FA,FB⟩:=lex_facts (ops:=l.toArray) l.toArray.size 0 (Array.replicate l.toArray.size false) (by simp) (by simp) (fun i hi=>by simp [Array.getD_eq_getD_getElem?,hi] at hi ⊢;simp [hi]) hB.2
 have sz:l.toArray.size=l.length:=by simp
 have mconst:∀ i,i < l.length→mem.getD i false=false→ms (i+1)=ms i∧nks (i+1)=nks i:=fun i hi hf=>by
  have q:=e2 i l[i] (List.getElem?_eq_getElem hi)
  rcases q with ⟨_,_,a,b,_⟩|⟨a,_⟩
  ·exact ⟨a,b⟩
  ·rw [hf] at a;cases a
 have mmono:∀ i,i < l.length→nks i≤nks (i+1):=fun i hi=>by
  have q:=e2 i l[i] (List.getElem?_eq_getElem hi)
  rcases q with ⟨_,_,_,b,_⟩|⟨_,b,_⟩
  ·rw [b];exact Nat.le_refl _
  ·exact b
 have hnp0:C.np≤nks 0:=by rw [n0];exact ok.df.2.1
 have hnpj:∀ i,i≤l.length→C.np≤nks i:=fun i=>by
  induction i with
  | zero=>exact fun _=>hnp0
  | succ i ih=>exact fun h=>Nat.le_trans (ih zqo) (mmono i zqo)
 have msub:∀ i,i≤l.length→msSub Mc (ms i):=fun i=>by
  induction i with
  | zero=>intro _;rw [m0];exact hMc
  | succ i ih =>
   intro hi
   have q:=e2 i l[i] (List.getElem?_eq_getElem (by omega))
   rcases q with ⟨_,_,a,_⟩|⟨_,_,a,_⟩
   ·rw [a];exact ih (by omega)
   ·exact a
 have msubB:∀ i,i≤l.length→i≤e0→msSub McB (ms i):=fun i=>by
  induction i with
  | zero=>intro _ _;rw [m0];exact hMcB
  | succ i ih =>
   intro hi hie
   have q:=e2 i l[i] (List.getElem?_eq_getElem (by omega))
   rcases q with ⟨_,_,a,_⟩|⟨_,_,_,a,_⟩
   ·rw [a];exact ih (by omega) (by omega)
   ·exact a (Nat.ble_eq_true_of_le hie)
 have hchj:∀ j,j < l.length→mem.getD j false=true→behindB l.toArray mem j=true:=fun j hj hmj=>by
  have h1:(!(mem.getD j false)|| behindB l.toArray mem j)=true:=List.all_eq_true.1 hch j (by simpa using hj)
  rw [hmj] at h1;exact h1
 have hbeh:∀ i j,i < j→behindB l.toArray mem j=true→mem.getD i false=true→needs l.toArray i l.toArray.size j=true:=fun i j hij hb hmi=>by
  have h1:(!(mem.getD i false)|| needs l.toArray i l.toArray.size j)=true:=List.all_eq_true.1 hb i (List.mem_range.2 hij)
  rw [hmi] at h1;exact h1
 let cu:Array Bool→Nat:=fun listed=>cur (fun i=>mem.getD i false) (fun i=>listed.getD i false) l.length
 let KS:Array Bool→St:=fun listed=>⟨ents l.toArray avs (fun i=>listed.getD i false) l.length++σ.t,ms (cu listed),nks (cu listed)⟩
 have key:∀ (fuel:Nat) (listed:Array Bool) (G:Gh) (a:Act) (w:World),listed.size=l.length→(∀ j oj,l.toArray[j]?=some oj→listed.getD j false=true→∀ e∈oj.after,Region.binds .any e=true→listed.getD e.on false=true) →
   (List.range l.length).countP (fun i=>!listed.getD i false)≤fuel→Ok C (KS listed) G a w→wpAny P .any l.toArray (Post C Q) fuel listed a w:=by
  intro fuel
  have done:∀ (listed:Array Bool) (G:Gh) (a:Act) (w:World),listed.size=l.length→Region.ready .any l.toArray listed=[]→Ok C (KS listed) G a w→Post C Q .normal a w:=by
   intro listed G a w hsz hr ok
   have hall:∀ n i,i < n→i < l.length→listed.getD i false=true:=by
    intro n
    induction n with
    | zero=>intro i h;omega
    | succ n ih =>
     intro i hi hlt
     by_cases e:i < n
     ·exact ih i e hlt
     ·have hin:i=n:=by omega
      subst hin
      cases hli:listed.getD i false with
      | true=>rfl
      | false =>
       have hoi:l.toArray[i]?=some l[i]:=by simp [hlt]
       have:i∈Region.ready .any l.toArray listed:=mem_ready.2 ⟨by
        have:listed.getD i true=listed.getD i false:=by simp [Array.getD_eq_getD_getElem?,hsz,hlt]
        rw [this];exact hli,l[i],hoi,fun e he hb=>ih e.on (FA i l[i] (Nat.zero_le _) hoi e he hb) (by have:=FA i l[i] (Nat.zero_le _) hoi e he hb;omega)⟩
       rw [hr] at this;cases this
   have hcu:ms (cu listed)=ms l.length∧nks (cu listed)=nks l.length:=by
    have hs:∀ i,i < l.length→(fun i=>mem.getD i false) i=true→(fun i=>listed.getD i false) i=decide (i < l.length):=fun i hi _=>by
     show listed.getD i false=_
     rw [hall (i+1) i (by omega) hi,decide_eq_true hi]
    have h1:=cur_at (f:=ms) (fun i hi hf=>(mconst i hi hf).1) hs l.length (Nat.le_refl _)
    have h2:=cur_at (f:=nks) (fun i hi hf=>(mconst i hi hf).2) hs l.length (Nat.le_refl _)
    rw [Nat.min_self] at h1 h2
    exact ⟨h1,h2⟩
   refine ⟨σ',G,k,ok.congr_ (fun t=>?_) (by rw [e1];exact hcu.1.symm) (by rw [e1];exact hcu.2.symm)⟩
   rw [e1]
   show look t (_++_)=look t (_++_)
   rw [look_app,look_app,ents_agree (s':=fun i=>listed.getD i false) fun i hi _=>(hall (i+1) i (by omega) hi).symm]
  induction fuel with
  | zero =>
   intro listed G a w hsz hcl hf ok
   have hr:Region.ready .any l.toArray listed=[]:=by
    apply List.eq_nil_iff_forall_not_mem.2
    intro j hj
    obtain ⟨h1,oj,h2,_⟩:=mem_ready.1 hj
    have hlt:j < l.length:=by have:=(Array.getElem?_eq_some_iff.1 h2).1;omega
    have h3:listed.getD j false=false:=by
     have:listed.getD j false=listed.getD j true:=by simp [Array.getD_eq_getD_getElem?,hsz,hlt]
     rw [this];exact h1
    have:=List.countP_eq_zero.1 (Nat.le_zero.1 hf) j (List.mem_range.2 hlt)
    simp [h3] at this
   exact ⟨hr,done listed G a w hsz hr ok⟩
  | succ fuel ih =>
   intro listed G a w hsz hcl hf ok
   refine ⟨fun hr=>done listed G a w hsz hr ok,fun j hj=>?_⟩
   obtain ⟨h1,oj,h2,h4⟩:=mem_ready.1 hj
   have hlt:j < l.length:=by have:=(Array.getElem?_eq_some_iff.1 h2).1;omega
   have h3:listed.getD j false=false:=by
    have:listed.getD j false=listed.getD j true:=by simp [Array.getD_eq_getD_getElem?,hsz,hlt]
    rw [this];exact h1
   have hlj:l[j]?=some oj:=by simpa using h2
   have hdoes:=e2 j oj hlj
   have hlook:∀ t∈oj.looksAt l.toArray,∀ i,i < l.length→(l.toArray[i]?).bind (·.dst)=some t→listed.getD i false=decide (i < j):=by
    intro t ht i hi hdi
    have hoi:l.toArray[i]?=some l[i]:=by simp [hi]
    rw [hoi] at hdi
    have hdi:l[i].dst=some t:=hdi
    rcases Nat.lt_trichotomy i j with hij|hij|hij
    ·rw [decide_eq_true hij]
     by_cases hno:∃ e,e∈oj.after∧Region.binds .any e=true∧e.on=i
     ·obtain ⟨e,he,hb,rfl⟩:=hno
      exact h4 e he hb
     ·exact absurd ht ((Oper.apart_spec (FB i j _ _ (Nat.zero_le _) hij hoi h2 fun e he hb h=>hno ⟨e,he,hb,h⟩)).1 t hdi)
    ·subst hij;rw [h3];simp
    ·rw [decide_eq_false (by omega)]
     cases hli:listed.getD i false with
     | false=>rfl
     | true =>
      by_cases hno:∃ e,e∈(l[i]).after∧Region.binds .any e=true∧e.on=j
      ·obtain ⟨e,he,hb,he2⟩:=hno
       have:=hcl i _ hoi hli e he hb
       rw [he2,h3] at this;cases this
      ·exact absurd ht ((Oper.apart_spec (FB j i _ _ (Nat.zero_le _) hij h2 hoi fun e he hb h=>hno ⟨e,he,hb,h⟩)).2.2 t hdi)
   have hents:∀ t,look t (ents l.toArray avs (fun _=>true) j)=look t (ents l.toArray avs (fun i=>decide (i < j)) l.length):=by
    intro t
    have:∀ m,j≤m→look t (ents l.toArray avs (fun i=>decide (i < j)) m)=look t (ents l.toArray avs (fun i=>decide (i < j)) j):=by
     intro m
     induction m with
     | zero=>intro h;rw [Nat.le_zero.1 h]
     | succ m ihm =>
      intro h
      by_cases e:j=m+1
      ·rw [e]
      ·rw [ents,look_app,look_ent1,if_neg (fun x=>by have:=of_decide_eq_true x.1;omega),ihm (by omega)];rfl
    rw [this l.length (by omega)]
    exact ents_agree fun i hi _=>(decide_eq_true hi).symm
   have hlooks:∀ t∈oj.looksAt l.toArray,look t (KS listed).t=look t (ents l.toArray avs (fun _=>true) j++σ.t):=fun t ht=>by
    show look t (_++_)=look t (_++_)
    rw [look_app,look_app,hents t,ents_agree fun i hi hdi=>(hlook t ht i hi hdi)]
   have hslots:∀ t,look t (ents l.toArray avs (fun i=>(listed.setIfInBounds j true).getD i false) l.length++σ.t)=look t (ent1 oj.dst true (avs j)++(KS listed).t):=by
    intro t
    by_cases et:oj.dst=some t
    ·have hR:look t (ent1 oj.dst true (avs j)++(KS listed).t)=some (avs j):=by
      rw [look_app,look_ent1,if_pos ⟨rfl,et⟩];rfl
     rw [hR,look_app,ents_top (j:=j) hlt (by rw [h2];exact et) (by simp [Array.getD_eq_getD_getElem?,hsz,hlt]) fun i hij hi hdi=>?_]
     ·rfl
     ·have hoi:l.toArray[i]?=some l[i]:=by simp [hi]
      rw [hoi] at hdi
      have hdi:l[i].dst=some t:=hdi
      have hne:j≠i:=by omega
      cases hli:listed.getD i false with
      | false=>simpa [Array.getD_eq_getD_getElem?,Array.getElem?_setIfInBounds_ne hne] using hli
      | true =>
       by_cases hno:∃ e,e∈(l[i]).after∧Region.binds .any e=true∧e.on=j
       ·obtain ⟨e,he,hb,he2⟩:=hno
        have:=hcl i _ hoi hli e he hb
        rw [he2,h3] at this;cases this
       ·exact absurd hdi ((Oper.apart_spec (FB j i _ _ (Nat.zero_le _) hij h2 hoi fun e he hb h=>hno ⟨e,he,hb,h⟩)).2.1 t et)
    ·have hR:look t (ent1 oj.dst true (avs j)++(KS listed).t)=look t (KS listed).t:=by
      rw [look_app,look_ent1,if_neg (fun x=>et x.2)];rfl
     rw [hR]
     show _=look t (_++_)
     rw [look_app,look_app]
     congr 1
     refine ents_agree fun i hi hdi=>?_
     by_cases e2:j=i
     ·subst e2
      rw [h2] at hdi
      exact absurd hdi et
     ·simp [Array.getD_eq_getD_getElem?,Array.getElem?_setIfInBounds_ne e2]
   have hset:∀ i,j≠i→(listed.setIfInBounds j true).getD i false=listed.getD i false:=fun i e=>by simp [Array.getD_eq_getD_getElem?,Array.getElem?_setIfInBounds_ne e]
   have hsetj:(listed.setIfInBounds j true).getD j false=true:=by simp [Array.getD_eq_getD_getElem?,hsz,hlt]
   have hclose:∀ i oi,l.toArray[i]?=some oi→(listed.setIfInBounds j true).getD i false=true→∀ e∈oi.after,Region.binds .any e=true→(listed.setIfInBounds j true).getD e.on false=true:=by
    intro i oi hi hli e he hb
    have mono:∀ q,listed.getD q false=true→(listed.setIfInBounds j true).getD q false=true:=fun q hq=>by
     by_cases e:j=q
     ·subst e;rw [hq] at h3;cases h3
     ·rw [hset q e];exact hq
    by_cases e2:j=i
    ·subst e2
     rw [h2] at hi;cases hi
     exact mono _ (h4 e he hb)
    ·refine mono _ (hcl i oi hi ?_ e he hb)
     rw [← hset i e2];exact hli
   have hcount:(List.range l.length).countP (fun i=>!(listed.setIfInBounds j true).getD i false)≤fuel:=by
    have:=countP_lt (p:=fun i=>!listed.getD i false) (q:=fun i=>!(listed.setIfInBounds j true).getD i false) (fun i hi=>by
       by_cases e:j=i
       ·subst e;rw [hsetj] at hi;cases hi
       ·rw [hset i e] at hi;exact hi) hlt (by simp only [h3];rfl) (by simp only [hsetj];rfl)
    omega
   unfold wpOp
   simp only [h2]
   rcases hdoes with ⟨hmf,⟨d,hd,hdN⟩,hmc,hnc,nk,mc,hmcs,hnk,hmi,hti,hdo⟩|⟨hmt,hnle,hsub,_,hgd,hdo⟩
   ·-- memory stays
    have hot:onlyT (KS listed).t (oj.looksAt l.toArray)=onlyT (ents l.toArray avs (fun _=>true) j++σ.t) (oj.looksAt l.toArray):=onlyT_congr hlooks
    have hnkle:nk≤nks (cu listed):=by
     rcases hnk with rfl|⟨rfl,hbj⟩
     ·have:=cur_ge (f:=nks) (j:=0) (s:=fun i=>listed.getD i false) (mem:=fun i=>mem.getD i false) (fun i hi hf=>(mconst i hi hf).2) mmono (fun i _ h=>by omega) l.length (Nat.le_refl _)
      rw [Nat.min_zero,n0] at this
      exact this
     ·have:=cur_ge (f:=nks) (j:=j) (s:=fun i=>listed.getD i false) (mem:=fun i=>mem.getD i false) (fun i hi hf=>(mconst i hi hf).2) mmono (fun i hi hij hmi=>needs_ready hcl h2 h4 _ (hbeh i j hij hbj hmi)) l.length (Nat.le_refl _)
      rw [show min l.length j=j by omega] at this
      exact this
    have hsubc:msSub mc (ms (cu listed)):=by
     rcases hmcs with rfl|⟨rfl,hne⟩
     ·exact msub _ (cur_le _)
     ·refine msubB _ (cur_le _) (cur_le_e fun i hi hmi=>?_)
      by_cases e:i < l.length
      ·rcases Nat.lt_or_ge e0 i with h5|h5
       ·rw [hlast i h5 e] at hmi;cases hmi
       ·obtain rfl:i=e0:=by omega
        cases hli:listed.getD i false with
        | false=>rfl
        | true =>
         have:=needs_listed hcl _ _ hne hli
         rw [h3] at this;cases this
      ·have:mem.getD i false=true:=hmi
       cases hli:listed.getD i false with
       | false=>rfl
       | true=>simp [Array.getD_eq_getD_getElem?,hsz,e] at hli
    have okO:Ok C ⟨onlyT (ents l.toArray avs (fun _=>true) j++σ.t) (oj.looksAt l.toArray),mc,nk⟩ G a w :=
     ok.few (hnp:=by rcases hnk with h|⟨h,_⟩<;>rw [h]<;>first|exact hnpj j (by omega)|(rw [← n0];exact hnp0)) (ht:=fun i av hx=>⟨by rw [← hot] at hx;exact look_onlyT hx,tsInn_at hti i av hx⟩) (hM:=fun q o hx=>⟨msSub_at hsubc q o hx,(msInn_at hmi q o hx).1,(msInn_at hmi q o hx).2⟩)
    have next:∀ (v:Value) (G':Gh) (w':World),Ok C (KS listed) G' a w'→R G' (avs j) v→Bd nk (avs j)→wpAny P .any l.toArray (Post C Q) fuel (listed.setIfInBounds j true) (a.put oj.dst v) w':=by
     intro v G' w' ok' hr hb
     have ok2:=ok'.set (d:=some d) hr (hb.mono hnkle) fun x hx=>by cases hx;exact hdN
     rw [hd]
     have hcu:cu (listed.setIfInBounds j true)=cu listed:=cur_congr fun i hi hmi=>by
      by_cases e:j=i
      ·subst e;rw [hmf] at hmi;cases hmi
      ·exact hset i e
     exact ih (listed.setIfInBounds j true) G' _ w' (by simpa using hsz) hclose hcount (ok2.congr_ (fun t=>by rw [hslots t,hd];rfl) (by show ms _=ms _;rw [hcu]) (by show nks _=nks _;rw [hcu]))
    rcases hdo with ⟨hg,hv⟩|⟨hg,hv⟩
    ·rw [if_pos (guardK_wanted okO hg)]
     exact .inl (hv G a w okO _ _ fun v G' w' hk hr hb=>next v G' w' (hk _ _ ok) hr hb)
    ·rw [if_neg (by rw [guardK_wanted okO hg];simp)]
     exact next undef G w ok (by rw [hv];exact .pu _ _ (.sc _)) (by rw [hv];exact .sc _)
   ·-- memory is written
    have hbj:=hchj j hlt hmt
    have hst:∀ i,i < l.length→mem.getD i false=true→listed.getD i false=decide (i < j):=fun i hi hmi=>by
     rcases Nat.lt_trichotomy i j with hij|hij|hij
     ·rw [decide_eq_true hij]
      exact needs_ready hcl h2 h4 _ (hbeh i j hij hbj hmi)
     ·subst hij;rw [h3];simp
     ·rw [decide_eq_false (by omega)]
      cases hli:listed.getD i false with
      | false=>rfl
      | true =>
       have:=needs_listed hcl _ _ (hbeh j i hij (hchj i hi hmi) hmt) hli
       rw [h3] at this;cases this
    have hM:ms (cu listed)=ms j∧nks (cu listed)=nks j:=by
     have h1:=cur_at (f:=ms) (fun i hi hf=>(mconst i hi hf).1) hst l.length (Nat.le_refl _)
     have h2:=cur_at (f:=nks) (fun i hi hf=>(mconst i hi hf).2) hst l.length (Nat.le_refl _)
     rw [show min l.length j=j by omega] at h1 h2
     exact ⟨h1,h2⟩
    have hst':∀ i,i < l.length→mem.getD i false=true→(listed.setIfInBounds j true).getD i false=decide (i < j+1):=fun i hi hmi=>by
     by_cases e:j=i
     ·subst e;rw [hsetj];simp
     ·rw [hset i e,hst i hi hmi]
      have:(i < j)↔(i < j+1):=by omega
      simp [this]
    have hM':ms (cu (listed.setIfInBounds j true))=ms (j+1)∧nks (cu (listed.setIfInBounds j true))=nks (j+1):=by
     have h1:=cur_at (f:=ms) (fun i hi hf=>(mconst i hi hf).1) hst' l.length (Nat.le_refl _)
     have h2:=cur_at (f:=nks) (fun i hi hf=>(mconst i hi hf).2) hst' l.length (Nat.le_refl _)
     rw [show min l.length (j+1)=j+1 by omega] at h1 h2
     exact ⟨h1,h2⟩
    rw [if_pos (by simp [Region.wanted,hgd])]
    have ok1:Ok C ⟨(KS listed).t,ms j,nks j⟩ G a w:=ok.congr_ (fun _=>rfl) (by exact hM.1.symm) (by exact hM.2.symm)
    refine .inl (hdo (KS listed).t hlooks G a w ok1 _ _ fun G' a' w' ok'=>?_)
    exact ih (listed.setIfInBounds j true) G' a' w' (by simpa using hsz) hclose hcount (ok'.congr_ hslots (by exact hM'.1) (by exact hM'.2))
 have hcu0:cu (Array.replicate l.toArray.size false)=0:=by
  have:∀ m,cur (fun i=>mem.getD i false) (fun i=>(Array.replicate l.toArray.size false).getD i false) m=0:=by
   intro m
   induction m with
   | zero=>rfl
   | succ m ih=>unfold cur;rw [if_neg (fun x=>by have:=x.2;rw [rep_getD] at this;cases this),ih]
  exact this _
 refine key _ (Array.replicate l.toArray.size false) G a _ (by simp) (fun j oj _ h=>?_) ?_ (ok.drew.congr_ (fun t=>?_) (by show ms _=_;rw [hcu0,m0]) (by show nks _=_;rw [hcu0,n0]))
 ·rw [rep_getD] at h;cases h
 ·rw [sz]
  exact Nat.le_trans List.countP_le_length (by simp)
 ·show look t (_++_)=_
  rw [look_app,ents_none fun i hi _=>?_]
  ·rfl
  ·exact rep_getD _ _
end
section
variable {B:World→View→Prop} {gl:Nat} {P:Program} {C:Cx} {σ:St} {o:Oper} {d:Tmp} {av:AV} {ops:Array Oper} {rest l:List Oper} {Q:Exit→St→Prop} {mem:List Bool} {Mc McB:List (Nat×AO)} {e0 nk0 k:Nat}
def DTK (P:Program)(C:Cx)(ops:Array Oper)(mem:List Bool)(Mc McB:List (Nat×AO))(e0 nk0 k:Nat)(l:List Oper)(σ:St)(Q:Exit→St→Prop):Prop:=∃ σ',DT P C ops mem Mc McB e0 nk0 k l σ σ'∧Q .normal σ'
theorem DTK.nil(h:Q .normal σ):DTK P C ops mem Mc McB e0 nk0 k [] σ Q:=⟨σ,.nil k σ,h⟩
theorem DTK.vl (hd:memB C.N ops mem McB k nk0 σ.t o=some (d,true)) (hn:needs ops k ops.size e0=true) (h:WV P C o ⟨onlyT σ.t (o.looksAt ops),McB,nk0⟩ av) (r:DTK P C ops mem Mc McB e0 nk0 (k+1) rest (σ.put d av) Q):DTK P C ops mem Mc McB e0 nk0 k (o::rest) σ Q:=by
 obtain ⟨a,b,c,e,f,g⟩:=memB_of hd
 obtain ⟨s,x,y⟩:=r
 exact ⟨s,.val k o rest d av nk0 McB σ s (.inr ⟨rfl,hn⟩) a b c (.inl rfl) ⟨e,f,.inl ⟨g,h⟩⟩ x,y⟩
theorem DTK.wr {M':List (Nat×AO)} {nk':Nat} (av:AV) (hm:mem.getD k false=true) (hn:Nat.ble σ.nk nk'=true) (hs:msSub Mc M') (hsB:Nat.blt k e0=true→msSub McB M') (h:DoesS P C ops o σ av M' nk') (r:DTK P C ops mem Mc McB e0 nk0 (k+1) rest ⟨ent1 o.dst true av++σ.t,M',nk'⟩ Q):DTK P C ops mem Mc McB e0 nk0 k (o::rest) σ Q:=by
 obtain ⟨s,x,y⟩:=r
 exact ⟨s,.mem k o rest av M' nk' σ s hm hn hs hsB h x,y⟩
theorem DTK.st (hd:memB C.N ops mem McB k nk0 σ.t o=some (d,true)) (hn:needs ops k ops.size e0=true) (h:stepV P ⟨onlyT σ.t (o.looksAt ops),McB,nk0⟩ o.op=some av) (r:DTK P C ops mem Mc McB e0 nk0 (k+1) rest (σ.put d av) Q):DTK P C ops mem Mc McB e0 nk0 k (o::rest) σ Q:=DTK.vl hd hn (stepV_of rfl h) r
theorem DTK.idx {rows:List (List AV)} {z:Int} {x:List AV} (hd:memB C.N ops mem McB k nk0 σ.t o=some (d,true)) (hn:needs ops k ops.size e0=true) (h:idxV P ⟨onlyT σ.t (o.looksAt ops),McB,nk0⟩ o.op=some (rows,z)) (h0:0≤z) (hr:rows[z.toNat]?=some x) (r:DTK P C ops mem Mc McB e0 nk0 (k+1) rest (σ.put d (.pr x)) Q):DTK P C ops mem Mc McB e0 nk0 k (o::rest) σ Q:=DTK.vl hd hn (idxV_of h h0 hr) r
theorem DTK.ixs {q:Nat} {rows:List (List AV)} {z:Int} (hd:memB C.N ops mem McB k nk0 σ.t o=some (d,true)) (hn:needs ops k ops.size e0=true) (h:ixsV P ⟨onlyT σ.t (o.looksAt ops),McB,nk0⟩ o.op=some (q,rows,z)) (h0:0≤z∧z<rows.length)
  (r:DTK P C ops mem Mc McB e0 nk0 (k+1) rest (σ.put d (.pt q z.toNat 0)) Q):DTK P C ops mem Mc McB e0 nk0 k (o::rest) σ Q:=DTK.vl hd hn (ixsV_of h h0.1 h0.2) r
theorem DTK.ldr {rows:List (List AV)} {i j:Nat} {r:List AV} {av:AV} (hd:memB C.N ops mem McB k nk0 σ.t o=some (d,true)) (hn:needs ops k ops.size e0=true) (h:ldrV P ⟨onlyT σ.t (o.looksAt ops),McB,nk0⟩ o.op=some (rows,i,j)) (hi:rows[i]?=some r) (hj:r[j]?=some av) (ho2:av.own=false)
  (K:DTK P C ops mem Mc McB e0 nk0 (k+1) rest (σ.put d av) Q):DTK P C ops mem Mc McB e0 nk0 k (o::rest) σ Q:=DTK.vl hd hn (ldrV_of h hi hj ho2) K
theorem DTK.ldQ {rows:List (List AV)} {i j hi hj:Nat} {r:List AV} {av:AV} (hd:memB C.N ops mem McB k nk0 σ.t o=some (d,true)) (hn:needs ops k ops.size e0=true) (h:ldqV P ⟨onlyT σ.t (o.looksAt ops),McB,nk0⟩ o.op=some (rows,i,j,hi,hj,av)) (e1:i=hi) (e2:j=hj) (hr:rows[i]?=some r) (hjr:j<r.length)
  (K:DTK P C ops mem Mc McB e0 nk0 (k+1) rest (σ.put d av) Q):DTK P C ops mem Mc McB e0 nk0 k (o::rest) σ Q:=DTK.vl hd hn (ldqV_O h e1 e2 hr hjr) K
theorem DTK.sto {T m:Nat} {x y:Operand} {q i j:Nat} {ob ob':AO} {l:List AV} {M2:List (Nat×AO)} (hm:mem.getD k false=true) (hg:o.guard=none) (hds:o.dst=none) (ho:o.op=.store T x y) (hn:sizeB P T=some m) (hx:σ.ev x=some (.pt q i j)) (hk:look q σ.M=some ob) (hy:σ.ev y=some av)
  (hB:av.cellB=true) (hl:av.cells=l) (hlm:l.length=m) (h1:l.all AV.oneB=true) (hp:ob.put i j l=some ob') (hM:remS q σ.M=some M2) (hs:msSub Mc ((q,ob')::M2)) (hsB:Nat.blt k e0=true→msSub McB ((q,ob')::M2)) (r:DTK P C ops mem Mc McB e0 nk0 (k+1) rest ⟨σ.t,(q,ob')::M2,σ.nk⟩ Q):DTK P C ops mem Mc McB e0 nk0 k (o::rest) σ Q:=by
 have he:∀ av,ent1 o.dst true av=[]:=fun av=>by rw [hds];rfl
 refine DTK.wr (.sc undef) hm (Nat.ble_eq_true_of_le (Nat.le_refl _)) hs hsB ⟨hg,fun t H=>?_⟩ (by rw [he];exact r)
 rw [he]
 have hmem:∀ z∈[x,y],z∈o.op.operands.toList:=fun z hz=>by rw [ho];simp [Op.operands] at hz ⊢;exact hz
 rw [remS_eq hM]
 exact wo_rem (WO.store (σ:=⟨t,σ.M,σ.nk⟩) ho hds hn ((ev_agree H (hmem x (by simp))).trans hx) hk ((ev_agree H (hmem y (by simp))).trans hy) hB hl hlm h1 hp)
theorem DTK.stQ {T T' n:Nat} {x y:Operand} {q i j:Nat} {ob:AO} {rows:List (List AV)} {r0:List AV} {M2:List (Nat×AO)} (hm:mem.getD k false=true) (hg:o.guard=none) (hds:o.dst=none) (ho:o.op=.store T x y) (hn:sizeB P T=some 1) (hx:σ.ev x=some (.pt q i j)) (hk:look q σ.M=some ob) (hob:ob=.rwn T' n rows∨∃ y,ob=.rwo T' n rows i j y) (hy:σ.ev y=some av)
  (h1:av.oneB=true) (hr:rows[i]?=some r0) (hj:j<r0.length) (hM:remS q σ.M=some M2) (hs:msSub Mc ((q,.rwo T' n rows i j av)::M2)) (hsB:Nat.blt k e0=true→msSub McB ((q,.rwo T' n rows i j av)::M2)) (r:DTK P C ops mem Mc McB e0 nk0 (k+1) rest ⟨σ.t,(q,.rwo T' n rows i j av)::M2,σ.nk⟩ Q):DTK P C ops mem Mc McB e0 nk0 k (o::rest) σ Q:=by
 have he:∀ av,ent1 o.dst true av=[]:=fun av=>by rw [hds];rfl
 refine DTK.wr (.sc undef) hm (Nat.ble_eq_true_of_le (Nat.le_refl _)) hs hsB ⟨hg,fun t H=>?_⟩ (by rw [he];exact r)
 rw [he]
 have hmem:∀ z∈[x,y],z∈o.op.operands.toList:=fun z hz=>by rw [ho];simp [Op.operands] at hz ⊢;exact hz
 rw [remS_eq hM]
 exact wo_rem (WO.stQ (σ:=⟨t,σ.M,σ.nk⟩) ho hds hn ((ev_agree H (hmem x (by simp))).trans hx) hk hob ((ev_agree H (hmem y (by simp))).trans hy) h1 hr hj)
theorem DTK.ct (hB:Holds B gl C) {f:FuncId} {args args':List AV} {res res':AV} {M M' M2:List (Nat×AO)} {nk nk' n2:Nat} (ks:List Nat) (hd:wrB mem C.N k o=some d) (he:calE σ o.op=some (f,args')) (hc:∀ vs w,(callFunc f vs).run P w=.ok (.enter f vs) w)
  (h:Cto B gl P f args M nk res M' nk') (hks:ksB ks nk σ.nk=true) (ha:args.map (AV.ren (rhoC ks nk σ.nk))=args') (hp:args.all (AV.inn nk)=true) (hM:TrM σ (rhoC ks nk σ.nk) nk M)
  (hq:(Nat.ble nk nk' && M'.all (fun x=>x.2.inn nk') && M'.all (fun x=>Nat.blt x.1 nk') && res.inn nk')=true) (hr:res.ren (rhoC ks nk σ.nk)=res') (hM2:renM (rhoC ks nk σ.nk) M'++remL ks σ.M=M2) (hn2:σ.nk+(nk'-nk)=n2) (hs:msSub Mc M2) (hsB:Nat.blt k e0=true→msSub McB M2)
  (r:DTK P C ops mem Mc McB e0 nk0 (k+1) rest ⟨(d,res')::σ.t,M2,n2⟩ Q):DTK P C ops mem Mc McB e0 nk0 k (o::rest) σ Q:=by
 subst hM2 hn2
 obtain ⟨a,b,c,e⟩:=wrB_of hd
 have hent:ent1 o.dst true res'=[(d,res')]:=by rw [b];rfl
 simp only [Bool.and_eq_true] at hq
 unfold calE at he
 split at he
 ·rename_i y xs ts ho
  split at he
  ·rename_i fv args0 hy hx
   split at he
   ·rename_i f' caps hf
    cases he
    refine DTK.wr res' a (Nat.ble_eq_true_of_le (Nat.le_add_right _ _)) hs hsB ⟨c,fun t H=>?_⟩ (by rw [hent];exact r)
    rw [hent]
    have hmem:∀ q∈y::xs,q∈o.op.operands.toList:=fun q hq=>by rw [ho];simp [Op.operands,Call.operands] at hq ⊢;exact hq
    have:=WO.cto (P:=P) (C:=C) (σ:=⟨t,σ.M,σ.nk⟩) (xs:=⟨xs⟩) hB ks ho hc ((ev_agree H (hmem y (by simp))).trans hy) hf ((evs_agree H fun q hq=>hmem q (List.mem_cons_of_mem _ hq)).trans hx) rfl h hks ha hp (trM_same (σ:=σ) (σ':=⟨t,σ.M,σ.nk⟩) (ρ:=rhoC ks nk σ.nk) rfl hM) hq.1.1.1 hq.1.1.2 hq.1.2 hq.2 hr (by rw [b];exact e)
    rw [b] at this
    exact this
   ·cases he
  ·cases he
 ·cases he
theorem DTK.of_m {M':List (Nat×AO)} {nk':Nat} (hm:mem.getD k false=true) (hd:o.dst=some d) (hn:Nat.ble σ.nk nk'=true) (hs:msSub Mc M') (hsB:Nat.blt k e0=true→msSub McB M') (h:DoesM P C ops o σ d av M' nk') (r:DTK P C ops mem Mc McB e0 nk0 (k+1) rest ⟨(d,av)::σ.t,M',nk'⟩ Q):DTK P C ops mem Mc McB e0 nk0 k (o::rest) σ Q:=by
 have hent:ent1 o.dst true av=[(d,av)]:=by rw [hd];rfl
 exact DTK.wr av hm hn hs hsB ⟨h.1,fun t H=>by rw [hent];exact h.2 t H⟩ (by rw [hent];exact r)
theorem DTK.bd {T m:Nat} {parts:Array (Nat×Operand)} {ob:AO} (hd:wrB mem C.N k o=some d) (ho:o.op=.buildSlice T m parts) (h:buildE P σ T m parts.toList=some ob) (hs:msSub Mc ((σ.nk,ob)::σ.M)) (hsB:Nat.blt k e0=true→msSub McB ((σ.nk,ob)::σ.M)) (r:DTK P C ops mem Mc McB e0 nk0 (k+1) rest ⟨(d,.sl σ.nk)::σ.t,(σ.nk,ob)::σ.M,σ.nk+1⟩ Q):DTK P C ops mem Mc McB e0 nk0 k (o::rest) σ Q:=by
 obtain ⟨a,b,c,e⟩:=wrB_of hd
 unfold buildE at h
 split at h
 ·rename_i el hT
  split at h
  ·rename_i n z avs hn hz hx
   cases hb:numB 0 parts.toList && Nat.beq parts.toList.length m && Nat.ble (m*n) 16777216 && Nat.ble m 16777216 && rowsB n avs with
   | false=>rw [hb] at h;cases h
   | true =>
    rw [hb] at h
    simp only [Bool.and_eq_true] at hb
    cases h
    exact DTK.of_m a b (Nat.ble_eq_true_of_le (Nat.le_succ _)) hs hsB (DoesM.build c ho hT hn hz hb.1.1.1.1 (Nat.eq_of_beq_eq_true hb.1.1.1.2) hb.1.1.2 hb.1.2 b e hx hb.2 rfl rfl rfl rfl) r
  ·cases h
 ·cases h
theorem DTK.ap {x:AppD} (hd:wrB mem C.N k o=some d) (h:appV P σ o.op=some x) (hl:x.a.length+x.b.length≤1000000000) (hs:msSub Mc ((σ.nk,.row x.T x.n (x.a++x.b))::rem x.k σ.M)) (hsB:Nat.blt k e0=true→msSub McB ((σ.nk,.row x.T x.n (x.a++x.b))::rem x.k σ.M)) (r:DTK P C ops mem Mc McB e0 nk0 (k+1) rest ⟨(d,.sl σ.nk)::σ.t,(σ.nk,.row x.T x.n (x.a++x.b))::rem x.k σ.M,σ.nk+1⟩ Q):DTK P C ops mem Mc McB e0 nk0 k (o::rest) σ Q:=by
 obtain ⟨a,b,c,e⟩:=wrB_of hd
 unfold appV at h
 split at h
 ·rename_i x y T T' ho
  split at h
  ·rename_i el q av2 hT hx hy
   split at h
   ·rename_i i e' n rows hi hk
    split at h
    ·rename_i z rows2 hz hs2
     cases hb:Nat.beq T T' && Nat.beq el e' && Nat.beq i.size n && Nat.beq z.cells.size n && Nat.blt 0 n && Nat.ble i.bytes 100000 with
     | false=>rw [hb] at h;cases h
     | true =>
      rw [hb] at h
      simp only [Bool.and_eq_true] at hb
      cases h
      obtain ⟨⟨⟨⟨⟨b1,b2⟩,b3⟩,b4⟩,b5⟩,b6⟩:=hb
      obtain rfl:=Nat.eq_of_beq_eq_true b1
      obtain rfl:=Nat.eq_of_beq_eq_true b2
      exact DTK.of_m a b (Nat.ble_eq_true_of_le (Nat.le_succ _)) hs hsB (DoesM.append c ho hT hi hz (Nat.eq_of_beq_eq_true b3) rfl (Nat.eq_of_beq_eq_true b4) b5 b e hx hk hy hs2 rfl hl b6 rfl rfl rfl) r
    ·cases h
   ·cases h
  ·cases h
 ·cases h
theorem mmV_of {kk:IntKind} {z:Int} (h:mmV σ o.op=some (kk,z)):WV P C o σ (.sc (.int kk z)):=by
 unfold mmV at h
 split at h
 ·rename_i x y ts ho
  split at h
  ·rename_i k m k' n hx hy
   cases h
   exact WV.sc fun G a w ok=>by unfold execOp;simp [ho,resolve,invoke,builtin,ok.evs hx,ok.evs hy,Builtin.min_,Builtin.min2]
  ·cases h
 ·rename_i x y ts ho
  split at h
  ·rename_i k m k' n hx hy
   cases h
   exact WV.sc fun G a w ok=>by unfold execOp;simp [ho,resolve,invoke,builtin,ok.evs hx,ok.evs hy,Builtin.max_,Builtin.max2]
  ·cases h
 ·cases h
theorem mmV_as {kk:IntKind} {z z':Int} (h:mmV σ o.op=some (kk,z))(hz:z=z'):WV P C o σ (.sc (.int kk z')):=hz ▸ mmV_of h
def ldwV (P:Program)(σ:St):Op→Option (List (List AV)×Nat×Nat)
 | .load T x =>
  match aggB P T,σ.ev x with
  | some false,some (.pt k i j) =>
   match look k σ.M with
   | some (.rwn _ _ rows)=>some (rows,i,j)
   | _=>none
  | _,_=>none
 | _=>none
theorem ldwV_of {rows:List (List AV)} {i j:Nat} {r:List AV} {av:AV} (h:ldwV P σ o.op=some (rows,i,j))(hi:rows[i]?=some r)(hj:r[j]?=some av)(ho2:av.own=false):WV P C o σ av:=by
 unfold ldwV at h
 split at h
 ·rename_i T x ho
  split at h
  ·rename_i k' i' j' hT hx
   split at h
   ·rename_i T' n rows' hk
    cases h
    refine WV.load1 ho hT hx hk (l:=r.drop j) ?_ ?_ ho2
    ·show (rows[i]?).map (·.drop j)=_
     rw [hi];rfl
    ·rw [List.getElem?_drop,Nat.add_zero];exact hj
   ·cases h
  ·cases h
 ·cases h
theorem DTK.ldw {rows:List (List AV)} {i j:Nat} {r:List AV} {av:AV} (hd:memB C.N ops mem McB k nk0 σ.t o=some (d,true)) (hn:needs ops k ops.size e0=true) (h:ldwV P ⟨onlyT σ.t (o.looksAt ops),McB,nk0⟩ o.op=some (rows,i,j)) (hi:rows[i]?=some r) (hj:r[j]?=some av) (ho2:av.own=false)
  (K:DTK P C ops mem Mc McB e0 nk0 (k+1) rest (σ.put d av) Q):DTK P C ops mem Mc McB e0 nk0 k (o::rest) σ Q:=DTK.vl hd hn (ldwV_of h hi hj ho2) K
theorem WL.stW {q n i j:Nat} {T':TypeId} {rows:List (List AV)} {r:List AV} {av:AV} {t:List (Nat×AV)} {M M':List (Nat×AO)} {nk:Nat} (hg:o.guard=none) (hds:o.dst=none) (h:stQV P ⟨t,M,nk⟩ o.op=some (q,T',n,rows,i,j,av)) (hM:remS q M=some M') (hr:rows[i]?=some r) (hj:j+1≤r.length) (hp:av.pu0=true)
  (k:WL P C ops rest ⟨t,(q,.rwn T' n (rows.set i (putL j [av] r)))::M',nk⟩ Q):WL P C ops (o::rest) ⟨t,M,nk⟩ Q:=by
 rw [remS_eq hM] at k
 clear hM
 refine WL.op hg ?_ k
 unfold stQV at h
 split at h
 ·rename_i T x y ho
  split at h
  ·rename_i k' i' j' av' hx hy
   split at h
   ·rename_i T2 n' rows' hm hk
    cases hb:av'.oneB with
    | false=>rw [hb] at h;cases h
    | true =>
     rw [hb] at h
     cases h
     obtain ⟨hB,hcl⟩:=oneB_cells hb
     refine wo_rem (WO.store (σ:=⟨t,M,nk⟩) ho hds hm hx hk hy hB hcl rfl (by simp [hb]) ?_)
     simp only [AO.put,hr]
     rw [if_pos ⟨by simpa using hj,by simp [hp]⟩]
   ·cases h
  ·cases h
 ·cases h
def lastB(mem:List Bool)(n e0:Nat):Bool:=(List.range n).all fun i=>!Nat.blt e0 i|| !mem.getD i false
theorem WA.dt (mem:List Bool) (ms msB:List Nat) (e0:Nat) (hl:lastB mem l.length e0=true) (hB:Region.lexB .any l.toArray=true) (hch:chainB l.toArray mem=true) (hMc:msSub (onlyM σ.M ms) σ.M) (hMcB:msSub (onlyM σ.M msB) σ.M)
  (h:DTK P C l.toArray mem (onlyM σ.M ms) (onlyM σ.M msB) e0 σ.nk 0 l σ Q):WA P C l.toArray σ Q :=
 let ⟨_,a,b⟩:=h
 WA.drawT2 mem (onlyM σ.M ms) (onlyM σ.M msB) e0 (fun i h1 h2=>by
  have:=List.all_eq_true.1 hl i (List.mem_range.2 h2)
  simp only [Bool.or_eq_true,Bool.not_eq_true'] at this
  rcases this with h|h
  ·rw [show Nat.blt e0 i=true from Nat.ble_eq_true_of_le h1] at h;cases h
  ·exact h) hB hch hMc hMcB a b
end
end
end Go.Proofs.YtgelfflighgajaaGreatDoor
