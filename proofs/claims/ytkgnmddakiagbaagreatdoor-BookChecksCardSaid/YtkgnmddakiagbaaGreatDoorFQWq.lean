/- A walk that knows values as trees: a drawn region parted by the order of two operations; rules for one chain with stores. -/
import Derived.Test.YtkgnmddakiagbaaGreatDoorNtQWq
import Derived.Test.YtkgnmddakiagbaaGreatDoorFNWq
set_option linter.unusedVariables false
set_option linter.unusedSimpArgs false
namespace Go.Proofs.YtkgnmddakiagbaaGreatDoor
open Go.RowKit
set_option maxHeartbeats 4000000
set_option maxRecDepth 100000
def eNt (x:Nt):List AV:=[.sc (.int .i64 x.1),.sc (.int .i64 x.2.1),.sc (.int .i64 x.2.2.1),.sc (.int .i64 x.2.2.2.1),.sc (.int .i64 x.2.2.2.2)]
def eRing (r:List Int):List AV:=(List.range 15).map fun c=>.sc (.int .i64 (r.getD c 0))
theorem eRing_at {r:List Int} {c:Nat} (h:c<15):(eRing r)[c]?=some (.sc (.int .i64 (r.getD c 0))):=by
 unfold eRing
 rw [List.getElem?_map,List.getElem?_range h];rfl
theorem eRing_len (r:List Int):(eRing r).length=15:=by unfold eRing;simp
theorem eRing_set {r:List Int} {c:Nat} {v:Int} (hc:c<r.length):(eRing r).set c (.sc (.int .i64 v))=eRing (r.set c v):=by
 unfold eRing
 apply List.ext_getElem (by simp)
 intro i h1 h2
 have hi:i<15:=by simpa using h2
 rw [List.getElem_set]
 simp only [List.getElem_map,List.getElem_range,List.getD_eq_getElem?_getD,List.getElem?_set]
 by_cases e:c=i
 ·subst e;simp [hc]
 ·simp [e]
theorem eNt_set {l:List Nt} {k:Nat} {n:Nt} (t:Int) (h:l[k]?=some n):(l.map eNt).set k (putL 4 [.sc (.int .i64 t)] (eNt n))=(setTo l k t).map eNt:=by
 unfold setTo
 rw [h]
 simp only [List.map_set]
 rfl
structure NsOk (s:NS):Prop where
 len:s.ring.length=15
 rng:∀ c,0≤s.ring.getD c 0∧s.ring.getD c 0≤s.out.length
 big:s.out.length≤10000
theorem setTo_len (l:List Nt) (k:Nat) (t:Int):(setTo l k t).length=l.length:=by unfold setTo;split<;>simp
theorem stopN_ok {s:NS} (h:NsOk s) (c:Nat) (t:Int):NsOk (stopN c t s)∧(stopN c t s).out.length=s.out.length:=by
 unfold stopN
 split
 ·refine ⟨⟨by simpa using h.len,fun q=>?_,by rw [setTo_len];exact h.big⟩,setTo_len _ _ _⟩
  have:=h.rng q
  simp only [setTo_len,List.getD_eq_getElem?_getD] at this ⊢
  by_cases e:c=q
  ·subst e
   by_cases hq:c<s.ring.length
   ·rw [List.getElem?_set_self hq];simp
   ·rw [List.getElem?_eq_none (by simpa using hq)];simp
  ·rw [List.getElem?_set_ne e];exact this
 ·exact ⟨h,rfl⟩
theorem finMn {P:Program} {C:Cx} {σ:St} {fn:Func} {avs:List AV} {res:AV} {M':List (Nat×AO)} {nk':Nat} (h:resL P σ fn.results.toList=some avs) (hp:avs.all (fun av=>!ownB av)=true) (e:resT avs=res) (hM:σ.M=M') (hk:σ.nk=nk'):QFinM P fn C res M' nk' .normal σ :=
 ⟨.inl rfl,(finM h hp e hM hk).2⟩
theorem stop_FS (c:Nat) (t:Int) (s:NS) (hc:c < 15) (h:NsOk s) :
  Cto truB 0 Tryz.prog 155 [.sc (.int .i64 c),.sc (.int .i64 t),.pt 0 0 0,.pt 1 0 0]
   [(0,.box 231 (eRing s.ring)),(1,.box 60 [.sl 2]),(2,.row 64 5 (s.out.map eNt))] 3 (.tu [])
   [(0,.box 231 (eRing (stopN c t s).ring)),(1,.box 60 [.sl 2]),(2,.row 64 5 ((stopN c t s).out.map eNt))] 3:=by
 have hl:=eRing_len s.ring
 have hrg:=h.rng c
 have hlen:=h.len
 have hbig:=h.big
 have hat:=eRing_at (r:=s.ring) hc
 have hs0:stopN c t s=if 0 < s.ring.getD c 0 then ⟨setTo s.out (s.ring.getD c 0 - 1).toNat t,s.ring.set c 0⟩ else s:=rfl
 obtain ⟨r,hr⟩:∃ r,s.ring.getD c 0=r:=⟨_,rfl⟩
 rw [hr] at hat hrg hs0
 refine Cto.intro truS Tryz.func155 rfl Tryz.ntmps155 (Nat.le_of_ble_eq_true rfl) rfl fun w0 F0 fp pg hB=>?_
 dsimp only [number,Nat.reduceAdd]
 repeat refine W.go rfl ?_
 refine (?_:WL _ _ _ _ _ _)
 dsimp only [St.put,Nat.reduceAdd]
 refine WL.idp rfl rfl ⟨by omega,by omega⟩ (show 0+((c:Nat):Int).toNat*1=c by simp) ?_
 refine WL.ldx rfl rfl hat rfl ?_
 repeat (first|refine W.go rfl ?_|refine WL.ev rfl ?_)
 refine (?_:W _ _ _ _ _)
 dsimp only [St.put,Nat.reduceAdd]
 (refine W.cond rfl (fun hif=>?_) (fun hif=>?_)<;>(try simp only [decide_eq_true_eq,decide_eq_false_iff_not,Int.not_lt,Int.not_le,Bool.not_eq_true',Bool.not_eq_false'] at hif))
 ·rw [if_pos hif] at hs0
  rw [hs0]
  have hk:(r - 1).toNat < s.out.length:=by omega
  have hn:=List.getElem?_eq_getElem hk
  have hrr:(s.out.map eNt)[(r - 1).toNat]?=some (eNt s.out[(r - 1).toNat]):=by rw [List.getElem?_map,hn];rfl
  repeat (first|refine W.gob rfl ?_|refine WL.e1 rfl ?_|refine WL.ar rfl rfl (by unfold I64;omega) ?_|refine WL.ixs rfl rfl (by first|omega|(simp;done)|(simp;omega)) ?_)
  refine (?_:WL _ _ _ _ _ _)
  dsimp only [St.put,Nat.reduceAdd]
  refine WL.sto rfl rfl rfl rfl hrr (by show 4+1≤5;omega) ?_
  repeat (first|refine W.gob rfl ?_|refine WL.nil ?_|refine WL.e1 rfl ?_)
  refine (?_:WL _ _ _ _ _ _)
  dsimp only [St.put,Nat.reduceAdd]
  refine WL.idp rfl rfl ⟨by omega,by omega⟩ (show 0+((c:Nat):Int).toNat*1=c by simp) ?_
  refine WL.stx rfl rfl rfl rfl (by rw [hl];exact hc) ?_
  rw [eRing_set (by omega)]
  dsimp only
  refine WL.tr (σ':=⟨[],[(0,.box 231 (eRing (s.ring.set c 0))),(1,.box 60 [.sl 2]),(2,.row 64 5 ((setTo s.out (r - 1).toNat t).map eNt))],3⟩) (Tr.ren (fun q=>q) (by repeat (first|exact trivial|refine ⟨⟨?_,?_⟩,?_⟩|rfl)) (by repeat (first|exact trivial|refine ⟨⟨?_,?_,?_⟩,?_⟩|rfl|exact congrArg (fun q=>some (AO.row _ _ q)) (eNt_set t hn))) rfl) ?_
  repeat refine WL.nil ?_
  exact finMn rfl rfl rfl rfl rfl
 ·rw [if_neg (by omega)] at hs0
  rw [hs0]
  repeat refine W.go rfl ?_
  exact finMn rfl rfl rfl rfl rfl
end Go.Proofs.YtkgnmddakiagbaaGreatDoor
namespace Go.Proofs.YtkgnmddakiagbaaGreatDoor
open Go.RowKit
def aft (π:List Nat) (i j p:Nat) (o:Oper):List Edge:=((o.after.toList.filter (Region.binds .any)).map fun (e:Edge)=>(⟨π.getD e.on 0,.data⟩:Edge))++(bif Nat.beq p j then [(⟨π.getD i 0,.data⟩:Edge)] else [])
def reo (L:List Oper) (π ρ:List Nat) (i j:Nat):List Oper:=(List.range L.length).map fun q =>
 { L.getD (ρ.getD q 0) default with after:=(aft π i j (ρ.getD q 0) (L.getD (ρ.getD q 0) default)).toArray }
def reoB (L:List Oper) (π ρ:List Nat) (i j:Nat):Bool :=
 (List.range L.length).all (fun p=>Nat.blt (π.getD p 0) L.length && Nat.beq (ρ.getD (π.getD p 0) 0) p && Nat.blt (ρ.getD p 0) L.length && Nat.beq (π.getD (ρ.getD p 0) 0) p) && Nat.blt i L.length && Nat.blt j L.length &&
  L.all (fun o=>tame o.op && o.guard.isNone && o.after.toList.all fun e=>Nat.blt e.on L.length)
theorem laid_reo {L:List Oper} {π ρ:List Nat} {i j:Nat} (h:reoB L π ρ i j=true):Laid L.toArray (reo L π ρ i j).toArray (fun p=>π.getD p 0) (fun p=>ρ.getD p 0) i j:=by
 unfold reoB at h
 simp only [Bool.and_eq_true,List.all_eq_true,List.mem_range] at h
 obtain ⟨⟨⟨hp,hi⟩,hj⟩,ho⟩:=h
 refine ⟨by simp [reo],fun p hq=>?_,fun p hq=>?_,fun p hq=>?_,fun p hq=>?_,by simpa using of_blt hi,by simpa using of_blt hj,fun p o hpo=>?_,fun p o hpo=>?_⟩
 ·simpa using of_blt (hp p (by simpa using hq)).1.1.1
 ·exact Nat.eq_of_beq_eq_true (hp p (by simpa using hq)).1.1.2
 ·simpa using of_blt (hp p (by simpa using hq)).1.2
 ·exact Nat.eq_of_beq_eq_true (hp p (by simpa using hq)).2
 ·have hpo':L[p]?=some o:=by simpa using hpo
  have hlt:p<L.length:=(List.getElem?_eq_some_iff.1 hpo').1
  have h1:=(hp p hlt).1.1
  have hg:L.getD p default=o:=by rw [List.getD_eq_getElem?_getD,hpo'];rfl
  refine ⟨(aft π i j p o).toArray,?_,fun e he hb=>?_,fun e' he' hb'=>?_⟩
  ·have hr:ρ.getD (π.getD p 0) 0=p:=Nat.eq_of_beq_eq_true h1.2
   have h3:(reo L π ρ i j).toArray[π.getD p 0]?=some { L.getD (ρ.getD (π.getD p 0) 0) default with after:=(aft π i j (ρ.getD (π.getD p 0) 0) (L.getD (ρ.getD (π.getD p 0) 0) default)).toArray }:=by
    rw [List.getElem?_toArray]
    unfold reo
    rw [List.getElem?_map,List.getElem?_range (of_blt h1.1)]
    rfl
   rw [h3,hr,hg]
  ·have he1:=List.mem_toArray.1 he
   rcases List.mem_append.1 he1 with h4|h4
   ·obtain ⟨e',h5,rfl⟩:=List.mem_map.1 h4
    obtain ⟨h6,h7⟩:=List.mem_filter.1 h5
    exact .inl ⟨e',by simpa using h6,h7,rfl⟩
   ·cases hb2:Nat.beq p j with
    | false=>rw [hb2] at h4;cases h4
    | true =>
     rw [hb2] at h4
     have h5:e∈[(⟨π.getD i 0,.data⟩:Edge)]:=h4
     rw [List.mem_singleton] at h5
     subst h5
     exact .inr ⟨Nat.eq_of_beq_eq_true hb2,rfl⟩
  ·refine ⟨⟨π.getD e'.on 0,.data⟩,List.mem_toArray.2 (List.mem_append.2 (.inl (List.mem_map.2 ⟨e',List.mem_filter.2 ⟨by simpa using he',hb'⟩,rfl⟩))),rfl,rfl⟩
 ·have hpo':L[p]?=some o:=by simpa using hpo
  have:=ho o (List.mem_of_getElem? hpo')
  refine ⟨this.1.1,?_,fun e he=>?_⟩
  ·cases hgd:o.guard with
   | none=>rfl
   | some g=>have h8:=this.1.2;rw [hgd] at h8;cases h8
  ·simpa using of_blt (this.2 e (by simpa using he))
section
variable {P:Program} {C:Cx} {σ:St} {o:Oper} {d:Tmp} {av:AV} {ops:Array Oper} {rest l:List Oper} {Q:Exit→St→Prop} {mem:List Bool} {Mc:List (Nat×AO)} {nk0 k:Nat}
theorem WA.eitherL {L:List Oper} (π ρ π' ρ':List Nat) (i j:Nat) (hA:reoB L π ρ i j=true) (hB:reoB L π' ρ' j i=true) (hne:Nat.beq i j=false) (h1:WA P C (reo L π ρ i j).toArray σ Q) (h2:WA P C (reo L π' ρ' j i).toArray σ Q):WA P C L.toArray σ Q :=
 WA.either (laid_reo hA) (laid_reo hB) (fun e=>by rw [e,Nat.beq_refl] at hne;cases hne) h1 h2
def DSK (P:Program) (C:Cx) (ops:Array Oper) (mem:List Bool) (Mc:List (Nat×AO)) (nk0 k:Nat) (l:List Oper) (σ:St) (Q:Exit→St→Prop):Prop:=∃ σ',DS P C ops mem Mc nk0 k l σ σ'∧Q .normal σ'
theorem DSK.nil (h:Q .normal σ):DSK P C ops mem Mc nk0 k [] σ Q:=⟨σ,.nil k σ,h⟩
theorem DSK.v0 (hd:memB C.N ops mem Mc k nk0 σ.t o=some (d,true)) (h:WV P C o ⟨onlyT σ.t (o.looksAt ops),Mc,nk0⟩ av) (r:DSK P C ops mem Mc nk0 (k+1) rest (σ.put d av) Q):DSK P C ops mem Mc nk0 k (o::rest) σ Q:=by
 obtain ⟨a,b,c,e,f,g⟩:=memB_of hd
 obtain ⟨s,x,y⟩:=r
 exact ⟨s,.val k o rest d av nk0 σ s a b c (.inl rfl) ⟨e,f,.inl ⟨g,h⟩⟩ x,y⟩
theorem DSK.wr {M':List (Nat×AO)} {nk':Nat} (av:AV) (hm:mem.getD k false=true) (hn:Nat.ble σ.nk nk'=true) (hs:msSub Mc M') (h:DoesS P C ops o σ av M' nk') (r:DSK P C ops mem Mc nk0 (k+1) rest ⟨ent1 o.dst true av++σ.t,M',nk'⟩ Q):DSK P C ops mem Mc nk0 k (o::rest) σ Q:=by
 obtain ⟨s,x,y⟩:=r
 exact ⟨s,.mem k o rest av M' nk' σ s hm hn hs h x,y⟩
theorem DSK.st (hd:memB C.N ops mem Mc k nk0 σ.t o=some (d,true)) (h:stepV P ⟨onlyT σ.t (o.looksAt ops),Mc,nk0⟩ o.op=some av) (r:DSK P C ops mem Mc nk0 (k+1) rest (σ.put d av) Q):DSK P C ops mem Mc nk0 k (o::rest) σ Q:=DSK.v0 hd (stepV_of rfl h) r
theorem DSK.idx {rows:List (List AV)} {z:Int} {x:List AV} (hd:memB C.N ops mem Mc k nk0 σ.t o=some (d,true)) (h:idxV P ⟨onlyT σ.t (o.looksAt ops),Mc,nk0⟩ o.op=some (rows,z)) (h0:0≤z) (hr:rows[z.toNat]?=some x) (r:DSK P C ops mem Mc nk0 (k+1) rest (σ.put d (.pr x)) Q):DSK P C ops mem Mc nk0 k (o::rest) σ Q:=DSK.v0 hd (idxV_of h h0 hr) r
theorem DSK.al {T:TypeId} {z:Value} {l:List AV} (hd:wrB mem C.N k o=some d) (ho:o.op=.alloc T) (hz:(P.info? T).bind (·.zero)=some z) (hl:z.cells.toList.map .sc=l) (hs:msSub Mc ((σ.nk,.box T l)::σ.M))
  (r:DSK P C ops mem Mc nk0 (k+1) rest ⟨(d,.pt σ.nk 0 0)::σ.t,(σ.nk,.box T l)::σ.M,σ.nk+1⟩ Q):DSK P C ops mem Mc nk0 k (o::rest) σ Q:=by
 obtain ⟨a,b,c,e⟩:=wrB_of hd
 have he:ent1 o.dst true (.pt σ.nk 0 0)=[(d,.pt σ.nk 0 0)]:=by rw [b];rfl
 refine DSK.wr (.pt σ.nk 0 0) a (Nat.ble_eq_true_of_le (Nat.le_succ _)) hs ⟨c,fun t _=>?_⟩ (by rw [he];exact r)
 rw [he]
 exact WO.alloc (σ:=⟨t,σ.M,σ.nk⟩) ho hz b e hl rfl
theorem DSK.sto {T m:Nat} {x y:Operand} {q i j:Nat} {ob ob':AO} {l:List AV} {M2:List (Nat×AO)} (hm:mem.getD k false=true) (hg:o.guard=none) (hds:o.dst=none) (ho:o.op=.store T x y) (hn:sizeB P T=some m) (hx:σ.ev x=some (.pt q i j)) (hk:look q σ.M=some ob) (hy:σ.ev y=some av)
  (hB:av.cellB=true) (hl:av.cells=l) (hlm:l.length=m) (h1:l.all AV.oneB=true) (hp:ob.put i j l=some ob') (hM:remS q σ.M=some M2) (hs:msSub Mc ((q,ob')::M2)) (r:DSK P C ops mem Mc nk0 (k+1) rest ⟨σ.t,(q,ob')::M2,σ.nk⟩ Q):DSK P C ops mem Mc nk0 k (o::rest) σ Q:=by
 have he:∀ av,ent1 o.dst true av=[]:=fun av=>by rw [hds];rfl
 refine DSK.wr (.sc undef) hm (Nat.ble_eq_true_of_le (Nat.le_refl _)) hs ⟨hg,fun t H=>?_⟩ (by rw [he];exact r)
 rw [he]
 have hmem:∀ z∈[x,y],z∈o.op.operands.toList:=fun z hz=>by rw [ho];simp [Op.operands] at hz ⊢;exact hz
 rw [remS_eq hM]
 exact wo_rem (WO.store (σ:=⟨t,σ.M,σ.nk⟩) ho hds hn ((ev_agree H (hmem x (by simp))).trans hx) hk ((ev_agree H (hmem y (by simp))).trans hy) hB hl hlm h1 hp)
theorem WA.ds (mem:List Bool) (ms:List Nat) (hB:Region.lexB .any l.toArray=true) (hch:chainB l.toArray mem=true) (hMc:msSub (onlyM σ.M ms) σ.M)
  (h:DSK P C l.toArray mem (onlyM σ.M ms) σ.nk 0 l σ Q):WA P C l.toArray σ Q:=let ⟨_,a,b⟩:=h;WA.drawS mem (onlyM σ.M ms) hB hch hMc a b
end
end Go.Proofs.YtkgnmddakiagbaaGreatDoor
