/- Marks and cells: plain words. -/
import Derived.Lib.SmallJoins
import Derived.Test.YtockempedekkkaaGreatDoorFBJq
import Derived.Test.YtockempedekkkaaGreatDoorK1Jq
set_option linter.unusedVariables false
set_option linter.unusedSimpArgs false
namespace Go.Proofs.YtockempedekkkaaGreatDoor
section
open Go.RowKit Go.WideShapes Go.ChangeShapes Go.Joins Go.Deep
section
variable {H:Type} {enc:TypeId×Value→H} {P:Program} {w:World} {base:Nat} {spare:Nat→Bool} {held:Bool}
theorem post_of_below {f:Func} {s:ChangeSpec} {apart fresh handsOn again:Bool} {W W':World} {args:Array Value} {v:Value} {ds gs:List (DataW H)} {before pa pv:List MemPlace}
  (hW:DataW.Whole enc P f.params.toList s.vars apart W args.toList ds gs before)
  (hres:∀ (b:Nat) (sp:Nat→Bool) (hd:Bool),DataW.TrodAll enc P W' b sp hd f.resultTypes.toList (v.resultList f.resultTypes.size) (s.fn H (ds++gs)).results [])
  (hargs:∀ sp:Nat→Bool,(∀ p∈before,sp p.block=true)→DataW.TrodAll enc P W' 0 sp true f.params.toList args.toList (s.fn H (ds++gs)).args pa)
  (hvars:∀ sp:Nat→Bool,(∀ p∈before,sp p.block=true)→DataW.TrodVars enc P W' sp s.vars (s.fn H (ds++gs)).vars pv)
  (hps:before=pa++pv) (hb:Below W.heap.size W W')
  (hok:∀ (j:Nat) (t:TypeId) (r:Value),f.resultTypes[j]?=some t→(v.resultList f.resultTypes.size)[j]?=some r→Value.okWide P W' .any 0 t r) :
  s.post enc P f apart fresh handsOn again W args v W':=by
 have hlt:∀ p∈before,p.block<W.heap.size:=fun p hp=>hW.lt p hp
 have hold:∀ p∈before,(fun b=>decide (b<W.heap.size)) p.block=true:=fun p hp=>by simpa using hlt p hp
 refine ⟨ds,gs,before,[],pa,pv,hW,hres _ _ _,hargs _ hold,hvars _ hold,World.keptBut_mono (fun p hp=>⟨hp,?_⟩) (hb.frame (·∈before)),fun _=>?_⟩
 ·rw [hps,List.mem_append] at hp
  exact Or.inr hp
 ·obtain ⟨_,_,_,_,_,hz,hn⟩:=hW
  refine ⟨hok,_,_,([]++pa)++pv,⟨[]++pa,pv,trodAll_append (hargs _ (fun _ _=>rfl)) (hres _ _ _),hvars _ (fun _ _=>rfl),rfl,?_,?_⟩,?_⟩
  ·intro b off hp
   have hin:MemPlace.cell b off∈before:=by rw [hps];simpa using hp
   rw [hb.frozen (hlt _ hin)]
   exact hz b off hin
  ·intro ha
   have:=hn ha
   rw [hps] at this
   simpa using this
  ·intro p hp _
   rw [hps]
   simpa using hp
end
end
section
open Go.RowKit
theorem fold_put:∀ (v:List Value)(off:Nat)(cells:Array Value),off+v.length≤cells.size→(v.zipIdx.foldl (fun cs (c,j)=>cs.setIfInBounds (off+j) c) cells).toList=putL off v cells.toList:=by
 have key:∀ (v:List Value)(off s:Nat)(cells:Array Value),off+s+v.length≤cells.size→(v.zipIdx s|>.foldl (fun cs (x:Value×Nat)=>cs.setIfInBounds (off+x.2) x.1) cells).toList=putL (off+s) v cells.toList:=by
  intro v
  induction v with
  | nil =>
   intro off s cells h
   rw [putL_eq _ _ _ (by simpa using h)]
   simp
  | cons x r ih =>
   intro off s cells h
   rw [List.zipIdx_cons,List.foldl_cons,ih off (s+1) _ (by simp at h ⊢;omega)]
   have hlen:off+s+(r.length+1)≤cells.size:=by simpa [Nat.add_assoc] using h
   have hl:off+s<cells.toList.length:=by simp;omega
   apply List.ext_getElem?
   intro i
   rw [putL_at (by simp;omega),putL_at (by simp;omega),Array.toList_setIfInBounds,List.length_cons]
   by_cases h2:i=off+s
   ·subst h2
    rw [if_neg (by omega),if_pos (by omega),List.getElem?_set_self hl,Nat.sub_self];rfl
   ·rw [List.getElem?_set_ne (fun e=>h2 e.symm)]
    by_cases h3:off+s+1≤i∧i<off+s+(r.length+1)
    ·rw [if_pos (by omega),if_pos (by omega),show i-(off+s)=(i-(off+(s+1)))+1 by omega,List.getElem?_cons_succ]
    ·rw [if_neg (by omega),if_neg (by omega)]
 intro v off cells h
 have:=key v off 0 cells (by simpa using h)
 simpa using this
theorem putL_head {α:Type} (l m rest:List α)(off:Nat)(h:off=l.length)(done:List α)(hl:m.length≤rest.length):putL off m (l++rest)=l++m++rest.drop m.length:=by
 subst h
 rw [putL_eq _ _ _ (by simp;omega),List.take_left,List.drop_append]
 simp
theorem fill_rows {size:Nat}:∀ (vs:List Value) (q:Nat) (done rest:List Value),done.length=q*size→rest.length=vs.length*size→(∀ v∈vs,v.cells.size=size) →
  Instr.fill (fun i=>some (i*size,size)) (done++rest).toArray (number q vs)=some (done++(vs.map fun v=>v.cells.toList).flatten).toArray
 | [],q,done,rest,hd,hr,_=>by
  have:rest=[]:=List.eq_nil_of_length_eq_zero (by simpa using hr)
  subst this
  simp [number,Instr.fill]
 | v::vs,q,done,rest,hd,hr,hv=>by
  have h1:v.cells.size=size:=hv v (by simp)
  have hle:size≤rest.length:=by rw [hr,List.length_cons,Nat.succ_mul];omega
  have hb:(v.cells.size≠size|| q*size+v.cells.size > (done++rest).toArray.size)=false:=by
   rw [h1];simp [hd];omega
  have hf:=fold_put v.cells.toList (q*size) (done++rest).toArray (by simp [h1,hd];omega)
  have e:(v.cells.zipIdx.foldl (fun cs (c,j)=>cs.setIfInBounds (q*size+j) c) (done++rest).toArray)=((done++v.cells.toList)++rest.drop size).toArray:=by
   apply Array.ext'
   rw [← Array.foldl_toList,Array.toList_zipIdx,hf]
   have:=putL_head done v.cells.toList rest (q*size) hd.symm done (by simpa [h1] using hle)
   simp only [List.toList_toArray] at this ⊢
   rw [this]
   simp [h1]
  have ih:=fill_rows vs (q+1) (done++v.cells.toList) (rest.drop size) (by simp [hd,h1,Nat.succ_mul]) (by simp [hr,Nat.succ_mul]) fun x hx=>hv x (by simp [hx])
  show (match some (q*size,size) with|none=>none|some (off,sz)=>if v.cells.size≠sz|| off+v.cells.size > (done++rest).toArray.size then none else Instr.fill _ _ (number (q+1) vs))=_
  simp only
  rw [hb]
  simp only [Bool.false_eq_true,if_false]
  rw [e,ih]
  simp
section
variable {P:Program} {C:Cx} {σ σ':St} {G G':Gh} {a:Act} {w w':World} {o:Oper} {d:Tmp}
theorem run_buildS {T e n m:Nat} {z:Value} {vs:List Value} {parts:Array (Nat×Value)} (hT:P.underlying T=some (.slice e)) (hn:sizeB P e=some n) (hz:(P.info? e).bind (·.zero)=some z) (hp:parts.toList=number 0 vs) (hm:vs.length=m) (hv:∀ v∈vs,v.cells.size=n) (hb:m*n≤16777216) (w:World) :
  (Instr.buildSlice T m parts).run P w=.ok (.slice (some ⟨w.heap.size,0,none⟩) m m) (w.alloc (.cells (vs.map fun v=>v.cells.toList).flatten.toArray e)):=by
 cases hi:P.info? e with
 | none=>simp [hi] at hz
 | some i =>
  simp [hi] at hz
  have hfill:∀ zero:Array Value,Instr.fill (fun i=>some (i*n,n)) ((Array.range (m*n)).map (zero[· % zero.size]!)) parts.toList=some (vs.map fun v=>v.cells.toList).flatten.toArray:=fun zero=>by
   have:=fill_rows (size:=n) vs 0 [] ((Array.range (m*n)).map (zero[· % zero.size]!)).toList (by simp) (by simp [hm]) hv
   rw [hp]
   have e0:((Array.range (m*n)).map (zero[· % zero.size]!))=([]++((Array.range (m*n)).map (zero[· % zero.size]!)).toList).toArray:=by rw [List.nil_append,Array.toArray_toList]
   rw [e0];exact this
  have h2:¬ (m*n > 2 ^ 24):=by simp;omega
  unfold Instr.buildSlice
  by_cases h0:m*n=0
  ·simp only [Sem.run_bind,run_underlying hT,Result.andThen_ok,run_sizeB hn,if_neg h2,if_pos h0,Sem.run_pure,hfill,newRow,run_newObj]
   rfl
  ·simp only [Sem.run_bind,run_underlying hT,Result.andThen_ok,run_sizeB hn,if_neg h2,if_neg h0,Sem.run_pure,zeroValue,typeInfo,run_program,hi,hz,hfill,newRow,run_newObj]
   rfl
def rowsB(n:Nat)(l:List AV):Bool:=l.all fun av=>av.cellB && Nat.beq av.cells.length n && av.cells.all AV.oneB && av.cells.all AV.pu0
theorem number_map {α β:Type} (f:α→β):∀ (n:Nat)(l:List α),(number n l).map (fun x=>(x.1,f x.2))=number n (l.map f)
 | _,[]=>rfl
 | n,x::r=>by simp [number,number_map f (n+1) r]
def numB {α:Type}:Nat→List (Nat×α)→Bool
 | _,[]=>true
 | n,x::r=>Nat.beq x.1 n && numB (n+1) r
theorem numB_eq {α:Type}:∀ (n:Nat)(l:List (Nat×α)),numB n l=true→l=number n (l.map (·.2))
 | _,[],_=>rfl
 | n,x::r,h=>by
  simp only [numB,Bool.and_eq_true] at h
  rw [List.map_cons,number,← numB_eq (n+1) r h.2,← Nat.eq_of_beq_eq_true h.1]
theorem WO.build0 {T e n m q:Nat} {z:Value} {parts:Array (Nat×Operand)} {xs:List Operand} {avs:List AV} {rows:List (List AV)} (ho:o.op=.buildSlice T m parts) (hT:P.underlying T=some (.slice e)) (hn:sizeB P e=some n) (hz:(P.info? e).bind (·.zero)=some z)
  (hp:parts.toList=number 0 xs) (hm:xs.length=m) (hb:Nat.ble (m*n) 16777216=true) (hb1:Nat.ble m 16777216=true) (hds:o.dst=some d) (hd:Nat.blt d C.N=true) (hx:σ.evs xs=some avs) (hck:rowsB n avs=true) (hr:avs.map AV.cells=rows) (hq:σ.nk=q) :
  WO P C o σ ((σ.new (.row e n rows)).put d (.sl q)):=by
 intro G a w ok N Q' hN
 obtain ⟨e1,e2⟩:=ok.evl hx
 have hck':∀ av∈avs,av.cellB=true∧av.cells.length=n∧av.cells.all AV.oneB=true∧av.cells.all AV.pu0=true:=fun av hav=>by
  have:=List.all_eq_true.1 hck av hav
  simp only [Bool.and_eq_true] at this
  exact ⟨this.1.1.1,Nat.eq_of_beq_eq_true this.1.1.2,this.1.2,this.2⟩
 have hv:∀ v∈xs.map a.eval,v.cells.size=n:=fun v hv=>by
  obtain ⟨i,hi,rfl⟩:=List.getElem_of_mem hv
  have hi2:i<avs.length:=by omega
  obtain ⟨c1,c2,_⟩:=hck' _ (List.getElem_mem hi2)
  rw [(cells_of (e2 i _ _ (List.getElem?_eq_getElem hi2) (List.getElem?_eq_getElem hi)) c1).1,c2]
 have hlm:(xs.map a.eval).length=m:=by simpa using hm
 have hrun:=run_buildS (P:=P) (T:=T) (e:=e) (n:=n) (m:=m) (vs:=xs.map a.eval) (parts:=parts.map fun (i,x)=>(i,a.eval x)) hT hn hz (by
  have:=number_map a.eval 0 xs
  rw [← this,← hp];simp) hlm hv (Nat.le_of_ble_eq_true hb) w
 have hvs:((xs.map a.eval).map fun v=>v.cells.toList).length=rows.length:=by rw [← hr];simp only [List.length_map] at e1 ⊢;exact e1
 have hown:=own_built w e n m ((xs.map a.eval).map fun v=>v.cells.toList).flatten.toArray (by unfold maxLen;have:=Nat.le_of_ble_eq_true hb1;omega) (by
  rw [List.size_toArray,flatten_len (size:=n) (fun r hr=>by obtain ⟨v,hv',rfl⟩:=List.mem_map.1 hr;simpa using hv v hv')]
  simp [hm])
 have honeR:∀ r∈(xs.map a.eval).map fun v=>v.cells.toList,∀ u∈r,u.oneCell'=true :=
  (fun r hr' u hu=>by
   obtain ⟨v,hv',rfl⟩:=List.mem_map.1 hr'
   obtain ⟨i,hi,rfl⟩:=List.getElem_of_mem hv'
   have hi2:i<avs.length:=by omega
   obtain ⟨c1,c2,c3,_⟩:=hck' _ (List.getElem_mem hi2)
   obtain ⟨d1,d2⟩:=cells_of (e2 i _ _ (List.getElem?_eq_getElem hi2) (List.getElem?_eq_getElem hi)) c1
   obtain ⟨j,hj,rfl⟩:=List.getElem_of_mem hu
   have hj2:j<(avs[i]).cells.length:=by rw [← d1];simpa using hj
   exact oneB_of (d2 j _ _ (List.getElem?_eq_getElem hj2) (by simp at hj;simp [hj])) (List.all_eq_true.1 c3 _ (List.getElem_mem hj2)))
 have hrel:∀ (i:Nat) r r',rows[i]?=some r→((xs.map a.eval).map fun v=>v.cells.toList)[i]?=some r'→RL G.F r r' :=
  (fun i r r' h1 h2=>by
   rw [← hr,List.getElem?_map] at h1
   rw [List.getElem?_map] at h2
   cases q1:avs[i]? with
   | none=>simp [q1] at h1
   | some av =>
    cases q2:(xs.map a.eval)[i]? with
    | none=>simp [q2] at h2
    | some v =>
     simp [q1] at h1
     simp only [q2,Option.map_some,Option.some.injEq] at h2
     subst h1 h2
     obtain ⟨c1,c2,_,c4⟩:=hck' av (List.mem_of_getElem? q1)
     obtain ⟨d1,d2⟩:=cells_of (e2 i av v q1 q2) c1
     exact ⟨by simpa using d1,fun j x u hx hu=>(pu0_bd (List.all_eq_true.1 c4 x (List.mem_of_getElem? hx)) 0).rp (d2 j x u hx (by simpa using hu))⟩)
 have hsl:(.slice (some ⟨w.heap.size,0,none⟩) m m:Value).ownBlock=some w.heap.size:=rfl
 have ok':=ok.newObj (w':=w.alloc (.cells ((xs.map a.eval).map fun v=>v.cells.toList).flatten.toArray e)) (S:=fun _=>False) (b:=w.heap.size) (n:=n) (h:=.slice (some ⟨w.heap.size,0,none⟩) m m) (φ:=fun x=>x=w.heap.size) (ob:=.row e n rows)
  (Kept.below ((Below.refl _ _).alloc (Nat.le_refl _) _)) (fun _ h=>h.elim) (fun _ _ _ _ _ h=>h) (fun _ _ _ h=>h)
  ⟨with_n,(fun g hg=>by rw [with_h,hsl] at hg;rw [with_b];exact (Option.some.inj hg).symm),by
   rw [with_h,with_f]
   refine ⟨fun r hr'=>by rw [← hr] at hr';obtain ⟨av,hav,rfl⟩:=List.mem_map.1 hr';exact (hck' av hav).2.1,(xs.map a.eval).map fun v=>v.cells.toList,fun _ _ _=>False,?_,hvs,?_,fun g hg=>by rw [hsl] at hg;exact (Option.some.inj hg).symm,
    fun _ _ _ h=>h.elim,fun _ _ _ _ _ h=>h.elim,fun i r r' h1 h2=>(hrel i r r' h1 h2).1,fun i r r' j av u h1 h2 h3 h4=>(hrel i r r' h1 h2).2 j av u h3 h4⟩
   ·have:((xs.map a.eval).map fun v=>v.cells.toList).length=m:=by simpa using hlm
    rw [this]
    exact own_weaken (by simpa using hown) (Nat.zero_le _)
   ·exact honeR⟩ trivial (fun x hx=>by
   obtain rfl:x=w.heap.size:=hx
   refine ⟨.inl ok.bel.size,by simp,fun k o h1 h2=>?_,fun p u h1 h2=>?_⟩
   ·have:=(ok.my k o _ h1 h2).2;omega
   ·have:=cell_block (ok.fw p u h1);omega)
 unfold Oper.wp execOp
 simp only [ho,Sem.run_bind,hrun,Result.andThen_ok,Sem.run_pure,Oper.upon]
 rw [hds]
 subst hq
 exact hN _ _ _ (ok'.set (d:=some d) (av:=.sl σ.nk) (v:=.slice (some ⟨w.heap.size,0,none⟩) m m) (with_sl rfl) (.sl _ (Nat.lt_succ_self _)) fun x hx=>by cases hx;exact of_blt hd)
theorem WO.build {T e n m q:Nat} {z:Value} {parts:Array (Nat×Operand)} {avs:List AV} {rows:List (List AV)} (ho:o.op=.buildSlice T m parts) (hT:P.underlying T=some (.slice e)) (hn:sizeB P e=some n) (hz:(P.info? e).bind (·.zero)=some z)
  (hp:numB 0 parts.toList=true) (hm:parts.toList.length=m) (hb:Nat.ble (m*n) 16777216=true) (hb1:Nat.ble m 16777216=true) (hds:o.dst=some d) (hd:Nat.blt d C.N=true) (hx:σ.evs (parts.toList.map (·.2))=some avs) (hck:rowsB n avs=true) (hr:avs.map AV.cells=rows) (hq:σ.nk=q) :
  WO P C o σ ((σ.new (.row e n rows)).put d (.sl q)) :=
 WO.build0 ho hT hn hz (numB_eq 0 _ hp) (by simpa using hm) hb hb1 hds hd hx hck hr hq
end
end
section
open Go.RowKit
def placesB (P:Program)(T:TypeId):Option (List (Nat×Nat)) :=
 match P.underlying T with
 | some (.struct fields)=>fields.toList.mapM fun f=>(P.info? f.type).map fun i=>(f.offset,i.size)
 | _=>none
def fillA (places:List (Nat×Nat)):List AV→List (Nat×AV)→Option (List AV)
 | cells,[]=>some cells
 | cells,(i,av)::r =>
  match places[i]? with
  | some (off,sz)=>bif av.cellB && Nat.beq av.cells.length sz && Nat.ble (off+sz) cells.length then fillA places (putL off av.cells cells) r else none
  | none=>none
def pairUp:List (Nat×Operand)→List AV→List (Nat×AV)
 | (i,_)::r,av::s=>(i,av)::pairUp r s
 | _,_=>[]
section
variable {P:Program} {C:Cx} {σ σ':St} {G G':Gh} {a:Act} {w w':World} {o:Oper} {d:Tmp} {ops:Array Oper} {Q:Exit→St→Prop}
theorem fillA_of {places:List (Nat×Nat)}:∀ (parts:List (Nat×AV)) (vals:List (Nat×Value)) (cells:List AV) (cs:Array Value) (l:List AV),fillA places cells parts=some l→vals.length=parts.length →
  (∀ (q:Nat) x y,parts[q]?=some x→vals[q]?=some y→y.1=x.1∧R G x.2 y.2)→cs.size=cells.length→(∀ (i:Nat) x u,cells[i]?=some x→cs[i]?=some u→R G x u) →
  ∃ cs',Instr.fill (places.toArray[·]?) cs vals=some cs'∧cs'.size=l.length∧∀ (i:Nat) x u,l[i]?=some x→cs'[i]?=some u→R G x u
 | [],vals,cells,cs,l,h,hl,_,hs,hc=>by
  cases h
  have:vals=[]:=List.eq_nil_of_length_eq_zero hl
  subst this
  exact ⟨cs,rfl,hs,hc⟩
 | (i,av)::r,[],cells,cs,l,h,hl,_,hs,hc=>by cases hl
 | (i,av)::r,(j,v)::vr,cells,cs,l,h,hl,hp,hs,hc=>by
  obtain ⟨e1,e2⟩:=hp 0 _ _ rfl rfl
  simp only at e1 e2
  subst e1
  unfold fillA at h
  cases hpl:places[j]? with
  | none=>simp [hpl] at h
  | some x =>
   obtain ⟨off,sz⟩:=x
   simp only [hpl] at h
   cases hb:av.cellB && Nat.beq av.cells.length sz && Nat.ble (off+sz) cells.length with
   | false=>rw [hb] at h;cases h
   | true =>
    rw [hb] at h
    simp only [cond_true] at h
    simp only [Bool.and_eq_true] at hb
    obtain ⟨⟨b1,b2⟩,b3⟩:=hb
    have b2:=Nat.eq_of_beq_eq_true b2
    have b3:=Nat.le_of_ble_eq_true b3
    obtain ⟨c1,c2⟩:=cells_of e2 b1
    have hfit:off+v.cells.toList.length≤cs.size:=by rw [hs];simp [c1,b2];omega
    have hfit2:off+av.cells.length≤cells.length:=by omega
    obtain ⟨cs',f1,f2,f3⟩:=fillA_of r vr (putL off av.cells cells) (putL off v.cells.toList cs.toList).toArray l h (by simpa using hl) (fun q x y a b=>hp (q+1) x y (by simpa using a) (by simpa using b))
     (by rw [List.size_toArray,putL_len (by simpa using hfit),putL_len hfit2];simpa using hs)
     (fun q x u a b=>putL_rel (R G) hfit2 (by rw [Array.length_toList];exact c1) (by rw [Array.length_toList];exact hs) (fun q x y a b=>c2 q x y a (by simpa using b)) (fun q x y a b=>hc q x y a (by simpa using b)) q x u a (by simpa using b))
    refine ⟨cs',?_,f2,f3⟩
    have hf:=fold_put v.cells.toList off cs hfit
    have e:(v.cells.zipIdx.foldl (fun cs (c,j)=>cs.setIfInBounds (off+j) c) cs)=(putL off v.cells.toList cs.toList).toArray:=by
     apply Array.ext'
     rw [← Array.foldl_toList,Array.toList_zipIdx,hf]
    have hpl':places.toArray[j]?=some (off,sz):=by simpa using hpl
    show (match places.toArray[j]? with|none=>none|some (off,sz)=>if v.cells.size≠sz|| off+v.cells.size > cs.size then none else Instr.fill _ _ vr)=_
    rw [hpl']
    simp only
    have hbad:(v.cells.size≠sz|| off+v.cells.size > cs.size)=false:=by
     rw [c1,b2];simp;rw [hs];omega
    rw [hbad]
    simp only [Bool.false_eq_true,if_false]
    rw [e];exact f1
theorem WV.build {T:TypeId} {parts:Array (Nat×Operand)} {z:Value} {places:List (Nat×Nat)} {avs l:List AV} (ho:o.op=.build T parts) (hz:(P.info? T).bind (·.zero)=some z) (hpl:placesB P T=some places)
  (hx:σ.evs (parts.toList.map (·.2))=some avs) (hf:fillA places (z.cells.toList.map .sc) (pairUp parts.toList avs)=some l):WV P C o σ (.ag l):=by
 have main:∀ G a w,Ok C σ G a w→∃ cs,(Instr.build T (parts.map fun (i,x)=>(i,a.eval x))).run P w=.ok (.agg cs) w∧cs.size=l.length∧∀ (i:Nat) x u,l[i]?=some x→cs[i]?=some u→R G x u:=by
  intro G a w ok
  obtain ⟨e1,e2⟩:=ok.evl hx
  have hlen:avs.length=parts.toList.length:=by simpa using e1.symm
  have hpu:∀ (ps:List (Nat×Operand)) (ys:List AV),ys.length=ps.length→(pairUp ps ys).length=ps.length∧∀ (q:Nat) x,(pairUp ps ys)[q]?=some x→∃ p av,ps[q]?=some p∧ys[q]?=some av∧x=(p.1,av):=by
   intro ps
   induction ps with
   | nil=>intro ys h;exact ⟨by cases ys<;>rfl,fun q x hx=>by cases ys<;>simp [pairUp] at hx⟩
   | cons p r ih =>
    intro ys h
    cases ys with
    | nil=>simp at h
    | cons av s =>
     obtain ⟨h1,h2⟩:=ih s (by simpa using h)
     refine ⟨by simp [pairUp,h1],fun q x hx=>?_⟩
     cases q with
     | zero=>cases hx;exact ⟨p,av,rfl,rfl,rfl⟩
     | succ q=>exact h2 q x (by simpa [pairUp] using hx)
  obtain ⟨p1,p2⟩:=hpu parts.toList avs hlen
  obtain ⟨cs',f1,f2,f3⟩:=fillA_of (G:=G) (pairUp parts.toList avs) (parts.toList.map fun (i,x)=>(i,a.eval x)) _ z.cells l hf (by simp [p1]) (fun q x y hxq hy=>by
   obtain ⟨p,av,q1,q2,rfl⟩:=p2 q x hxq
   rw [List.getElem?_map,q1] at hy
   simp at hy
   subst hy
   exact ⟨rfl,e2 q av _ q2 (by rw [List.map_map,List.getElem?_map,q1];rfl)⟩) (by simp) (fun i x u hxi hu=>by
   rw [List.getElem?_map,show z.cells.toList[i]?=z.cells[i]? by simp,hu] at hxi
   cases hxi
   exact .pu _ _ (.sc _))
  refine ⟨cs',?_,f2,f3⟩
  apply run_build
  unfold Program.built
  cases hi:P.info? T with
  | none=>simp [hi] at hz
  | some it =>
   simp [hi] at hz
   unfold placesB at hpl
   cases hu:P.underlying T with
   | none=>simp [hu] at hpl
   | some u =>
    cases u with
    | struct fields =>
     simp only [hu] at hpl
     simp only [hz,hpl]
     simpa using f1
    | _=>simp [hu] at hpl
 refine WV.val (fun G a w ok=>?_) fun G a w ok=>?_
 ·obtain ⟨_,b2⟩:True∧∀ av∈avs,Bd σ.nk av:=⟨trivial,by
   have:∀ (xs:List Operand) (ys:List AV),σ.evs xs=some ys→∀ av∈ys,Bd σ.nk av:=by
    intro xs
    induction xs with
    | nil=>intro ys h av hav;cases h;cases hav
    | cons x r ih =>
     intro ys h av hav
     unfold St.evs at h
     cases h1:σ.ev x with
     | none=>simp [h1] at h
     | some y =>
      cases h2:σ.evs r with
      | none=>simp [h1,h2] at h
      | some l' =>
       simp [h1,h2] at h
       subst h
       rcases List.mem_cons.1 hav with rfl|hav
       ·exact (ok.evr h1).1
       ·exact ih l' h2 av hav
   exact this _ _ hx⟩
  have hfb:∀ (parts:List (Nat×AV)) (cells l:List AV),fillA places cells parts=some l→(∀ x∈parts,Bd σ.nk x.2)→(∀ (i:Nat) x,cells[i]?=some x→Bd σ.nk x)→∀ (i:Nat) x,l[i]?=some x→Bd σ.nk x:=by
   intro parts
   induction parts with
   | nil=>intro cells l h _ hc;cases h;exact hc
   | cons p r ih =>
    intro cells l h hp hc
    obtain ⟨i,av⟩:=p
    unfold fillA at h
    cases hpl:places[i]? with
    | none=>simp [hpl] at h
    | some x =>
     obtain ⟨off,sz⟩:=x
     simp only [hpl] at h
     cases hb:av.cellB && Nat.beq av.cells.length sz && Nat.ble (off+sz) cells.length with
     | false=>rw [hb] at h;cases h
     | true =>
      rw [hb] at h
      simp only [Bool.and_eq_true] at hb
      have b2:=Nat.eq_of_beq_eq_true hb.1.2
      have b3:=Nat.le_of_ble_eq_true hb.2
      refine ih _ _ h (fun x hx=>hp x (by simp [hx])) fun q x hx=>?_
      rw [putL_at (by omega)] at hx
      split at hx
      ·exact cells_bd (hp (i,av) (by simp)) _ x hx
      ·exact hc q x hx
  refine .ag _ (hfb _ _ _ hf (fun x hx=>?_) fun i x hx=>?_)
  ·have:∀ (ps:List (Nat×Operand)) (ys:List AV),x∈pairUp ps ys→x.2∈ys:=by
    intro ps
    induction ps with
    | nil=>intro ys h;cases ys<;>simp [pairUp] at h
    | cons p r ih =>
     intro ys h
     cases ys with
     | nil=>simp [pairUp] at h
     | cons av s =>
      rcases List.mem_cons.1 (by simpa [pairUp] using h) with rfl|h
      ·simp
      ·exact List.mem_cons_of_mem _ (ih s h)
   exact b2 _ (this _ _ hx)
  ·rw [List.getElem?_map] at hx
   cases hq:z.cells.toList[i]? with
   | none=>simp [hq] at hx
   | some u=>simp [hq] at hx;rw [← hx];exact .sc _
 ·obtain ⟨cs,h1,h2,h3⟩:=main G a w ok
  exact ⟨.agg cs,by unfold execOp;simp only [ho,Sem.run_bind,h1,Result.andThen_ok,Sem.run_pure],.ag l cs h2 h3⟩
end
end
section
open Go.RowKit
def gdn(v:Value)(b:Bool):Bool :=
 match vb v with
 | some c=>!(c == b)
 | none=>true
section
variable {P:Program} {C:Cx} {σ σ':St} {G G':Gh} {a:Act} {w w':World} {o oj:Oper} {d d0:Tmp} {ops:Array Oper} {rest:List Oper} {Q:Exit→St→Prop} {j:Nat} {b c:Bool}
theorem WL.opno {v:Value} (hg:o.guard=some (j,b))(hj:ops[j]?=some oj)(hd0:oj.dst=some d0)(hv:look d0 σ.t=some (.sc v))(hb:gdn v b=true)(hds:o.dst=some d)(hd:Nat.blt d C.N=true)(k:WL P C ops rest (σ.put d (.sc undef)) Q):WL P C ops (o::rest) σ Q :=
 WL.opn hg hj hd0 hv (by
  unfold gdn at hb
  cases h:vb v with
  | none=>simp
  | some c=>rw [h] at hb;cases c<;>cases b<;>first|(intro h2;cases h2;done)|cases hb) hds hd k
theorem W.condT {x:Operand} {p q:Code} (hc:σ.ev x=some (.sc (.bool true))) (h:W P C p σ Q):W P C (.cond x p q) σ Q:=W.cond hc (fun _=>h) (fun h=>by cases h)
theorem W.condF {x:Operand} {p q:Code} (hc:σ.ev x=some (.sc (.bool false))) (h:W P C q σ Q):W P C (.cond x p q) σ Q:=W.cond hc (fun h=>by cases h) (fun _=>h)
theorem ev_agree {t:List (Nat×AV)} {M:List (Nat×AO)} {nk:Nat} (H:∀ q∈o.looksAt ops,look q t=look q σ.t) {x:Operand} (hx:x∈o.op.operands.toList):(⟨t,M,nk⟩:St).ev x=σ.ev x:=by
 cases x with
 | tmp q=>exact H q (List.mem_append_left _ (List.mem_filterMap.2 ⟨.tmp q,hx,rfl⟩))
 | const v=>rfl
 | func f=>rfl
 | global g=>rfl
theorem src_same {t:List (Nat×AV)} {nk:Nat} (n:Nat)(av:AV):(⟨t,σ.M,nk⟩:St).src n av=σ.src n av:=by cases av<;>rfl
theorem evs_agree {t:List (Nat×AV)} {M:List (Nat×AO)} {nk:Nat} (H:∀ q∈o.looksAt ops,look q t=look q σ.t):∀ {xs:List Operand},(∀ x∈xs,x∈o.op.operands.toList)→(⟨t,M,nk⟩:St).evs xs=σ.evs xs
 | [],_=>rfl
 | x::r,h=>by
  unfold St.evs
  rw [ev_agree H (h x (by simp)),evs_agree H fun y hy=>h y (by simp [hy])]
theorem DoesM.append {T e n by_ k m:Nat} {z:Value} {i:TypeInfo} {x y:Operand} {rows rows2 rows':List (List AV)} {av2:AV} {M':List (Nat×AO)} {nk':Nat} (hg:o.guard=none) (ho:o.op=.call { callee:=.builtin .append,args:=#[x,y],argTypes:=#[T,T] }) (hT:P.underlying T=some (.slice e))
  (hi:P.info? e=some i) (hz:i.zero=some z) (hn:i.size=n) (hby:i.bytes=by_) (hzs:z.cells.size=n) (h0:Nat.blt 0 n=true) (hds:o.dst=some d) (hd:Nat.blt d C.N=true)
  (hx:σ.ev x=some (.sl k)) (hk:look k σ.M=some (.row e n rows)) (hy:σ.ev y=some av2) (hs:σ.src n av2=some rows2) (hm:σ.nk=m) (hb1:rows.length+rows2.length≤1000000000) (hb2:Nat.ble by_ 100000=true) (hrr:rows++rows2=rows') (hM:(m,.row e n rows')::rem k σ.M=M') (hnk:m+1=nk') :
  DoesM P C ops o σ d (.sl m) M' nk':=by
 subst hM hnk
 refine ⟨hg,fun t H=>?_⟩
 have hmem:∀ q∈[x,y],q∈o.op.operands.toList:=fun q hq=>by rw [ho];simp [Op.operands,Call.operands] at hq ⊢;exact hq
 have:=WO.append (P:=P) (C:=C) (σ:=⟨t,σ.M,σ.nk⟩) ho hT hi hz hn hby hzs h0 hds hd ((ev_agree H (hmem x (by simp))).trans hx) hk ((ev_agree H (hmem y (by simp))).trans hy) ((src_same n av2).trans hs) hm hb1 hb2 hrr
 subst hm
 exact this
theorem DoesM.build {T e n m q:Nat} {z:Value} {parts:Array (Nat×Operand)} {avs:List AV} {rows:List (List AV)} {M':List (Nat×AO)} {nk':Nat} (hg:o.guard=none) (ho:o.op=.buildSlice T m parts) (hT:P.underlying T=some (.slice e)) (hn:sizeB P e=some n) (hz:(P.info? e).bind (·.zero)=some z)
  (hp:numB 0 parts.toList=true) (hm:parts.toList.length=m) (hb:Nat.ble (m*n) 16777216=true) (hb1:Nat.ble m 16777216=true) (hds:o.dst=some d) (hd:Nat.blt d C.N=true) (hx:σ.evs (parts.toList.map (·.2))=some avs) (hck:rowsB n avs=true) (hr:avs.map AV.cells=rows) (hq:σ.nk=q) (hM:(q,.row e n rows)::σ.M=M') (hnk:q+1=nk') :
  DoesM P C ops o σ d (.sl q) M' nk':=by
 subst hM hnk
 refine ⟨hg,fun t H=>?_⟩
 have hmem:∀ x∈parts.toList.map (·.2),x∈o.op.operands.toList:=fun x hx'=>by
  rw [ho]
  simp only [Op.operands]
  exact hx'
 have:=WO.build (P:=P) (C:=C) (σ:=⟨t,σ.M,σ.nk⟩) ho hT hn hz hp hm hb hb1 hds hd ((evs_agree H hmem).trans hx) hck hr hq
 subst hq
 exact this
end
theorem Tr.nilBox {C:Cx} {σ:St} {k j m:Nat} {T':TypeId} {cells cells':List AV} (T:TypeId) (n:Nat) (hk:look k σ.M=some (.box T' cells)) (hj:cells[j]?=some (.sc (.slice none 0 0))) (hm:σ.nk=m) (hc:cells.set j (.sl m)=cells') :
  Tr C σ ((σ.new (.row T n [])).upd k (.box T' cells')):=fun G a w ok=>by
 obtain ⟨G',ok',hsl⟩:=ok.nilRow T n
 subst hm hc
 have hkn:k≠σ.nk:=Nat.ne_of_lt (ok.ob k _ hk).1
 have hk':look k (σ.new (.row T n [])).M=some (.box T' cells):=by
  rw [show look k (σ.new (.row T n [])).M=look k σ.M from look_set_other hkn];exact hk
 obtain ⟨g1,g2,g3,cs,Φ,g4,g5,g6,g7,g8⟩:=ok'.ob k _ hk'
 refine ⟨G',ok'.reob hk' ⟨g1,fun i av x=>?_,g3,cs,Φ,g4,by simpa using g5,g6,g7,fun i av u x y=>?_⟩⟩
 ·rw [List.getElem?_set]at x
  split at x
  ·split at x
   ·cases x;exact .sl _ (Nat.lt_succ_self _)
   ·cases x
  ·exact g2 i av x
 ·by_cases e:j=i
  ·subst e
   have hlt:j<cells.length:=(List.getElem?_eq_some_iff.1 hj).1
   rw [List.getElem?_set_self hlt]at x
   cases x
   have:=((g8 j _ u hj y).r rfl).sc_eq
   rw [this];exact .inl hsl
  ·rw [List.getElem?_set_ne e]at x
   exact g8 i av u x y
theorem callF {P:Program} {f:FuncId} {fn:Func} (h:P.funcs[f]?=some fn)(hn:(fn.name == "runtime.NumGoroutine")=false)(hb:fn.body.isNone=false):∀ vs w,(callFunc f vs).run P w=.ok (.enter f vs) w:=fun vs w=>by
 unfold callFunc
 simp only [Sem.run_bind,run_program,Result.andThen_ok,h,hn,hb,Bool.false_eq_true,if_false]
 rfl
theorem zqc {P:Program} {C:Cx} {o:Oper} {σ:St} {f:FuncId} {fn:Func} {xs:Array Operand} {ts:Array TypeId} {args:List AV} {res:AV} (hf:P.funcs[f]? = some fn) (h:Ctr P f args res) (ho:o.op = .call { callee:=.value (.func f),args:=xs,argTypes:=ts }:=by rfl) (hx:σ.evs xs.toList = some args:=by rfl) (hp:args.all AV.pu2 = true:=by rfl) (hn:(fn.name == "runtime.NumGoroutine") = false:=by rfl) (hb:fn.body.isNone = false:=by rfl):WV P C o σ res:=WV.call ho (callF hf hn hb) hx hp h
theorem fin_cell {P:Program} {fn:Func} {C:Cx} {σ:St} {t:Tmp} {T T':TypeId} {k n:Nat} {cells:List AV} {res:AV} (h:fn.results=#[.cell t T])(hT:aggB P T=some true)(hn:sizeB P T=some n)(ht:look t σ.t=some (.pt k 0 0))(hk:look k σ.M=some (.box T' cells))(hl:cells.length=n)(hr:.ag cells=res)(hp:cells.all AV.pu0=true) :
  QFin P fn C res .ret σ:=by
 refine⟨.inr rfl,fun G a w ok=>?_⟩
 subst hr
 obtain⟨p,ep,p1,p2,p3⟩:=(ok.tm t _ ht).2.2.pt_of
 obtain⟨_,_,g3,cs,Φ,g4,g5,_,_,g6⟩:=ok.ob k _ hk
 obtain rfl:=addr_eq p1 p2 p3
 rw [Nat.zero_mul,Nat.zero_add] at ep
 refine⟨.agg cs,G.F,?_,fun _ _ h=>h,ok.fw,fun _ _ h=>.inl h,.ag _ _ g5 fun i av u x y=>(pu0_bd (List.all_eq_true.1 hp av (List.mem_of_getElem? x)) 0).rp ((g6 i av u x y).r (pu0_own (List.all_eq_true.1 hp av (List.mem_of_getElem? x))))⟩
 unfold aggB at hT
 cases hu:P.underlying T with
 | none=>simp [hu] at hT
 | some d =>
  refine results_cell_row h a.tmps w (G.b k) T' cs (0,0) d ep g4 hu ?_ ?_
  ·rw [hu] at hT;cases d<;>simp_all
  ·have:sizeB P T=some cs.size:=by rw [hn,g5,hl]
   exact this
theorem W.meet {P:Program} {C:Cx} {σ:St} {Q Q2:Exit→St→Prop} {x y:Code} (σm:St)(h:W P C x σ (QThen (fun s=>Tr C s σm) Q))(k:W P C y σm Q2):W P C x σ (QThen (fun s=>W P C y s Q2) Q) :=
 W.mono h fun e s q=>by
  cases e with
  | normal=>exact W.tr q k
  | _=>exact q
end
section
open Go.RowKit
def DK(P:Program)(C:Cx)(ops:Array Oper)(l:List Oper)(σ:St)(Q:Exit→St→Prop):Prop:=∃ σ',DL P C ops l σ σ'∧Q .normal σ'
section
variable {P:Program} {C:Cx} {σ:St} {ops:Array Oper} {l rest:List Oper} {o:Oper} {d:Tmp} {av:AV} {Q:Exit→St→Prop}
theorem W.drawK {id:Nat} (hm:P.follows .mixedOrders=true)(hB:Region.lexB .any l.toArray=true)(h:DK P C l.toArray l σ Q):W P C (.region id l.toArray true) σ Q :=
 let⟨_,a,b⟩:=h;W.draw hm hB a b
theorem DK.nil(k:Q .normal σ):DK P C ops [] σ Q:=⟨σ,.nil σ,k⟩
theorem DK.op (hd:o.dst=some d)(hN:Nat.blt d C.N=true)(h:Does P C ops o σ av)(k:DK P C ops rest (σ.put d av) Q):DK P C ops (o::rest) σ Q :=
 let⟨s,a,b⟩:=k;⟨s,.op o rest d av σ s hd hN h a,b⟩
theorem DK.val (hd:o.dst=some d) (hN:Nat.blt d C.N=true) (hg:guardK ops o (σ.only (o.looksAt ops))=some true) (h:WV P C o (σ.only (o.looksAt ops)) av) (k:DK P C ops rest (σ.put d av) Q):DK P C ops (o::rest) σ Q:=DK.op hd hN (.inl ⟨hg,h⟩) k
theorem DK.no (hd:o.dst=some d) (hN:Nat.blt d C.N=true) (hg:guardK ops o (σ.only (o.looksAt ops))=some false) (k:DK P C ops rest (σ.put d (.sc undef)) Q):DK P C ops (o::rest) σ Q:=DK.op hd hN (.inr ⟨hg,rfl⟩) k
variable {mem:List Bool} {Mc:List (Nat×AO)} {nk0 k:Nat}
end
end
section
open Go.RowKit
def eStp (x:Stp):List AV:=[.sc (.int .i64 x.1),.sc (.int .i64 x.2.1),.sc (.int .i64 x.2.2.1),.sc (.int .i64 x.2.2.2.1),.sc (.int .i64 x.2.2.2.2)]
def eStps (l:List Stp):AV:=.ls 5 (l.map eStp)
def eEv (e:Ev):List AV:=[.sc (.bool e.bar),.sc (.int .i64 e.val),.sc (.bool e.dot),.sc (.bool e.three),.sc (.bool e.tie),eStps e.stops]
def eCrs (x:Int×Int×Bool):List AV:=[.sc (.int .i64 x.1),.sc (.int .i64 x.2.1),.sc (.bool x.2.2)]
def eInt (x:Int):List AV:=[.sc (.int .i64 x)]
def eIns (cs:List (Int×Int×Bool))(st:List Int):List AV:=[.ls 3 (cs.map eCrs),.ls 1 (st.map eInt)]
def ePce (p:Pce):AV:=.ag [.ls 3 (p.cs.map eCrs),.ls 1 (p.st.map eInt),.ls 6 (p.evs.map eEv)]
theorem map_at {α β:Type} {f:α→β} {l:List α} {k:Nat} (h:k<l.length):(l.map f)[((k:Nat):Int).toNat]?=some (f l[k]):=by rw [Int.toNat_natCast];simp [h]
theorem map_atZ {α β:Type} {f:α→β} {l:List α} {z:Int} (h0:0≤z)(h:z<l.length):(l.map f)[z.toNat]?=some (f (l[z.toNat]'(by omega))):=by
 have:z.toNat<l.length:=by omega
 simp [this]
theorem zqm {α:Type} {l:List α} {i:Nat} {x:Option α} (h:l[i]? = x:=by first|exact map_at (by omega)|exact map_atZ (by omega) (by omega)):l[i]? = x:=h
theorem take_map_succ {α β:Type} {f:α→β} {l:List α} {k:Nat} (h:k<l.length):(l.take k).map f++[f l[k]]=(l.take (k+1)).map f:=by
 rw [List.take_succ_eq_append_getElem h,List.map_append];rfl
theorem bd_all {l:List AV} (h:l.all AV.pu2=true):∀ (i:Nat) av,l[i]?=some av→Bd 0 av:=fun i av x=>pu2_bd (List.all_eq_true.1 h av (List.mem_of_getElem? x)) 0
theorem zqe {P:Program} {f:FuncId} {fn:Func} {c:Code} {args:List AV} {res:AV} (hf:P.funcs[f]? = some fn) {N:Nat} (hN:fn.ntmps = N) (h:∀ w0 F0,W P ⟨w0,F0,N,fun _ => False,0,G0,[]⟩ c (St.init args) (QFin P fn ⟨w0,F0,N,fun _ => False,0,G0,[]⟩ res)) (hb:fn.body = some c:=by rfl) (hn:args.length ≤ N:=by exact Nat.le_of_ble_eq_true rfl) (hp:args.all AV.pu2 = true:=by rfl):Ctr P f args res:=Ctr.intro hf hb hN hn (bd_all hp) h
theorem fin1 {P:Program} {fn:Func} {C:Cx} {σ:St} {t:Tmp} {av res:AV} (h:fn.results=#[.tmp t]) (ht:look t σ.t=some av) (he:av=res) (hp:res.pu2=true):QFin P fn C res .ret σ :=
 ⟨.inr rfl,Fin.one h (he ▸ ht) (pu2_bd hp 0)⟩
theorem zqr {P:Program} {fn:Func} {C:Cx} {σ:St} {t:Tmp} {av res:AV} (h:fn.results = #[.tmp t]:=by rfl) (ht:look t σ.t = some av:=by rfl) (he:av = res:=by rfl) (hp:res.pu2 = true:=by rfl):QFin P fn C res .ret σ:=fin1 h ht he hp
theorem fin2 {P:Program} {fn:Func} {C:Cx} {σ:St} {t u:Tmp} {a1 a2 r1 r2:AV} (h:fn.results=#[.tmp t,.tmp u]) (h1:look t σ.t=some a1) (h2:look u σ.t=some a2) (e1:a1=r1) (e2:a2=r2) (p1:r1.pu2=true) (p2:r2.pu2=true):QFin P fn C (.tu [r1,r2]) .ret σ :=
 ⟨.inr rfl,Fin.two h (e1 ▸ h1) (e2 ▸ h2) (pu2_bd p1 0) (pu2_bd p2 0)⟩
theorem sc_bool {a b:Bool} (h:a=b):AV.sc (.bool a)=.sc (.bool b):=by rw [h]
end
section
def rR(s n:Int):List UInt8:=if n=1∧s≠3 then [46]else if n=2∧s=1 then [58]else if n=3∧s=1 then [39]else []
def rG(s n:Int):List UInt8 :=
 if s=1∧1≤n∧n≤4 then cut [44,94,35,40] (n-1) n else if s=2∧n=1 then [116] else if(s=2∨s=4)∧n=3 then [35] else []
def rH(s n L:Int):List UInt8:=if s=1 then 95::dig2 n.toNat else if(s=2∨s=4)∧n=L then [42]else []
def pH(s n L:Int):List UInt8:=if n=0 then []else rH s n L
def okR(s n:Int):Bool:=n == 0|| !(rR s n).isEmpty
def okG(s n:Int):Bool:=n == 0|| !(rG s n).isEmpty
def okH(s n L:Int):Bool:=n == 0|| !(rH s n L).isEmpty
def cellS(s c f r g h L:Int):List UInt8:=pS s c f++rR s r++rG s g++pH s h L
def cellOk(s c f r g h L:Int):Bool:=pOk s c f && okR s r && okG s g && okH s h L
theorem rR_len(s n:Int):(rR s n).length≤1:=by
 unfold rR;split
 ·decide
 ·split
  ·decide
  ·split<;>decide
theorem rG_len(s n:Int):(rG s n).length≤4:=by
 unfold rG;split
 ·exact cut_length _ _ _
 ·split
  ·decide
  ·split<;>decide
theorem dig2_len(n:Nat):(dig2 n).length≤2:=by unfold dig2;split<;>simp
theorem rH_len(s n L:Int):(rH s n L).length≤3:=by
 unfold rH;split
 ·have:=dig2_len n.toNat;simp;omega
 ·split<;>decide
theorem pH_len(s n L:Int):(pH s n L).length≤3:=by
 unfold pH;split
 ·decide
 ·exact rH_len s n L
theorem symLenAll:((List.range' 1 4).all fun s=>(List.range' 1 14).all fun c=>(List.range 19).all fun f=>decide ((pS (s:Nat) (c:Nat) (f:Nat)).length≤4∧(rS (s:Nat) (c:Nat) (f:Nat)).length≤4))=true:=by
 decide +kernel
theorem pS_len (s c f:Int)(hs:1≤s∧s≤4)(hc:1≤c∧c≤14)(hf:0≤f∧f≤18):(pS s c f).length≤4∧(rS s c f).length≤4:=by
 obtain⟨s,rfl⟩:=Int.eq_ofNat_of_zero_le (show 0≤s by omega)
 obtain⟨c,rfl⟩:=Int.eq_ofNat_of_zero_le (show 0≤c by omega)
 obtain⟨f,rfl⟩:=Int.eq_ofNat_of_zero_le hf.1
 have h:=symLenAll
 rw [List.all_eq_true]at h
 have h1:=h s (List.mem_range'_1.2 zqo)
 rw [List.all_eq_true]at h1
 have h2:=h1 c (List.mem_range'_1.2 zqo)
 rw [List.all_eq_true]at h2
 exact of_decide_eq_true (h2 f (List.mem_range.2 zqo))
end
end Go.Proofs.YtockempedekkkaaGreatDoor
