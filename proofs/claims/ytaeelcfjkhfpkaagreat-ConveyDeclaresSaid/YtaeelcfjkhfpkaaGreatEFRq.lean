/- A walk that knows values as trees: regions that draw their order, walked one operation after the other. -/
import Derived.Test.YtaeelcfjkhfpkaaGreatECRq
set_option linter.unusedVariables false
set_option linter.unusedSimpArgs false
namespace Go.Proofs.YtaeelcfjkhfpkaaGreat
section
open Go.RowKit
def placesB (P:Program)(T:TypeId):Option (List (Nat×Nat)) :=
 match P.underlying T with
 | some (.struct fields)=>fields.toList.mapM fun f=>(P.info? f.type).map fun i=>(f.offset,i.size)
 | _=>none
def fillA (places:List (Nat×Nat)):List AV→List (Nat×AV)→Option (List AV)
 | cells,[]=>some cells
 | cells,(i,av)::r =>
  match places[i]? with
  | some (off,sz)=>bif av.cellB && Nat.beq av.cells.length sz && Nat.ble (off+sz) cells.length then fillA places (putL off av.cells cells) r else none
  | none=>none
def pairUp:List (Nat×Operand)→List AV→List (Nat×AV)
 | (i,_)::r,av::s=>(i,av)::pairUp r s
 | _,_=>[]
section
variable {P:Program} {C:Cx} {σ σ':St} {G G':Gh} {a:Act} {w w':World} {o:Oper} {d:Tmp} {ops:Array Oper} {Q:Exit→St→Prop}
theorem fillA_of {places:List (Nat×Nat)}:∀ (parts:List (Nat×AV)) (vals:List (Nat×Value)) (cells:List AV) (cs:Array Value) (l:List AV),fillA places cells parts=some l→vals.length=parts.length →
  (∀ (q:Nat) x y,parts[q]?=some x→vals[q]?=some y→y.1=x.1∧R G x.2 y.2)→cs.size=cells.length→(∀ (i:Nat) x u,cells[i]?=some x→cs[i]?=some u→R G x u) →
  ∃ cs',Instr.fill (places.toArray[·]?) cs vals=some cs'∧cs'.size=l.length∧∀ (i:Nat) x u,l[i]?=some x→cs'[i]?=some u→R G x u
 | [],vals,cells,cs,l,h,hl,_,hs,hc=>by
  cases h
  have:vals=[]:=List.eq_nil_of_length_eq_zero hl
  subst this
  exact ⟨cs,rfl,hs,hc⟩
 | (i,av)::r,[],cells,cs,l,h,hl,_,hs,hc=>by cases hl
 | (i,av)::r,(j,v)::vr,cells,cs,l,h,hl,hp,hs,hc=>by
  obtain ⟨e1,e2⟩:=hp 0 _ _ rfl rfl
  simp only at e1 e2
  subst e1
  unfold fillA at h
  cases hpl:places[j]? with
  | none=>simp [hpl] at h
  | some x =>
   obtain ⟨off,sz⟩:=x
   simp only [hpl] at h
   cases hb:av.cellB && Nat.beq av.cells.length sz && Nat.ble (off+sz) cells.length with
   | false=>rw [hb] at h;cases h
   | true =>
    rw [hb] at h
    simp only [cond_true] at h
    simp only [Bool.and_eq_true] at hb
    obtain ⟨⟨b1,b2⟩,b3⟩:=hb
    have b2:=Nat.eq_of_beq_eq_true b2
    have b3:=Nat.le_of_ble_eq_true b3
    obtain ⟨c1,c2⟩:=cells_of e2 b1
    have hfit:off+v.cells.toList.length≤cs.size:=by rw [hs];simp [c1,b2];omega
    have hfit2:off+av.cells.length≤cells.length:=by omega
    obtain ⟨cs',f1,f2,f3⟩:=fillA_of r vr (putL off av.cells cells) (putL off v.cells.toList cs.toList).toArray l h (by simpa using hl) (fun q x y a b=>hp (q+1) x y (by simpa using a) (by simpa using b))
     (by rw [List.size_toArray,putL_len (by simpa using hfit),putL_len hfit2];simpa using hs)
     (fun q x u a b=>putL_rel (R G) hfit2 (by rw [Array.length_toList];exact c1) (by rw [Array.length_toList];exact hs) (fun q x y a b=>c2 q x y a (by simpa using b)) (fun q x y a b=>hc q x y a (by simpa using b)) q x u a (by simpa using b))
    refine ⟨cs',?_,f2,f3⟩
    have hf:=fold_put v.cells.toList off cs hfit
    have e:(v.cells.zipIdx.foldl (fun cs (c,j)=>cs.setIfInBounds (off+j) c) cs)=(putL off v.cells.toList cs.toList).toArray:=by
     apply Array.ext'
     rw [← Array.foldl_toList,Array.toList_zipIdx,hf]
    have hpl':places.toArray[j]?=some (off,sz):=by simpa using hpl
    show (match places.toArray[j]? with|none=>none|some (off,sz)=>if v.cells.size≠sz|| off+v.cells.size > cs.size then none else Instr.fill _ _ vr)=_
    rw [hpl']
    simp only
    have hbad:(v.cells.size≠sz|| off+v.cells.size > cs.size)=false:=by
     rw [c1,b2];simp;rw [hs];omega
    rw [hbad]
    simp only [Bool.false_eq_true,if_false]
    rw [e];exact f1
theorem WV.build {T:TypeId} {parts:Array (Nat×Operand)} {z:Value} {places:List (Nat×Nat)} {avs l:List AV} (ho:o.op=.build T parts) (hz:(P.info? T).bind (·.zero)=some z) (hpl:placesB P T=some places)
  (hx:σ.evs (parts.toList.map (·.2))=some avs) (hf:fillA places (z.cells.toList.map .sc) (pairUp parts.toList avs)=some l):WV P C o σ (.ag l):=by
 have main:∀ G a w,Ok C σ G a w→∃ cs,(Instr.build T (parts.map fun (i,x)=>(i,a.eval x))).run P w=.ok (.agg cs) w∧cs.size=l.length∧∀ (i:Nat) x u,l[i]?=some x→cs[i]?=some u→R G x u:=by
  intro G a w ok
  obtain ⟨e1,e2⟩:=ok.evl hx
  have hlen:avs.length=parts.toList.length:=by simpa using e1.symm
  have hpu:∀ (ps:List (Nat×Operand)) (ys:List AV),ys.length=ps.length→(pairUp ps ys).length=ps.length∧∀ (q:Nat) x,(pairUp ps ys)[q]?=some x→∃ p av,ps[q]?=some p∧ys[q]?=some av∧x=(p.1,av):=by
   intro ps
   induction ps with
   | nil=>intro ys h;exact ⟨by cases ys<;>rfl,fun q x hx=>by cases ys<;>simp [pairUp] at hx⟩
   | cons p r ih =>
    intro ys h
    cases ys with
    | nil=>simp at h
    | cons av s =>
     obtain ⟨h1,h2⟩:=ih s (by simpa using h)
     refine ⟨by simp [pairUp,h1],fun q x hx=>?_⟩
     cases q with
     | zero=>cases hx;exact ⟨p,av,rfl,rfl,rfl⟩
     | succ q=>exact h2 q x (by simpa [pairUp] using hx)
  obtain ⟨p1,p2⟩:=hpu parts.toList avs hlen
  obtain ⟨cs',f1,f2,f3⟩:=fillA_of (G:=G) (pairUp parts.toList avs) (parts.toList.map fun (i,x)=>(i,a.eval x)) _ z.cells l hf (by simp [p1]) (fun q x y hxq hy=>by
   obtain ⟨p,av,q1,q2,rfl⟩:=p2 q x hxq
   rw [List.getElem?_map,q1] at hy
   simp at hy
   subst hy
   exact ⟨rfl,e2 q av _ q2 (by rw [List.map_map,List.getElem?_map,q1];rfl)⟩) (by simp) (fun i x u hxi hu=>by
   rw [List.getElem?_map,show z.cells.toList[i]?=z.cells[i]? by simp,hu] at hxi
   cases hxi
   exact .pu _ _ (.sc _))
  refine ⟨cs',?_,f2,f3⟩
  apply run_build
  unfold Program.built
  cases hi:P.info? T with
  | none=>simp [hi] at hz
  | some it =>
   simp [hi] at hz
   unfold placesB at hpl
   cases hu:P.underlying T with
   | none=>simp [hu] at hpl
   | some u =>
    cases u with
    | struct fields =>
     simp only [hu] at hpl
     simp only [hz,hpl]
     simpa using f1
    | _=>simp [hu] at hpl
 refine WV.val (fun G a w ok=>?_) fun G a w ok=>?_
 ·obtain ⟨_,b2⟩:True∧∀ av∈avs,Bd σ.nk av:=⟨trivial,by
   have:∀ (xs:List Operand) (ys:List AV),σ.evs xs=some ys→∀ av∈ys,Bd σ.nk av:=by
    intro xs
    induction xs with
    | nil=>intro ys h av hav;cases h;cases hav
    | cons x r ih =>
     intro ys h av hav
     unfold St.evs at h
     cases h1:σ.ev x with
     | none=>simp [h1] at h
     | some y =>
      cases h2:σ.evs r with
      | none=>simp [h1,h2] at h
      | some l' =>
       simp [h1,h2] at h
       subst h
       rcases List.mem_cons.1 hav with rfl|hav
       ·exact (ok.evr h1).1
       ·exact ih l' h2 av hav
   exact this _ _ hx⟩
  have hfb:∀ (parts:List (Nat×AV)) (cells l:List AV),fillA places cells parts=some l→(∀ x∈parts,Bd σ.nk x.2)→(∀ (i:Nat) x,cells[i]?=some x→Bd σ.nk x)→∀ (i:Nat) x,l[i]?=some x→Bd σ.nk x:=by
   intro parts
   induction parts with
   | nil=>intro cells l h _ hc;cases h;exact hc
   | cons p r ih =>
    intro cells l h hp hc
    obtain ⟨i,av⟩:=p
    unfold fillA at h
    cases hpl:places[i]? with
    | none=>simp [hpl] at h
    | some x =>
     obtain ⟨off,sz⟩:=x
     simp only [hpl] at h
     cases hb:av.cellB && Nat.beq av.cells.length sz && Nat.ble (off+sz) cells.length with
     | false=>rw [hb] at h;cases h
     | true =>
      rw [hb] at h
      simp only [Bool.and_eq_true] at hb
      have b2:=Nat.eq_of_beq_eq_true hb.1.2
      have b3:=Nat.le_of_ble_eq_true hb.2
      refine ih _ _ h (fun x hx=>hp x (by simp [hx])) fun q x hx=>?_
      rw [putL_at (by omega)] at hx
      split at hx
      ·exact cells_bd (hp (i,av) (by simp)) _ x hx
      ·exact hc q x hx
  refine .ag _ (hfb _ _ _ hf (fun x hx=>?_) fun i x hx=>?_)
  ·have:∀ (ps:List (Nat×Operand)) (ys:List AV),x∈pairUp ps ys→x.2∈ys:=by
    intro ps
    induction ps with
    | nil=>intro ys h;cases ys<;>simp [pairUp] at h
    | cons p r ih =>
     intro ys h
     cases ys with
     | nil=>simp [pairUp] at h
     | cons av s =>
      rcases List.mem_cons.1 (by simpa [pairUp] using h) with rfl|h
      ·simp
      ·exact List.mem_cons_of_mem _ (ih s h)
   exact b2 _ (this _ _ hx)
  ·rw [List.getElem?_map] at hx
   cases hq:z.cells.toList[i]? with
   | none=>simp [hq] at hx
   | some u=>simp [hq] at hx;rw [← hx];exact .sc _
 ·obtain ⟨cs,h1,h2,h3⟩:=main G a w ok
  exact ⟨.agg cs,by unfold execOp;simp only [ho,Sem.run_bind,h1,Result.andThen_ok,Sem.run_pure],.ag l cs h2 h3⟩
end
end
section
open Go.RowKit
def gdn(v:Value)(b:Bool):Bool :=
 match vb v with
 | some c=>!(c == b)
 | none=>true
section
variable {P:Program} {C:Cx} {σ σ':St} {G G':Gh} {a:Act} {w w':World} {o oj:Oper} {d d0:Tmp} {ops:Array Oper} {rest:List Oper} {Q:Exit→St→Prop} {j:Nat} {b c:Bool}
theorem WL.opno {v:Value} (hg:o.guard=some (j,b))(hj:ops[j]?=some oj)(hd0:oj.dst=some d0)(hv:look d0 σ.t=some (.sc v))(hb:gdn v b=true)(hds:o.dst=some d)(hd:Nat.blt d C.N=true)(k:WL P C ops rest (σ.put d (.sc undef)) Q):WL P C ops (o::rest) σ Q :=
 WL.opn hg hj hd0 hv (by
  unfold gdn at hb
  cases h:vb v with
  | none=>simp
  | some c=>rw [h] at hb;cases c<;>cases b<;>first|(intro h2;cases h2;done)|cases hb) hds hd k
theorem WL.partG (hg:o.guard=some (j,b)) (hj:ops[j]?=some oj) (hd0:oj.dst=some d0) (hv:look d0 σ.t=some (.sc (.bool c))) (h1:c=true→WL P C ops (o::rest) (σ.put d0 (.sc (.bool true))) Q) (h2:c=false→WL P C ops (o::rest) (σ.put d0 (.sc (.bool false))) Q):WL P C ops (o::rest) σ Q :=
 WL.part hv h1 h2
theorem W.condT {x:Operand} {p q:Code} (hc:σ.ev x=some (.sc (.bool true))) (h:W P C p σ Q):W P C (.cond x p q) σ Q:=W.cond hc (fun _=>h) (fun h=>by cases h)
theorem W.condF {x:Operand} {p q:Code} (hc:σ.ev x=some (.sc (.bool false))) (h:W P C q σ Q):W P C (.cond x p q) σ Q:=W.cond hc (fun h=>by cases h) (fun _=>h)
theorem ev_agree {t:List (Nat×AV)} {M:List (Nat×AO)} {nk:Nat} (H:∀ q∈o.looksAt ops,look q t=look q σ.t) {x:Operand} (hx:x∈o.op.operands.toList):(⟨t,M,nk⟩:St).ev x=σ.ev x:=by
 cases x with
 | tmp q=>exact H q (List.mem_append_left _ (List.mem_filterMap.2 ⟨.tmp q,hx,rfl⟩))
 | const v=>rfl
 | func f=>rfl
 | global g=>rfl
theorem src_same {t:List (Nat×AV)} {nk:Nat} (n:Nat)(av:AV):(⟨t,σ.M,nk⟩:St).src n av=σ.src n av:=by cases av<;>rfl
theorem evs_agree {t:List (Nat×AV)} {M:List (Nat×AO)} {nk:Nat} (H:∀ q∈o.looksAt ops,look q t=look q σ.t):∀ {xs:List Operand},(∀ x∈xs,x∈o.op.operands.toList)→(⟨t,M,nk⟩:St).evs xs=σ.evs xs
 | [],_=>rfl
 | x::r,h=>by
  unfold St.evs
  rw [ev_agree H (h x (by simp)),evs_agree H fun y hy=>h y (by simp [hy])]
theorem DoesM.append {T e n by_ k m:Nat} {z:Value} {i:TypeInfo} {x y:Operand} {rows rows2 rows':List (List AV)} {av2:AV} {M':List (Nat×AO)} {nk':Nat} (hg:o.guard=none) (ho:o.op=.call { callee:=.builtin .append,args:=#[x,y],argTypes:=#[T,T] }) (hT:P.underlying T=some (.slice e))
  (hi:P.info? e=some i) (hz:i.zero=some z) (hn:i.size=n) (hby:i.bytes=by_) (hzs:z.cells.size=n) (h0:Nat.blt 0 n=true) (hds:o.dst=some d) (hd:Nat.blt d C.N=true)
  (hx:σ.ev x=some (.sl k)) (hk:look k σ.M=some (.row e n rows)) (hy:σ.ev y=some av2) (hs:σ.src n av2=some rows2) (hm:σ.nk=m) (hb1:rows.length+rows2.length≤1000000000) (hb2:Nat.ble by_ 100000=true) (hrr:rows++rows2=rows') (hM:(m,.row e n rows')::rem k σ.M=M') (hnk:m+1=nk') :
  DoesM P C ops o σ d (.sl m) M' nk':=by
 subst hM hnk
 refine ⟨hg,fun t H=>?_⟩
 have hmem:∀ q∈[x,y],q∈o.op.operands.toList:=fun q hq=>by rw [ho];simp [Op.operands,Call.operands] at hq ⊢;exact hq
 have:=WO.append (P:=P) (C:=C) (σ:=⟨t,σ.M,σ.nk⟩) ho hT hi hz hn hby hzs h0 hds hd ((ev_agree H (hmem x (by simp))).trans hx) hk ((ev_agree H (hmem y (by simp))).trans hy) ((src_same n av2).trans hs) hm hb1 hb2 hrr
 subst hm
 exact this
theorem DoesM.build {T e n m q:Nat} {z:Value} {parts:Array (Nat×Operand)} {avs:List AV} {rows:List (List AV)} {M':List (Nat×AO)} {nk':Nat} (hg:o.guard=none) (ho:o.op=.buildSlice T m parts) (hT:P.underlying T=some (.slice e)) (hn:sizeB P e=some n) (hz:(P.info? e).bind (·.zero)=some z)
  (hp:numB 0 parts.toList=true) (hm:parts.toList.length=m) (hb:Nat.ble (m*n) 16777216=true) (hb1:Nat.ble m 16777216=true) (hds:o.dst=some d) (hd:Nat.blt d C.N=true) (hx:σ.evs (parts.toList.map (·.2))=some avs) (hck:rowsB n avs=true) (hr:avs.map AV.cells=rows) (hq:σ.nk=q) (hM:(q,.row e n rows)::σ.M=M') (hnk:q+1=nk') :
  DoesM P C ops o σ d (.sl q) M' nk':=by
 subst hM hnk
 refine ⟨hg,fun t H=>?_⟩
 have hmem:∀ x∈parts.toList.map (·.2),x∈o.op.operands.toList:=fun x hx'=>by
  rw [ho]
  simp only [Op.operands]
  exact hx'
 have:=WO.build (P:=P) (C:=C) (σ:=⟨t,σ.M,σ.nk⟩) ho hT hn hz hp hm hb hb1 hds hd ((evs_agree H hmem).trans hx) hck hr hq
 subst hq
 exact this
end
theorem Tr.nilBox {C:Cx} {σ:St} {k j m:Nat} {T':TypeId} {cells cells':List AV} (T:TypeId) (n:Nat) (hk:look k σ.M=some (.box T' cells)) (hj:cells[j]?=some (.sc (.slice none 0 0))) (hm:σ.nk=m) (hc:cells.set j (.sl m)=cells') :
  Tr C σ ((σ.new (.row T n [])).upd k (.box T' cells')):=fun G a w ok=>by
 obtain ⟨G',ok',hsl⟩:=ok.nilRow T n
 subst hm hc
 have hkn:k≠σ.nk:=Nat.ne_of_lt (ok.ob k _ hk).1
 have hk':look k (σ.new (.row T n [])).M=some (.box T' cells):=by
  rw [show look k (σ.new (.row T n [])).M=look k σ.M from look_set_other hkn];exact hk
 obtain ⟨g1,g2,g3,cs,Φ,g4,g5,g6,g7,g8⟩:=ok'.ob k _ hk'
 refine ⟨G',ok'.reob hk' ⟨g1,fun i av x=>?_,g3,cs,Φ,g4,by simpa using g5,g6,g7,fun i av u x y=>?_⟩⟩
 ·rw [List.getElem?_set]at x
  split at x
  ·split at x
   ·cases x;exact .sl _ (Nat.lt_succ_self _)
   ·cases x
  ·exact g2 i av x
 ·by_cases e:j=i
  ·subst e
   have hlt:j<cells.length:=(List.getElem?_eq_some_iff.1 hj).1
   rw [List.getElem?_set_self hlt]at x
   cases x
   have:=((g8 j _ u hj y).r rfl).sc_eq
   rw [this];exact .inl hsl
  ·rw [List.getElem?_set_ne e]at x
   exact g8 i av u x y
theorem callF {P:Program} {f:FuncId} {fn:Func} (h:P.funcs[f]?=some fn)(hn:(fn.name == "runtime.NumGoroutine")=false)(hb:fn.body.isNone=false):∀ vs w,(callFunc f vs).run P w=.ok (.enter f vs) w:=fun vs w=>by
 unfold callFunc
 simp only [Sem.run_bind,run_program,Result.andThen_ok,h,hn,hb,Bool.false_eq_true,if_false]
 rfl
theorem zqc {P:Program} {C:Cx} {o:Oper} {σ:St} {f:FuncId} {fn:Func} {xs:Array Operand} {ts:Array TypeId} {args:List AV} {res:AV} (hf:P.funcs[f]? = some fn) (h:Ctr P f args res) (ho:o.op = .call { callee:=.value (.func f),args:=xs,argTypes:=ts }:=by rfl) (hx:σ.evs xs.toList = some args:=by rfl) (hp:args.all AV.pu2 = true:=by rfl) (hn:(fn.name == "runtime.NumGoroutine") = false:=by rfl) (hb:fn.body.isNone = false:=by rfl):WV P C o σ res:=WV.call ho (callF hf hn hb) hx hp h
theorem fin_cell {P:Program} {fn:Func} {C:Cx} {σ:St} {t:Tmp} {T T':TypeId} {k n:Nat} {cells:List AV} {res:AV} (h:fn.results=#[.cell t T])(hT:aggB P T=some true)(hn:sizeB P T=some n)(ht:look t σ.t=some (.pt k 0 0))(hk:look k σ.M=some (.box T' cells))(hl:cells.length=n)(hr:.ag cells=res)(hp:cells.all AV.pu0=true) :
  QFin P fn C res .ret σ:=by
 refine⟨.inr rfl,fun G a w ok=>?_⟩
 subst hr
 obtain⟨p,ep,p1,p2,p3⟩:=(ok.tm t _ ht).2.2.pt_of
 obtain⟨_,_,g3,cs,Φ,g4,g5,_,_,g6⟩:=ok.ob k _ hk
 obtain rfl:=addr_eq p1 p2 p3
 rw [Nat.zero_mul,Nat.zero_add] at ep
 refine⟨.agg cs,G.F,?_,fun _ _ h=>h,ok.fw,fun _ _ h=>.inl h,.ag _ _ g5 fun i av u x y=>(pu0_bd (List.all_eq_true.1 hp av (List.mem_of_getElem? x)) 0).rp ((g6 i av u x y).r (pu0_own (List.all_eq_true.1 hp av (List.mem_of_getElem? x))))⟩
 unfold aggB at hT
 cases hu:P.underlying T with
 | none=>simp [hu] at hT
 | some d =>
  refine results_cell_row h a.tmps w (G.b k) T' cs (0,0) d ep g4 hu ?_ ?_
  ·rw [hu] at hT;cases d<;>simp_all
  ·have:sizeB P T=some cs.size:=by rw [hn,g5,hl]
   exact this
theorem letsOut_mono {Q Q':Exit→Act→World→Prop} (h:∀ e a w,Q e a w→Q' e a w)(k:LetsOut Q):LetsOut Q':=let⟨a,w,q⟩:=k;⟨a,w,h _ a w q⟩
theorem wp_monoQ {P:Program} {o:Oper} {a:Act} {w:World} {K K':Act→World→Prop} {Q Q':Exit→Act→World→Prop} (hk:∀ a w,K a w→K' a w)(hq:∀ e a w,Q e a w→Q' e a w)(h:o.wp P a w K Q):o.wp P a w K' Q':=by
 unfold Oper.wp at *
 generalize(execOp a.eval o).run P w=r at *
 cases r with
 | ok n w' =>
  cases n<;>simp only [Oper.upon]at h ⊢
  case value v=>exact hk _ _ h
  case skip=>exact hk _ _ h
  case defer d=>exact hk _ _ h
  case enter f args =>
   refine h.mono fun e w'' x=>?_
   cases e with
   | returned v=>exact hk _ _ x
   | panicked c=>exact hq _ _ _ x
   | outgrown=>exact letsOut_mono hq x
  case row r args=>exact h.mono fun v w'' x=>hk _ _ x
 | halt x w' =>
  cases x<;>simp only [Oper.upon]at h ⊢
  exact hq _ _ _ h
theorem wpList_mono' {P:Program} {ops:Array Oper} {Q Q':Exit→Act→World→Prop}:∀ {l:List Oper} {a:Act} {w:World},wpList P ops Q l a w→(∀ e a w,Q e a w→Q' e a w)→wpList P ops Q' l a w
 | [],a,w,h,hq=>hq _ _ _ h
 | o::rest,a,w,h,hq=>by
  unfold wpList at *
  split at h
  ·rename_i hw
   rw [if_pos hw]
   rcases h with h|⟨h1,h2⟩
   ·exact .inl (wp_monoQ (fun a w x=>wpList_mono' x hq) hq h)
   ·exact .inr ⟨h1,letsOut_mono hq h2⟩
  ·rename_i hw
   rw [if_neg hw]
   exact wpList_mono' h hq
theorem W.meet {P:Program} {C:Cx} {σ:St} {Q Q2:Exit→St→Prop} {x y:Code} (σm:St)(h:W P C x σ (QThen (fun s=>Tr C s σm) Q))(k:W P C y σm Q2):W P C x σ (QThen (fun s=>W P C y s Q2) Q) :=
 W.mono h fun e s q=>by
  cases e with
  | normal=>exact W.tr q k
  | _=>exact q
theorem WL.meet2 {P:Program} {C:Cx} {σ:St} {ops:Array Oper} {l:List Oper} {Q Q1 Q2:Exit→St→Prop} {x y:Code} (σm:St)(h:WL P C ops l σ (QThen (fun s=>W P C x s (QThen (fun s=>Tr C s σm) Q)) Q1))(k:W P C y σm Q2) :
  WL P C ops l σ (QThen (fun s=>W P C x s (QThen (fun s=>W P C y s Q2) Q)) Q1):=fun G a w ok =>
 wpList_mono' (h G a w ok) fun e a w⟨s,g,q,o⟩=>⟨s,g,by
  cases e with
  | normal=>exact W.meet σm q k
  | _=>exact q,o⟩
end
section
open Go.RowKit
def DK(P:Program)(C:Cx)(ops:Array Oper)(l:List Oper)(σ:St)(Q:Exit→St→Prop):Prop:=∃ σ',DL P C ops l σ σ'∧Q .normal σ'
section
variable {P:Program} {C:Cx} {σ:St} {ops:Array Oper} {l rest:List Oper} {o:Oper} {d:Tmp} {av:AV} {Q:Exit→St→Prop}
theorem W.drawK {id:Nat} (hm:P.follows .mixedOrders=true)(hB:Region.lexB .any l.toArray=true)(h:DK P C l.toArray l σ Q):W P C (.region id l.toArray true) σ Q :=
 let⟨_,a,b⟩:=h;W.draw hm hB a b
theorem DK.nil(k:Q .normal σ):DK P C ops [] σ Q:=⟨σ,.nil σ,k⟩
theorem DK.op (hd:o.dst=some d)(hN:Nat.blt d C.N=true)(h:Does P C ops o σ av)(k:DK P C ops rest (σ.put d av) Q):DK P C ops (o::rest) σ Q :=
 let⟨s,a,b⟩:=k;⟨s,.op o rest d av σ s hd hN h a,b⟩
theorem DK.val (hd:o.dst=some d) (hN:Nat.blt d C.N=true) (hg:guardK ops o (σ.only (o.looksAt ops))=some true) (h:WV P C o (σ.only (o.looksAt ops)) av) (k:DK P C ops rest (σ.put d av) Q):DK P C ops (o::rest) σ Q:=DK.op hd hN (.inl ⟨hg,h⟩) k
theorem DK.no (hd:o.dst=some d) (hN:Nat.blt d C.N=true) (hg:guardK ops o (σ.only (o.looksAt ops))=some false) (k:DK P C ops rest (σ.put d (.sc undef)) Q):DK P C ops (o::rest) σ Q:=DK.op hd hN (.inr ⟨hg,rfl⟩) k
variable {mem:List Bool} {Mc:List (Nat×AO)} {nk0 k:Nat}
end
end
end Go.Proofs.YtaeelcfjkhfpkaaGreat
