/- The text of an empty Builder that still lies in a box. -/
import Derived.Test.YtgelfflighgajaaGreatDoorEdPSq
set_option linter.unusedVariables false
set_option linter.unusedSimpArgs false
namespace Go.Proofs.YtgelfflighgajaaGreatDoor
open Go.RowKit Go.WideShapes Go.ChangeShapes Go.Joins Go.Deep
set_option maxRecDepth 100000
section
variable {H:Type} {enc:TypeId×Value→H} {w:World} {base:Nat} {spare:Nat→Bool} {held:Bool}
theorem open_rows_rp {α:Type} {T e:TypeId} {m n:Nat} {en:α→List AV} {v:Value} {x:DataW H×List MemPlace} (hu:Tryz.prog.underlying T=some (.slice e)) (hc:Tryz.prog.cellsOf e=m) (hlen:∀ a,(en a).length=m)
  (hel:∀ (k:Nat) (cs:List Value) (y:DataW H×List MemPlace),DataW.trod enc Tryz.prog w base spare held k e cs=some y→cs.length=m→∃ a:α,∀ (j:Nat) av u,(en a)[j]?=some av→cs[j]?=some u→u.oneCell'=true∧RP (fun q=>w.cell? q) av u)
  (h:DataW.trod enc Tryz.prog w base spare held n T [v]=some x):∃ l:List α,RP (fun q=>w.cell? q) (.ls m (l.map en)) v:=by
 rcases open_slice (P:=Tryz.prog) hu h with⟨h0,_⟩|⟨a,len,cap,mm,n',D,Pl,hcs,hb,hl,hm,hmm,_,hi⟩
 ·obtain rfl:v=.slice none 0 0:=by simpa using h0
  exact ⟨[],.ls m [] none 0 ⟨0,0,none⟩ (fun _ _=>undef) (by simp) (by simp) (fun h=>absurd h (by simp)) (fun i r j av h=>by simp at h) (fun i r j av h=>by simp at h)⟩
 ·obtain rfl:v=.slice (some a) len cap:=by simpa using hcs
  have hlm:len≤mm:=by rw [hmm];split<;>omega
  obtain ⟨l,hll,hq⟩:=list_of (Q:=fun i (x:α×List Value)=>(∀ j,j<m→∃ u,x.2[j]?=some u∧w.cell? (a.add (i*m+j))=some u)∧∀ (j:Nat) av u,(en x.1)[j]?=some av→x.2[j]?=some u→u.oneCell'=true∧RP (fun q=>w.cell? q) av u) len (fun i hil=>by
   obtain ⟨cs',hc',ht'⟩:=hi i (by omega)
   rw [hc] at hc'
   obtain ⟨_,hcl,hat⟩:=World.cells?_some hc'
   obtain ⟨b,hb2⟩:=hel _ _ _ ht' hcl
   refine ⟨(b,cs'),fun j hj=>?_,hb2⟩
   have:=hat j hj
   rw [add_of_add] at this
   exact ⟨cs'[j]'(by omega),List.getElem?_eq_getElem _,by rw [this];exact List.getElem?_eq_getElem _⟩)
  refine ⟨l.map (·.1),?_⟩
  have hlm2:len=((l.map (·.1)).map en).length:=by simp [hll]
  have key:∀ (i:Nat) r (j:Nat) av,((l.map (·.1)).map en)[i]?=some r→r[j]?=some av→∃ x u,l[i]?=some x∧x.2[j]?=some u∧w.cell? (a.add (i*m+j))=some u∧u.oneCell'=true∧RP (fun q=>w.cell? q) av u:=fun i r j av hr hav=>by
   rw [List.map_map,List.getElem?_map] at hr
   cases hx:l[i]? with
   | none=>simp [hx] at hr
   | some x =>
    rw [hx] at hr
    obtain rfl:en x.1=r:=by simpa using hr
    obtain ⟨hkl,hkx⟩:=List.getElem?_eq_some_iff.1 hx
    have q:=hq i hkl
    rw [hkx] at q
    have hj:j<m:=by have:=(List.getElem?_eq_some_iff.1 hav).1;rw [hlen] at this;exact this
    obtain ⟨u,hu1,hu2⟩:=q.1 j hj
    obtain ⟨q1,q2⟩:=q.2 j av u hav hu1
    exact ⟨x,u,rfl,hu1,hu2,q1,q2⟩
  rw [hlm2]
  refine .ls m _ (some a) cap a (fun i j=>((l[i]?).bind fun x=>x.2[j]?).getD undef) (by rw [← hlm2];exact hl) (fun r hr=>?_) (fun _=>rfl) (fun i r j av hr hav=>?_) (fun i r j av hr hav=>?_)
  ·obtain ⟨x,_,rfl⟩:=List.mem_map.1 hr;exact hlen x
  ·obtain ⟨x,u,h1,h2,h3,h4,_⟩:=key i r j av hr hav
   simp only [h1,Option.bind_some,h2,Option.getD_some]
   exact ⟨h3,h4⟩
  ·obtain ⟨x,u,h1,h2,_,_,h5⟩:=key i r j av hr hav
   simp only [h1,Option.bind_some,h2,Option.getD_some]
   exact h5
end
end Go.Proofs.YtgelfflighgajaaGreatDoor
namespace Go.Proofs.YtgelfflighgajaaGreatDoor
open Go.RowKit Go.WideShapes Go.ChangeShapes Go.Joins Go.Deep
set_option maxRecDepth 100000
section
variable {H:Type} {enc:TypeId×Value→H} {w:World} {base:Nat} {spare:Nat→Bool} {held:Bool}
theorem cellsEntry:Tryz.prog.cellsOf 95=5:=by kernel_rfl
theorem cellsString':Tryz.prog.cellsOf 9=1:=by kernel_rfl
theorem cellsSystem':Tryz.prog.cellsOf 64=1:=by kernel_rfl
theorem cellsBook:Tryz.prog.cellsOf 48=1:=by kernel_rfl
theorem cellsEntries:Tryz.prog.cellsOf 46=1:=by kernel_rfl
theorem open_ins_rp {n:Nat} {u1 u2:Value} {y:DataW H×List MemPlace} (h:DataW.trod enc Tryz.prog w base spare held n 25 [u1,u2]=some y) :
  ∃ (cs:List (Int×Int×Bool)) (st:List Int),RP (fun q=>w.cell? q) (.ls 3 (cs.map eCrs)) u1∧RP (fun q=>w.cell? q) (.ls 1 (st.map eInt)) u2∧u1.oneCell'=true∧u2.oneCell'=true:=by
 obtain ⟨zs,n3,_,_,_,hzs,hz⟩:=DataW.trod_struct Tryz.underlying25 h
 have g0:DataW.trod enc Tryz.prog w base spare held n3 22 [u1]=zs[0]?:=by simpa [cellsCourses] using hz 0 _ rfl
 have g1:DataW.trod enc Tryz.prog w base spare held n3 23 [u2]=zs[1]?:=by simpa [cellsInts] using hz 1 _ rfl
 obtain ⟨z0,hz0⟩:∃ y,zs[0]?=some y:=⟨_,List.getElem?_eq_getElem (by rw [hzs];decide)⟩
 obtain ⟨z1,hz1⟩:∃ y,zs[1]?=some y:=⟨_,List.getElem?_eq_getElem (by rw [hzs];decide)⟩
 rw [hz0] at g0;rw [hz1] at g1
 obtain ⟨A1,A2,k1,k2,cs,st,rfl,rfl,l1,l2,hI⟩:=open_ins h
 have hc1:=cap_of_trod Tryz.underlying22 g0
 have hc2:=cap_of_trod Tryz.underlying23 g1
 exact ⟨cs,st,rp_mem hI.1 hc1 (fun _=>rfl) eCrs_of,rp_mem hI.2 hc2 (fun _=>rfl) eInt_of,rfl,rfl⟩
theorem open_book_arg {r:Reach} {b0:Nat} {v:Value} {d:DataW H} {p:List MemPlace} (hv:Value.okWide Tryz.prog w r b0 48 v) (h:DataW.Trod enc Tryz.prog w base spare held 48 v d p) :
  ∃ b:List En,RP (fun q=>w.cell? q) (eBk b) v:=by
 obtain ⟨cs,rfl,hsz⟩:=okWide_struct Tryz.underlying48 hv
 obtain ⟨l⟩:=cs
 match l,hsz.trans cellsBook with
 | [c0],_ =>
  obtain ⟨fuel,hf⟩:=h
  obtain ⟨ys,n2,_,_,_,hys,hg⟩:=DataW.trod_struct Tryz.underlying48 (by simpa [Value.cells] using hf:DataW.trod enc Tryz.prog w base spare held fuel 48 [c0]=some (d,p))
  have f0:DataW.trod enc Tryz.prog w base spare held n2 46 [c0]=ys[0]?:=by simpa [cellsEntries] using hg 0 _ rfl
  obtain ⟨y0,hy0⟩:∃ y,ys[0]?=some y:=⟨_,List.getElem?_eq_getElem (by rw [hys];decide)⟩
  rw [hy0] at f0
  obtain ⟨b,hb⟩:=open_rows_rp (en:=eEn) Tryz.underlying46 cellsEntry (fun _=>rfl) (fun k cs y hy hl=>by
   match cs,hl with
   | [u0,u1,u2,u3,u4],_ =>
    obtain ⟨ys,n2,_,_,_,hys,hf⟩:=DataW.trod_struct Tryz.underlying95 hy
    have f0:DataW.trod enc Tryz.prog w base spare held n2 9 [u0]=ys[0]?:=by simpa [cellsString'] using hf 0 _ rfl
    have f1:DataW.trod enc Tryz.prog w base spare held n2 64 [u1]=ys[1]?:=by simpa [cellsString',cellsSystem'] using hf 1 _ rfl
    have f2:DataW.trod enc Tryz.prog w base spare held n2 28 [u2,u3,u4]=ys[2]?:=by simpa [cellsString',cellsSystem',cellsPiece] using hf 2 _ rfl
    have gy:∀ j,j<3→∃ y,ys[j]?=some y:=fun j hj=>⟨_,List.getElem?_eq_getElem (by rw [hys];exact hj)⟩
    obtain ⟨y0,hy0⟩:=gy 0 (by omega)
    obtain ⟨y1,hy1⟩:=gy 1 (by omega)
    obtain ⟨y2,hy2⟩:=gy 2 (by omega)
    rw [hy0] at f0;rw [hy1] at f1;rw [hy2] at f2
    obtain ⟨s0,e0,_⟩:=DataW.trod_string Tryz.underlying9 f0
    obtain ⟨s1,e1,_⟩:=DataW.trod_int Tryz.underlying64 f1
    simp only [List.cons.injEq,and_true] at e0 e1
    subst e0 e1
    obtain ⟨t0,rfl⟩:∃ l,s0=bs l:=by obtain ⟨xs⟩:=s0;exact ⟨_,mk_bs xs⟩
    obtain ⟨zs,n3,_,_,_,hzs,hz⟩:=DataW.trod_struct Tryz.underlying28 f2
    have q0:DataW.trod enc Tryz.prog w base spare held n3 25 [u2,u3]=zs[0]?:=by simpa [cellsInstrument] using hz 0 _ rfl
    have q1:DataW.trod enc Tryz.prog w base spare held n3 26 [u4]=zs[1]?:=by simpa [cellsEvents] using hz 1 _ rfl
    obtain ⟨z0,hz0⟩:∃ y,zs[0]?=some y:=⟨_,List.getElem?_eq_getElem (by rw [hzs];decide)⟩
    obtain ⟨z1,hz1⟩:∃ y,zs[1]?=some y:=⟨_,List.getElem?_eq_getElem (by rw [hzs];decide)⟩
    rw [hz0] at q0;rw [hz1] at q1
    obtain ⟨cs,st,r1,r2,o1,o2⟩:=open_ins_rp q0
    obtain ⟨evs,r3⟩:=open_events_rp q1
    have o3:u4.oneCell'=true:=by
     obtain ⟨A,cap,ad,u',rfl,_⟩:=r3.ls_of
     rfl
    refine ⟨⟨t0,s1,⟨cs,st,evs⟩⟩,fun j av u a b=>?_⟩
    match j with
    | 0=>cases a;cases b;exact ⟨rfl,.sc _⟩
    | 1=>cases a;cases b;exact ⟨rfl,.sc _⟩
    | 2=>cases a;cases b;exact ⟨o1,r1⟩
    | 3=>cases a;cases b;exact ⟨o2,r2⟩
    | 4=>cases a;cases b;exact ⟨o3,r3⟩
    | j+5=>simp [eEn] at a) f0
  refine ⟨b,.ag _ _ rfl fun i av u a b=>?_⟩
  match i with
  | 0=>cases a;cases b;exact hb
  | i+1=>simp at a
end
end Go.Proofs.YtgelfflighgajaaGreatDoor
namespace Go.Proofs.YtgelfflighgajaaGreatDoor
open Go.RowKit
set_option maxRecDepth 100000
set_option maxHeartbeats 8000000
theorem bldS0 (w:World) (b:Nat) (p:Value) (hbk:w.heap[b]?=some (.cells #[p,.slice none 0 0] 109 (0,0))) :
  Calls Tryz.prog 59 #[.pointer (some ⟨b,0,none⟩)] w fun e w'=>e=.returned (.string (bs []))∧w'=w.drew:=by
 have c1:w.drew.cell? ⟨b,1,none⟩=some (.slice none 0 0):=by
  have:w.drew.heap[b]?=some (.cells #[p,.slice none 0 0] 109 (0,0)):=hbk
  rw [Lib.cell_of_heap this];rfl
 have hUS:(Builtin.unsafeString_ #[202,3] 9 #[.pointer none,.int .i64 0]).run Tryz.prog w.drew=.ok (.string .empty) w.drew:=Lib.run_unsafeString_none _ _ _ _ _
 have hSD:(Builtin.unsafeSliceData_ #[57] 202 #[.slice none 0 0]).run Tryz.prog w.drew=.ok (.pointer none) w.drew:=Lib.run_unsafeSliceData_nil _ _ _ _ _
 have mixed:Tryz.prog.follows .mixedOrders=true:=by kernel_rfl
 go_enter Tryz.func59,Tryz.ntmps59
 go_wp2
 go_region_o
 all_goals (go_wp2;go_ret;exact ⟨rfl,rfl⟩)
theorem WV.box2 {P:Program} {C:Cx} {o:Oper} {σ:St} {f:FuncId} {k:Nat} {x:Operand} {ts:Array TypeId} {T:TypeId} {c1 c2 v:Value} (ho:o.op=.call { callee:=.value (.func f),args:=#[x],argTypes:=ts }) (hc:∀ vs w,(callFunc f vs).run P w=.ok (.enter f vs) w)
  (hx:σ.ev x=some (.pt k 0 0)) (hk:look k σ.M=some (.box T [.sc c1,.sc c2])) (h:∀ w b,w.heap[b]?=some (.cells #[c1,c2] T (0,0))→Calls P f #[.pointer (some ⟨b,0,none⟩)] w fun e w'=>e=.returned v∧w'=w.drew):WV P C o σ (.sc v):=by
 intro G a w ok N Q' hN
 obtain ⟨p,ep,p1,p2,p3⟩:=(ok.evr hx).2.pt_of
 obtain ⟨h1,cs,Φ,hB,hsz,_,_,hcs⟩:=(ok.ob k _ hk).2.2
 obtain rfl:=addr_eq p1 p2 p3
 rw [Nat.zero_mul] at ep
 have hsz:cs.size=2:=hsz
 have g:∀ i (h:i<2),cs[i]?=some (cs[i]'(by omega)):=fun i h=>Array.getElem?_eq_getElem (by omega)
 have e1:=(CR.r (hcs 0 _ _ rfl (g 0 (by omega))) rfl).sc_eq
 have e2:=(CR.r (hcs 1 _ _ rfl (g 1 (by omega))) rfl).sc_eq
 have ecs:cs=#[c1,c2]:=by
  apply Array.ext (by simp [hsz])
  intro i hi hi2
  match i,(show i<2 by omega) with
  | 0,_=>exact e1
  | 1,_=>exact e2
 subst ecs
 unfold Oper.wp execOp
 have ev:a.eval (.func f)=.func (.func f) #[] #[]:=rfl
 have e3:(#[]++(#[x]:Array Operand).map a.eval++#[]:Array Value)=#[.pointer (some ⟨G.b k,0,none⟩)]:=by simp [ep]
 simp only [ho,resolve,ev,Deferred.ofValue,invoke,Sem.run_bind,Sem.run_pure,Result.andThen_ok,hc,Oper.upon,e3]
 refine (h w (G.b k) hB).mono fun e w1 ⟨he,hw⟩=>?_
 subst he hw
 exact hN _ G _ (fun σ'' a'' ok''=>ok''.drew) (.pu _ _ (.sc _)) (.sc _)
end Go.Proofs.YtgelfflighgajaaGreatDoor
