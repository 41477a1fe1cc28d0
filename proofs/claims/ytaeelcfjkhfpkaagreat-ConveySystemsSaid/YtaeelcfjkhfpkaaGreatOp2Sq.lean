/- Arguments opened: pieces. -/
import Derived.Lib.SmallJoins
import Derived.Test.YtaeelcfjkhfpkaaGreatYRSq
import Derived.Test.YtaeelcfjkhfpkaaGreatBigSq
set_option maxHeartbeats 8000000
set_option maxRecDepth 100000
set_option linter.unusedVariables false
set_option linter.unusedSimpArgs false
namespace Go.Proofs.YtaeelcfjkhfpkaaGreat
section
open Go.RowKit Go.WideShapes Go.ChangeShapes Go.Joins Go.Deep
section
variable {H:Type} {enc:TypeId×Value→H} {P:Program} {w:World} {base:Nat} {spare:Nat→Bool} {held:Bool}
theorem post_of_below {f:Func} {s:ChangeSpec} {apart fresh handsOn again:Bool} {W W':World} {args:Array Value} {v:Value} {ds gs:List (DataW H)} {before pa pv:List MemPlace}
  (hW:DataW.Whole enc P f.params.toList s.vars apart W args.toList ds gs before)
  (hres:∀ (b:Nat) (sp:Nat→Bool) (hd:Bool),DataW.TrodAll enc P W' b sp hd f.resultTypes.toList (v.resultList f.resultTypes.size) (s.fn H (ds++gs)).results [])
  (hargs:∀ sp:Nat→Bool,(∀ p∈before,sp p.block=true)→DataW.TrodAll enc P W' 0 sp true f.params.toList args.toList (s.fn H (ds++gs)).args pa)
  (hvars:∀ sp:Nat→Bool,(∀ p∈before,sp p.block=true)→DataW.TrodVars enc P W' sp s.vars (s.fn H (ds++gs)).vars pv)
  (hps:before=pa++pv) (hb:Below W.heap.size W W')
  (hok:∀ (j:Nat) (t:TypeId) (r:Value),f.resultTypes[j]?=some t→(v.resultList f.resultTypes.size)[j]?=some r→Value.okWide P W' .any 0 t r) :
  s.post enc P f apart fresh handsOn again W args v W':=by
 have hlt:∀ p∈before,p.block<W.heap.size:=fun p hp=>hW.lt p hp
 have hold:∀ p∈before,(fun b=>decide (b<W.heap.size)) p.block=true:=fun p hp=>by simpa using hlt p hp
 refine ⟨ds,gs,before,[],pa,pv,hW,hres _ _ _,hargs _ hold,hvars _ hold,World.keptBut_mono (fun p hp=>⟨hp,?_⟩) (hb.frame (·∈before)),fun _=>?_⟩
 ·rw [hps,List.mem_append] at hp
  exact Or.inr hp
 ·obtain ⟨_,_,_,_,_,hz,hn⟩:=hW
  refine ⟨hok,_,_,([]++pa)++pv,⟨[]++pa,pv,trodAll_append (hargs _ (fun _ _=>rfl)) (hres _ _ _),hvars _ (fun _ _=>rfl),rfl,?_,?_⟩,?_⟩
  ·intro b off hp
   have hin:MemPlace.cell b off∈before:=by rw [hps];simpa using hp
   rw [hb.frozen (hlt _ hin)]
   exact hz b off hin
  ·intro ha
   have:=hn ha
   rw [hps] at this
   simpa using this
  ·intro p hp _
   rw [hps]
   simpa using hp
end
end
section
open Go.RowKit Go.WideShapes Go.ChangeShapes Go.Joins Go.Deep
theorem list_of {α:Type} {Q:Nat→α→Prop}:∀ (n:Nat),(∀ i,i<n→∃ x,Q i x)→∃ l:List α,l.length=n∧∀ i (h:i<l.length),Q i l[i]:=by
 intro n
 induction n with
 | zero=>intro _;exact⟨[],rfl,fun i h=>absurd h (by simp)⟩
 | succ n ih =>
  intro h
  obtain⟨l,hl,hq⟩:=ih fun i hi=>h i zqo
  obtain⟨x,hx⟩:=h n zqo
  refine⟨l++[x],by simp [hl],fun i hi=>?_⟩
  by_cases e:i<l.length
  ·rw [List.getElem_append_left e];exact hq i e
  ·have:i=n:=by simp at hi;omega
   subst this
   rw [List.getElem_append_right (by omega)]
   simpa [hl]using hx
section
variable {H:Type} {enc:TypeId×Value→H} {P:Program} {w w':World} {base:Nat} {spare:Nat→Bool} {held:Bool}
theorem trodAll_carry:∀ {ts:List TypeId} {vs:List Value} {ds:List (DataW H)} {ps:List MemPlace},DataW.TrodAll enc P w base spare held ts vs ds ps→(∀ p∈ps,w.sameAt w' p)→DataW.TrodAll enc P w' base spare held ts vs ds ps
 | [],[],[],_,h,_=>h
 | _::_,_::_,_::_,_,⟨p,q,⟨n,h1⟩,h2,e⟩,hs=>⟨p,q,⟨n,DataW.trod_carry n _ _ _ h1 (fun x hx=>hs x (by rw [e];exact List.mem_append_left _ hx))⟩,trodAll_carry h2 (fun x hx=>hs x (by rw [e];exact List.mem_append_right _ hx)),e⟩
theorem args_keep {W W':World} {T:TypeId→Prop} {sp:Nat→Bool} (K:Kids P T)(hz:∀ t e,T t→P.underlying t=some (.slice e)→0<P.cellsOf e) {ts:List TypeId} {vs:List Value} {ds:List (DataW H)} {ps:List MemPlace} (hT:∀ t∈ts,T t)
  (h:DataW.TrodAll enc P W 0 (fun _=>true) true ts vs ds ps)(hb:Below W.heap.size W W')(hlt:∀ p∈ps,p.block<W.heap.size)(hs:∀ p∈ps,sp p.block=true):DataW.TrodAll enc P W' 0 sp true ts vs ds ps :=
 DataW.TrodAll.respare K hz hT (trodAll_carry h fun p hp=>hb.same (hlt p hp)) hs
end
theorem typesKids:Kids Tryz.prog (·<Tryz.prog.types.size):=kids_rows (by kernel_rfl) (by kernel_rfl)
theorem slicesFull:∀ t e,t<Tryz.prog.types.size→Tryz.prog.underlying t=some (.slice e)→0<Tryz.prog.cellsOf e:=slices_full_of Tryz.prog (by kernel_rfl)
section
variable {H:Type} {enc:TypeId×Value→H} {w:World} {base:Nat} {spare:Nat→Bool} {held:Bool}
theorem cellsCourse:Tryz.prog.cellsOf 70=3:=by kernel_rfl
theorem cellsInt:Tryz.prog.cellsOf 3=1:=by kernel_rfl
theorem cellsBool:Tryz.prog.cellsOf 4=1:=by kernel_rfl
theorem cellsCourses:Tryz.prog.cellsOf 23=1:=by kernel_rfl
theorem cellsInts:Tryz.prog.cellsOf 24=1:=by kernel_rfl
theorem cellsInstrument:Tryz.prog.cellsOf 26=2:=by kernel_rfl
theorem open_courses {n:Nat} {v:Value} {x:DataW H×List MemPlace} (h:DataW.trod enc Tryz.prog w base spare held n 23 [v]=some x) :
    ∃ (A:Option Addr)(c:Nat)(cs:List (Int×Int×Bool)),v=.slice A cs.length c∧cs.length≤maxLen∧Rd w w.heap.size 3 A (cs.map crsCells):=by
  rcases open_slice (P:=Tryz.prog) Tryz.underlying23 h with⟨h0,_⟩|⟨a,len,cap,m,n',D,Pl,hcs,hb,hl,hm,hmm,_,hi⟩
  · obtain rfl:v=.slice none 0 0:=by simpa using h0
    exact⟨none,0,[],rfl,by simp,Rd.none_⟩
  · obtain rfl:v=.slice (some a) len cap:=by simpa using hcs
    have hlm:len≤m:=by rw [hmm];split <;> omega
    obtain⟨cs,hlen,hq⟩:=list_of (Q:=fun i (x:Int×Int×Bool) => w.cell? (a.add (i*3))=some (.int .i64 x.1)∧w.cell? (a.add (i*3+1))=some (.int .i64 x.2.1)∧w.cell? (a.add (i*3+2))=some (.bool x.2.2)) len (fun i hil => by
      obtain⟨cs',hc,ht'⟩:=hi i zqo
      rw [cellsCourse] at hc
      obtain⟨ys,n2,_,_,hlen,_,hf⟩:=DataW.trod_struct Tryz.underlying70 ht'
      obtain⟨_,hcl,hat⟩:=World.cells?_some hc
      match cs',hcl with
      | [u0,u1,u2],_ =>
        have f0:DataW.trod enc Tryz.prog w base spare held n2 3 [u0]=ys[0]?:=by simpa [cellsInt] using hf 0 _ rfl
        have f1:DataW.trod enc Tryz.prog w base spare held n2 3 [u1]=ys[1]?:=by simpa [cellsInt] using hf 1 _ rfl
        have f2:DataW.trod enc Tryz.prog w base spare held n2 4 [u2]=ys[2]?:=by simpa [cellsBool] using hf 2 _ rfl
        have g0:=hat 0 zqo
        have g1:=hat 1 zqo
        have g2:=hat 2 zqo
        simp only [add_of_add,Nat.add_zero,List.getElem?_cons_zero,List.getElem?_cons_succ] at g0 g1 g2
        obtain⟨y0,hy0⟩:∃ y,ys[0]?=some y :=⟨_,List.getElem?_eq_getElem (by rw [‹ys.length=_›];decide)⟩
        obtain⟨y1,hy1⟩:∃ y,ys[1]?=some y :=⟨_,List.getElem?_eq_getElem (by rw [‹ys.length=_›];decide)⟩
        obtain⟨y2,hy2⟩:∃ y,ys[2]?=some y :=⟨_,List.getElem?_eq_getElem (by rw [‹ys.length=_›];decide)⟩
        rw [hy0] at f0;rw [hy1] at f1;rw [hy2] at f2
        obtain⟨a0,e0,_,_⟩:=DataW.trod_int Tryz.underlying3 f0
        obtain⟨a1,e1,_,_⟩:=DataW.trod_int Tryz.underlying3 f1
        obtain⟨a2,e2,_⟩:=DataW.trod_bool Tryz.underlying4 f2
        simp only [List.cons.injEq,and_true] at e0 e1 e2
        subst e0 e1 e2
        exact⟨(a0,a1,a2),g0,g1,g2⟩)
    refine⟨some a,cap,cs,by rw [hlen],by omega,fun hpos =>⟨a,rfl,?_,?_⟩⟩
    · have hpos':0<cs.length:=by simpa using hpos
      have:=(hq 0 hpos').1
      have:=World.block_lt_of_cell? w _ this
      rwa [block_of_add] at this
    · intro k r hr j u hu
      rw [List.getElem?_map] at hr
      cases hk:cs[k]? with
      | none => rw [hk] at hr;cases hr
      | some x =>
        rw [hk] at hr
        obtain rfl:crsCells x=r:=by simpa using hr
        obtain⟨hkl,hkx⟩:=List.getElem?_eq_some_iff.1 hk
        have q:=hq k hkl
        rw [hkx] at q
        match j with
        | 0 => obtain rfl:Value.int .i64 x.1=u:=by simpa [crsCells] using hu
               simpa using q.1
        | 1 => obtain rfl:Value.int .i64 x.2.1=u:=by simpa [crsCells] using hu
               exact q.2.1
        | 2 => obtain rfl:Value.bool x.2.2=u:=by simpa [crsCells] using hu
               exact q.2.2
        | j+3 => simp [crsCells] at hu
theorem open_ints {n:Nat} {v:Value} {x:DataW H×List MemPlace} (h:DataW.trod enc Tryz.prog w base spare held n 24 [v]=some x) :
    ∃ (A:Option Addr)(c:Nat)(st:List Int),v=.slice A st.length c∧st.length≤maxLen∧Rd w w.heap.size 1 A (st.map intCell):=by
  rcases open_slice1 (P:=Tryz.prog) Tryz.underlying24 cellsInt h with⟨h0,_⟩|⟨a,len,cap,m,n',V,D,Pl,hcs,hb,hl,hm,hmm,_,hi⟩
  · obtain rfl:v=.slice none 0 0:=by simpa using h0
    exact⟨none,0,[],rfl,by simp,Rd.none_⟩
  · obtain rfl:v=.slice (some a) len cap:=by simpa using hcs
    have hlm:len≤m:=by rw [hmm];split <;> omega
    obtain⟨st,hlen,hq⟩:=list_of (Q:=fun i (x:Int) => w.cell? (a.add i)=some (.int .i64 x)) len (fun i hil => by
      obtain⟨hc,ht'⟩:=hi i zqo
      obtain⟨a0,e0,_,_⟩:=DataW.trod_int Tryz.underlying3 ht'
      simp only [List.cons.injEq,and_true] at e0
      exact⟨a0,by rw [hc,e0]⟩)
    refine⟨some a,cap,st,by rw [hlen],by omega,fun hpos =>⟨a,rfl,?_,?_⟩⟩
    · have hpos':0<st.length:=by simpa using hpos
      have:=World.block_lt_of_cell? w _ (hq 0 hpos')
      rwa [block_of_add] at this
    · intro k r hr j u hu
      rw [List.getElem?_map] at hr
      cases hk:st[k]? with
      | none => rw [hk] at hr;cases hr
      | some x =>
        rw [hk] at hr
        obtain rfl:intCell x=r:=by simpa using hr
        obtain⟨hkl,hkx⟩:=List.getElem?_eq_some_iff.1 hk
        have q:=hq k hkl
        rw [hkx] at q
        match j with
        | 0 => obtain rfl:Value.int .i64 x=u:=by simpa [intCell] using hu
               simpa using q
        | j+1 => simp [intCell] at hu
theorem open_ins {n:Nat} {v0 v1:Value} {x:DataW H×List MemPlace} (h:DataW.trod enc Tryz.prog w base spare held n 26 [v0,v1]=some x) :
  ∃ (A1 A2:Option Addr)(c1 c2:Nat)(cs:List (Int×Int×Bool))(st:List Int),v0=.slice A1 cs.length c1∧v1=.slice A2 st.length c2∧cs.length≤maxLen∧st.length≤maxLen∧InsAt w w.heap.size A1 A2 cs st:=by
 obtain⟨ys,n2,_,_,_,hys,hf⟩:=DataW.trod_struct Tryz.underlying26 h
 have f0:DataW.trod enc Tryz.prog w base spare held n2 23 [v0]=ys[0]?:=by simpa [cellsCourses]using hf 0 _ rfl
 have f1:DataW.trod enc Tryz.prog w base spare held n2 24 [v1]=ys[1]?:=by simpa [cellsInts]using hf 1 _ rfl
 obtain⟨y0,hy0⟩:∃ y,ys[0]?=some y:=⟨_,List.getElem?_eq_getElem (by rw [hys];decide)⟩
 obtain⟨y1,hy1⟩:∃ y,ys[1]?=some y:=⟨_,List.getElem?_eq_getElem (by rw [hys];decide)⟩
 rw [hy0]at f0;rw [hy1]at f1
 obtain⟨A1,c1,cs,e1,l1,r1⟩:=open_courses f0
 obtain⟨A2,c2,st,e2,l2,r2⟩:=open_ints f1
 exact⟨A1,A2,c1,c2,cs,st,e1,e2,l1,l2,r1,r2⟩
end
end
section
open Go.RowKit
structure CgLs (C:Cg):Prop where
 crs:∀ x y,C.mv x=some y→y.1=x.1∧y.2.2.2.2=x.2.2.2.2
 ml:∀ x y,C.mv x=some y→C.ml (C.ch x).1=(if y.2.2.1=x.2.2.1 then []else [2])++(if y.2.2.2.1=x.2.2.2.1 then []else [3])
end
section
open Go.RowKit
def cpS (st:List Int)(f:Int):Int:=st.getD (f.toNat-1) 0
def cp1(st:List Int)(f:Int)(x:Int×Int×Bool):Int×Int×Bool:=if x.2.1=0 then x else(x.1+cpS st f,x.2.1-f,x.2.2)
def cpBad (cs:List (Int×Int×Bool))(f:Int):Bool:=cs.any fun x=>decide (x.2.1≠0∧x.2.1<f)
def cpX (cs:List (Int×Int×Bool))(st:List Int)(f:Int):Int:=if insE cs st≠0 then insE cs st else if f<0∨(st.length:Int)<f then 13 else if f=0 then 0 else if cpBad cs f=true then 13 else 0
def cpCs (cs:List (Int×Int×Bool))(st:List Int)(f:Int):List (Int×Int×Bool):=if cpX cs st f=0 then (if f=0 then cs else cs.map (cp1 st f))else []
def cpSt (cs:List (Int×Int×Bool))(st:List Int)(f:Int):List Int:=if cpX cs st f=0 then (if f=0 then st else (st.drop f.toNat).map fun x=>x-cpS st f)else []
def capF (cs:List (Int×Int×Bool))(f:Int)(x:Stp):Int:=if 0<fretsOf cs x.1 then x.2.1-f else x.2.1
def capC (cs:List (Int×Int×Bool))(f:Int):Cg where
 ch x:=((x.1,capF cs f x,x.2.2),decide (capF cs f x<0))
 mr y:=y
 ml _:=[]
 tie _ e:=e.tie
 bare i:=decide (0<i)
def capE(p:Pce)(f:Int):Int:=if pceE p≠0 then pceE p else cpX p.cs p.st f
def capN (p:Pce)(f:Int):List Ev:=nwL (capC p.cs f) p.evs
def capP (p:Pce) (f:Int):Pce:=if capE p f=0 then ⟨cpCs p.cs p.st f,cpSt p.cs p.st f,fnL (ftH (capN p f)) (capN p f)⟩else noP
def capL (p:Pce) (f:Int):List Lck:=if capE p f=0 then lsL (capC p.cs f) (ftH (capN p f)) p.evs p.evs.length else []
theorem capC_mv {cs:List (Int×Int×Bool)} {f:Int} {x y:Stp} (h:(capC cs f).mv x=some y):0≤capF cs f x∧y=(x.1,capF cs f x,x.2.2):=by
 unfold Cg.mv at h
 by_cases hp:capF cs f x<0
 ·rw [if_pos (by show decide (capF cs f x<0)=true;exact decide_eq_true hp)]at h;cases h
 ·rw [if_neg (by show ¬ decide (capF cs f x<0)=true;simpa using hp)]at h
  exact⟨by omega,(Option.some.inj h).symm⟩
theorem capC_crs {cs:List (Int×Int×Bool)} {f:Int} (x y:Stp)(h:(capC cs f).mv x=some y):y.1=x.1∧y.2.2.2.2=x.2.2.2.2:=by
 obtain⟨_,rfl⟩:=capC_mv h;exact⟨rfl,rfl⟩
theorem cpS_bd {cs:List (Int×Int×Bool)} {st:List Int} (h:insE cs st=0) {f:Int} (h1:1≤f)(h2:f≤st.length):(f-1).toNat<st.length∧st[(f-1).toNat]?=some (cpS st f)∧1≤cpS st f∧cpS st f≤127:=by
 have hk:(f-1).toNat<st.length:=by omega
 obtain⟨_,_,_,l4,_⟩:=insE_len h
 have e:cpS st f=st[(f-1).toNat]:=by
  unfold cpS
  rw [List.getD_eq_getElem?_getD,show f.toNat-1=(f-1).toNat by omega,List.getElem?_eq_getElem hk];rfl
 refine⟨hk,by rw [e,List.getElem?_eq_getElem hk],?_⟩
 rw [e]
 exact stepsBad_bd zqo l4 _ hk
end
section
open Go.RowKit
theorem pcOk_of2 {p:Pce} (h:bigB p=false):PcOk p:=by
 unfold bigB at h
 simp only [Bool.or_eq_false_iff,decide_eq_false_iff_not,List.any_eq_false]at h
 obtain⟨h1,h2,h3,h4⟩:=h
 refine⟨by omega,by omega,by omega,fun k hk=>?_⟩
 have:=h4 _ (List.getElem_mem hk)
 simp at this
 exact this
theorem big_FS (p:Pce):Ctr Tryz.prog 25 [ePce p] (.sc (.bool (bigB p))) :=
 Ctr.of_pc (pre:=[]) (post:=[]) rfl rfl (fun _=>.sc _) fun w M hM=>big_any M p w hM
end
section
open Go.RowKit Go.WideShapes Go.ChangeShapes Go.Joins Go.Deep
section
variable {H:Type} {enc:TypeId×Value→H} {w:World} {base:Nat} {spare:Nat→Bool} {held:Bool}
theorem cellsStop':Tryz.prog.cellsOf 48=5:=by kernel_rfl
theorem cellsEvent:Tryz.prog.cellsOf 45=6:=by kernel_rfl
theorem cellsSign':Tryz.prog.cellsOf 42=3:=by kernel_rfl
theorem cellsStops:Tryz.prog.cellsOf 43=1:=by kernel_rfl
theorem cellsEvents:Tryz.prog.cellsOf 27=1:=by kernel_rfl
theorem cellsPiece:Tryz.prog.cellsOf 29=3:=by kernel_rfl
theorem open_stops {n:Nat} {v:Value} {x:DataW H×List MemPlace} (h:DataW.trod enc Tryz.prog w base spare held n 43 [v]=some x) :
  ∃ (A:Option Addr)(c:Nat)(l:List Stp),v=.slice A l.length c∧l.length≤c∧c≤maxLen∧StpsAt w w.heap.size A l:=by
 rcases open_slice (P:=Tryz.prog) Tryz.underlying43 h with⟨h0,_⟩|⟨a,len,cap,m,n',D,Pl,hcs,hb,hl,hm,hmm,_,hi⟩
 ·obtain rfl:v=.slice none 0 0:=by simpa using h0
  exact⟨none,0,[],rfl,by simp,by simp,Rd.none_⟩
 ·obtain rfl:v=.slice (some a) len cap:=by simpa using hcs
  have hlm:len≤m:=by rw [hmm];split<;>omega
  obtain⟨l,hlen,hq⟩:=list_of (Q:=fun i (x:Stp)=>∀ j u,(stpCells x)[j]?=some u→w.cell? (a.add (i*5+j))=some u) len (fun i hil=>by
   obtain⟨cs',hc,ht'⟩:=hi i zqo
   rw [cellsStop'] at hc
   obtain⟨ys,n2,_,_,hlen,hys,hf⟩:=DataW.trod_struct Tryz.underlying48 ht'
   obtain⟨_,hcl,hat⟩:=World.cells?_some hc
   match cs',hcl with
   | [u0,u1,u2,u3,u4],_ =>
    have f0:DataW.trod enc Tryz.prog w base spare held n2 3 [u0]=ys[0]?:=by simpa [cellsInt] using hf 0 _ rfl
    have f1:DataW.trod enc Tryz.prog w base spare held n2 3 [u1]=ys[1]?:=by simpa [cellsInt] using hf 1 _ rfl
    have f2:DataW.trod enc Tryz.prog w base spare held n2 3 [u2]=ys[2]?:=by simpa [cellsInt] using hf 2 _ rfl
    have f3:DataW.trod enc Tryz.prog w base spare held n2 3 [u3]=ys[3]?:=by simpa [cellsInt] using hf 3 _ rfl
    have f4:DataW.trod enc Tryz.prog w base spare held n2 3 [u4]=ys[4]?:=by simpa [cellsInt] using hf 4 _ rfl
    have gy:∀ j,j<5→∃ y,ys[j]?=some y:=fun j hj=>⟨_,List.getElem?_eq_getElem (by rw [hys];exact hj)⟩
    obtain⟨y0,hy0⟩:=gy 0 zqo
    obtain⟨y1,hy1⟩:=gy 1 zqo
    obtain⟨y2,hy2⟩:=gy 2 zqo
    obtain⟨y3,hy3⟩:=gy 3 zqo
    obtain⟨y4,hy4⟩:=gy 4 zqo
    rw [hy0] at f0;rw [hy1] at f1;rw [hy2] at f2;rw [hy3] at f3;rw [hy4] at f4
    obtain⟨a0,e0,_,_⟩:=DataW.trod_int Tryz.underlying3 f0
    obtain⟨a1,e1,_,_⟩:=DataW.trod_int Tryz.underlying3 f1
    obtain⟨a2,e2,_,_⟩:=DataW.trod_int Tryz.underlying3 f2
    obtain⟨a3,e3,_,_⟩:=DataW.trod_int Tryz.underlying3 f3
    obtain⟨a4,e4,_,_⟩:=DataW.trod_int Tryz.underlying3 f4
    simp only [List.cons.injEq,and_true] at e0 e1 e2 e3 e4
    subst e0 e1 e2 e3 e4
    refine⟨(a0,a1,a2,a3,a4),fun j u hu=>?_⟩
    have hj:j<5:=(List.getElem?_eq_some_iff.1 hu).1
    have:=hat j hj
    rw [add_of_add] at this
    rw [this]
    exact hu)
  refine⟨some a,cap,l,by rw [hlen],by omega,hm,fun hpos=>⟨a,rfl,?_,?_⟩⟩
  ·have hpos':0<l.length:=by simpa using hpos
   have:=World.block_lt_of_cell? w _ (hq 0 hpos' 0 _ rfl)
   rwa [block_of_add] at this
  ·intro k r hr j u hu
   rw [List.getElem?_map] at hr
   cases hk:l[k]? with
   | none=>rw [hk] at hr;cases hr
   | some x =>
    rw [hk] at hr
    obtain rfl:stpCells x=r:=by simpa using hr
    obtain⟨hkl,hkx⟩:=List.getElem?_eq_some_iff.1 hk
    have q:=hq k hkl
    rw [hkx] at q
    exact q j u hu
end
end
end Go.Proofs.YtaeelcfjkhfpkaaGreat
