/- Variants, plain: what Plain and Apply answer. -/
import Derived.Lib.SmallJoins
import Derived.Test.YtgelfflighgajaaGreatDoorSmOq
import Derived.Test.YtgelfflighgajaaGreatDoorNtPOq
import Derived.Test.YtgelfflighgajaaGreatDoorCoPOq
set_option maxHeartbeats 8000000
set_option maxRecDepth 100000
set_option linter.unusedVariables false
set_option linter.unusedSimpArgs false
namespace Go.Proofs.YtgelfflighgajaaGreatDoor
section
open Go.RowKit Go.WideShapes Go.ChangeShapes Go.Joins Go.Deep
section
variable {H:Type} {enc:TypeId×Value→H} {P:Program} {w:World} {base:Nat} {spare:Nat→Bool} {held:Bool}
theorem post_of_below {f:Func} {s:ChangeSpec} {apart fresh handsOn again:Bool} {W W':World} {args:Array Value} {v:Value} {ds gs:List (DataW H)} {before pa pv:List MemPlace}
  (hW:DataW.Whole enc P f.params.toList s.vars apart W args.toList ds gs before)
  (hres:∀ (b:Nat) (sp:Nat→Bool) (hd:Bool),DataW.TrodAll enc P W' b sp hd f.resultTypes.toList (v.resultList f.resultTypes.size) (s.fn H (ds++gs)).results [])
  (hargs:∀ sp:Nat→Bool,(∀ p∈before,sp p.block=true)→DataW.TrodAll enc P W' 0 sp true f.params.toList args.toList (s.fn H (ds++gs)).args pa)
  (hvars:∀ sp:Nat→Bool,(∀ p∈before,sp p.block=true)→DataW.TrodVars enc P W' sp s.vars (s.fn H (ds++gs)).vars pv)
  (hps:before=pa++pv) (hb:Below W.heap.size W W')
  (hok:∀ (j:Nat) (t:TypeId) (r:Value),f.resultTypes[j]?=some t→(v.resultList f.resultTypes.size)[j]?=some r→Value.okWide P W' .any 0 t r) :
  s.post enc P f apart fresh handsOn again W args v W':=by
 have hlt:∀ p∈before,p.block<W.heap.size:=fun p hp=>hW.lt p hp
 have hold:∀ p∈before,(fun b=>decide (b<W.heap.size)) p.block=true:=fun p hp=>by simpa using hlt p hp
 refine ⟨ds,gs,before,[],pa,pv,hW,hres _ _ _,hargs _ hold,hvars _ hold,World.keptBut_mono (fun p hp=>⟨hp,?_⟩) (hb.frame (·∈before)),fun _=>?_⟩
 ·rw [hps,List.mem_append] at hp
  exact Or.inr hp
 ·obtain ⟨_,_,_,_,_,hz,hn⟩:=hW
  refine ⟨hok,_,_,([]++pa)++pv,⟨[]++pa,pv,trodAll_append (hargs _ (fun _ _=>rfl)) (hres _ _ _),hvars _ (fun _ _=>rfl),rfl,?_,?_⟩,?_⟩
  ·intro b off hp
   have hin:MemPlace.cell b off∈before:=by rw [hps];simpa using hp
   rw [hb.frozen (hlt _ hin)]
   exact hz b off hin
  ·intro ha
   have:=hn ha
   rw [hps] at this
   simpa using this
  ·intro p hp _
   rw [hps]
   simpa using hp
end
end
section
open Go.RowKit
theorem crsE_p {st:List Int}:∀ {cs:List (Int×Int×Bool)},crsE st cs=0→∀ k (h:k<cs.length),0≤cs[k].1∧cs[k].1≤127:=by
 intro cs
 induction cs with
 | nil=>intro _ k h;simp at h
 | cons x r ih =>
  intro h k hk
  unfold crsE at h
  by_cases h1:x.2.1<0∨(st.length:Int)<x.2.1
  ·rw [if_pos h1]at h;cases h
  ·rw [if_neg h1]at h
   by_cases h2:(x.1<0∨127<x.1)∨127<topOf st x
   ·rw [if_pos h2]at h;cases h
   ·rw [if_neg h2]at h
    cases k with
    | zero=>simp;omega
    | succ k=>simpa using ih h k (by simpa using hk)
theorem stopped_FS (cs:List (Int×Int×Bool)) (st:List Int) (x:Int×Int×Bool) (f:Int) (hx:0≤x.1∧x.1≤127) (hf:0≤f∧f≤st.length) (hl:st.length≤18) (hs:∀ k (h:k < st.length),1≤st[k]∧st[k]≤127) :
  Ctr Tryz.prog 247 [.ag (eIns cs st),.ag (eCrs x),.sc (.int .i64 f)] (.sc (.int .i64 (x.1+if 0 < f then st.getD (f - 1).toNat 0 else 0))):=by
 refine zqe Tryz.func247 Tryz.ntmps247 fun w0 F0=>?_;dsimp only [St.init,number,Nat.reduceAdd]
 by_cases h0:f=0
 ·subst h0
  have e0:x.1+(if (0:Int) < 0 then st.getD ((0:Int) - 1).toNat 0 else 0)=x.1:=by simp
  rw [e0]
  repeat (first|refine W.go rfl ?_|refine W.condT rfl ?_)
  refine (?_:W _ _ _ _ _)
  exact W.ret zqr
 ·have hlt:(f - 1).toNat < st.length:=by omega
  have hs1:=hs _ hlt
  have hg:st.getD (f - 1).toNat 0=st[(f - 1).toNat]:=by rw [List.getD_eq_getElem?_getD,List.getElem?_eq_getElem hlt];rfl
  rw [if_pos (by omega),hg]
  repeat (first|refine W.gob rfl ?_|refine WL.nil ?_|refine WL.bf rfl rfl rfl zqo ?_|refine WL.e1 rfl ?_|refine W.condF rfl ?_)
  refine (?_:W _ _ _ _ _)
  refine W.drawK zqk zqk ?_
  repeat (first|refine DK.st rfl ?_|refine DK.ar rfl rfl (by unfold I64;omega) ?_|refine DK.idx rfl rfl zqo zqm ?_|refine DK.nil ?_)
  refine (?_:W _ _ _ _ _)
  exact W.ret zqr
theorem pAt_FS (cs:List (Int×Int×Bool)) (st:List Int) (c f:Int) (hI:insE cs st=0) (hc:1≤c∧c≤cs.length) (hf:0≤f∧f≤fretsOf cs c) :
  Ctr Tryz.prog 231 [.ag (eIns cs st),.ag [.sc (.int .i64 c),.sc (.int .i64 f)]] (.tu [.sc (.int .i64 (pitN cs st c f)),.sc (.int .i64 0)]):=by
 obtain ⟨l1,l2,l3,l4,l5⟩:=insE_len hI
 have hC:=pInsCheck_FS cs st
 rw [hI] at hC
 have hk:(c - 1).toNat < cs.length:=by omega
 have hfr:=crsE_fr l5 _ hk
 have hp:=crsE_p l5 _ hk
 have ef:fretsOf cs c=cs[(c - 1).toNat].2.1:=by
  have:=fretsOf_at hk
  rw [← this];congr 1;omega
 rw [ef] at hf
 have ep:pitN cs st c f=cs[(c - 1).toNat].1+if 0 < f then st.getD (f - 1).toNat 0 else 0:=by
  unfold pitN
  rw [List.getD_eq_getElem?_getD,List.getElem?_eq_getElem hk];rfl
 rw [ep]
 have hS:=stopped_FS cs st cs[(c - 1).toNat] f hp ⟨hf.1,by omega⟩ l3 (stepsBad_bd (Int.le_refl 0) l4)
 refine zqe Tryz.func231 Tryz.ntmps231 fun w0 F0=>?_;dsimp only [St.init,number,Nat.reduceAdd]
 repeat refine W.go rfl ?_
 refine (?_:WL _ _ _ _ _ _)
 refine WL.vl rfl (zqc Tryz.func117 hC) ?_
 repeat (first|refine W.gob rfl ?_|refine WL.nil ?_|refine WL.bf rfl rfl rfl zqo ?_|refine WL.nf rfl rfl rfl zqo ?_|refine WL.e1 rfl ?_|refine WL.gyes rfl rfl rfl rfl ?_|refine WL.ar rfl rfl (by unfold I64;omega) ?_|refine WL.len rfl rfl zql ?_|refine WL.idx rfl rfl zqo zqm ?_|refine W.condF rfl ?_)
 refine (?_:WL _ _ _ _ _ _)
 refine WL.vl rfl (zqc Tryz.func247 hS) ?_
 repeat (first|refine WL.nil ?_|refine WL.e1 rfl ?_)
 refine (?_:W _ _ _ _ _)
 exact W.ret (fin2 rfl rfl rfl rfl rfl rfl rfl)
end
section
open Go.RowKit
def bumpM (t:Int):List (Int×Int×Int)→List (Int×Int×Int)
 | []=>[]
 | [x]=>[(x.1,x.2.1+1,x.2.2+t)]
 | x::y::r=>x::bumpM t (y::r)
theorem bumpM_snoc (t:Int)(x:Int×Int×Int):∀ l,bumpM t (l++[x])=l++[(x.1,x.2.1+1,x.2.2+t)]
 | []=>rfl
 | [y]=>rfl
 | y::z::r=>by
  have:=bumpM_snoc t x (z::r)
  simp only [List.cons_append]at this ⊢
  rw [bumpM,this]
def newM (evs:List Ev)(k:Nat):Bool:=k == 0|| ((evs[k]?).map (·.bar)).getD false
def mea (evs:List Ev):Nat→List (Int×Int×Int)
 | 0=>[]
 | k+1=>bumpM (frc 0 (evs.take (k+1))) (if newM evs k then mea evs k++[((k:Int),0,0)]else mea evs k)
def mCell(x:Int×Int×Int):List Value:=[.int .i64 x.1,.int .i64 x.2.1,.int .i64 x.2.2]
def mCells (l:List (Int×Int×Int)):List Value:=l.flatMap mCell
theorem mCells_length (l:List (Int×Int×Int)):(mCells l).length=l.length*3:=by
 induction l with
 | nil=>rfl
 | cons x r ih=>simp [mCells,mCell]at ih ⊢;omega
theorem mCells_snoc (l:List (Int×Int×Int))(x:Int×Int×Int):mCells (l++[x])=mCells l++mCell x:=by simp [mCells]
theorem mCells_set1 (l:List (Int×Int×Int)) (x:Int×Int×Int) (u:Int):(mCells (l++[x])).set (l.length*3+1) (.int .i64 u)=mCells (l++[(x.1,u,x.2.2)]):=by
 rw [mCells_snoc,mCells_snoc,List.set_append_right _ _ (by rw [mCells_length];omega),mCells_length]
 rw [show l.length*3+1-l.length*3=1 by omega];rfl
theorem mCells_set2 (l:List (Int×Int×Int)) (x:Int×Int×Int) (u:Int):(mCells (l++[x])).set (l.length*3+2) (.int .i64 u)=mCells (l++[(x.1,x.2.1,u)]):=by
 rw [mCells_snoc,mCells_snoc,List.set_append_right _ _ (by rw [mCells_length];omega),mCells_length]
 rw [show l.length*3+2-l.length*3=2 by omega];rfl
theorem mCells_at1 (l:List (Int×Int×Int))(x:Int×Int×Int):(mCells (l++[x]))[l.length*3+1]?=some (.int .i64 x.2.1):=by
 rw [mCells_snoc,List.getElem?_append_right (by rw [mCells_length];omega),mCells_length,show l.length*3+1-l.length*3=1 by omega];rfl
theorem mCells_at2 (l:List (Int×Int×Int))(x:Int×Int×Int):(mCells (l++[x]))[l.length*3+2]?=some (.int .i64 x.2.2):=by
 rw [mCells_snoc,List.getElem?_append_right (by rw [mCells_length];omega),mCells_length,show l.length*3+2-l.length*3=2 by omega];rfl
theorem bumpM_length (t:Int):∀ l,(bumpM t l).length=l.length
 | []=>rfl
 | [y]=>rfl
 | y::z::r=>by
  have:=bumpM_length t (z::r)
  simp only [bumpM,List.length_cons]at this ⊢
  omega
theorem mea_ne (evs:List Ev):∀ k,(if newM evs k then mea evs k++[((k:Int),0,0)]else mea evs k)≠[]
 | 0=>by simp [newM]
 | k+1=>by
  split
  ·simp
  ·intro h
   have h1:(mea evs (k+1)).length=0:=by rw [h];rfl
   unfold mea at h1
   rw [bumpM_length]at h1
   exact mea_ne evs k (List.length_eq_zero_iff.1 h1)
theorem mea_length(evs:List Ev):∀ k,(mea evs k).length≤k
 | 0=>Nat.le_refl _
 | k+1=>by
  have:=mea_length evs k
  unfold mea
  rw [bumpM_length]
  split
  ·simp;omega
  ·omega
theorem bumpM_mem {t:Int}:∀ {l:List (Int×Int×Int)} {x:Int×Int×Int},x∈bumpM t l→x∈l∨∃ y∈l,x=(y.1,y.2.1+1,y.2.2+t)
 | [],x,h=>by cases h
 | [y],x,h=>by
  rw [show bumpM t [y]=[(y.1,y.2.1+1,y.2.2+t)]from rfl,List.mem_singleton]at h
  exact .inr ⟨y,by simp,h⟩
 | y::z::r,x,h=>by
  rw [show bumpM t (y::z::r)=y::bumpM t (z::r)from rfl]at h
  rcases List.mem_cons.1 h with h|h
  ·exact .inl (by simp [h])
  ·rcases bumpM_mem h with h|⟨w,h,e⟩
   ·exact .inl (List.mem_cons_of_mem _ h)
   ·exact .inr ⟨w,List.mem_cons_of_mem _ h,e⟩
theorem mea_bd (evs:List Ev):∀ k x,x∈mea evs k→(0≤x.1∧x.1≤k)∧(0≤x.2.1∧x.2.1≤k)∧(0≤x.2.2∧x.2.2≤1000*k):=by
 intro k
 induction k with
 | zero=>intro x hx;cases hx
 | succ k ih =>
  intro x hx
  have hT:=frc_le 0 (evs.take (k+1)) ⟨by decide,by decide⟩
  have h1:∀ y,y∈(if newM evs k then mea evs k++[((k:Int),0,0)] else mea evs k)→(0≤y.1∧y.1≤k)∧(0≤y.2.1∧y.2.1≤k)∧(0≤y.2.2∧y.2.2≤1000*k):=fun y hy=>by
   split at hy
   ·rcases List.mem_append.1 hy with hy|hy
    ·exact ih y hy
    ·rw [List.mem_singleton] at hy;subst hy;simp;omega
   ·exact ih y hy
  unfold mea at hx
  rcases bumpM_mem hx with hx|⟨y,hy,rfl⟩
  ·have:=h1 x hx;omega
  ·have:=h1 y hy;simp only;omega
end
section
open Go.RowKit
def sgF(evs:List Ev):Nat→Int×Bool×Bool
 | 0=>(0,false,false)
 | k+1=>match evs[k]? with
  | some e=>if e.val=0 then sgF evs k else(e.val,e.dot,e.three)
  | none=>sgF evs k
def eSig (x:Int×Bool×Bool):List AV:=[.sc (.int .i64 x.1),.sc (.bool x.2.1),.sc (.bool x.2.2)]
def sgL (evs:List Ev)(k:Nat):List (Int×Bool×Bool):=(List.range k).map fun i=>sgF evs (i+1)
theorem sgL_succ (evs:List Ev)(k:Nat):sgL evs (k+1)=sgL evs k++[sgF evs (k+1)]:=by simp [sgL,List.range_succ]
theorem sgL_length(evs:List Ev)(k:Nat):(sgL evs k).length=k:=by simp [sgL]
theorem rForces_FS (p:Pce) (hO:PcOk p):Ctr Tryz.prog 68 [ePce p] (.ls 3 ((sgL p.evs p.evs.length).map eSig)):=by
 have hn3:=hO.n3
 refine zqe Tryz.func68 Tryz.ntmps68 fun w0 F0=>?_;dsimp only [St.init,number,Nat.reduceAdd]
 repeat refine W.go rfl ?_
 refine (?_:W _ _ _ _ _)
 refine W.tr (Tr.nil (t:=3) 33 3 rfl rfl) ?_
 dsimp only [St.put,St.new,St.upd,Nat.reduceAdd]
 refine W.loop (fun k:Nat=>k≤p.evs.length) (fun k=>⟨[(1,.pt 0 0 0),(3,.sl 2),(4,.pt 1 0 0),(5,.sc (.int .i64 k))],[(0,.box 28 (ePce p).cells),(1,.box 33 (eSig (sgF p.evs k))),(2,.row 33 3 ((sgL p.evs k).map eSig))],3⟩) (fun k=>p.evs.length - k) 0 (by omega) (zqu (fun q=>q) (by repeat (first|exact trivial|refine ⟨⟨?_,?_,?_⟩,?_⟩|rfl|exact congrArg (fun q=>some (AO.row _ _ q)) (by first|rfl|(simp;done)|(simp [eInt];done)|(simp [eLk];done)))) rfl) fun k hk=>?_
 have hsl:=sgL_length p.evs k
 by_cases hlt:k < p.evs.length
 rotate_left
 ·obtain rfl:k=p.evs.length:=by omega
  repeat (first|refine W.gob rfl ?_|refine WL.nil ?_|refine WL.bf rfl rfl rfl zqo ?_|refine WL.e1 rfl ?_|refine WL.len rfl rfl zql ?_|refine W.condF rfl ?_)
  refine (?_:W _ _ _ _ _)
  refine W.tr (Tr.freeze 2 rfl) ?_
  exact W.ret zqr
 have e1:sgF p.evs (k+1)=if p.evs[k].val=0 then sgF p.evs k else (p.evs[k].val,p.evs[k].dot,p.evs[k].three):=by
  show (match p.evs[k]? with|some e=>_|none=>_)=_
  rw [List.getElem?_eq_getElem hlt]
 have e2:=sgL_succ p.evs k
 by_cases hv:p.evs[k].val=0
 ·rw [if_pos hv] at e1
  rw [e1] at e2
  repeat (first|refine W.gob rfl ?_|refine WL.nil ?_|refine WL.bt rfl rfl rfl zqo ?_|refine WL.nf rfl rfl rfl zqo ?_|refine WL.e1 rfl ?_|refine WL.ar rfl rfl (by unfold I64;omega) ?_|refine WL.len rfl rfl zql ?_|refine WL.idx rfl rfl zqo zqm ?_|refine WL.app rfl rfl rfl zqs ?_|refine W.condT rfl ?_|refine W.condF rfl ?_)
  refine ⟨k+1,by omega,by omega,?_⟩
  rw [e2,e1]
  exact (zqu (fun q=>bif Nat.beq q 2 then 4 else q) (by repeat (first|exact trivial|refine ⟨⟨?_,?_,?_⟩,?_⟩|rfl|exact congrArg (fun q=>some (AO.row _ _ q)) (by rw [List.map_append];rfl))) rfl)
 ·rw [if_neg hv] at e1
  rw [e1] at e2
  repeat (first|refine W.gob rfl ?_|refine WL.nil ?_|refine WL.bt rfl rfl rfl zqo ?_|refine WL.nt rfl rfl rfl zqo ?_|refine WL.e1 rfl ?_|refine WL.ar rfl rfl (by unfold I64;omega) ?_|refine WL.len rfl rfl zql ?_|refine WL.idx rfl rfl zqo zqm ?_|refine WL.app rfl rfl rfl zqs ?_|refine W.condT rfl ?_)
  refine ⟨k+1,by omega,by omega,?_⟩
  rw [e2,e1]
  exact (zqu (fun q=>bif Nat.beq q 2 then 4 else q) (by repeat (first|exact trivial|refine ⟨⟨?_,?_,?_⟩,?_⟩|rfl|exact congrArg (fun q=>some (AO.row _ _ q)) (by rw [List.map_append];rfl))) rfl)
end
section
open Go.RowKit
structure Va where
 kd:Int
 pl:Int
 ev:Ev
def sgW(e:Ev)(s:Int×Bool×Bool):Ev:={ e with val:=s.1,dot:=s.2.1,three:=s.2.2 }
def plN (evs:List Ev):Nat→List Ev
 | 0=>[]
 | k+1=>plN evs k++match evs[k]? with
  | some e=>[sgW e (sgF evs (k+1))]
  | none=>[]
theorem plN_at {evs:List Ev} {k:Nat} (h:k<evs.length):plN evs (k+1)=plN evs k++[sgW evs[k] (sgF evs (k+1))]:=by
 show plN evs k++(match evs[k]? with|some e=>_|none=>_)=_
 rw [List.getElem?_eq_getElem h]
theorem plN_length {evs:List Ev}:∀ {k:Nat},k≤evs.length→(plN evs k).length=k
 | 0,_=>rfl
 | k+1,h=>by rw [plN_at (by omega),List.length_append,plN_length (by omega)];rfl
def plE(p:Pce):List Ev:=plN p.evs p.evs.length
theorem plE_length (p:Pce):(plE p).length=p.evs.length:=plN_length (Nat.le_refl _)
def noP:Pce:=⟨[],[],[]⟩
def plP(p:Pce):Pce:=if pceE p=0 then⟨p.cs,p.st,plE p⟩else noP
theorem sgF_at {evs:List Ev} {k:Nat} (h:k<evs.length):sgF evs (k+1)=if evs[k].val=0 then sgF evs k else (evs[k].val,evs[k].dot,evs[k].three):=by
 show (match evs[k]? with|some e=>_|none=>_)=_
 rw [List.getElem?_eq_getElem h]
theorem plN_stops {evs:List Ev}:∀ {k:Nat},k≤evs.length→∀ e∈plN evs k,∃ f∈evs,e.stops=f.stops
 | 0,_,e,h=>by cases h
 | k+1,hk,e,h=>by
  rw [plN_at (by omega)] at h
  rcases List.mem_append.1 h with h|h
  ·exact plN_stops zqo e h
  ·rw [List.mem_singleton] at h
   exact⟨evs[k],List.getElem_mem _,by rw [h];rfl⟩
end
end Go.Proofs.YtgelfflighgajaaGreatDoor
