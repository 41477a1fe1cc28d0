/- An instrument behind a capo, and a piece there: plain. -/
import Derived.Lib.SmallJoins
import Derived.Test.YtaeelcfjkhfpkaaGreatYRRq
set_option maxHeartbeats 8000000
set_option maxRecDepth 100000
set_option linter.unusedVariables false
set_option linter.unusedSimpArgs false
namespace Go.Proofs.YtaeelcfjkhfpkaaGreat
section
open Go.RowKit Go.WideShapes Go.ChangeShapes Go.Joins Go.Deep
section
variable {H:Type} {enc:TypeId×Value→H} {P:Program} {w:World} {base:Nat} {spare:Nat→Bool} {held:Bool}
theorem post_of_below {f:Func} {s:ChangeSpec} {apart fresh handsOn again:Bool} {W W':World} {args:Array Value} {v:Value} {ds gs:List (DataW H)} {before pa pv:List MemPlace}
  (hW:DataW.Whole enc P f.params.toList s.vars apart W args.toList ds gs before)
  (hres:∀ (b:Nat) (sp:Nat→Bool) (hd:Bool),DataW.TrodAll enc P W' b sp hd f.resultTypes.toList (v.resultList f.resultTypes.size) (s.fn H (ds++gs)).results [])
  (hargs:∀ sp:Nat→Bool,(∀ p∈before,sp p.block=true)→DataW.TrodAll enc P W' 0 sp true f.params.toList args.toList (s.fn H (ds++gs)).args pa)
  (hvars:∀ sp:Nat→Bool,(∀ p∈before,sp p.block=true)→DataW.TrodVars enc P W' sp s.vars (s.fn H (ds++gs)).vars pv)
  (hps:before=pa++pv) (hb:Below W.heap.size W W')
  (hok:∀ (j:Nat) (t:TypeId) (r:Value),f.resultTypes[j]?=some t→(v.resultList f.resultTypes.size)[j]?=some r→Value.okWide P W' .any 0 t r) :
  s.post enc P f apart fresh handsOn again W args v W':=by
 have hlt:∀ p∈before,p.block<W.heap.size:=fun p hp=>hW.lt p hp
 have hold:∀ p∈before,(fun b=>decide (b<W.heap.size)) p.block=true:=fun p hp=>by simpa using hlt p hp
 refine ⟨ds,gs,before,[],pa,pv,hW,hres _ _ _,hargs _ hold,hvars _ hold,World.keptBut_mono (fun p hp=>⟨hp,?_⟩) (hb.frame (·∈before)),fun _=>?_⟩
 ·rw [hps,List.mem_append] at hp
  exact Or.inr hp
 ·obtain ⟨_,_,_,_,_,hz,hn⟩:=hW
  refine ⟨hok,_,_,([]++pa)++pv,⟨[]++pa,pv,trodAll_append (hargs _ (fun _ _=>rfl)) (hres _ _ _),hvars _ (fun _ _=>rfl),rfl,?_,?_⟩,?_⟩
  ·intro b off hp
   have hin:MemPlace.cell b off∈before:=by rw [hps];simpa using hp
   rw [hb.frozen (hlt _ hin)]
   exact hz b off hin
  ·intro ha
   have:=hn ha
   rw [hps] at this
   simpa using this
  ·intro p hp _
   rw [hps]
   simpa using hp
end
end
section
open Go.RowKit
def Cg.pl(C:Cg)(x:Stp):Option Stp:=if (C.ch x).2=true then none else some (C.ch x).1
def pcS(C:Cg)(l:List Stp):List Stp:=l.filterMap C.pl
def kpS(C:Cg)(l:List Stp):List Stp:=l.filter fun x=>!(C.ch x).2
theorem pcS_fr (C:Cg):∀ l:List Stp,pcS C l=(kpS C l).map fun x=>(C.ch x).1
 | []=>rfl
 | x::r=>by
  have ih:=pcS_fr C r
  unfold pcS kpS at ih ⊢
  rw [List.filterMap_cons,List.filter_cons]
  cases h:(C.ch x).2 with
  | true=>rw [show C.pl x=none from if_pos h,ih];rfl
  | false=>rw [show C.pl x=some (C.ch x).1 from if_neg (by rw [h];simp),ih];rfl
theorem nwS_fr (C:Cg):∀ l:List Stp,nwS C l=(kpS C l).map fun x=>C.mr (C.ch x).1
 | []=>rfl
 | x::r=>by
  have ih:=nwS_fr C r
  unfold nwS kpS at ih ⊢
  rw [List.filterMap_cons,List.filter_cons]
  cases h:(C.ch x).2 with
  | true=>rw [show C.mv x=none from if_pos h,ih];rfl
  | false=>rw [show C.mv x=some (C.mr (C.ch x).1)from if_neg (by rw [h];simp),ih];rfl
structure CgLs (C:Cg):Prop where
 crs:∀ x y,C.mv x=some y→y.1=x.1∧y.2.2.2.2=x.2.2.2.2
 ml:∀ x y,C.mv x=some y→C.ml (C.ch x).1=(if y.2.2.1=x.2.2.1 then []else [2])++(if y.2.2.2.1=x.2.2.2.1 then []else [3])
theorem redC_ls (s:Int):CgLs (redC s):=by
 refine⟨redC_crs,fun x y h=>?_⟩
 obtain⟨_,rfl⟩:=redC_mv h
 show (if okR s x.2.2.1=true then []else [2])++(if okG s x.2.2.2.1=true then []else [3])=(if (if okR s x.2.2.1=true then x.2.2.1 else 0)=x.2.2.1 then []else [2])++(if (if okG s x.2.2.2.1=true then x.2.2.2.1 else 0)=x.2.2.2.1 then []else [3])
 have e1:(if okR s x.2.2.1=true then []else [2]:List Int)=if (if okR s x.2.2.1=true then x.2.2.1 else 0)=x.2.2.1 then []else [2]:=by
  by_cases h:okR s x.2.2.1=true
  ·rw [if_pos h,if_pos h,if_pos rfl]
  ·rw [if_neg h,if_neg h,if_neg]
   intro e
   apply h
   rw [← e];rfl
 have e2:(if okG s x.2.2.2.1=true then []else [3]:List Int)=if (if okG s x.2.2.2.1=true then x.2.2.2.1 else 0)=x.2.2.2.1 then []else [3]:=by
  by_cases h:okG s x.2.2.2.1=true
  ·rw [if_pos h,if_pos h,if_pos rfl]
  ·rw [if_neg h,if_neg h,if_neg]
   intro e
   apply h
   rw [← e];rfl
 rw [e1,e2]
end
section
open Go.RowKit
theorem kpS_app (C:Cg)(l m:List Stp):kpS C (l++m)=kpS C l++kpS C m:=List.filter_append ..
theorem kp_pos {C:Cg} {l:List Stp} {k:Nat} (h:k<l.length)(hc:(C.ch l[k]).2=false):(kpS C l)[(kpS C (l.take k)).length]?=some l[k]:=by
 have e:l=l.take k++(l[k]::l.drop (k+1)):=by rw [List.getElem_cons_drop,List.take_append_drop]
 have e2:kpS C (l[k]::l.drop (k+1))=l[k]::kpS C (l.drop (k+1)):=by
  unfold kpS;rw [List.filter_cons,hc];rfl
 have e3:kpS C l=kpS C (l.take k)++(l[k]::kpS C (l.drop (k+1))):=by
  rw [← e2,← kpS_app,← e]
 rw [e3,List.getElem?_append_right (Nat.le_refl _),Nat.sub_self];rfl
theorem nw_pos {C:Cg} {l:List Stp} {k:Nat} (h:k<l.length) (hc:(C.ch l[k]).2=false) (f:Stp→Int):((nwS C l).map fun y=>stH y (f y))[(kpS C (l.take k)).length]?=some (stH (C.mr (C.ch l[k]).1) (f (C.mr (C.ch l[k]).1))):=by
 rw [nwS_fr,List.getElem?_map,List.getElem?_map,kp_pos h hc];rfl
theorem lsS_lost {C:Cg} {H:Nat→Stp→Int} {i:Nat} {x:Stp} (hc:(C.ch x).2=true):lsS C H i x=[((i:Int),x.1,1)]:=by
 unfold lsS
 rw [show C.mv x=none from if_pos hc]
theorem lsS_kept {C:Cg} (hC:CgLs C) {H:Nat→Stp→Int} {i:Nat} {x:Stp} (hc:(C.ch x).2=false) :
  lsS C H i x=((if (C.mr (C.ch x).1).2.2.1=x.2.2.1 then []else [((i:Int),x.1,(2:Int))])++(if (C.mr (C.ch x).1).2.2.2.1=x.2.2.2.1 then []else [((i:Int),x.1,(3:Int))]))++(if H i (C.mr (C.ch x).1)=x.2.2.2.2 then []else [((i:Int),x.1,(4:Int))]):=by
 have hm:C.mv x=some (C.mr (C.ch x).1):=if_neg (by rw [hc];simp)
 unfold lsS
 rw [hm]
 dsimp only
 rw [hC.ml x _ hm,List.map_append]
 congr 2
 ·split<;>rfl
 ·split<;>rfl
end
section
open Go.RowKit
def cpS (st:List Int)(f:Int):Int:=st.getD (f.toNat-1) 0
def cp1(st:List Int)(f:Int)(x:Int×Int×Bool):Int×Int×Bool:=if x.2.1=0 then x else(x.1+cpS st f,x.2.1-f,x.2.2)
def cpBad (cs:List (Int×Int×Bool))(f:Int):Bool:=cs.any fun x=>decide (x.2.1≠0∧x.2.1<f)
def cpX (cs:List (Int×Int×Bool))(st:List Int)(f:Int):Int:=if insE cs st≠0 then insE cs st else if f<0∨(st.length:Int)<f then 13 else if f=0 then 0 else if cpBad cs f=true then 13 else 0
def cpCs (cs:List (Int×Int×Bool))(st:List Int)(f:Int):List (Int×Int×Bool):=if cpX cs st f=0 then (if f=0 then cs else cs.map (cp1 st f))else []
def cpSt (cs:List (Int×Int×Bool))(st:List Int)(f:Int):List Int:=if cpX cs st f=0 then (if f=0 then st else (st.drop f.toNat).map fun x=>x-cpS st f)else []
def capF (cs:List (Int×Int×Bool))(f:Int)(x:Stp):Int:=if 0<fretsOf cs x.1 then x.2.1-f else x.2.1
def capC (cs:List (Int×Int×Bool))(f:Int):Cg where
 ch x:=((x.1,capF cs f x,x.2.2),decide (capF cs f x<0))
 mr y:=y
 ml _:=[]
 tie _ e:=e.tie
 bare i:=decide (0<i)
def capE(p:Pce)(f:Int):Int:=if pceE p≠0 then pceE p else cpX p.cs p.st f
def capN (p:Pce)(f:Int):List Ev:=nwL (capC p.cs f) p.evs
def capP (p:Pce) (f:Int):Pce:=if capE p f=0 then ⟨cpCs p.cs p.st f,cpSt p.cs p.st f,fnL (ftH (capN p f)) (capN p f)⟩else noP
def capL (p:Pce) (f:Int):List Lck:=if capE p f=0 then lsL (capC p.cs f) (ftH (capN p f)) p.evs p.evs.length else []
theorem capC_mv {cs:List (Int×Int×Bool)} {f:Int} {x y:Stp} (h:(capC cs f).mv x=some y):0≤capF cs f x∧y=(x.1,capF cs f x,x.2.2):=by
 unfold Cg.mv at h
 by_cases hp:capF cs f x<0
 ·rw [if_pos (by show decide (capF cs f x<0)=true;exact decide_eq_true hp)]at h;cases h
 ·rw [if_neg (by show ¬ decide (capF cs f x<0)=true;simpa using hp)]at h
  exact⟨by omega,(Option.some.inj h).symm⟩
theorem capC_crs {cs:List (Int×Int×Bool)} {f:Int} (x y:Stp)(h:(capC cs f).mv x=some y):y.1=x.1∧y.2.2.2.2=x.2.2.2.2:=by
 obtain⟨_,rfl⟩:=capC_mv h;exact⟨rfl,rfl⟩
theorem cpS_bd {cs:List (Int×Int×Bool)} {st:List Int} (h:insE cs st=0) {f:Int} (h1:1≤f)(h2:f≤st.length):(f-1).toNat<st.length∧st[(f-1).toNat]?=some (cpS st f)∧1≤cpS st f∧cpS st f≤127:=by
 have hk:(f-1).toNat<st.length:=by omega
 obtain⟨_,_,_,l4,_⟩:=insE_len h
 have e:cpS st f=st[(f-1).toNat]:=by
  unfold cpS
  rw [List.getD_eq_getElem?_getD,show f.toNat-1=(f-1).toNat by omega,List.getElem?_eq_getElem hk];rfl
 refine⟨hk,by rw [e,List.getElem?_eq_getElem hk],?_⟩
 rw [e]
 exact stepsBad_bd zqo l4 _ hk
end
end Go.Proofs.YtaeelcfjkhfpkaaGreat
