/- Whether a sign is right: the reference. -/
import Derived.Lib.SmallJoins
import Derived.Test.YtgelfflighgajaaGreatDoorPlUq
set_option maxHeartbeats 4000000
set_option maxRecDepth 100000
set_option linter.unusedVariables false
set_option linter.unusedSimpArgs false
namespace Go.Proofs.YtgelfflighgajaaGreatDoor
open Go.RowKit Go.WideShapes Go.ChangeShapes Go.Joins Go.Deep
section
variable {H:Type} {enc:TypeId×Value→H} {P:Program} {w:World} {base:Nat} {spare:Nat→Bool} {held:Bool}
theorem post_of_below {f:Func} {s:ChangeSpec} {apart fresh handsOn again:Bool} {W W':World} {args:Array Value} {v:Value} {ds gs:List (DataW H)} {before pa pv:List MemPlace}
  (hW:DataW.Whole enc P f.params.toList s.vars apart W args.toList ds gs before)
  (hres:∀ (b:Nat) (sp:Nat→Bool) (hd:Bool),DataW.TrodAll enc P W' b sp hd f.resultTypes.toList (v.resultList f.resultTypes.size) (s.fn H (ds++gs)).results [])
  (hargs:∀ sp:Nat→Bool,(∀ p∈before,sp p.block=true)→DataW.TrodAll enc P W' 0 sp true f.params.toList args.toList (s.fn H (ds++gs)).args pa)
  (hvars:∀ sp:Nat→Bool,(∀ p∈before,sp p.block=true)→DataW.TrodVars enc P W' sp s.vars (s.fn H (ds++gs)).vars pv)
  (hps:before=pa++pv) (hb:Below W.heap.size W W')
  (hok:∀ (j:Nat) (t:TypeId) (r:Value),f.resultTypes[j]?=some t→(v.resultList f.resultTypes.size)[j]?=some r→Value.okWide P W' .any 0 t r) :
  s.post enc P f apart fresh handsOn again W args v W':=by
 have hlt:∀ p∈before,p.block<W.heap.size:=fun p hp=>hW.lt p hp
 have hold:∀ p∈before,(fun b=>decide (b<W.heap.size)) p.block=true:=fun p hp=>by simpa using hlt p hp
 refine ⟨ds,gs,before,[],pa,pv,hW,hres _ _ _,hargs _ hold,hvars _ hold,World.keptBut_mono (fun p hp=>⟨hp,?_⟩) (hb.frame (·∈before)),fun _=>?_⟩
 ·rw [hps,List.mem_append] at hp
  exact Or.inr hp
 ·obtain ⟨_,_,_,_,_,hz,hn⟩:=hW
  refine ⟨hok,_,_,([]++pa)++pv,⟨[]++pa,pv,trodAll_append (hargs _ (fun _ _=>rfl)) (hres _ _ _),hvars _ (fun _ _=>rfl),rfl,?_,?_⟩,?_⟩
  ·intro b off hp
   have hin:MemPlace.cell b off∈before:=by rw [hps];simpa using hp
   rw [hb.frozen (hlt _ hin)]
   exact hz b off hin
  ·intro ha
   have:=hn ha
   rw [hps] at this
   simpa using this
  ·intro p hp _
   rw [hps]
   simpa using hp
end
end Go.Proofs.YtgelfflighgajaaGreatDoor
namespace Go.Proofs.YtgelfflighgajaaGreatDoor
open Go.RowKit
theorem rd_of_rp {α:Type} {F:View} {w:World} {n:Nat} {l:List α} {e:α→List AV} {f:α→List Value} {v:Value} (hF:∀ p u,F p=some u→w.cell? p=some u) (h0:0<n) (hf:∀ x,(f x).length=n) (hef:∀ x (j:Nat) u,(f x)[j]?=some u→(e x)[j]?=some (.sc u))
  (r:RP F (.ls n (l.map e)) v):∃ A c,v=.slice A l.length c∧Rd w w.heap.size n A (l.map f)∧l.length≤c:=by
 obtain ⟨A,cap,ad,u,rfl,h1,h2,h3,h4,h5⟩:=r.ls_of
 have hcell:∀ (k:Nat) x,l[k]?=some x→∀ (j:Nat) y,(f x)[j]?=some y→w.cell? (ad.add (k*n+j))=some y:=fun k x hk j y hy=>by
  have a1:(l.map e)[k]?=some (e x):=by rw [List.getElem?_map,hk];rfl
  have:=h3 k _ j _ a1 (hef x j y hy)
  rw [hF _ _ this.1,(h4 k _ j _ a1 (hef x j y hy)).sc_eq]
 refine ⟨A,cap,by rw [List.length_map],fun hp=>⟨ad,h2 (by simpa using hp),?_,fun k r hr j y hy=>?_⟩,by simpa using h5⟩
 ·have hp:0<l.length:=by simpa using hp
  have hx:0<(f (l[0]'hp)).length:=by rw [hf];exact h0
  have:=cell_block (hcell 0 (l[0]'hp) (List.getElem?_eq_getElem hp) 0 _ (List.getElem?_eq_getElem hx))
  rwa [block_of_add] at this
 ·rw [List.getElem?_map] at hr
  cases hk:l[k]? with
  | none=>simp [hk] at hr
  | some x =>
   rw [hk] at hr
   obtain rfl:f x=r:=by simpa using hr
   exact hcell k x hk j y hy
theorem stps_of_rp {F:View} {w:World} {l:List Stp} {v:Value} (hF:∀ p u,F p=some u→w.cell? p=some u) (r:RP F (eStps l) v):∃ A c,v=.slice A l.length c∧StpsAt w w.heap.size A l∧l.length≤c :=
 rd_of_rp (n:=5) (f:=stpCells) hF (by omega) (fun _=>rfl) (fun x j u h=>by
  match j with
  | 0=>cases h;rfl
  | 1=>cases h;rfl
  | 2=>cases h;rfl
  | 3=>cases h;rfl
  | 4=>cases h;rfl
  | j+5=>simp [stpCells] at h) r
theorem evs_of_rp {F:View} {w:World} {l:List Ev} {v:Value} (hF:∀ p u,F p=some u→w.cell? p=some u) (r:RP F (.ls 6 (l.map eEv)) v):∃ A c,v=.slice A l.length c∧EvsAt w w.heap.size A l∧l.length≤c:=by
 obtain ⟨A,cap,ad,u,rfl,h1,h2,h3,h4,h5⟩:=r.ls_of
 obtain ⟨ms,hml,hmq⟩:=list_ofT (fun k (m:Option Addr×Nat)=>∀ x,l[k]?=some x→u k 5=.slice m.1 x.stops.length m.2∧StpsAt w w.heap.size m.1 x.stops) l.length fun k hk=>by
  have a1:(l.map eEv)[k]?=some (eEv l[k]):=by simp [hk]
  obtain ⟨A',c',e,hs,_⟩:=stps_of_rp hF (h4 k _ 5 _ a1 rfl)
  refine ⟨(A',c'),fun x hx=>?_⟩
  rw [List.getElem?_eq_getElem hk] at hx
  cases hx
  exact ⟨e,hs⟩
 have hcell:∀ (k:Nat) x m,l[k]?=some x→ms[k]?=some m→∀ (j:Nat) y,(evCells x m)[j]?=some y→w.cell? (ad.add (k*6+j))=some y:=fun k x m hk hm j y hy=>by
  have a1:(l.map eEv)[k]?=some (eEv x):=by rw [List.getElem?_map,hk];rfl
  have hj:j < 6:=(List.getElem?_eq_some_iff.1 hy).1
  have get:∀ av,(eEv x)[j]?=some av→w.cell? (ad.add (k*6+j))=some (u k j):=fun av hav=>hF _ _ (h3 k _ j _ a1 hav).1
  match j,hj with
  | 0,_=>cases hy;rw [get _ rfl,(h4 k _ 0 _ a1 rfl).sc_eq]
  | 1,_=>cases hy;rw [get _ rfl,(h4 k _ 1 _ a1 rfl).sc_eq]
  | 2,_=>cases hy;rw [get _ rfl,(h4 k _ 2 _ a1 rfl).sc_eq]
  | 3,_=>cases hy;rw [get _ rfl,(h4 k _ 3 _ a1 rfl).sc_eq]
  | 4,_=>cases hy;rw [get _ rfl,(h4 k _ 4 _ a1 rfl).sc_eq]
  | 5,_=>cases hy;rw [get _ rfl,(hmq k m hm x hk).1]
 refine ⟨A,cap,by rw [List.length_map],⟨ms,hml,fun hp=>⟨ad,h2 ?_,?_,fun k r hr j y hy=>?_⟩,fun k e m he hm=>(hmq k m hm e he).2⟩,by simpa using h5⟩
 ·simp [hml] at hp ⊢;omega
 ·have hp:0 < l.length:=by simp [hml] at hp;omega
  have:=cell_block (hcell 0 (l[0]'hp) (ms[0]'(by omega)) (List.getElem?_eq_getElem hp) (List.getElem?_eq_getElem (by omega)) 0 _ rfl)
  rwa [block_of_add] at this
 ·rw [List.getElem?_zipWith] at hr
  cases hk:l[k]? with
  | none=>simp [hk] at hr
  | some x =>
   cases hm:ms[k]? with
   | none=>simp [hk,hm] at hr
   | some m =>
    simp [hk,hm] at hr
    subst hr
    exact hcell k x m hk hm j y hy
theorem ins_of_rp {F:View} {w:World} {cs:List (Int×Int×Bool)} {st:List Int} {v1 v2:Value} (hF:∀ p u,F p=some u→w.cell? p=some u) (r1:RP F (.ls 3 (cs.map eCrs)) v1) (r2:RP F (.ls 1 (st.map eInt)) v2) :
  ∃ A1 c1 A2 c2,v1=.slice A1 cs.length c1∧v2=.slice A2 st.length c2∧InsAt w w.heap.size A1 A2 cs st:=by
 obtain ⟨A1,c1,e1,h1,_⟩:=rd_of_rp (n:=3) (f:=crsCells) hF (by omega) (fun _=>rfl) (fun x j u h=>by
  match j with
  | 0=>cases h;rfl
  | 1=>cases h;rfl
  | 2=>cases h;rfl
  | j+3=>simp [crsCells] at h) r1
 obtain ⟨A2,c2,e2,h2,_⟩:=rd_of_rp (n:=1) (f:=intCell) hF (by omega) (fun _=>rfl) (fun x j u h=>by
  match j with
  | 0=>cases h;rfl
  | j+1=>simp [intCell] at h) r2
 exact ⟨A1,c1,A2,c2,e1,e2,h1,h2⟩
theorem pc_of_rp {F:View} {w:World} {p:Pce} {v:Value} (hF:∀ p u,F p=some u→w.cell? p=some u) (r:RP F (ePce p) v):∃ M,v=pcValue M p∧PcAt w w.heap.size M p:=by
 obtain ⟨cs,rfl,h1,h2⟩:∃ cs:Array Value,v=.agg cs∧cs.size=3∧∀ (i:Nat) av u,[AV.ls 3 (p.cs.map eCrs),.ls 1 (p.st.map eInt),.ls 6 (p.evs.map eEv)][i]?=some av→cs[i]?=some u→RP F av u:=by
  cases r with|ag l cs a b=>exact ⟨cs,rfl,a,b⟩
 have g:∀ i (h:i<3),cs[i]?=some (cs[i]'(by omega)):=fun i h=>Array.getElem?_eq_getElem (by omega)
 obtain ⟨A1,c1,A2,c2,e1,e2,hI⟩:=ins_of_rp hF (h2 0 _ _ rfl (g 0 (by omega))) (h2 1 _ _ rfl (g 1 (by omega)))
 obtain ⟨A3,c3,e3,hE,hc⟩:=evs_of_rp hF (h2 2 _ _ rfl (g 2 (by omega)))
 refine ⟨⟨A1,A2,A3,c1,c2,c3⟩,?_,hI,hE,hc⟩
 unfold pcValue
 congr 1
 apply Array.ext (by simp [h1])
 intro i hi hi2
 match i,(show i<3 by omega) with
 | 0,_=>exact e1
 | 1,_=>exact e2
 | 2,_=>exact e3
theorem Ctr.of_sc {P:Program} {f:FuncId} {args:List AV} {xs:List Value} {res:AV} {v:Value} (hs:scs args=some xs)(hv:∀ F,RP F res v)(h:∀ w,Calls P f xs.toArray w (Ret v w)):Ctr P f args res:=by
 intro w F vs hF hR
 have:vs=xs:=scs_of (G:=⟨F,fun _=>0,fun _=>0,fun _=>undef,fun _ _=>False⟩) hs hR.1 fun i av u a b=>.pu _ _ (hR.2 i av u a b)
 subst this
 exact (h w).mono fun e w'⟨he,hb⟩=>⟨v,F,he,hb,fun _ _ h=>h,fun p u x=>by rw [hb.cell (cell_block (hF p u x))];exact hF p u x,fun _ _ h=>.inl h,hv F⟩
theorem Ctr.of_pc {P:Program} {f:FuncId} {p:Pce} {pre post:List AV} {xs ys:List Value} {res:AV} {v:Value} (hs:scs pre=some xs) (hs2:scs post=some ys) (hv:∀ F,RP F res v)
  (h:∀ w M,PcAt w w.heap.size M p→Calls P f (xs++pcValue M p::ys).toArray w (Ret v w)):Ctr P f (pre++ePce p::post) res:=by
 intro w F vs hF hR
 have hG:∀ i av u,(pre++ePce p::post)[i]?=some av→vs[i]?=some u→R ⟨F,fun _=>0,fun _=>0,fun _=>undef,fun _ _=>False⟩ av u:=fun i av u a b=>.pu _ _ (hR.2 i av u a b)
 have hlen:vs.length=pre.length+(post.length+1):=by rw [hR.1];simp
 have e1:vs.take pre.length=xs:=scs_of hs (by simp;omega) fun i av u a b=>by
  have hi:i<pre.length:=(List.getElem?_eq_some_iff.1 a).1
  rw [List.getElem?_take_of_lt hi] at b
  exact hG i av u (by rw [List.getElem?_append_left hi];exact a) b
 have e2:vs.drop (pre.length+1)=ys:=scs_of hs2 (by simp;omega) fun i av u a b=>by
  rw [List.getElem?_drop] at b
  exact hG (pre.length+1+i) av u (by rw [List.getElem?_append_right (by omega),show pre.length+1+i-pre.length=i+1 by omega];exact a) b
 have hp:vs[pre.length]?=some (vs[pre.length]'(by omega)):=List.getElem?_eq_getElem (by omega)
 obtain ⟨M,eM,hM⟩:=pc_of_rp hF (hR.2 pre.length _ _ (by rw [List.getElem?_append_right (Nat.le_refl _),Nat.sub_self];rfl) hp)
 have ev:vs=xs++pcValue M p::ys:=by
  rw [← e1,← e2,← eM]
  conv=>lhs;rw [← List.take_append_drop pre.length vs]
  congr 1
  rw [List.drop_eq_getElem_cons (by omega)]
 rw [ev]
 exact (h w M hM).mono fun e w' ⟨he,hb⟩=>⟨v,F,he,hb,fun _ _ h=>h,fun p u x=>by rw [hb.cell (cell_block (hF p u x))];exact hF p u x,fun _ _ h=>.inl h,hv F⟩
end Go.Proofs.YtgelfflighgajaaGreatDoor
namespace Go.Proofs.YtgelfflighgajaaGreatDoor
open Go.RowKit
def newF(F:View)(w w':World):View:=fun p=>if p.block<w.heap.size then F p else w'.cell? p
theorem newF_le {F:View} {w w':World} (hF:∀ p u,F p=some u→w.cell? p=some u):View.le F (newF F w w'):=fun p u h=>by
 unfold newF
 rw [if_pos (cell_block (hF p u h))];exact h
theorem newF_fw {F:View} {w w':World} (hF:∀ p u,F p=some u→w.cell? p=some u)(hb:Below w.heap.size w w'):∀ p u,newF F w w' p=some u→w'.cell? p=some u:=fun p u h=>by
 unfold newF at h
 by_cases e:p.block<w.heap.size
 ·rw [if_pos e]at h;rw [hb.cell e];exact hF p u h
 ·rw [if_neg e]at h;exact h
theorem newF_new {F:View} {w w':World}:∀ p u,newF F w w' p=some u→F p=some u∨w.heap.size≤p.block:=fun p u h=>by
 unfold newF at h
 by_cases e:p.block<w.heap.size
 ·rw [if_pos e]at h;exact .inl h
 ·exact .inr (by omega)
theorem rp_of_rd {α:Type} {F:View} {w w':World} {n:Nat} {l:List α} {e:α→List AV} {f:α→List Value} {A:Option Addr} {c B:Nat} (hr:Rd w' B n A (l.map f)) (hA:∀ ad,A=some ad→w.heap.size≤ad.block) (hc:l.length≤c)
  (hf:∀ x,(e x).length=n) (hef:∀ x (j:Nat) av,(e x)[j]?=some av→∃ u,av=.sc u∧(f x)[j]?=some u∧u.oneCell'=true):RP (newF F w w') (.ls n (l.map e)) (.slice A l.length c):=by
 have hcell:∀ ad,A=some ad→∀ (k:Nat) x,l[k]?=some x→∀ (j:Nat) u,(f x)[j]?=some u→newF F w w' (ad.add (k*n+j))=some u:=fun ad had k x hk j u hu=>by
  have hl:0<(l.map f).length:=by have:=(List.getElem?_eq_some_iff.1 hk).1;simp;omega
  obtain ⟨ad',e',_,h2⟩:=hr hl
  rw [had] at e'
  cases e'
  unfold newF
  rw [if_neg (by rw [block_of_add];have:=hA ad had;omega)]
  exact h2 k (f x) (by rw [List.getElem?_map,hk];rfl) j u hu
 have key:∀ (i:Nat) r (j:Nat) av,(l.map e)[i]?=some r→r[j]?=some av→∃ x u,l[i]?=some x∧av=.sc u∧(f x)[j]?=some u∧u.oneCell'=true:=fun i r j av hr' hav=>by
  rw [List.getElem?_map] at hr'
  cases hx:l[i]? with
  | none=>simp [hx] at hr'
  | some x =>
   rw [hx] at hr'
   obtain rfl:e x=r:=by simpa using hr'
   obtain ⟨u,a,b,c⟩:=hef x j av hav
   exact ⟨x,u,rfl,a,b,c⟩
 have hlen:l.length=(l.map e).length:=by simp
 rw [hlen]
 refine .ls n (l.map e) A c (A.getD ⟨0,0,none⟩) (fun i j=>((l[i]?).bind fun x=>(f x)[j]?).getD undef) (by simpa using hc) (fun r hr'=>?_) (fun hp=>?_) (fun i r j av hr' hav=>?_) (fun i r j av hr' hav=>?_)
 ·obtain ⟨x,_,rfl⟩:=List.mem_map.1 hr';exact hf x
 ·obtain ⟨ad,e',_⟩:=hr (by simpa using hp)
  rw [e'];rfl
 ·obtain ⟨x,u,h1,h2,h3,h4⟩:=key i r j av hr' hav
  obtain ⟨ad,e',_⟩:=hr (by have:=(List.getElem?_eq_some_iff.1 h1).1;simp;omega)
  simp only [h1,Option.bind_some,h3,Option.getD_some]
  rw [e']
  exact ⟨hcell ad e' i x h1 j u h3,h4⟩
 ·obtain ⟨x,u,h1,h2,h3,h4⟩:=key i r j av hr' hav
  simp only [h1,Option.bind_some,h3,Option.getD_some,h2]
  exact .sc u
theorem eCrs_of(x:Int×Int×Bool)(j:Nat)(av:AV)(h:(eCrs x)[j]?=some av):∃ u,av=.sc u∧(crsCells x)[j]?=some u∧u.oneCell'=true:=by
 match j with
 | 0=>cases h;exact⟨_,rfl,rfl,rfl⟩
 | 1=>cases h;exact⟨_,rfl,rfl,rfl⟩
 | 2=>cases h;exact⟨_,rfl,rfl,rfl⟩
 | j+3=>simp [eCrs]at h
theorem eInt_of(x:Int)(j:Nat)(av:AV)(h:(eInt x)[j]?=some av):∃ u,av=.sc u∧(intCell x)[j]?=some u∧u.oneCell'=true:=by
 match j with
 | 0=>cases h;exact⟨_,rfl,rfl,rfl⟩
 | j+1=>simp [eInt]at h
theorem insCopy_FS (cs:List (Int×Int×Bool)) (st:List Int) (h1:cs.length≤64) (h2:st.length≤64):Ctr Tryz.prog 53 [.ag (eIns cs st)] (.ag (eIns cs st)):=by
 intro w F vs hF hR
 match vs,hR.1 with
 | [v],_ =>
  have r:=hR.2 0 _ v rfl rfl
  obtain ⟨xs,rfl,q1,q2⟩:∃ xs:Array Value,v=.agg xs∧xs.size=2∧∀ (i:Nat) av u,(eIns cs st)[i]?=some av→xs[i]?=some u→RP F av u:=by
   cases r with|ag l cs a b=>exact ⟨cs,rfl,a,b⟩
  have g:∀ i (h:i<2),xs[i]?=some (xs[i]'(by omega)):=fun i h=>Array.getElem?_eq_getElem (by omega)
  obtain ⟨A1,c1,A2,c2,e1,e2,hI⟩:=ins_of_rp hF (q2 0 _ _ rfl (g 0 (by omega))) (q2 1 _ _ rfl (g 1 (by omega)))
  have ex:xs=#[.slice A1 cs.length c1,.slice A2 st.length c2]:=by
   apply Array.ext (by simp [q1])
   intro i hi hi2
   match i,(show i<2 by omega) with
   | 0,_=>exact e1
   | 1,_=>exact e2
  rw [ex]
  refine (rInsCopy A1 A2 cs st c1 c2 w hI h1 h2).mono fun e w' ⟨B1,B2,d1,d2,he,hb,hI',f1,f2,k1,k2⟩=>?_
  refine ⟨_,newF F w w',he,hb,newF_le hF,newF_fw hF hb,newF_new,.ag _ _ rfl fun i av u a b=>?_⟩
  match i with
  | 0=>cases a;cases b;exact rp_of_rd hI'.1 f1 k1 (fun _=>rfl) eCrs_of
  | 1=>cases a;cases b;exact rp_of_rd hI'.2 f2 k2 (fun _=>rfl) eInt_of
  | i+2=>simp [eIns] at a
end Go.Proofs.YtgelfflighgajaaGreatDoor
namespace Go.Proofs.YtgelfflighgajaaGreatDoor
open Go.RowKit
section
variable {P:Program} {C:Cx} {σ:St} {o:Oper} {d:Tmp} {ops:Array Oper} {rest:List Oper} {Q:Exit→St→Prop} {mem:List Bool} {Mc:List (Nat×AO)} {nk0 k:Nat}
theorem W.dmT2 {id:Nat} {L:List Oper} (k0:Nat)(mem:List Bool)(ms:List Nat)(hm:P.follows .mixedOrders=true)(hB:Region.lexB .any L.toArray=true)(hT:tailB L.toArray k0=true)(hB2:Region.lexB .any (L.take k0).toArray=true)
  (hch:chainB (L.take k0).toArray mem=true)(hMc:msSub (onlyM σ.M ms) σ.M)
  (h:DMK P C (L.take k0).toArray mem (onlyM σ.M ms) σ.nk 0 (L.take k0) σ (fun e s=>e=.normal∧WL P C L.toArray (L.drop k0) s Q)):W P C (.region id L.toArray true) σ Q :=
 W.drawT k0 hm hB hT (let⟨_,a,b⟩:=h;WA.drawM mem (onlyM σ.M ms) hB2 hch hMc a b)
theorem DMK.al {T:TypeId} {z:Value} {l:List AV} (hd:wrB mem C.N k o=some d) (ho:o.op=.alloc T) (hz:(P.info? T).bind (·.zero)=some z) (hl:z.cells.toList.map .sc=l) (hs:msSub Mc ((σ.nk,.box T l)::σ.M))
  (r:DMK P C ops mem Mc nk0 (k+1) rest ⟨(d,.pt σ.nk 0 0)::σ.t,(σ.nk,.box T l)::σ.M,σ.nk+1⟩ Q):DMK P C ops mem Mc nk0 k (o::rest) σ Q:=by
 obtain ⟨a,b,c,e⟩:=wrB_of hd
 exact DMK.wr a b (Nat.ble_eq_true_of_le (Nat.le_succ _)) hs ⟨c,fun t _=>WO.alloc (σ:=⟨t,σ.M,σ.nk⟩) ho hz b e hl rfl⟩ r
theorem Tr.nilR {t:Tmp} (n:Nat) (h:look t σ.t=some (.sc (.slice none 0 0))):Tr C σ (σ.put t (.ls n [])):=fun G a w ok =>
 ⟨G,ok.reslot h (.ls _ _) fun v hv=>by rw [hv.sc_eq];exact .pu _ _ (.ls n [] none 0 ⟨0,0,none⟩ (fun _ _=>undef) (by simp) (by simp) (by simp) (by simp) (by simp))⟩
def truB:World→View→Prop:=fun _ _=>True
theorem truS:Stab truB 0:=⟨fun _ _ _=>Nat.zero_le _,fun _ _ _ _ _ _ _=>trivial⟩
theorem truH(C:Cx):Holds truB 0 C:=⟨fun _ _ _ _=>trivial,fun _ _=>Nat.zero_le _⟩
end
end Go.Proofs.YtgelfflighgajaaGreatDoor
namespace Go.Proofs.YtgelfflighgajaaGreatDoor
open Go.RowKit
theorem pceE_ins {p:Pce} (h:insE p.cs p.st≠0):pceE p=insE p.cs p.st:=if_pos h
theorem pceE_many {p:Pce} (h:¬ insE p.cs p.st≠0)(h1:400<p.evs.length):pceE p=2:=by unfold pceE;rw [if_neg h,if_pos h1]
theorem pceE_evs {p:Pce} (h:¬ insE p.cs p.st≠0)(h1:¬ 400<p.evs.length):pceE p=evsE p 0 p.evs:=by unfold pceE;rw [if_neg h,if_neg h1]
end Go.Proofs.YtgelfflighgajaaGreatDoor
namespace Go.Proofs.YtgelfflighgajaaGreatDoor
open Go.RowKit
theorem crsE_fr {st:List Int}:∀ {cs:List (Int×Int×Bool)},crsE st cs=0→∀ k (h:k<cs.length),0≤cs[k].2.1∧cs[k].2.1≤st.length:=by
 intro cs
 induction cs with
 | nil=>intro _ k h;simp at h
 | cons x r ih =>
  intro h k hk
  unfold crsE at h
  by_cases h1:x.2.1<0∨(st.length:Int)<x.2.1
  ·rw [if_pos h1]at h;cases h
  ·rw [if_neg h1]at h
   by_cases h2:(x.1<0∨127<x.1)∨127<topOf st x
   ·rw [if_pos h2]at h;cases h
   ·rw [if_neg h2]at h
    cases k with
    | zero=>simp;omega
    | succ k=>simpa using ih h k (by simpa using hk)
theorem stopE_bd {p:Pce} {i last:Int} {s:Stp} (hI:insE p.cs p.st=0)(h:stopE p i s last=0) :
  (1≤s.1∧s.1≤14)∧(0≤s.2.1∧s.2.1≤18)∧(0≤s.2.2.1∧s.2.2.1≤3)∧(0≤s.2.2.2.1∧s.2.2.2.1≤4)∧(0≤s.2.2.2.2∧s.2.2.2.2≤15):=by
 obtain⟨l1,l2,l3,_,l5⟩:=insE_len hI
 unfold stopE at h
 by_cases h1:s.1<1∨(p.cs.length:Int)<s.1
 ·rw [if_pos h1]at h;cases h
 ·rw [if_neg h1]at h
  by_cases h2:s.2.1<0∨fretsOf p.cs s.1<s.2.1
  ·rw [if_pos h2]at h;cases h
  ·rw [if_neg h2]at h
   by_cases h3:s.1≤last
   ·rw [if_pos h3]at h;cases h
   ·rw [if_neg h3]at h
    by_cases h4:(s.2.2.1<0∨3<s.2.2.1)∨(s.2.2.2.1<0∨4<s.2.2.2.1)
    ·rw [if_pos h4]at h;cases h
    ·rw [if_neg h4]at h
     by_cases h5:(s.2.2.2.2<0∨(longestN p.evs i s.1:Int)<s.2.2.2.2)∨(0<s.2.2.2.2∧s.2.1=0)
     ·rw [if_pos h5]at h;cases h
     ·have hL:=longestN_le p.evs i s.1
      have hk:s.1.toNat-1<p.cs.length:=by omega
      have hf:fretsOf p.cs s.1=p.cs[s.1.toNat-1].2.1:=by
       have:=fretsOf_at hk
       rw [← this];congr 1;omega
      have:=crsE_fr l5 _ hk
      refine⟨⟨by omega,by omega⟩,⟨by omega,by omega⟩,⟨by omega,by omega⟩,⟨by omega,by omega⟩,by omega,by omega⟩
theorem stopsE_bd {p:Pce} {i:Int} (hI:insE p.cs p.st=0):∀ {l:List Stp} {last:Int},stopsE p i last l=0→∀ k (h:k<l.length),∃ la,stopE p i l[k] la=0:=by
 intro l
 induction l with
 | nil=>intro _ _ k h;simp at h
 | cons x r ih =>
  intro last h k hk
  unfold stopsE at h
  by_cases h1:stopE p i x last≠0
  ·rw [if_pos h1] at h;exact absurd h h1
  ·rw [if_neg h1] at h
   cases k with
   | zero=>exact⟨last,by simpa using h1⟩
   | succ k=>simpa using ih h k (by simpa using hk)
theorem evsE_bd {p:Pce}:∀ {l:List Ev} {n:Nat},evsE p n l=0→∀ k (h:k<l.length),evE p ((n+k:Nat):Int) l[k]=0:=by
 intro l
 induction l with
 | nil=>intro _ _ k h;simp at h
 | cons x r ih =>
  intro n h k hk
  unfold evsE at h
  by_cases h1:evE p n x≠0
  ·rw [if_pos h1] at h;exact absurd h h1
  ·rw [if_neg h1] at h
   cases k with
   | zero=>simpa using h1
   | succ k =>
    have:=ih h k (by simpa using hk)
    rw [show n+1+k=n+(k+1) by omega] at this
    simpa using this
theorem pceE_zero {p:Pce} (h:pceE p=0):insE p.cs p.st=0∧p.evs.length≤400∧∀ k(hk:k<p.evs.length),evE p k p.evs[k]=0:=by
 unfold pceE at h
 by_cases h1:insE p.cs p.st≠0
 ·rw [if_pos h1]at h;exact absurd h h1
 ·rw [if_neg h1]at h
  by_cases h2:400<p.evs.length
  ·rw [if_pos h2]at h;cases h
  ·rw [if_neg h2]at h
   refine⟨by simpa using h1,by omega,fun k hk=>?_⟩
   have:=evsE_bd h k hk
   simpa using this
theorem evE_zero {p:Pce} {i:Int} {e:Ev} (h:evE p i e=0):sgOk e.val e.dot e.three=true∧¬ (i=0∧e.val=0)∧¬ (e.tie=true∧(0<e.stops.length∨i=0))∧stopsE p i 0 e.stops=0:=by
 unfold evE at h
 by_cases h1:sgOk e.val e.dot e.three=false∨(i=0∧e.val=0)
 ·rw [if_pos h1] at h;cases h
 ·rw [if_neg h1] at h
  by_cases h2:e.tie=true∧(0<e.stops.length∨i=0)
  ·rw [if_pos h2] at h;cases h
  ·rw [if_neg h2] at h
   refine⟨?_,fun x=>h1 (.inr x),h2,h⟩
   cases hs:sgOk e.val e.dot e.three with
   | true=>rfl
   | false=>exact absurd (.inl hs) h1
theorem stopsIn_of {p:Pce} (h:pceE p=0)(k:Nat)(hk:k<p.evs.length):StopsIn p.evs[k]:=by
 obtain⟨h1,h2,h3⟩:=pceE_zero h
 intro j hj
 obtain⟨la,hla⟩:=stopsE_bd h1 (evE_zero (h3 k hk)).2.2.2 j hj
 exact stopE_bd h1 hla
def lksTo(s:Int)(p:Pce):Nat→List Lck
 | 0=>[]
 | k+1=>lksTo s p k++(match p.evs[k]? with|some e=>lackE s p k e|none=>[])
theorem lksTo_at (s:Int)(p:Pce) {k:Nat} (h:k<p.evs.length):lksTo s p (k+1)=lksTo s p k++lackE s p k p.evs[k]:=by
 show lksTo s p k++_=_
 rw [List.getElem?_eq_getElem h]
theorem lackE_len (s:Int)(p:Pce)(i:Int)(e:Ev)(h:e.stops.length≤20):(lackE s p i e).length≤63:=by
 rw [lackE_eq]
 have a:=lk1_len s i e.val
 have b:=lk2_len s i e.three
 have c:=lk3_len s i e.tie e.stops.length
 have d:=flat_len s i (fun c=>longestN p.evs i c) e.stops
 simp only [List.length_append];omega
theorem lksTo_len (s:Int) {p:Pce} (hO:PcOk p):∀ k,k≤p.evs.length→(lksTo s p k).length≤27000:=by
 have hn:=hO.n3
 have:∀ k,k≤p.evs.length→(lksTo s p k).length≤63*k:=by
  intro k
  induction k with
  | zero=>intro _;simp [lksTo]
  | succ k ih =>
   intro hk
   rw [lksTo_at s p (by omega),List.length_append]
   have:=ih (by omega)
   have:=lackE_len s p k p.evs[k] (hO.n4 k (by omega))
   omega
 intro k hk
 have:=this k hk
 omega
end Go.Proofs.YtgelfflighgajaaGreatDoor
namespace Go.Proofs.YtgelfflighgajaaGreatDoor
open Go.RowKit
def eLk (x:Lck):List AV:=[.sc (.int .i64 x.1),.sc (.int .i64 x.2.1),.sc (.int .i64 x.2.2)]
end Go.Proofs.YtgelfflighgajaaGreatDoor
namespace Go.Proofs.YtgelfflighgajaaGreatDoor
open Go.RowKit
attribute [local go_sem]mk_bs bs_size bs_toList bs_append bs_extract
attribute [local simp]run_cut run_cut_to run_cut_from run_add_bs
theorem of_1 (w:World):Calls Tryz.prog 122 #[.int .u8 1] w fun e w'=>e=.returned (.tuple #[(.iface 253 (.agg #[])),.bool true])∧w=w':=by
 go_enter Tryz.func122,Tryz.ntmps122
 go_wp2
 go_ret2
 exact⟨rfl,rfl⟩
end Go.Proofs.YtgelfflighgajaaGreatDoor
namespace Go.Proofs.YtgelfflighgajaaGreatDoor
open Go.RowKit
attribute [local go_sem]mk_bs bs_size bs_toList bs_append bs_extract
attribute [local simp]run_cut run_cut_to run_cut_from run_add_bs
theorem of_2 (w:World):Calls Tryz.prog 122 #[.int .u8 2] w fun e w'=>e=.returned (.tuple #[(.iface 257 (.agg #[])),.bool true])∧w=w':=by
 go_enter Tryz.func122,Tryz.ntmps122
 go_wp2
 go_ret2
 exact⟨rfl,rfl⟩
end Go.Proofs.YtgelfflighgajaaGreatDoor
namespace Go.Proofs.YtgelfflighgajaaGreatDoor
open Go.RowKit
attribute [local go_sem]mk_bs bs_size bs_toList bs_append bs_extract
attribute [local simp]run_cut run_cut_to run_cut_from run_add_bs
theorem right_any (v:Int) (d t:Bool) (w:World):Calls Tryz.prog 137 #[.agg #[.int .i64 v,.bool d,.bool t]] w (Ret (.bool (sgOk v d t)) w):=by
 by_cases h0:v=0
 ·subst h0
  cases d<;>cases t
  all_goals
   go_enter Tryz.func137,Tryz.ntmps137
   go_wp2
   go_ret
   exact Ret.mk' rfl (by repeat (first|exact Below.refl _ _|assumption|refine bel_drewN ?_ _|refine Below.drew ?_|refine bel_alloc ?_ _|refine Below.setCell ?_ (by first|omega|(simp;done)|(simp;omega)) _|refine bel_step ?_ (by assumption)))
 ·have hb:(v == 0)=false:=by simpa using h0
  have e:sgOk v d t=(decide (1≤v) && decide (v≤7) && !(d && t)):=by unfold sgOk;rw [hb];simp
  rw [e]
  clear e
  by_cases h1:1≤v
  ·by_cases h7:v≤7
   ·cases d<;>cases t
    all_goals
     go_enter Tryz.func137,Tryz.ntmps137
     go_wp2
     go_ret
     exact Ret.mk' (by simp [h1,h7]) (by repeat (first|exact Below.refl _ _|assumption|refine bel_drewN ?_ _|refine Below.drew ?_|refine bel_alloc ?_ _|refine Below.setCell ?_ (by first|omega|(simp;done)|(simp;omega)) _|refine bel_step ?_ (by assumption)))
   ·rw [show (decide (1≤v) && decide (v≤7) && !(d && t))=false from by rw [decide_eq_false h7];simp]
    go_enter Tryz.func137,Tryz.ntmps137
    go_wp2
    go_ret
    exact Ret.mk' rfl (by repeat (first|exact Below.refl _ _|assumption|refine bel_drewN ?_ _|refine Below.drew ?_|refine bel_alloc ?_ _|refine Below.setCell ?_ (by first|omega|(simp;done)|(simp;omega)) _|refine bel_step ?_ (by assumption)))
  ·rw [show (decide (1≤v) && decide (v≤7) && !(d && t))=false from by rw [decide_eq_false h1];simp]
   go_enter Tryz.func137,Tryz.ntmps137
   go_wp2
   go_ret
   exact Ret.mk' rfl (by repeat (first|exact Below.refl _ _|assumption|refine bel_drewN ?_ _|refine Below.drew ?_|refine bel_alloc ?_ _|refine Below.setCell ?_ (by first|omega|(simp;done)|(simp;omega)) _|refine bel_step ?_ (by assumption)))
end Go.Proofs.YtgelfflighgajaaGreatDoor
