/- Whether a piece is too big: the law's own look. -/
import Derived.Test.YtgelfflighgajaaGreatDoorPl3Oq
set_option maxHeartbeats 1600000
set_option maxRecDepth 100000
set_option linter.unusedVariables false
set_option linter.unusedSimpArgs false
namespace Go.Proofs.YtgelfflighgajaaGreatDoor
section
open Go.RowKit
def eStp (x:Stp):List AV:=[.sc (.int .i64 x.1),.sc (.int .i64 x.2.1),.sc (.int .i64 x.2.2.1),.sc (.int .i64 x.2.2.2.1),.sc (.int .i64 x.2.2.2.2)]
def eStps (l:List Stp):AV:=.ls 5 (l.map eStp)
def eEv (e:Ev):List AV:=[.sc (.bool e.bar),.sc (.int .i64 e.val),.sc (.bool e.dot),.sc (.bool e.three),.sc (.bool e.tie),eStps e.stops]
def eCrs (x:Int×Int×Bool):List AV:=[.sc (.int .i64 x.1),.sc (.int .i64 x.2.1),.sc (.bool x.2.2)]
def eInt (x:Int):List AV:=[.sc (.int .i64 x)]
def eIns (cs:List (Int×Int×Bool))(st:List Int):List AV:=[.ls 3 (cs.map eCrs),.ls 1 (st.map eInt)]
def ePce (p:Pce):AV:=.ag [.ls 3 (p.cs.map eCrs),.ls 1 (p.st.map eInt),.ls 6 (p.evs.map eEv)]
theorem map_at {α β:Type} {f:α→β} {l:List α} {k:Nat} (h:k<l.length):(l.map f)[((k:Nat):Int).toNat]?=some (f l[k]):=by rw [Int.toNat_natCast];simp [h]
theorem map_atZ {α β:Type} {f:α→β} {l:List α} {z:Int} (h0:0≤z)(h:z<l.length):(l.map f)[z.toNat]?=some (f (l[z.toNat]'(by omega))):=by
 have:z.toNat<l.length:=by omega
 simp [this]
theorem zqm {α:Type} {l:List α} {i:Nat} {x:Option α} (h:l[i]? = x:=by first|exact map_at (by omega)|exact map_atZ (by omega) (by omega)):l[i]? = x:=h
theorem take_map_succ {α β:Type} {f:α→β} {l:List α} {k:Nat} (h:k<l.length):(l.take k).map f++[f l[k]]=(l.take (k+1)).map f:=by
 rw [List.take_succ_eq_append_getElem h,List.map_append];rfl
theorem bd_all {l:List AV} (h:l.all AV.pu2=true):∀ (i:Nat) av,l[i]?=some av→Bd 0 av:=fun i av x=>pu2_bd (List.all_eq_true.1 h av (List.mem_of_getElem? x)) 0
theorem zqe {P:Program} {f:FuncId} {fn:Func} {c:Code} {args:List AV} {res:AV} (hf:P.funcs[f]? = some fn) {N:Nat} (hN:fn.ntmps = N) (h:∀ w0 F0,W P ⟨w0,F0,N,fun _ => False,0,G0⟩ c (St.init args) (QFin P fn ⟨w0,F0,N,fun _ => False,0,G0⟩ res)) (hb:fn.body = some c:=by rfl) (hn:args.length ≤ N:=by exact Nat.le_of_ble_eq_true rfl) (hp:args.all AV.pu2 = true:=by rfl):Ctr P f args res:=Ctr.intro hf hb hN hn (bd_all hp) h
theorem fin1 {P:Program} {fn:Func} {C:Cx} {σ:St} {t:Tmp} {av res:AV} (h:fn.results=#[.tmp t]) (ht:look t σ.t=some av) (he:av=res) (hp:res.pu2=true):QFin P fn C res .ret σ :=
 ⟨.inr rfl,Fin.one h (he ▸ ht) (pu2_bd hp 0)⟩
theorem zqr {P:Program} {fn:Func} {C:Cx} {σ:St} {t:Tmp} {av res:AV} (h:fn.results = #[.tmp t]:=by rfl) (ht:look t σ.t = some av:=by rfl) (he:av = res:=by rfl) (hp:res.pu2 = true:=by rfl):QFin P fn C res .ret σ:=fin1 h ht he hp
theorem fin2 {P:Program} {fn:Func} {C:Cx} {σ:St} {t u:Tmp} {a1 a2 r1 r2:AV} (h:fn.results=#[.tmp t,.tmp u]) (h1:look t σ.t=some a1) (h2:look u σ.t=some a2) (e1:a1=r1) (e2:a2=r2) (p1:r1.pu2=true) (p2:r2.pu2=true):QFin P fn C (.tu [r1,r2]) .ret σ :=
 ⟨.inr rfl,Fin.two h (e1 ▸ h1) (e2 ▸ h2) (pu2_bd p1 0) (pu2_bd p2 0)⟩
theorem sc_bool {a b:Bool} (h:a=b):AV.sc (.bool a)=.sc (.bool b):=by rw [h]
theorem sc_int {k:IntKind} {a b:Int} (h:a=b):AV.sc (.int k a)=.sc (.int k b):=by rw [h]
end
section
open Go.RowKit
theorem rd_of_rp {α:Type} {F:View} {w:World} {n:Nat} {l:List α} {e:α→List AV} {f:α→List Value} {v:Value} (hF:∀ p u,F p=some u→w.cell? p=some u) (h0:0<n) (hf:∀ x,(f x).length=n) (hef:∀ x (j:Nat) u,(f x)[j]?=some u→(e x)[j]?=some (.sc u))
  (r:RP F (.ls n (l.map e)) v):∃ A c,v=.slice A l.length c∧Rd w w.heap.size n A (l.map f)∧l.length≤c:=by
 obtain ⟨A,cap,ad,u,rfl,h1,h2,h3,h4,h5⟩:=r.ls_of
 have hcell:∀ (k:Nat) x,l[k]?=some x→∀ (j:Nat) y,(f x)[j]?=some y→w.cell? (ad.add (k*n+j))=some y:=fun k x hk j y hy=>by
  have a1:(l.map e)[k]?=some (e x):=by rw [List.getElem?_map,hk];rfl
  have:=h3 k _ j _ a1 (hef x j y hy)
  rw [hF _ _ this.1,(h4 k _ j _ a1 (hef x j y hy)).sc_eq]
 refine ⟨A,cap,by rw [List.length_map],fun hp=>⟨ad,h2 (by simpa using hp),?_,fun k r hr j y hy=>?_⟩,by simpa using h5⟩
 ·have hp:0<l.length:=by simpa using hp
  have hx:0<(f (l[0]'hp)).length:=by rw [hf];exact h0
  have:=cell_block (hcell 0 (l[0]'hp) (List.getElem?_eq_getElem hp) 0 _ (List.getElem?_eq_getElem hx))
  rwa [block_of_add] at this
 ·rw [List.getElem?_map] at hr
  cases hk:l[k]? with
  | none=>simp [hk] at hr
  | some x =>
   rw [hk] at hr
   obtain rfl:f x=r:=by simpa using hr
   exact hcell k x hk j y hy
theorem stps_of_rp {F:View} {w:World} {l:List Stp} {v:Value} (hF:∀ p u,F p=some u→w.cell? p=some u) (r:RP F (eStps l) v):∃ A c,v=.slice A l.length c∧StpsAt w w.heap.size A l∧l.length≤c :=
 rd_of_rp (n:=5) (f:=stpCells) hF zqo (fun _=>rfl) (fun x j u h=>by
  match j with
  | 0=>cases h;rfl
  | 1=>cases h;rfl
  | 2=>cases h;rfl
  | 3=>cases h;rfl
  | 4=>cases h;rfl
  | j+5=>simp [stpCells] at h) r
theorem evs_of_rp {F:View} {w:World} {l:List Ev} {v:Value} (hF:∀ p u,F p=some u→w.cell? p=some u) (r:RP F (.ls 6 (l.map eEv)) v):∃ A c,v=.slice A l.length c∧EvsAt w w.heap.size A l∧l.length≤c:=by
 obtain ⟨A,cap,ad,u,rfl,h1,h2,h3,h4,h5⟩:=r.ls_of
 obtain ⟨ms,hml,hmq⟩:=list_ofT (fun k (m:Option Addr×Nat)=>∀ x,l[k]?=some x→u k 5=.slice m.1 x.stops.length m.2∧StpsAt w w.heap.size m.1 x.stops) l.length fun k hk=>by
  have a1:(l.map eEv)[k]?=some (eEv l[k]):=by simp [hk]
  obtain ⟨A',c',e,hs,_⟩:=stps_of_rp hF (h4 k _ 5 _ a1 rfl)
  refine ⟨(A',c'),fun x hx=>?_⟩
  rw [List.getElem?_eq_getElem hk] at hx
  cases hx
  exact ⟨e,hs⟩
 have hcell:∀ (k:Nat) x m,l[k]?=some x→ms[k]?=some m→∀ (j:Nat) y,(evCells x m)[j]?=some y→w.cell? (ad.add (k*6+j))=some y:=fun k x m hk hm j y hy=>by
  have a1:(l.map eEv)[k]?=some (eEv x):=by rw [List.getElem?_map,hk];rfl
  have hj:j < 6:=(List.getElem?_eq_some_iff.1 hy).1
  have get:∀ av,(eEv x)[j]?=some av→w.cell? (ad.add (k*6+j))=some (u k j):=fun av hav=>hF _ _ (h3 k _ j _ a1 hav).1
  match j,hj with
  | 0,_=>cases hy;rw [get _ rfl,(h4 k _ 0 _ a1 rfl).sc_eq]
  | 1,_=>cases hy;rw [get _ rfl,(h4 k _ 1 _ a1 rfl).sc_eq]
  | 2,_=>cases hy;rw [get _ rfl,(h4 k _ 2 _ a1 rfl).sc_eq]
  | 3,_=>cases hy;rw [get _ rfl,(h4 k _ 3 _ a1 rfl).sc_eq]
  | 4,_=>cases hy;rw [get _ rfl,(h4 k _ 4 _ a1 rfl).sc_eq]
  | 5,_=>cases hy;rw [get _ rfl,(hmq k m hm x hk).1]
 refine ⟨A,cap,by rw [List.length_map],⟨ms,hml,fun hp=>⟨ad,h2 ?_,?_,fun k r hr j y hy=>?_⟩,fun k e m he hm=>(hmq k m hm e he).2⟩,by simpa using h5⟩
 ·simp [hml] at hp ⊢;omega
 ·have hp:0 < l.length:=by simp [hml] at hp;omega
  have:=cell_block (hcell 0 (l[0]'hp) (ms[0]'(by omega)) (List.getElem?_eq_getElem hp) (List.getElem?_eq_getElem (by omega)) 0 _ rfl)
  rwa [block_of_add] at this
 ·rw [List.getElem?_zipWith] at hr
  cases hk:l[k]? with
  | none=>simp [hk] at hr
  | some x =>
   cases hm:ms[k]? with
   | none=>simp [hk,hm] at hr
   | some m =>
    simp [hk,hm] at hr
    subst hr
    exact hcell k x m hk hm j y hy
theorem ins_of_rp {F:View} {w:World} {cs:List (Int×Int×Bool)} {st:List Int} {v1 v2:Value} (hF:∀ p u,F p=some u→w.cell? p=some u) (r1:RP F (.ls 3 (cs.map eCrs)) v1) (r2:RP F (.ls 1 (st.map eInt)) v2) :
  ∃ A1 c1 A2 c2,v1=.slice A1 cs.length c1∧v2=.slice A2 st.length c2∧InsAt w w.heap.size A1 A2 cs st:=by
 obtain ⟨A1,c1,e1,h1,_⟩:=rd_of_rp (n:=3) (f:=crsCells) hF zqo (fun _=>rfl) (fun x j u h=>by
  match j with
  | 0=>cases h;rfl
  | 1=>cases h;rfl
  | 2=>cases h;rfl
  | j+3=>simp [crsCells] at h) r1
 obtain ⟨A2,c2,e2,h2,_⟩:=rd_of_rp (n:=1) (f:=intCell) hF zqo (fun _=>rfl) (fun x j u h=>by
  match j with
  | 0=>cases h;rfl
  | j+1=>simp [intCell] at h) r2
 exact ⟨A1,c1,A2,c2,e1,e2,h1,h2⟩
theorem pc_of_rp {F:View} {w:World} {p:Pce} {v:Value} (hF:∀ p u,F p=some u→w.cell? p=some u) (r:RP F (ePce p) v):∃ M,v=pcValue M p∧PcAt w w.heap.size M p:=by
 obtain ⟨cs,rfl,h1,h2⟩:∃ cs:Array Value,v=.agg cs∧cs.size=3∧∀ (i:Nat) av u,[AV.ls 3 (p.cs.map eCrs),.ls 1 (p.st.map eInt),.ls 6 (p.evs.map eEv)][i]?=some av→cs[i]?=some u→RP F av u:=by
  cases r with|ag l cs a b=>exact ⟨cs,rfl,a,b⟩
 have g:∀ i (h:i<3),cs[i]?=some (cs[i]'(by omega)):=fun i h=>Array.getElem?_eq_getElem (by omega)
 obtain ⟨A1,c1,A2,c2,e1,e2,hI⟩:=ins_of_rp hF (h2 0 _ _ rfl (g 0 zqo)) (h2 1 _ _ rfl (g 1 zqo))
 obtain ⟨A3,c3,e3,hE,hc⟩:=evs_of_rp hF (h2 2 _ _ rfl (g 2 zqo))
 refine ⟨⟨A1,A2,A3,c1,c2,c3⟩,?_,hI,hE,hc⟩
 unfold pcValue
 congr 1
 apply Array.ext (by simp [h1])
 intro i hi hi2
 match i,(show i<3 by omega) with
 | 0,_=>exact e1
 | 1,_=>exact e2
 | 2,_=>exact e3
theorem Ctr.of_sc {P:Program} {f:FuncId} {args:List AV} {xs:List Value} {res:AV} {v:Value} (hs:scs args=some xs)(hv:∀ F,RP F res v)(h:∀ w,Calls P f xs.toArray w (Ret v w)):Ctr P f args res:=by
 intro w F vs hF hR
 have:vs=xs:=scs_of (G:=⟨F,fun _=>0,fun _=>0,fun _=>undef,fun _ _=>False⟩) hs hR.1 fun i av u a b=>.pu _ _ (hR.2 i av u a b)
 subst this
 exact (h w).mono fun e w'⟨he,hb⟩=>⟨v,F,he,hb,fun _ _ h=>h,fun p u x=>by rw [hb.cell (cell_block (hF p u x))];exact hF p u x,fun _ _ h=>.inl h,hv F⟩
theorem Ctr.of_pc {P:Program} {f:FuncId} {p:Pce} {pre post:List AV} {xs ys:List Value} {res:AV} {v:Value} (hs:scs pre=some xs) (hs2:scs post=some ys) (hv:∀ F,RP F res v)
  (h:∀ w M,PcAt w w.heap.size M p→Calls P f (xs++pcValue M p::ys).toArray w (Ret v w)):Ctr P f (pre++ePce p::post) res:=by
 intro w F vs hF hR
 have hG:∀ i av u,(pre++ePce p::post)[i]?=some av→vs[i]?=some u→R ⟨F,fun _=>0,fun _=>0,fun _=>undef,fun _ _=>False⟩ av u:=fun i av u a b=>.pu _ _ (hR.2 i av u a b)
 have hlen:vs.length=pre.length+(post.length+1):=by rw [hR.1];simp
 have e1:vs.take pre.length=xs:=scs_of hs (by simp;omega) fun i av u a b=>by
  have hi:i<pre.length:=(List.getElem?_eq_some_iff.1 a).1
  rw [List.getElem?_take_of_lt hi] at b
  exact hG i av u (by rw [List.getElem?_append_left hi];exact a) b
 have e2:vs.drop (pre.length+1)=ys:=scs_of hs2 (by simp;omega) fun i av u a b=>by
  rw [List.getElem?_drop] at b
  exact hG (pre.length+1+i) av u (by rw [List.getElem?_append_right (by omega),show pre.length+1+i-pre.length=i+1 by omega];exact a) b
 have hp:vs[pre.length]?=some (vs[pre.length]'(by omega)):=List.getElem?_eq_getElem (by omega)
 obtain ⟨M,eM,hM⟩:=pc_of_rp hF (hR.2 pre.length _ _ (by rw [List.getElem?_append_right (Nat.le_refl _),Nat.sub_self];rfl) hp)
 have ev:vs=xs++pcValue M p::ys:=by
  rw [← e1,← e2,← eM]
  conv=>lhs;rw [← List.take_append_drop pre.length vs]
  congr 1
  rw [List.drop_eq_getElem_cons (by omega)]
 rw [ev]
 exact (h w M hM).mono fun e w' ⟨he,hb⟩=>⟨v,F,he,hb,fun _ _ h=>h,fun p u x=>by rw [hb.cell (cell_block (hF p u x))];exact hF p u x,fun _ _ h=>.inl h,hv F⟩
end
section
open Go.RowKit
def locK {α:Type} [DecidableEq α] (k:α):Nat→List (α×Value)→Option (Nat×Value)
 | _,[]=>none
 | i,x::r=>if k=x.1 then some (i,x.2) else locK k (i+1) r
def lookK {α:Type} [DecidableEq α] (z:Value)(k:α)(l:List (α×Value)):Value:=((locK k 0 l).map (·.2)).getD z
def updK {α:Type} [DecidableEq α] (k:α)(v:Value):List (α×Value)→List (α×Value)
 | []=>[(k,v)]
 | x::r=>if k=x.1 then (k,v)::r else x::updK k v r
structure KeyK (P:Program) (kt:TypeId) {α:Type} [DecidableEq α] (enc:α→Value):Prop where
 chk:∀ w b k,(Instr.checkKey b 10000 kt (enc k)).run P w=.ok () w
 fnd:∀ w k (es:List MapEntry) (l:List (α×Value)),es.map (fun e=>(e.key,e.val))=l.map (fun x=>(enc x.1,x.2))→(Instr.findKey kt (enc k) es).run P w=.ok (locK k 0 l) w
 bits:∀ k,Instr.sameBits 10000 (enc k) (enc k)=true
def mapIs {α:Type} (enc:α→Value)(l:List (α×Value))(w:World)(b:Nat):Prop :=
 ∃ es clock,w.heap[b]?=some (.map es clock)∧es.toList.map (fun e=>(e.key,e.val))=l.map fun x=>(enc x.1,x.2)
def mapQ {α:Type} (enc:α→Value)(l:List (α×Value)):Opq :=
 ⟨fun w b v φ=>v=.map (some b)∧φ b∧mapIs enc l w b,fun w w' b v φ h⟨h1,h2,es,c,h3,h4⟩=>⟨h1,h2,es,c,(h b h2).trans h3,h4⟩⟩
theorem locK_shift {α:Type} [DecidableEq α] (k:α):∀ (l:List (α×Value))(i n:Nat),locK k (i+n) l=(locK k i l).map fun x=>(x.1+n,x.2)
 | [],i,n=>rfl
 | x::r,i,n=>by
  unfold locK
  split
  ·rfl
  ·rw [show i+n+1=(i+1)+n by omega];exact locK_shift k r (i+1) n
theorem upd_none {α:Type} [DecidableEq α] (k:α)(v:Value):∀ (l:List (α×Value))(i:Nat),locK k i l=none→updK k v l=l++[(k,v)]
 | [],i,_=>rfl
 | x::r,i,h=>by
  unfold locK at h
  split at h
  ·cases h
  ·rename_i hne
   unfold updK
   rw [if_neg hne,upd_none k v r (i+1) h];rfl
theorem upd_some {α:Type} [DecidableEq α] (enc:α→Value)(k:α)(v:Value):∀ (l:List (α×Value))(es:List MapEntry)(i:Nat)(u:Value),locK k 0 l=some (i,u)→es.map (fun e=>(e.key,e.val))=l.map (fun x=>(enc x.1,x.2)) →
  (es.modify i fun e=>{ e with key:=enc k,val:=v }).map (fun e=>(e.key,e.val))=(updK k v l).map (fun x=>(enc x.1,x.2))∧((es[i]?).map (·.key))=some (enc k)
 | [],es,i,u,h,_=>by cases h
 | x::r,[],i,u,_,he=>by cases he
 | x::r,e::es,i,u,h,he=>by
  simp only [List.map_cons,List.cons.injEq,Prod.mk.injEq]at he
  unfold locK at h
  unfold updK
  by_cases hk:k=x.1
  ·rw [if_pos hk]at h ⊢
   cases h
   simp [List.modify,he.2,he.1.1,hk]
  ·rw [if_neg hk]at h ⊢
   rw [show (0+1:Nat)=0+1 from rfl,locK_shift]at h
   cases hq:locK k 0 r with
   | none=>rw [hq]at h;cases h
   | some y =>
    rw [hq]at h
    simp only [Option.map_some,Option.some.injEq,Prod.mk.injEq]at h
    obtain⟨rfl,rfl⟩:=h
    obtain⟨h1,h2⟩:=upd_some enc k v r es y.1 y.2 hq he.2
    refine⟨?_,by simpa using h2⟩
    simp only [List.modify_succ_cons,List.map_cons,h1,he.1.1,he.1.2]
section
variable {P:Program} {C:Cx} {σ σ':St} {G G':Gh} {a:Act} {w w':World} {o:Oper} {d:Tmp} {ops:Array Oper} {rest:List Oper} {Q:Exit→St→Prop}
theorem Ok.writeG (ok:Ok C σ G a w) {k g:Nat} {ob ob':AO} (hk:look k σ.M=some ob) (hg:G.fp k g) (hkept:Kept (fun x=>x=g) w w') (hob:ObAt G w' k ob') (hbd:ob'.bd σ.nk) :
  Ok C (σ.upd k ob') G a w':=by
 have hl:∀ k' o,look k' (σ.upd k ob').M=some o→(k'=k∧o=ob')∨(k'≠k∧look k' σ.M=some o):=fun k' o hx=>by
  by_cases e:k'=k
  ·subst e
   rw [show look k' (σ.upd k' ob').M=some ob' from look_set_same] at hx
   cases hx
   exact .inl ⟨rfl,rfl⟩
  ·rw [show look k' (σ.upd k ob').M=look k' σ.M from look_set_other e] at hx
   exact .inr ⟨e,hx⟩
 have hne:∀ k' o x,k'≠k→look k' σ.M=some o→G.fp k' x→x≠g:=fun k' o x e h1 h2 h3=>by
  subst h3;exact e (ok.dj k' o k ob x h1 hk h2 hg)
 have some_:∀ k' o,look k' (σ.upd k ob').M=some o→∃ o',look k' σ.M=some o':=fun k' o h=>by
  rcases hl k' o h with⟨rfl,_⟩|⟨_,y⟩
  ·exact ⟨ob,hk⟩
  ·exact ⟨o,y⟩
 refine ⟨ok.sz,ok.df,ok.tm,ok.bel.on hkept (fun x hx=>by subst hx;exact (ok.my k ob x hk hg).1),fun p u h=>?_,ok.f0,ok.f1,?_,?_,?_,?_⟩
 ·rw [World.cell?_of_block (hkept.block p.block (cell_block (ok.fw p u h)) (ok.dF k ob g p u hk hg h))];exact ok.fw p u h
 ·intro k' o x
  rcases hl k' o x with⟨rfl,rfl⟩|⟨e,y⟩
  ·exact ⟨(ok.ob k' ob hk).1,hbd,hob⟩
  ·exact ⟨(ok.ob k' o y).1,(ok.ob k' o y).2.1,(ok.ob k' o y).2.2.keep (Gh.le.refl _ _) (ok.ob k' o y).1 (ok.ob k' o y).2.1 rfl fun x hx=>hkept.block x (ok.my k' o x y hx).2 (hne k' o x e y hx)⟩
 ·intro k' o x h1 h2
  obtain ⟨o',y⟩:=some_ k' o h1
  exact ⟨(ok.my k' o' x y h2).1,Nat.lt_of_lt_of_le (ok.my k' o' x y h2).2 hkept.size⟩
 ·intro k1 o1 k2 o2 x h1 h2 h3 h4
  obtain ⟨o1',y1⟩:=some_ k1 o1 h1
  obtain ⟨o2',y2⟩:=some_ k2 o2 h2
  exact ok.dj k1 o1' k2 o2' x y1 y2 h3 h4
 ·intro k1 o1 x p u h1 h2 h3
  obtain ⟨o1',y1⟩:=some_ k1 o1 h1
  exact ok.dF k1 o1' x p u y1 h2 h3
theorem WO.mkm {T:TypeId} {q:Nat} {α:Type} (enc:α→Value) (hd:dstB C.N o=some d) (ho:o.op=.makeMap T none) (hq:σ.nk=q):WO P C o σ ((σ.new (.opq (mapQ enc []))).put d (.sl q)):=by
 intro G a w ok N Q' hN
 obtain ⟨_,hds,hdb⟩:=dstB_of hd
 have hbl:∀ x,x<w.heap.size→(w.alloc (.map #[] 0)).heap[x]?=w.heap[x]?:=fun x hx=>Below.heap_alloc w _ x hx
 have ok':=ok.newObj (S:=fun _=>False) (w':=w.alloc (.map #[] 0)) (b:=w.heap.size) (n:=0) (h:=.map (some w.heap.size)) (φ:=fun x=>x=w.heap.size) (ob:=.opq (mapQ enc []))
  (Kept.below ((Below.refl _ _).alloc (Nat.le_refl _) _)) (fun _ h=>h.elim) (fun _ _ _ _ _ h=>h) (fun _ _ _ h=>h)
  (by
   show (mapQ enc []).Q _ _ _ _
   rw [with_b,with_h,with_f]
   exact ⟨rfl,rfl,#[],0,(MapKept.heap_alloc w _).1,rfl⟩) trivial (fun x hx=>by
   subst hx
   exact ⟨.inl ok.bel.size,by simp,fun k o h1 h2=>by have:=(ok.my k o _ h1 h2).2;omega,fun p u h1 h2=>by have:=cell_block (ok.fw p u h1);omega⟩)
 subst hq
 unfold Oper.wp execOp
 simp only [ho,Instr.makeMap,Option.map_none,Sem.run_bind,Sem.run_pure,run_newObj,Result.andThen_ok]
 show N (a.put o.dst _) _
 rw [hds]
 exact hN _ _ _ (ok'.set (d:=some d) (av:=.sl σ.nk) (with_sl rfl) (.sl _ (Nat.lt_succ_self _)) fun x hx=>by cases hx;exact of_blt hdb)
theorem WL.mkm {T:TypeId} {t:List (Nat×AV)} {M:List (Nat×AO)} {nk:Nat} {α:Type} (enc:α→Value) (hd:dstB C.N o=some d) (ho:o.op=.makeMap T none) (k:WL P C ops rest ⟨(d,.sl nk)::t,(nk,.opq (mapQ enc []))::M,nk+1⟩ Q):WL P C ops (o::rest) ⟨t,M,nk⟩ Q :=
 WL.op (dstB_of hd).1 (WO.mkm enc hd ho rfl) k
theorem map_at_ {α:Type} {enc:α→Value} {l:List (α×Value)} (ok:Ok C σ G a w) {q:Nat} {x:Operand} (hx:σ.ev x=some (.sl q)) (hq:look q σ.M=some (.opq (mapQ enc l))) :
  a.eval x=.map (some (G.b q))∧G.fp q (G.b q)∧mapIs enc l w (G.b q):=by
 obtain ⟨h1,h2,h3⟩:(mapQ enc l).Q w (G.b q) (G.h q) (G.fp q):=(ok.ob q _ hq).2.2
 exact ⟨(ok.evr hx).2.sl_of.1.trans h1,h2,h3⟩
theorem WV.mlk {α:Type} [DecidableEq α] {enc:α→Value} {T kt et:TypeId} {l:List (α×Value)} {q:Nat} {x y:Operand} {av:AV} {k:α} {z:Value} (K:KeyK P kt enc)(ho:o.op=.lookup T x y false)(hT:P.underlying T=some (.map kt et))(hz:(P.info? et).bind (·.zero)=some z)
  (hx:σ.ev x=some (.sl q))(hq:look q σ.M=some (.opq (mapQ enc l)))(hy:σ.ev y=some av)(hk:∀ G v,R G av v→v=enc k):WV P C o σ (.sc (lookK z k l)) :=
 WV.sc fun G a w ok=>by
  obtain⟨e1,e2,es,clock,e3,e4⟩:=map_at_ ok hx hq
  have e5:=hk G _ (ok.evr hy).2
  have e6:=K.fnd w k es.toList l e4
  unfold execOp
  simp only [ho,e1,e5,Instr.lookup,Sem.run_bind,run_underlying hT,Result.andThen_ok,Sem.run_pure,MapKept.run_getObj_map e3,K.chk,e6]
  unfold lookK
  cases hl:locK k 0 l with
  | none =>
   cases hi:P.info? et with
   | none=>simp [hi]at hz
   | some i =>
    simp [hi]at hz
    simp [zeroValue,typeInfo,hi,hz]
  | some r=>simp
theorem WO.mup {α:Type} [DecidableEq α] {enc:α→Value} {T kt et:TypeId} {l:List (α×Value)} {q:Nat} {x y z:Operand} {av:AV} {k:α} {u:Value} (K:KeyK P kt enc) (hds:o.dst=none) (ho:o.op=.mapUpdate T x y z) (hT:P.underlying T=some (.map kt et))
  (hx:σ.ev x=some (.sl q)) (hq:look q σ.M=some (.opq (mapQ enc l))) (hy:σ.ev y=some av) (hk:∀ G v,R G av v→v=enc k) (hu:σ.ev z=some (.sc u)):WO P C o σ (σ.upd q (.opq (mapQ enc (updK k u l)))):=by
 intro G a w ok N Q' hN
 obtain ⟨e1,e2,es,clock,e3,e4⟩:=map_at_ ok hx hq
 have e5:=hk G _ (ok.evr hy).2
 have e6:=K.fnd w k es.toList l e4
 have hlt:G.b q < w.heap.size:=(Array.getElem?_eq_some_iff.1 e3).1
 have fin:∀ (es':Array MapEntry) (c':Nat),es'.toList.map (fun e=>(e.key,e.val))=(updK k u l).map (fun x=>(enc x.1,x.2))→Ok C (σ.upd q (.opq (mapQ enc (updK k u l)))) G a { w with heap:=w.heap.setIfInBounds (G.b q) (.map es' c') }:=fun es' c' h =>
  ok.writeG hq e2 ⟨rfl,rfl,rfl,by simp,fun x _ hx=>Array.getElem?_setIfInBounds_ne (fun e=>hx e.symm)⟩ ⟨(ok.ob q _ hq).2.2.1,e2,es',c',(MapKept.heap_set e3).1,h⟩ trivial
 unfold Oper.wp execOp
 simp only [ho,e1,e5,ok.evs hu,Instr.mapUpdate,Sem.run_bind,run_underlying hT,Result.andThen_ok,Sem.run_pure,MapKept.run_getObj_map e3,K.chk,e6]
 cases hl:locK k 0 l with
 | none =>
  simp only [MapKept.run_setObj_map _ e3,Result.andThen_ok,Sem.run_bind,Sem.run_pure,Oper.upon]
  rw [hds]
  refine hN G a _ (fin _ _ ?_)
  rw [upd_none k u l 0 hl]
  simp [e4]
 | some r =>
  obtain ⟨i,v0⟩:=r
  obtain ⟨f1,f2⟩:=upd_some enc k u l es.toList i v0 hl e4
  have f3:(es[i]?).map (·.key)=some (enc k):=by rw [← Array.getElem?_toList];exact f2
  simp only [f3,Option.getD_some,Instr.keyThatStays,K.bits,if_true,Sem.run_pure,Result.andThen_ok,Sem.run_bind,MapKept.run_setObj_map _ e3,Oper.upon]
  rw [hds]
  refine hN G a _ (fin _ _ ?_)
  rw [Array.toList_modify]
  exact f1
theorem WL.mup {α:Type} [DecidableEq α] {enc:α→Value} {T kt et:TypeId} {l l':List (α×Value)} {q:Nat} {x y z:Operand} {av:AV} {k:α} {u:Value} {t:List (Nat×AV)} {M M':List (Nat×AO)} {nk:Nat} (K:KeyK P kt enc) (hg:o.guard=none) (hds:o.dst=none) (ho:o.op=.mapUpdate T x y z) (hT:P.underlying T=some (.map kt et))
  (hx:(⟨t,M,nk⟩:St).ev x=some (.sl q)) (hq:look q M=some (.opq (mapQ enc l))) (hy:(⟨t,M,nk⟩:St).ev y=some av) (hk:∀ G v,R G av v→v=enc k) (hu:(⟨t,M,nk⟩:St).ev z=some (.sc u)) (hM:remS q M=some M') (hl:updK k u l=l')
  (r:WL P C ops rest ⟨t,(q,.opq (mapQ enc l'))::M',nk⟩ Q):WL P C ops (o::rest) ⟨t,M,nk⟩ Q:=by
 subst hl
 rw [remS_eq hM] at r
 exact WL.op hg (wo_rem (WO.mup (σ:=⟨t,M,nk⟩) K hds ho hT hx hq hy hk hu)) r
theorem WO.mcl {α:Type} {enc:α→Value} {T kt et:TypeId} {l:List (α×Value)} {q:Nat} {x:Operand} (ho:o.op=.call { callee:=.builtin .clear,args:=#[x],argTypes:=#[T] }) (hT:P.underlying T=some (.map kt et))
  (hx:σ.ev x=some (.sl q)) (hq:look q σ.M=some (.opq (mapQ enc l))) (hd:dstOk C.N o.dst=true):WO P C o σ ((σ.upd q (.opq (mapQ enc []))).set o.dst (.tu [])):=by
 intro G a w ok N Q' hN
 obtain ⟨e1,e2,es,clock,e3,e4⟩:=map_at_ ok hx hq
 have hlt:G.b q<w.heap.size:=(Array.getElem?_eq_some_iff.1 e3).1
 have ok':Ok C (σ.upd q (.opq (mapQ enc []))) G a { w with heap:=w.heap.setIfInBounds (G.b q) (.map #[] clock) } :=
  ok.writeG hq e2 ⟨rfl,rfl,rfl,by simp,fun x _ hx=>Array.getElem?_setIfInBounds_ne (fun e=>hx e.symm)⟩ ⟨(ok.ob q _ hq).2.2.1,e2,#[],clock,(MapKept.heap_set e3).1,rfl⟩ trivial
 unfold Oper.wp execOp
 have hargs:(#[x]:Array Operand).map a.eval=#[.map (some (G.b q))]:=by simp [e1]
 simp only [ho,resolve,invoke,builtin,Sem.run_bind,Sem.run_pure,Result.andThen_ok,hargs]
 have hcl:(Builtin.clear_ #[T] o.type #[.map (some (G.b q))]).run P w=.ok (.tuple #[]) { w with heap:=w.heap.setIfInBounds (G.b q) (.map #[] clock) }:=by
  simp [Builtin.clear_,run_underlying hT,MapKept.run_getObj_map e3,MapKept.run_setObj_map _ e3]
 simp only [hcl,Result.andThen_ok,Sem.run_bind,Sem.run_pure,Oper.upon]
 exact hN G _ _ (ok'.set (av:=.tu []) (.tu _ _ rfl fun i av u h=>by simp at h) (.tu _ fun i x h=>by simp at h) (dstOk_of hd))
theorem WL.mcl {α:Type} {enc:α→Value} {T kt et:TypeId} {l:List (α×Value)} {q:Nat} {x:Operand} {t:List (Nat×AV)} {M M':List (Nat×AO)} {nk:Nat} (hg:o.guard=none) (ho:o.op=.call { callee:=.builtin .clear,args:=#[x],argTypes:=#[T] }) (hT:P.underlying T=some (.map kt et))
  (hx:(⟨t,M,nk⟩:St).ev x=some (.sl q)) (hq:look q M=some (.opq (mapQ enc l))) (hd:dstOk C.N o.dst=true) (hM:remS q M=some M') (r:WL P C ops rest ((⟨t,(q,.opq (mapQ enc []))::M',nk⟩:St).set o.dst (.tu [])) Q):WL P C ops (o::rest) ⟨t,M,nk⟩ Q:=by
 rw [remS_eq hM] at r
 refine WL.op hg ?_ r
 intro G a w ok N Q' hN
 refine WO.mcl (σ:=⟨t,M,nk⟩) (enc:=enc) ho hT hx hq hd G a w ok N Q' fun G' a' w' ok'=>hN G' a' w' ?_
 have hl:∀ i,look i ((q,AO.opq (mapQ enc []))::rem q M)=look i ((q,AO.opq (mapQ enc []))::M):=fun i=>by
  by_cases e:i=q
  ·subst e;rw [look_set_same,look_set_same]
  ·rw [look_set_other e,look_set_other e,look_rem,if_neg e]
 cases hdst:o.dst with
 | none =>
  rw [hdst] at ok'
  exact ⟨ok'.sz,ok'.df,ok'.tm,ok'.bel,ok'.fw,ok'.f0,ok'.f1,fun i x hx=>ok'.ob i x ((hl i).symm.trans hx),fun i x y hx=>ok'.my i x y ((hl i).symm.trans hx),fun i x i' x' y hx hx'=>ok'.dj i x i' x' y ((hl i).symm.trans hx) ((hl i').symm.trans hx'),fun i x y p u hx=>ok'.dF i x y p u ((hl i).symm.trans hx)⟩
 | some d =>
  rw [hdst] at ok'
  exact ⟨ok'.sz,ok'.df,ok'.tm,ok'.bel,ok'.fw,ok'.f0,ok'.f1,fun i x hx=>ok'.ob i x ((hl i).symm.trans hx),fun i x y hx=>ok'.my i x y ((hl i).symm.trans hx),fun i x i' x' y hx hx'=>ok'.dj i x i' x' y ((hl i).symm.trans hx) ((hl i').symm.trans hx'),fun i x y p u hx=>ok'.dF i x y p u ((hl i).symm.trans hx)⟩
end
end
section
open Go.RowKit
section
variable {P:Program} {C:Cx} {σ:St} {o:Oper} {d:Tmp} {ops:Array Oper} {rest:List Oper} {Q:Exit→St→Prop} {mem:List Bool} {Mc:List (Nat×AO)} {nk0 k:Nat}
theorem W.dmT2 {id:Nat} {L:List Oper} (k0:Nat)(mem:List Bool)(ms:List Nat)(hm:P.follows .mixedOrders=true)(hB:Region.lexB .any L.toArray=true)(hT:tailB L.toArray k0=true)(hB2:Region.lexB .any (L.take k0).toArray=true)
  (hch:chainB (L.take k0).toArray mem=true)(hMc:msSub (onlyM σ.M ms) σ.M)
  (h:DMK P C (L.take k0).toArray mem (onlyM σ.M ms) σ.nk 0 (L.take k0) σ (fun e s=>e=.normal∧WL P C L.toArray (L.drop k0) s Q)):W P C (.region id L.toArray true) σ Q :=
 W.drawT k0 hm hB hT (let⟨_,a,b⟩:=h;WA.drawM mem (onlyM σ.M ms) hB2 hch hMc a b)
theorem DMK.al {T:TypeId} {z:Value} {l:List AV} (hd:wrB mem C.N k o=some d) (ho:o.op=.alloc T) (hz:(P.info? T).bind (·.zero)=some z) (hl:z.cells.toList.map .sc=l) (hs:msSub Mc ((σ.nk,.box T l)::σ.M))
  (r:DMK P C ops mem Mc nk0 (k+1) rest ⟨(d,.pt σ.nk 0 0)::σ.t,(σ.nk,.box T l)::σ.M,σ.nk+1⟩ Q):DMK P C ops mem Mc nk0 k (o::rest) σ Q:=by
 obtain ⟨a,b,c,e⟩:=wrB_of hd
 exact DMK.wr a b (Nat.ble_eq_true_of_le (Nat.le_succ _)) hs ⟨c,fun t _=>WO.alloc (σ:=⟨t,σ.M,σ.nk⟩) ho hz b e hl rfl⟩ r
theorem Tr.nilR {t:Tmp} (n:Nat) (h:look t σ.t=some (.sc (.slice none 0 0))):Tr C σ (σ.put t (.ls n [])):=fun G a w ok =>
 ⟨G,ok.reslot h (.ls _ _) fun v hv=>by rw [hv.sc_eq];exact .pu _ _ (.ls n [] none 0 ⟨0,0,none⟩ (fun _ _=>undef) (by simp) (by simp) (by simp) (by simp) (by simp))⟩
def truB:World→View→Prop:=fun _ _=>True
theorem truS:Stab truB 0:=⟨fun _ _ _=>Nat.zero_le _,fun _ _ _ _ _ _ _=>trivial⟩
theorem truH(C:Cx):Holds truB 0 C:=⟨fun _ _ _ _=>trivial,fun _ _=>Nat.zero_le _⟩
end
end
section
open Go.RowKit
section
variable {P:Program} {C:Cx} {σ σ':St} {G G':Gh} {a:Act} {w w':World} {o:Oper} {d:Tmp} {ops:Array Oper} {rest:List Oper} {Q:Exit→St→Prop}
theorem flatten_take {α:Type} {n:Nat}:∀ (l:List (List α))(j:Nat),(∀ r∈l,r.length=n)→(l.take j).flatten=l.flatten.take (j*n)
 | [],j,_=>by simp
 | x::r,0,_=>by simp
 | x::r,j+1,h=>by
  have hx:=h x (by simp)
  have e1:x.take (j*n+n)=x:=List.take_of_length_le (by rw [hx];exact Nat.le_add_left _ _)
  rw [List.take_succ_cons,List.flatten_cons,List.flatten_cons,flatten_take r j fun y hy=>h y (by simp [hy]),Nat.succ_mul,List.take_append,hx,e1,Nat.add_sub_cancel]
theorem RowIs.pre {T n:Nat} {rows:List (List AV)} {A:Option Addr} {len cap:Nat} {φ:Nat→Prop} {X:Nat→Nat→(Nat→Prop)→AV→Value→Prop} (h:RowIs w T n rows (.slice A len cap) φ X) {j:Nat} (hj:j≤rows.length):RowIs w T n (rows.take j) (.slice A j cap) φ X:=by
 obtain ⟨hrl,vs,Φ,h4,h5,h7,hgf,hΦ,hΦd,h8,h6⟩:=h
 have hvl:∀ r∈vs,r.length=n:=by
  intro r' hr'
  obtain ⟨q,hq,rfl⟩:=List.getElem_of_mem hr'
  have:=h8 q rows[q] vs[q] (List.getElem?_eq_getElem (by omega)) (List.getElem?_eq_getElem hq)
  rw [this];exact hrl _ (List.getElem_mem _)
 have tk:∀ {α:Type} {l:List α} {i:Nat} {x:α},(l.take j)[i]?=some x→l[i]?=some x:=fun {α l i x} h=>by
  rw [List.getElem?_take] at h
  split at h
  ·exact h
  ·cases h
 have eo:(Value.slice A j cap).ownBlock=(Value.slice A len cap).ownBlock:=by cases A<;>rfl
 refine ⟨fun r hr=>hrl r (List.mem_of_mem_take hr),vs.take j,Φ,⟨?_,?_⟩,by simp [h5],fun r hr=>h7 r (List.mem_of_mem_take hr),by rw [eo];exact hgf,by rw [eo];exact hΦ,hΦd,fun i r r' a b=>h8 i r r' (tk a) (tk b),fun i r r' s av u a b=>h6 i r r' s av u (tk a) (tk b)⟩
 ·rw [flatten_len fun r hr=>hvl r (List.mem_of_mem_take hr)]
 ·have hl:(vs.take j).length=j:=by simp;omega
  rw [hl,flatten_take vs j hvl]
  rcases h4.2 with⟨e1,e2⟩|⟨g,cap',cur,e1,hb,hh,hnc,hcm,hcs,ht⟩
  ·cases e1
   refine .inl ⟨?_,by omega⟩
   rw [show j=0 by omega]
  ·cases e1
   refine .inr ⟨g,cap,cur,rfl,hb,hh,by omega,hcm,hcs,?_⟩
   rw [← ht,List.take_take]
   congr 1
   have:=Nat.mul_le_mul_right n (show j≤vs.length by omega)
   omega
theorem Tr.mv {t:Tmp} {q:Nat} {T':TypeId} {n:Nat} {rows:List (List AV)} (ht:look t σ.t=some (.sl q)) (hk:look q σ.M=some (.row T' n rows)):Tr C σ (((σ.drop q).new (.row T' n rows)).put t (.sl σ.nk)):=fun G a w ok=>by
 obtain ⟨hn',hg,hR⟩:=(ok.ob q _ hk).2.2
 have ok':=(ok.drop_ q).newObj (S:=fun _=>False) (w':=w) (b:=G.b q) (n:=n) (h:=G.h q) (φ:=G.fp q) (ob:=.row T' n rows)
  (Kept.refl _ w) (fun _ h=>h.elim) (fun _ _ _ _ _ h=>h) (fun _ _ _ h=>h)
  ⟨with_n,(fun g hgg=>by rw [with_h] at hgg;rw [with_b];exact hg g hgg),by rw [with_h,with_f];exact hR⟩ trivial (fun x hx=>⟨(ok.my q _ x hk hx).1,(ok.my q _ x hk hx).2,fun i oi hi h2=>(drop_look hi).1 (ok.dj i oi q _ x (drop_look hi).2 hk h2 hx),fun p u=>ok.dF q _ x p u hk hx⟩)
 refine ⟨_,ok'.reslot (av:=.sl q) ht (.sl _ (Nat.lt_succ_self _)) fun v hv=>?_⟩
 have hlt:q<σ.nk:=(ok.ob q _ hk).1
 have hv2:v=G.h q:=hv.sl_of.1.trans (if_neg (show ¬ q=σ.nk by omega))
 have h3:v.oneCell'=true:=hv.sl_of.2
 rw [hv2] at h3 ⊢
 exact with_sl h3
def opT:Op→Option TypeId
 | .slice T _ _ _ _=>some T
 | _=>none
def preV (P:Program)(σ:St):Op→Option (Nat×TypeId×Nat×List (List AV)×Int)
 | .slice T x none (some y) none =>
  match P.underlying T,σ.ev x,σ.ev y with
  | some (.slice e),some (.sl k),some (.sc (.int _ j)) =>
   match sizeB P e,look k σ.M with
   | some m,some (.row T' n rows)=>bif Nat.beq m n then some (k,T',n,rows,j) else none
   | _,_=>none
  | _,_,_=>none
 | _=>none
theorem WO.pre {q:Nat} {T':TypeId} {n:Nat} {rows:List (List AV)} {j:Int} (hd:dstB C.N o=some d) (h:preV P σ o.op=some (q,T',n,rows,j)) (hj:0≤j∧j≤rows.length):WO P C o σ (((σ.drop q).new (.row T' n (rows.take j.toNat))).put d (.sl σ.nk)):=by
 intro G a w ok N Q' hN
 obtain ⟨_,hds,hdb⟩:=dstB_of hd
 unfold preV at h
 split at h
 ·rename_i T x y ho
  split at h
  ·rename_i e k kj j' hT hx hy
   split at h
   ·rename_i m T2 n' rows' hm hk
    cases hb:Nat.beq m n' with
    | false=>rw [hb] at h;cases h
    | true =>
     rw [hb] at h
     cases h
     obtain rfl:=Nat.eq_of_beq_eq_true hb
     obtain ⟨hn',hg,hR⟩:=(ok.ob q _ hk).2.2
     obtain ⟨A,c,hv⟩:=hR.len
     have ex:a.eval x=.slice A rows.length c:=(ok.evr hx).2.sl_of.1.trans hv
     have hcap:rows.length≤c:=by
      obtain ⟨_,vs,Φ,h4,h5,_⟩:=hR
      rcases h4.2 with ⟨e1,e2⟩|⟨g,cap,cur,e1,_,_,hnc,_⟩
      ·omega
      ·rw [hv] at e1;injection e1 with a1 a2 a3;omega
     rw [hv] at hg hR
     have hR':=hR.pre (j:=j.toNat) zqo
     have hrun:=run_sliceS (P:=P) hT hm A rows.length c none (some (a.eval y)) 0 j w (.inr ⟨rfl,rfl⟩) (.inl ⟨kj,by rw [ok.evs hy]⟩) ⟨Int.le_refl 0,hj.1,hj.2⟩ hcap
     have hA:(if c=(0:Int).toNat then A else A.map (·.add ((0:Int).toNat*m)))=A:=by
      simp only [Int.toNat_zero,Nat.zero_mul,add_zero']
      split
      ·rfl
      ·cases A<;>rfl
     rw [hA] at hrun
     simp only [Int.toNat_zero,Nat.sub_zero] at hrun
     have ok':=(ok.drop_ q).newObj (S:=fun _=>False) (w':=w) (b:=G.b q) (n:=m) (h:=.slice A j.toNat c) (φ:=G.fp q) (ob:=.row T' m (rows.take j.toNat))
      (Kept.refl _ w) (fun _ h=>h.elim) (fun _ _ _ _ _ h=>h) (fun _ _ _ h=>h)
      ⟨with_n,(fun g hgg=>by
       rw [with_h] at hgg;rw [with_b]
       refine hg g ?_
       rw [show (Value.slice A rows.length c).ownBlock=(Value.slice A j.toNat c).ownBlock by cases A<;>rfl,hgg]),by rw [with_h,with_f];exact hR'⟩ trivial (fun x hx=>⟨(ok.my q _ x hk hx).1,(ok.my q _ x hk hx).2,fun i oi hi h2=>(drop_look hi).1 (ok.dj i oi q _ x (drop_look hi).2 hk h2 hx),fun p u=>ok.dF q _ x p u hk hx⟩)
     unfold Oper.wp execOp
     have hsa:(Instr.sliceAt T (.slice A rows.length c) none (some (a.eval y)) none).run P w=.ok (.slice A j.toNat c) w:=by
      unfold Instr.sliceAt
      rw [Sem.run_bind,run_underlying hT w];exact hrun
     simp only [ho,ex,Option.map_none,Option.map_some,Sem.run_bind,hsa,Sem.run_pure,Result.andThen_ok,Oper.upon]
     rw [hds]
     exact hN _ _ _ (ok'.set (d:=some d) (av:=.sl σ.nk) (with_sl rfl) (.sl _ (Nat.lt_succ_self _)) fun x hx=>by cases hx;exact of_blt hdb)
   ·cases h
  ·cases h
 ·cases h
theorem WL.pre {q:Nat} {T':TypeId} {n:Nat} {rows:List (List AV)} {j:Int} {t:List (Nat×AV)} {M M':List (Nat×AO)} {nk:Nat} (hd:dstB C.N o=some d) (h:preV P ⟨t,M,nk⟩ o.op=some (q,T',n,rows,j)) (hM:remS q M=some M') (hj:0≤j∧j≤rows.length)
  (k:WL P C ops rest ⟨(d,.sl nk)::t,(nk,.row T' n (rows.take j.toNat))::M',nk+1⟩ Q):WL P C ops (o::rest) ⟨t,M,nk⟩ Q:=by
 rw [remS_eq hM] at k
 exact WL.op (dstB_of hd).1 (WO.pre hd h hj) k
theorem Ok.putNo (h:Ok C σ G a w) {d:Tmp} (hd:look d σ.t=none)(v:Value):Ok C σ G (a.put (some d) v) w:=by
 refine⟨?_,h.df,?_,h.bel,h.fw,h.f0,h.f1,h.ob,h.my,h.dj,h.dF⟩
 ·show (a.tmps.setIfInBounds d v).size=C.N
  rw [Array.size_setIfInBounds];exact h.sz
 ·intro i x hx
  show i<C.N∧Bd σ.nk x∧R G x ((a.tmps.setIfInBounds d v).getD i undef)
  have hne:d≠i:=fun e=>by subst e;rw [hd] at hx;cases hx
  have e:(a.tmps.setIfInBounds d v).getD i undef=a.tmps.getD i undef:=by
   simp only [Array.getD_eq_getD_getElem?,Array.getElem?_setIfInBounds_ne hne]
  rw [e];exact h.tm i x hx
theorem zeroCells_one(z:Value)(n:Nat):(Builtin.zeroCells #[z] n).toList=List.replicate n z:=by
 apply List.ext_getElem?
 intro i
 by_cases h:i<n
 ·simp [Builtin.zeroCells,h,Nat.mod_one]
 ·simp [Builtin.zeroCells,h]
theorem RowIs.clr {T:Nat} {rows:List (List AV)} {F:View} {g cap:Nat} {φ:Nat→Prop} {z:Value} (hz:z.oneCell'=true) (h:RowIs w T 1 rows (.slice (some ⟨g,0,none⟩) rows.length cap) φ (XP F)) {i:Nat} (hi:i<rows.length) :
  ∃ cur,w.heap[g]?=some (.cells cur T (0,0))∧rows.length≤cur.size∧φ g ∧
   RowIs (w.setRow g (cur.toList.take i++List.replicate (rows.length-i) z++cur.toList.drop (i+(rows.length-i))).toArray) T 1 (rows.take i++List.replicate (rows.length-i) [.sc z]) (.slice (some ⟨g,0,none⟩) rows.length cap) φ (XP F):=by
 obtain ⟨hrl,vs,Φ,h4,h5,h7,hgf,hΦ,hΦd,h8,h6⟩:=h
 have hvl:∀ r∈vs,r.length=1:=by
  intro r' hr'
  obtain ⟨q,hq,rfl⟩:=List.getElem_of_mem hr'
  have:=h8 q rows[q] vs[q] (List.getElem?_eq_getElem (by omega)) (List.getElem?_eq_getElem hq)
  rw [this];exact hrl _ (List.getElem_mem _)
 rcases h4.2 with⟨e1,e2⟩|⟨g',cap',cur,e1,hb,hh,hnc,hcm,hcs,ht⟩
 ·cases e1
 ·injection e1 with a1 a2 a3
  injection a1 with a1
  injection a1 with a1
  subst a1 a3
  rw [Nat.mul_one] at hcs ht
  refine ⟨cur,hh,by omega,hgf g rfl,?_⟩
  have hfl:(vs.take i++List.replicate (rows.length-i) [z]).flatten=cur.toList.take i++List.replicate (rows.length-i) z:=by
   rw [List.flatten_append,flatten_take vs i hvl,Nat.mul_one,← ht,List.take_take,show min i vs.length=i by omega]
   congr 1
   have:∀ n:Nat,(List.replicate n [z]).flatten=List.replicate n z:=fun n=>by
    induction n with
    | zero=>rfl
    | succ n ih=>rw [List.replicate_succ,List.flatten_cons,ih,List.replicate_succ];rfl
   exact this _
  have hlen:(vs.take i++List.replicate (rows.length-i) [z]).length=rows.length:=by simp;omega
  have hlr:(rows.take i++List.replicate (rows.length-i) [AV.sc z]).length=rows.length:=by simp;omega
  have part:∀ {α:Type} {l:List α} {m:Nat} {y x:α} {q:Nat},i≤l.length→(l.take i++List.replicate m y)[q]?=some x→(q<i∧l[q]?=some x)∨(i≤q∧x=y):=fun {α l m y x q} hl hq=>by
   by_cases e:q<i
   ·rw [List.getElem?_append_left (by simp;omega),List.getElem?_take_of_lt e] at hq
    exact .inl ⟨e,hq⟩
   ·rw [List.getElem?_append_right (by simp;omega)] at hq
    exact .inr ⟨by omega,List.eq_of_mem_replicate (List.mem_of_getElem? hq)⟩
  refine ⟨fun r hr=>?_,vs.take i++List.replicate (rows.length-i) [z],fun q s x=>q<i∧Φ q s x,⟨?_,.inr ⟨g,cap,_,?_,hb,setRow_heap w _ _ _ _ _ hh,by omega,hcm,?_,?_⟩⟩,by rw [hlen,hlr],fun r hr u hu=>?_,hgf,fun q s x hx=>hΦ q s x hx.2,fun q s q' s' x h1 h2=>hΦd q s q' s' x h1.2 h2.2,fun q r r' a b=>?_,fun q r r' s av u a b c e=>?_⟩
  ·rcases List.mem_append.1 hr with hr|hr
   ·exact hrl r (List.mem_of_mem_take hr)
   ·rw [List.eq_of_mem_replicate hr];rfl
  ·rw [flatten_len (size:=1) fun r hr=>?_]
   rcases List.mem_append.1 hr with hr|hr
   ·exact hvl r (List.mem_of_mem_take hr)
   ·rw [List.eq_of_mem_replicate hr];rfl
  ·rw [hlen]
  ·simp;omega
  ·rw [hlen,Nat.mul_one,hfl]
   have hl2:(cur.toList.take i++List.replicate (rows.length-i) z).length=rows.length:=by simp;omega
   simp only []
   rw [List.take_append,hl2,List.take_of_length_le (by omega),Nat.sub_self,List.take_zero,List.append_nil]
  ·rcases List.mem_append.1 hr with hr|hr
   ·exact h7 r (List.mem_of_mem_take hr) u hu
   ·rw [List.eq_of_mem_replicate hr,List.mem_singleton] at hu;subst hu;exact hz
  ·rcases part zqo a with⟨a1,a2⟩|⟨a1,a2⟩
   ·rcases part zqo b with⟨b1,b2⟩|⟨b1,b2⟩
    ·exact h8 q r r' a2 b2
    ·omega
   ·rcases part zqo b with⟨b1,b2⟩|⟨b1,b2⟩
    ·omega
    ·subst a2 b2;rfl
  ·rcases part zqo a with⟨a1,a2⟩|⟨a1,a2⟩
   ·rcases part zqo b with⟨b1,b2⟩|⟨b1,b2⟩
    ·exact h6 q r r' s av u a2 b2 c e
    ·omega
   ·rcases part zqo b with⟨b1,b2⟩|⟨b1,b2⟩
    ·omega
    ·subst a2 b2
     cases s with
     | zero=>cases c;cases e;exact .sc _
     | succ s=>simp at c
def endV (P:Program)(σ:St):Op→Option (Nat×TypeId×List (List AV)×Int×Value)
 | .slice T x (some y) none none =>
  match P.underlying T,σ.ev x,σ.ev y with
  | some (.slice e),some (.sl k),some (.sc (.int _ j)) =>
   match sizeB P e,look k σ.M,(P.info? e).bind (·.zero) with
   | some 1,some (.row T' 1 rows),some z=>bif z.oneCell' then some (k,T',rows,j,z) else none
   | _,_,_=>none
  | _,_,_=>none
 | _=>none
theorem wo_rem_ok {σ:St} {k:Nat} {ob:AO} (ok':Ok C (σ.upd k ob) G a w):Ok C ⟨σ.t,(k,ob)::rem k σ.M,σ.nk⟩ G a w:=by
 have hl:∀ i,look i ((k,ob)::rem k σ.M)=look i ((k,ob)::σ.M):=fun i=>by
  by_cases e:i=k
  ·subst e;rw [look_set_same,look_set_same]
  ·rw [look_set_other e,look_set_other e,look_rem,if_neg e]
 exact ⟨ok'.sz,ok'.df,ok'.tm,ok'.bel,ok'.fw,ok'.f0,ok'.f1,fun i x hx=>ok'.ob i x ((hl i).symm.trans hx),fun i x y hx=>ok'.my i x y ((hl i).symm.trans hx),fun i x i' x' y hx hx'=>ok'.dj i x i' x' y ((hl i).symm.trans hx) ((hl i').symm.trans hx'),fun i x y p u hx=>ok'.dF i x y p u ((hl i).symm.trans hx)⟩
theorem WL.clr {o1 o2:Oper} {d:Tmp} {T:TypeId} {q:Nat} {T':TypeId} {rows:List (List AV)} {j:Int} {z:Value} {t:List (Nat×AV)} {M M':List (Nat×AO)} {nk:Nat} (hd:dstB C.N o1=some d) (h:endV P ⟨t,M,nk⟩ o1.op=some (q,T',rows,j,z)) (ho1:opT o1.op=some T) (hl:look d t=none)
  (hg2:o2.guard=none) (hd2:o2.dst=none) (ho2:o2.op=.call { callee:=.builtin .clear,args:=#[.tmp d],argTypes:=#[T] }) (hM:remS q M=some M') (hj:0≤j∧j≤rows.length)
  (k:WL P C ops rest ⟨t,(q,.row T' 1 (rows.take j.toNat++List.replicate (rows.length - j.toNat) [.sc z]))::M',nk⟩ Q):WL P C ops (o1::o2::rest) ⟨t,M,nk⟩ Q:=by
 rw [remS_eq hM] at k
 obtain ⟨hg1,hds,hdb⟩:=dstB_of hd
 intro G a w ok
 refine wpList_plain hg1 fun K hK=>?_
 unfold endV at h
 split at h
 ·rename_i T0 x y ho
  rw [ho] at ho1
  obtain rfl:T0=T:=Option.some.inj ho1
  split at h
  ·rename_i e k0 kj j' hT hx hy
   split at h
   ·rename_i T2 rows' z' hm hk hz
    cases hb:z'.oneCell' with
    | false=>rw [hb] at h;cases h
    | true =>
     rw [hb] at h
     cases h
     obtain ⟨hn',hg,hR⟩:=(ok.ob q _ hk).2.2
     obtain ⟨A,c,hv⟩:=hR.len
     have ex:a.eval x=.slice A rows.length c:=(ok.evr hx).2.sl_of.1.trans hv
     have hcap:rows.length≤c:=by
      obtain ⟨_,vs,Φ,h4,h5,_⟩:=hR
      rcases h4.2 with ⟨e1,e2⟩|⟨g,cap,cur,e1,_,_,hnc,_⟩
      ·omega
      ·rw [hv] at e1;injection e1 with a1 a2 a3;omega
     have hrun:=run_sliceS (P:=P) hT hm A rows.length c (some (a.eval y)) none j rows.length w (.inl ⟨kj,by rw [ok.evs hy]⟩) (.inr ⟨rfl,rfl⟩) ⟨hj.1,hj.2,Int.le_refl _⟩ hcap
     rw [Int.toNat_natCast,Nat.mul_one] at hrun
     have hsa:(Instr.sliceAt T0 (.slice A rows.length c) (some (a.eval y)) none none).run P w=.ok (.slice (if c=j.toNat then A else A.map (·.add j.toNat)) (rows.length - j.toNat) (c - j.toNat)) w:=by
      unfold Instr.sliceAt
      rw [Sem.run_bind,run_underlying hT w];exact hrun
     unfold Oper.wp execOp
     simp only [ho,ex,Option.map_none,Option.map_some,Sem.run_bind,hsa,Sem.run_pure,Result.andThen_ok,Oper.upon]
     rw [hds]
     refine hK _ _ ?_
     obtain ⟨v1,hv1⟩:∃ v1,(Value.slice (if c=j.toNat then A else A.map (·.add j.toNat)) (rows.length - j.toNat) (c - j.toNat))=v1:=⟨_,rfl⟩
     rw [hv1]
     have ok1:=ok.putNo (d:=d) hl v1
     have hev:(a.put (some d) v1).eval (.tmp d)=v1:=by
      show (a.tmps.setIfInBounds d v1).getD d undef=v1
      have hlt:d < a.tmps.size:=by rw [ok.sz];exact of_blt hdb
      simp [Array.getD_eq_getD_getElem?,hlt]
     refine wpList_plain hg2 fun K2 hK2=>?_
     have fin:∀ (w2:World) G2,Ok C ⟨t,(q,.row T' 1 (rows.take j.toNat++List.replicate (rows.length - j.toNat) [.sc z]))::rem q M,nk⟩ G2 (a.put (some d) v1) w2→(Builtin.clear_ #[T0] o2.type #[v1]).run P w=.ok (.tuple #[]) w2→o2.wp P (a.put (some d) v1) w K2 (Post C Q):=fun w2 G2 ok2 hr=>by
      unfold Oper.wp execOp
      have hargs:(#[Operand.tmp d]:Array Operand).map (a.put (some d) v1).eval=#[v1]:=by simp [hev]
      simp only [ho2,resolve,invoke,builtin,Sem.run_bind,Sem.run_pure,Result.andThen_ok,hargs,hr,Oper.upon]
      rw [hd2]
      exact hK2 _ _ (k G2 _ w2 ok2)
     by_cases hlt:j.toNat < rows.length
     ·obtain ⟨g,hgA⟩:∃ g,A=some ⟨g,0,none⟩:=by
       obtain ⟨_,vs,Φ,h4,h5,_⟩:=hR
       rcases h4.2 with ⟨e1,e2⟩|⟨g,cap,cur,e1,_⟩
       ·omega
       ·rw [hv] at e1;injection e1 with a1 a2 a3;exact ⟨g,a1⟩
      subst hgA
      rw [hv] at hR hg
      obtain ⟨cur,hh,hcs,hφ,hR2⟩:=hR.clr hb hlt
      have hgb:g=G.b q:=hg g rfl
      rw [if_neg (by omega)] at hv1
      have hadd:(Option.map (fun x:Addr=>x.add j.toNat) (some ⟨g,0,none⟩))=some (⟨g,j.toNat,none⟩:Addr):=by
       simp only [Option.map_some,add_flat,Nat.zero_add]
      rw [hadd] at hv1
      have hst:=run_storeCells_at P g j.toNat T' (List.replicate (rows.length - j.toNat) z) 0 cur w hh (by simp;omega) (fun v hv=>by rw [List.eq_of_mem_replicate hv];exact hb)
      rw [Nat.add_zero,List.length_replicate] at hst
      have hzz:∃ i,P.info? e=some i∧i.zero=some z:=by
       cases hi:P.info? e with
       | none=>simp [hi] at hz
       | some i=>exact ⟨i,rfl,by simpa [hi] using hz⟩
      obtain ⟨i0,hi0,hz0⟩:=hzz
      have hzc:z.cells=#[z]:=by cases z<;>first|rfl|cases hb
      obtain ⟨cs,hcs2⟩:∃ cs,(cur.toList.take j.toNat++List.replicate (rows.length - j.toNat) z++cur.toList.drop (j.toNat+(rows.length - j.toNat))).toArray=cs:=⟨_,rfl⟩
      rw [hcs2] at hst hR2
      refine fin (w.setRow g cs) G (wo_rem_ok (ok1.writeG (σ:=⟨t,M,nk⟩) (ob':=.row T' 1 (rows.take j.toNat++List.replicate (rows.length - j.toNat) [.sc z])) hk (by exact hφ) (kept_setRow w g cs) ⟨hn',?_,?_⟩ trivial)) ?_
      ·rw [hv];exact hg
      ·rw [hv];exact hR2
      ·subst hv1
       obtain ⟨m,hm0⟩:∃ m,rows.length - j.toNat=m+1:=⟨rows.length - j.toNat - 1,by omega⟩
       rw [hm0] at hst ⊢
       simp [Builtin.clear_,run_underlying hT,zeroValue,typeInfo,hi0,hz0,hzc,zeroCells_one,hst]
     ·have e0:rows.length - j.toNat=0:=by omega
      have et:rows.take j.toNat++List.replicate (rows.length - j.toNat) [AV.sc z]=rows:=by rw [e0,List.take_of_length_le (by omega)];simp
      refine fin w G ?_ ?_
      ·rw [et]
       exact wo_rem_ok (σ:=⟨t,M,nk⟩) (k:=q) (ob:=.row T' 1 rows) (ok1.reob hk ⟨(ok.ob q _ hk).1,trivial,hn',hg,hR⟩)
      ·rw [← hv1,e0]
       split<;>(cases A<;>simp [Builtin.clear_,run_underlying hT])
   ·cases h
  ·cases h
 ·cases h
end
end
section
open Go.RowKit
section
variable {B:World→View→Prop} {gl:Nat} {P:Program} {C:Cx} {σ:St} {o:Oper} {d:Tmp} {ops:Array Oper} {rest:List Oper} {Q:Exit→St→Prop} {mem:List Bool} {Mc:List (Nat×AO)} {nk0 k:Nat}
theorem trM_same {σ σ':St} (h:σ'.M=σ.M) {ρ:Nat→Nat} {nk:Nat}:∀ {M:List (Nat×AO)},TrM σ ρ nk M→TrM σ' ρ nk M
 | [],_=>trivial
 | x::r,⟨h1,h2⟩=>⟨by rw [h];exact h1,trM_same h h2⟩
theorem DMK.ct (hB:Holds B gl C) {f:FuncId} {args args':List AV} {res res':AV} {M M' M2:List (Nat×AO)} {nk nk' n2:Nat} (ks:List Nat) (hd:wrB mem C.N k o=some d) (he:calE σ o.op=some (f,args')) (hc:∀ vs w,(callFunc f vs).run P w=.ok (.enter f vs) w)
  (h:Cto B gl P f args M nk res M' nk') (hks:ksB ks nk σ.nk=true) (ha:args.map (AV.ren (rhoC ks nk σ.nk))=args') (hp:args.all (AV.inn nk)=true) (hM:TrM σ (rhoC ks nk σ.nk) nk M)
  (hq:(Nat.ble nk nk' && M'.all (fun x=>x.2.inn nk') && M'.all (fun x=>Nat.blt x.1 nk') && res.inn nk')=true) (hr:res.ren (rhoC ks nk σ.nk)=res') (hM2:renM (rhoC ks nk σ.nk) M'++remL ks σ.M=M2) (hn2:σ.nk+(nk'-nk)=n2) (hs:msSub Mc M2)
  (r:DMK P C ops mem Mc nk0 (k+1) rest ⟨(d,res')::σ.t,M2,n2⟩ Q):DMK P C ops mem Mc nk0 k (o::rest) σ Q:=by
 subst hM2 hn2
 obtain ⟨a,b,c,e⟩:=wrB_of hd
 simp only [Bool.and_eq_true] at hq
 unfold calE at he
 split at he
 ·rename_i y xs ts ho
  split at he
  ·rename_i fv args0 hy hx
   split at he
   ·rename_i f' caps hf
    cases he
    refine DMK.wr a b (Nat.ble_eq_true_of_le (Nat.le_add_right _ _)) hs ⟨c,fun t H=>?_⟩ r
    have hmem:∀ q∈y::xs,q∈o.op.operands.toList:=fun q hq=>by rw [ho];simp [Op.operands,Call.operands] at hq ⊢;exact hq
    have:=WO.cto (P:=P) (C:=C) (σ:=⟨t,σ.M,σ.nk⟩) (xs:=⟨xs⟩) hB ks ho hc ((ev_agree H (hmem y (by simp))).trans hy) hf ((evs_agree H fun q hq=>hmem q (List.mem_cons_of_mem _ hq)).trans hx) rfl h hks ha hp (trM_same (σ:=σ) (σ':=⟨t,σ.M,σ.nk⟩) (ρ:=rhoC ks nk σ.nk) rfl hM) hq.1.1.1 hq.1.1.2 hq.1.2 hq.2 hr (by rw [b];exact e)
    rw [b] at this
    exact this
   ·cases he
  ·cases he
 ·cases he
theorem W.dm3 {id:Nat} {l:List Oper} (mem:List Bool)(ms:List Nat)(hm:P.follows .mixedOrders=true)(hB:Region.lexB .any l.toArray=true)(hch:chainB l.toArray mem=true)(hMc:msSub (onlyM σ.M ms) σ.M)
  (h:DMK P C l.toArray mem (onlyM σ.M ms) σ.nk 0 l σ Q):W P C (.region id l.toArray true) σ Q:=W.drawMK mem (onlyM σ.M ms) hm hB hch hMc h
theorem DK.bt {φ:Prop} [i:Decidable φ] (hc:isCmp o.op=true)(h:stepD P C.N ops σ o=some (d,.sc (.bool (decide φ))))(hφ:φ)(k:DK P C ops rest (σ.put d (.sc (.bool true))) Q):DK P C ops (o::rest) σ Q:=by
 rw [decide_eq_true hφ] at h
 exact DK.st h k
theorem DK.bf {φ:Prop} [i:Decidable φ] (hc:isCmp o.op=true)(h:stepD P C.N ops σ o=some (d,.sc (.bool (decide φ))))(hφ:¬ φ)(k:DK P C ops rest (σ.put d (.sc (.bool false))) Q):DK P C ops (o::rest) σ Q:=by
 rw [decide_eq_false hφ] at h
 exact DK.st h k
end
end
section
open Go.RowKit
def lendB (M:List (Nat×AO)):AV→AV
 | .sl k=>match look k M with
  | some (.row _ n rows)=>.ls n rows
  | _=>.sl k
 | av=>av
section
variable {B:World→View→Prop} {gl:Nat} {P:Program} {C:Cx} {ops:Array Oper} {rest:List Oper} {σ σ':St} {G G':Gh} {a:Act} {w w':World} {o:Oper} {d:Tmp} {Q:Exit→St→Prop}
theorem lend_rp (ok:Ok C σ G a w) {av:AV} {v:Value} (h:R G av v) (hp:(lendB σ.M av).pu2=true):RP (fun q=>w.cell? q) (lendB σ.M av) v:=by
 have hF:G.F.le fun q=>w.cell? q:=fun p u x=>ok.fw p u x
 have std:lendB σ.M av=av→RP (fun q=>w.cell? q) (lendB σ.M av) v:=fun e=>by
  rw [e] at hp ⊢
  exact RP.mono hF ((pu2_bd hp 0).rp h)
 cases av with
 | sl k =>
  cases hk:look k σ.M with
  | none=>exact std (by simp only [lendB,hk])
  | some ob =>
   cases ob with
   | row T n rows =>
    have e:lendB σ.M (.sl k)=.ls n rows:=by simp only [lendB,hk]
    rw [e,h.sl_of.1]
    obtain ⟨_,_,hob⟩:=ok.ob k _ hk
    have:=RowIs.fix (F':=fun q=>w.cell? q) id hob.2.2 (fun _ _=>rfl) fun i r j av u ψ _ _ _ x=>RP.mono hF x
    simpa using this
   | _=>exact std (by simp only [lendB,hk])
 | _=>exact std rfl
theorem WV.lend (hB:Holds B gl C) {f:FuncId} {xs:Array Operand} {ts:Array TypeId} {args args':List AV} {res:Value} (ho:o.op=.call { callee:=.value (.func f),args:=xs,argTypes:=ts }) (hc:∀ vs w,(callFunc f vs).run P w=.ok (.enter f vs) w)
  (hx:σ.evs xs.toList=some args) (hl:args.map (lendB σ.M)=args') (hp:args'.all AV.pu2=true) (hst:∀ w F F',View.le F F'→B w F→B w F') (h:Ctg B P f args' (.sc res)):WV P C o σ (.sc res):=by
 intro G a w ok N Q' hN
 obtain ⟨e1,e2⟩:=ok.evl hx
 subst hl
 have hF:G.F.le fun q=>w.cell? q:=fun p u x=>ok.fw p u x
 have hcalls:=h w (fun q=>w.cell? q) (xs.toList.map a.eval) (hst w _ _ hF (hB.1 w G.F ok.bel ok.f0)) (fun _ _ x=>x) ⟨by rw [e1,List.length_map],fun i av u p q=>by
  rw [List.getElem?_map] at p
  cases hi:args[i]? with
  | none=>simp [hi] at p
  | some av0 =>
   simp only [hi,Option.map_some,Option.some.injEq] at p
   subst p
   exact lend_rp ok (e2 i av0 u hi q) (List.all_eq_true.1 hp _ (List.mem_of_getElem? (by rw [List.getElem?_map,hi];rfl)))⟩
 unfold Oper.wp execOp
 have ev:a.eval (.func f)=.func (.func f) #[] #[]:=rfl
 have e3:(#[]++xs.map a.eval++#[]:Array Value)=(xs.toList.map a.eval).toArray:=by apply Array.ext';simp
 simp only [ho,resolve,ev,Deferred.ofValue,invoke,Sem.run_bind,Sem.run_pure,Result.andThen_ok,hc,Oper.upon,e3]
 refine hcalls.mono fun e w1 ⟨v,F',he,hb,h1,h2,h3,h4⟩=>?_
 subst he
 have hv:=h4.sc_eq
 subst hv
 exact hN _ { G with F:=G.F } w1 (fun σ'' a'' ok''=>ok''.called hb (fun _ _ x=>x) (fun p u x=>by rw [hb.cell (cell_block (ok.fw p u x))];exact ok.fw p u x) (fun _ _ x=>.inl x)) (.pu _ _ (.sc _)) (RP.bd (F:=G.F) (.sc _) _)
theorem truST:∀ w F F',View.le F F'→truB w F→truB w F':=fun _ _ _ _ h=>h
end
end
section
open Go.RowKit
theorem big_any (M:PM) (p:Pce) (w:World) (hP:PcAt w w.heap.size M p):Calls Tryz.prog 49 #[pcValue M p] w (Ret (.bool (bigB p)) w):=by
 obtain ⟨A1,A2,A3,c1,c2,c3⟩:=M
 obtain ⟨cs,st,evs⟩:=p
 unfold pcValue
 simp only at *
 have HP:=Lib.hid hP.2.1
 obtain ⟨n1,hn1⟩:∃ n,cs.length=n:=⟨_,rfl⟩
 obtain ⟨n2,hn2⟩:∃ n,st.length=n:=⟨_,rfl⟩
 obtain ⟨n3,hn3⟩:∃ n,evs.length=n:=⟨_,rfl⟩
 have HN3:=Lib.hid hn3
 have hB:bigB ⟨cs,st,evs⟩=(decide (64 < n1)|| (decide (64 < n2)|| (decide (420 < n3)|| evs.any fun e=>decide (20 < e.stops.length)))):=by unfold bigB;rw [hn1,hn2,hn3]
 rw [hB,hn1,hn2,hn3]
 clear hB hn1 hn2 hn3 hP
 by_cases b1:64 < n1
 ·have e:(decide (64 < n1)|| (decide (64 < n2)|| (decide (420 < n3)|| evs.any fun e=>decide (20 < e.stops.length))))=true:=by simp [b1]
  rw [e]
  clear e
  go_enter Tryz.func49,Tryz.ntmps49
  go_wp2
  go_ret
  exact Ret.mk' rfl zqb
 ·by_cases b2:64 < n2
  ·have e:(decide (64 < n1)|| (decide (64 < n2)|| (decide (420 < n3)|| evs.any fun e=>decide (20 < e.stops.length))))=true:=by simp [b2]
   rw [e]
   clear e
   go_enter Tryz.func49,Tryz.ntmps49
   go_wp2
   go_ret
   exact Ret.mk' rfl zqb
  ·by_cases b3:420 < n3
   ·have e:(decide (64 < n1)|| (decide (64 < n2)|| (decide (420 < n3)|| evs.any fun e=>decide (20 < e.stops.length))))=true:=by simp [b3]
    rw [e]
    clear e
    go_enter Tryz.func49,Tryz.ntmps49
    go_wp2
    go_ret
    exact Ret.mk' rfl zqb
   ·have e:(decide (64 < n1)|| (decide (64 < n2)|| (decide (420 < n3)|| evs.any fun e=>decide (20 < e.stops.length))))=evs.any fun e=>decide (20 < e.stops.length):=by simp [b1,b2,b3]
    rw [e]
    clear e
    obtain ⟨V,hV⟩:∃ V,(evs.any fun e=>decide (20 < e.stops.length))=V:=⟨_,rfl⟩
    rw [hV]
    have HV:=Lib.hid hV
    clear hV
    go_enter Tryz.func49,Tryz.ntmps49
    go_wp2
    go_loop [3] (fun i=>∃ k:Nat,k≤n3∧i=.int .i64 k∧V=(evs.drop k).any fun e=>decide (20 < e.stops.length)) (fun i=>n3 - (intOf i).toNat)
    case atStart=>exact ⟨0,Nat.zero_le _,rfl,HV.out.symm⟩
    case round =>
     obtain ⟨k,hk,rfl,hs⟩:=hrel
     have HS:=Lib.hid hs
     clear hs
     by_cases hlt:k < n3
     ·have hk2:k < evs.length:=by have:=HN3.out;omega
      obtain ⟨ad,S,c,hA,hb,_,_,_,_,_,hc,_⟩:=HP.out.ev hk2
      subst hA
      have hs2:=HS.out.trans (any_at hk2)
      generalize evs[k]=e at hc hs2
      have hc2:∀ o:Obj,(w.alloc o).cell? ⟨(ad.add (k*6)).block,(ad.add (k*6)).off+5,none⟩=some (.slice S e.stops.length c):=fun o=>by
       rw [World.cell?_alloc_lt _ _ _ (by rw [block_of_add];omega),hc]
      clear hc
      generalize e.stops.length=n at *
      by_cases hb1:20 < n
      ·have HE:=Lib.hid (hs2.trans (show _=true by simp [hb1]))
       clear hs2
       go_wp2
       go_ret
       exact Ret.mk' (by rw [HE.out];rfl) zqb
      ·have HS3:=Lib.hid (hs2.trans (show _=(evs.drop (k+1)).any fun e=>decide (20 < e.stops.length) by simp [hb1]))
       clear hs2
       go_wp2
       go_round
       case rel=>exact ⟨k+1,by omega,by go_num,HS3.out⟩
       case measure=>simp [intOf];omega
     ·have HE:=Lib.hid (HS.out.trans (show ((evs.drop k).any fun e=>decide (20 < e.stops.length))=false from by rw [List.drop_eq_nil_of_le (by have:=HN3.out;omega)];rfl))
      go_wp2
      go_ret
      exact Ret.mk' (by rw [HE.out];rfl) zqb
end
end Go.Proofs.YtgelfflighgajaaGreatDoor
