/- strings.Join: its contract. (The tool does not lay it here, for its closure's table of numbers; the bodies are the same.) -/
import Derived.Test.YtgelfflighgajaaGreatDoorEEAq
import Derived.Test.YtgelfflighgajaaGreatDoorBigAq
set_option linter.unusedVariables false
set_option linter.unusedSimpArgs false
namespace Go.Proofs.YtgelfflighgajaaGreatDoor
open Go.RowKit
def DK (P:Program) (C:Cx) (ops:Array Oper) (l:List Oper) (σ:St) (Q:Exit→St→Prop):Prop:=∃ σ',DL P C ops l σ σ'∧Q .normal σ'
def DMK (P:Program) (C:Cx) (ops:Array Oper) (mem:List Bool) (Mc:List (Nat×AO)) (nk0 k:Nat) (l:List Oper) (σ:St) (Q:Exit→St→Prop):Prop:=∃ σ',DM P C ops mem Mc nk0 k l σ σ'∧Q .normal σ'
section
variable {P:Program} {C:Cx} {σ:St} {ops:Array Oper} {l rest:List Oper} {o:Oper} {d:Tmp} {av:AV} {Q:Exit→St→Prop}
theorem W.drawK {id:Nat} (hm:P.follows .mixedOrders=true) (hB:Region.lexB .any l.toArray=true) (h:DK P C l.toArray l σ Q):W P C (.region id l.toArray true) σ Q :=
 let ⟨_,a,b⟩:=h;W.draw hm hB a b
theorem DK.nil (k:Q .normal σ):DK P C ops [] σ Q:=⟨σ,.nil σ,k⟩
theorem DK.op (hd:o.dst=some d) (hN:Nat.blt d C.N=true) (h:Does P C ops o σ av) (k:DK P C ops rest (σ.put d av) Q):DK P C ops (o::rest) σ Q :=
 let ⟨s,a,b⟩:=k;⟨s,.op o rest d av σ s hd hN h a,b⟩
theorem DK.val (hd:o.dst=some d) (hN:Nat.blt d C.N=true) (hg:guardK ops o (σ.only (o.looksAt ops))=some true) (h:WV P C o (σ.only (o.looksAt ops)) av) (k:DK P C ops rest (σ.put d av) Q):DK P C ops (o::rest) σ Q:=DK.op hd hN (.inl ⟨hg,h⟩) k
theorem DK.no (hd:o.dst=some d) (hN:Nat.blt d C.N=true) (hg:guardK ops o (σ.only (o.looksAt ops))=some false) (k:DK P C ops rest (σ.put d (.sc undef)) Q):DK P C ops (o::rest) σ Q:=DK.op hd hN (.inr ⟨hg,rfl⟩) k
theorem W.drawMK {id:Nat} (mem:List Bool) (Mc:List (Nat×AO)) (hm:P.follows .mixedOrders=true) (hB:Region.lexB .any l.toArray=true) (hch:chainB l.toArray mem=true) (hMc:msSub Mc σ.M) (h:DMK P C l.toArray mem Mc σ.nk 0 l σ Q):W P C (.region id l.toArray true) σ Q :=
 let ⟨_,a,b⟩:=h;W.drawM mem Mc hm hB hch hMc a b
variable {mem:List Bool} {Mc:List (Nat×AO)} {nk0 k:Nat}
theorem DMK.nil (h:Q .normal σ):DMK P C ops mem Mc nk0 k [] σ Q:=⟨σ,.nil k σ,h⟩
theorem DMK.val (hm:mem.getD k false=false) (hd:o.dst=some d) (hN:Nat.blt d C.N=true) {nk:Nat} (hk:nk=nk0∨(nk=σ.nk∧behindB ops mem k=true)) (h:DoesV P C ops o σ.t Mc nk av) (r:DMK P C ops mem Mc nk0 (k+1) rest (σ.put d av) Q):DMK P C ops mem Mc nk0 k (o::rest) σ Q :=
 let ⟨s,a,b⟩:=r;⟨s,.val k o rest d av nk σ s hm hd hN hk h a,b⟩
theorem DMK.wr {M':List (Nat×AO)} {nk':Nat} (hm:mem.getD k false=true) (hd:o.dst=some d) (hn:Nat.ble σ.nk nk'=true) (hs:msSub Mc M') (h:DoesM P C ops o σ d av M' nk') (r:DMK P C ops mem Mc nk0 (k+1) rest ⟨(d,av)::σ.t,M',nk'⟩ Q):DMK P C ops mem Mc nk0 k (o::rest) σ Q :=
 let ⟨s,a,b⟩:=r;⟨s,.mem k o rest d av M' nk' σ s hm hd hn hs h a,b⟩
end
end Go.Proofs.YtgelfflighgajaaGreatDoor
namespace Go.Proofs.YtgelfflighgajaaGreatDoor
open Go.RowKit
def eStp (x:Stp):List AV:=[.sc (.int .i64 x.1),.sc (.int .i64 x.2.1),.sc (.int .i64 x.2.2.1),.sc (.int .i64 x.2.2.2.1),.sc (.int .i64 x.2.2.2.2)]
def eStps (l:List Stp):AV:=.ls 5 (l.map eStp)
def eEv (e:Ev):List AV:=[.sc (.bool e.bar),.sc (.int .i64 e.val),.sc (.bool e.dot),.sc (.bool e.three),.sc (.bool e.tie),eStps e.stops]
def eCrs (x:Int×Int×Bool):List AV:=[.sc (.int .i64 x.1),.sc (.int .i64 x.2.1),.sc (.bool x.2.2)]
def eInt (x:Int):List AV:=[.sc (.int .i64 x)]
def eIns (cs:List (Int×Int×Bool)) (st:List Int):List AV:=[.ls 3 (cs.map eCrs),.ls 1 (st.map eInt)]
def ePce (p:Pce):AV:=.ag [.ls 3 (p.cs.map eCrs),.ls 1 (p.st.map eInt),.ls 6 (p.evs.map eEv)]
theorem map_at {α β:Type} {f:α→β} {l:List α} {k:Nat} (h:k<l.length):(l.map f)[((k:Nat):Int).toNat]?=some (f l[k]):=by rw [Int.toNat_natCast];simp [h]
theorem map_atZ {α β:Type} {f:α→β} {l:List α} {z:Int} (h0:0≤z) (h:z<l.length):(l.map f)[z.toNat]?=some (f (l[z.toNat]'(by omega))):=by
 have:z.toNat<l.length:=by omega
 simp [this]
theorem take_map_succ {α β:Type} {f:α→β} {l:List α} {k:Nat} (h:k<l.length):(l.take k).map f++[f l[k]]=(l.take (k+1)).map f:=by
 rw [List.take_succ_eq_append_getElem h,List.map_append];rfl
theorem bd_all {l:List AV} (h:l.all AV.pu2=true):∀ (i:Nat) av,l[i]?=some av→Bd 0 av:=fun i av x=>pu2_bd (List.all_eq_true.1 h av (List.mem_of_getElem? x)) 0
theorem fin1 {P:Program} {fn:Func} {C:Cx} {σ:St} {t:Tmp} {av res:AV} (h:fn.results=#[.tmp t]) (ht:look t σ.t=some av) (he:av=res) (hp:res.pu2=true):QFin P fn C res .ret σ :=
 ⟨.inr rfl,Fin.one h (he ▸ ht) (pu2_bd hp 0)⟩
theorem fin2 {P:Program} {fn:Func} {C:Cx} {σ:St} {t u:Tmp} {a1 a2 r1 r2:AV} (h:fn.results=#[.tmp t,.tmp u]) (h1:look t σ.t=some a1) (h2:look u σ.t=some a2) (e1:a1=r1) (e2:a2=r2) (p1:r1.pu2=true) (p2:r2.pu2=true):QFin P fn C (.tu [r1,r2]) .ret σ :=
 ⟨.inr rfl,Fin.two h (e1 ▸ h1) (e2 ▸ h2) (pu2_bd p1 0) (pu2_bd p2 0)⟩
theorem sc_bool {a b:Bool} (h:a=b):AV.sc (.bool a)=.sc (.bool b):=by rw [h]
theorem sc_int {k:IntKind} {a b:Int} (h:a=b):AV.sc (.int k a)=.sc (.int k b):=by rw [h]
end Go.Proofs.YtgelfflighgajaaGreatDoor
namespace Go.Proofs.YtgelfflighgajaaGreatDoor
def rR (s n:Int):List UInt8:=if n=1∧s≠3 then [46] else if n=2∧s=1 then [58] else if n=3∧s=1 then [39] else []
def rG (s n:Int):List UInt8 :=
 if s=1∧1≤n∧n≤4 then cut [44,94,35,40] (n-1) n else if s=2∧n=1 then [116] else if (s=2∨s=4)∧n=3 then [35] else []
def rH (s n L:Int):List UInt8:=if s=1 then 95::dig2 n.toNat else if (s=2∨s=4)∧n=L then [42] else []
def pH (s n L:Int):List UInt8:=if n=0 then [] else rH s n L
def okR (s n:Int):Bool:=n == 0 || !(rR s n).isEmpty
def okG (s n:Int):Bool:=n == 0 || !(rG s n).isEmpty
def okH (s n L:Int):Bool:=n == 0 || !(rH s n L).isEmpty
def cellS (s c f r g h L:Int):List UInt8:=pS s c f++rR s r++rG s g++pH s h L
def cellOk (s c f r g h L:Int):Bool:=pOk s c f && okR s r && okG s g && okH s h L
theorem rR_len (s n:Int):(rR s n).length≤1:=by
 unfold rR;split
 ·decide
 ·split
  ·decide
  ·split<;>decide
theorem rG_len (s n:Int):(rG s n).length≤4:=by
 unfold rG;split
 ·exact cut_length _ _ _
 ·split
  ·decide
  ·split<;>decide
theorem dig2_len (n:Nat):(dig2 n).length≤2:=by unfold dig2;split<;>simp
theorem rH_len (s n L:Int):(rH s n L).length≤3:=by
 unfold rH;split
 ·have:=dig2_len n.toNat;simp;omega
 ·split<;>decide
theorem pH_len (s n L:Int):(pH s n L).length≤3:=by
 unfold pH;split
 ·decide
 ·exact rH_len s n L
theorem symLenAll:((List.range' 1 4).all fun s=>(List.range' 1 14).all fun c=>(List.range 19).all fun f=>decide ((pS (s:Nat) (c:Nat) (f:Nat)).length≤4∧(rS (s:Nat) (c:Nat) (f:Nat)).length≤4))=true:=by
 decide +kernel
theorem pS_len (s c f:Int) (hs:1≤s∧s≤4) (hc:1≤c∧c≤14) (hf:0≤f∧f≤18):(pS s c f).length≤4∧(rS s c f).length≤4:=by
 obtain ⟨s,rfl⟩:=Int.eq_ofNat_of_zero_le (show 0≤s by omega)
 obtain ⟨c,rfl⟩:=Int.eq_ofNat_of_zero_le (show 0≤c by omega)
 obtain ⟨f,rfl⟩:=Int.eq_ofNat_of_zero_le hf.1
 have h:=symLenAll
 rw [List.all_eq_true] at h
 have h1:=h s (List.mem_range'_1.2 (by omega))
 rw [List.all_eq_true] at h1
 have h2:=h1 c (List.mem_range'_1.2 (by omega))
 rw [List.all_eq_true] at h2
 exact of_decide_eq_true (h2 f (List.mem_range.2 (by omega)))
end Go.Proofs.YtgelfflighgajaaGreatDoor
namespace Go.Proofs.YtgelfflighgajaaGreatDoor
open Go.RowKit
theorem rd_of_rp {α:Type} {F:View} {w:World} {n:Nat} {l:List α} {e:α→List AV} {f:α→List Value} {v:Value} (hF:∀ p u,F p=some u→w.cell? p=some u) (h0:0<n) (hf:∀ x,(f x).length=n) (hef:∀ x (j:Nat) u,(f x)[j]?=some u→(e x)[j]?=some (.sc u))
  (r:RP F (.ls n (l.map e)) v):∃ A c,v=.slice A l.length c∧Rd w w.heap.size n A (l.map f)∧l.length≤c:=by
 obtain ⟨A,cap,ad,u,rfl,h1,h2,h3,h4,h5⟩:=r.ls_of
 have hcell:∀ (k:Nat) x,l[k]?=some x→∀ (j:Nat) y,(f x)[j]?=some y→w.cell? (ad.add (k*n+j))=some y:=fun k x hk j y hy=>by
  have a1:(l.map e)[k]?=some (e x):=by rw [List.getElem?_map,hk];rfl
  have:=h3 k _ j _ a1 (hef x j y hy)
  rw [hF _ _ this.1,(h4 k _ j _ a1 (hef x j y hy)).sc_eq]
 refine ⟨A,cap,by rw [List.length_map],fun hp=>⟨ad,h2 (by simpa using hp),?_,fun k r hr j y hy=>?_⟩,by simpa using h5⟩
 ·have hp:0<l.length:=by simpa using hp
  have hx:0<(f (l[0]'hp)).length:=by rw [hf];exact h0
  have:=cell_block (hcell 0 (l[0]'hp) (List.getElem?_eq_getElem hp) 0 _ (List.getElem?_eq_getElem hx))
  rwa [block_of_add] at this
 ·rw [List.getElem?_map] at hr
  cases hk:l[k]? with
  | none=>simp [hk] at hr
  | some x =>
   rw [hk] at hr
   obtain rfl:f x=r:=by simpa using hr
   exact hcell k x hk j y hy
theorem stps_of_rp {F:View} {w:World} {l:List Stp} {v:Value} (hF:∀ p u,F p=some u→w.cell? p=some u) (r:RP F (eStps l) v):∃ A c,v=.slice A l.length c∧StpsAt w w.heap.size A l∧l.length≤c :=
 rd_of_rp (n:=5) (f:=stpCells) hF (by omega) (fun _=>rfl) (fun x j u h=>by
  match j with
  | 0=>cases h;rfl
  | 1=>cases h;rfl
  | 2=>cases h;rfl
  | 3=>cases h;rfl
  | 4=>cases h;rfl
  | j+5=>simp [stpCells] at h) r
theorem evs_of_rp {F:View} {w:World} {l:List Ev} {v:Value} (hF:∀ p u,F p=some u→w.cell? p=some u) (r:RP F (.ls 6 (l.map eEv)) v):∃ A c,v=.slice A l.length c∧EvsAt w w.heap.size A l∧l.length≤c:=by
 obtain ⟨A,cap,ad,u,rfl,h1,h2,h3,h4,h5⟩:=r.ls_of
 obtain ⟨ms,hml,hmq⟩:=list_ofT (fun k (m:Option Addr×Nat)=>∀ x,l[k]?=some x→u k 5=.slice m.1 x.stops.length m.2∧StpsAt w w.heap.size m.1 x.stops) l.length fun k hk=>by
  have a1:(l.map eEv)[k]?=some (eEv l[k]):=by simp [hk]
  obtain ⟨A',c',e,hs,_⟩:=stps_of_rp hF (h4 k _ 5 _ a1 rfl)
  refine ⟨(A',c'),fun x hx=>?_⟩
  rw [List.getElem?_eq_getElem hk] at hx
  cases hx
  exact ⟨e,hs⟩
 have hcell:∀ (k:Nat) x m,l[k]?=some x→ms[k]?=some m→∀ (j:Nat) y,(evCells x m)[j]?=some y→w.cell? (ad.add (k*6+j))=some y:=fun k x m hk hm j y hy=>by
  have a1:(l.map eEv)[k]?=some (eEv x):=by rw [List.getElem?_map,hk];rfl
  have hj:j < 6:=(List.getElem?_eq_some_iff.1 hy).1
  have get:∀ av,(eEv x)[j]?=some av→w.cell? (ad.add (k*6+j))=some (u k j):=fun av hav=>hF _ _ (h3 k _ j _ a1 hav).1
  match j,hj with
  | 0,_=>cases hy;rw [get _ rfl,(h4 k _ 0 _ a1 rfl).sc_eq]
  | 1,_=>cases hy;rw [get _ rfl,(h4 k _ 1 _ a1 rfl).sc_eq]
  | 2,_=>cases hy;rw [get _ rfl,(h4 k _ 2 _ a1 rfl).sc_eq]
  | 3,_=>cases hy;rw [get _ rfl,(h4 k _ 3 _ a1 rfl).sc_eq]
  | 4,_=>cases hy;rw [get _ rfl,(h4 k _ 4 _ a1 rfl).sc_eq]
  | 5,_=>cases hy;rw [get _ rfl,(hmq k m hm x hk).1]
 refine ⟨A,cap,by rw [List.length_map],⟨ms,hml,fun hp=>⟨ad,h2 ?_,?_,fun k r hr j y hy=>?_⟩,fun k e m he hm=>(hmq k m hm e he).2⟩,by simpa using h5⟩
 ·simp [hml] at hp ⊢;omega
 ·have hp:0 < l.length:=by simp [hml] at hp;omega
  have:=cell_block (hcell 0 (l[0]'hp) (ms[0]'(by omega)) (List.getElem?_eq_getElem hp) (List.getElem?_eq_getElem (by omega)) 0 _ rfl)
  rwa [block_of_add] at this
 ·rw [List.getElem?_zipWith] at hr
  cases hk:l[k]? with
  | none=>simp [hk] at hr
  | some x =>
   cases hm:ms[k]? with
   | none=>simp [hk,hm] at hr
   | some m =>
    simp [hk,hm] at hr
    subst hr
    exact hcell k x m hk hm j y hy
theorem ins_of_rp {F:View} {w:World} {cs:List (Int×Int×Bool)} {st:List Int} {v1 v2:Value} (hF:∀ p u,F p=some u→w.cell? p=some u) (r1:RP F (.ls 3 (cs.map eCrs)) v1) (r2:RP F (.ls 1 (st.map eInt)) v2) :
  ∃ A1 c1 A2 c2,v1=.slice A1 cs.length c1∧v2=.slice A2 st.length c2∧InsAt w w.heap.size A1 A2 cs st:=by
 obtain ⟨A1,c1,e1,h1,_⟩:=rd_of_rp (n:=3) (f:=crsCells) hF (by omega) (fun _=>rfl) (fun x j u h=>by
  match j with
  | 0=>cases h;rfl
  | 1=>cases h;rfl
  | 2=>cases h;rfl
  | j+3=>simp [crsCells] at h) r1
 obtain ⟨A2,c2,e2,h2,_⟩:=rd_of_rp (n:=1) (f:=intCell) hF (by omega) (fun _=>rfl) (fun x j u h=>by
  match j with
  | 0=>cases h;rfl
  | j+1=>simp [intCell] at h) r2
 exact ⟨A1,c1,A2,c2,e1,e2,h1,h2⟩
theorem pc_of_rp {F:View} {w:World} {p:Pce} {v:Value} (hF:∀ p u,F p=some u→w.cell? p=some u) (r:RP F (ePce p) v):∃ M,v=pcValue M p∧PcAt w w.heap.size M p:=by
 obtain ⟨cs,rfl,h1,h2⟩:∃ cs:Array Value,v=.agg cs∧cs.size=3∧∀ (i:Nat) av u,[AV.ls 3 (p.cs.map eCrs),.ls 1 (p.st.map eInt),.ls 6 (p.evs.map eEv)][i]?=some av→cs[i]?=some u→RP F av u:=by
  cases r with|ag l cs a b=>exact ⟨cs,rfl,a,b⟩
 have g:∀ i (h:i<3),cs[i]?=some (cs[i]'(by omega)):=fun i h=>Array.getElem?_eq_getElem (by omega)
 obtain ⟨A1,c1,A2,c2,e1,e2,hI⟩:=ins_of_rp hF (h2 0 _ _ rfl (g 0 (by omega))) (h2 1 _ _ rfl (g 1 (by omega)))
 obtain ⟨A3,c3,e3,hE,hc⟩:=evs_of_rp hF (h2 2 _ _ rfl (g 2 (by omega)))
 refine ⟨⟨A1,A2,A3,c1,c2,c3⟩,?_,hI,hE,hc⟩
 unfold pcValue
 congr 1
 apply Array.ext (by simp [h1])
 intro i hi hi2
 match i,(show i<3 by omega) with
 | 0,_=>exact e1
 | 1,_=>exact e2
 | 2,_=>exact e3
theorem Ctr.of_sc {P:Program} {f:FuncId} {args:List AV} {xs:List Value} {res:AV} {v:Value} (hs:scs args=some xs) (hv:∀ F,RP F res v) (h:∀ w,Calls P f xs.toArray w (Ret v w)):Ctr P f args res:=by
 intro w F vs hF hR
 have:vs=xs:=scs_of (G:=⟨F,fun _=>0,fun _=>0,fun _=>undef,fun _ _=>False⟩) hs hR.1 fun i av u a b=>.pu _ _ (hR.2 i av u a b)
 subst this
 exact (h w).mono fun e w' ⟨he,hb⟩=>⟨v,F,he,hb,fun _ _ h=>h,fun p u x=>by rw [hb.cell (cell_block (hF p u x))];exact hF p u x,fun _ _ h=>.inl h,hv F⟩
theorem Ctr.of_pc {P:Program} {f:FuncId} {p:Pce} {pre post:List AV} {xs ys:List Value} {res:AV} {v:Value} (hs:scs pre=some xs) (hs2:scs post=some ys) (hv:∀ F,RP F res v)
  (h:∀ w M,PcAt w w.heap.size M p→Calls P f (xs++pcValue M p::ys).toArray w (Ret v w)):Ctr P f (pre++ePce p::post) res:=by
 intro w F vs hF hR
 have hG:∀ i av u,(pre++ePce p::post)[i]?=some av→vs[i]?=some u→R ⟨F,fun _=>0,fun _=>0,fun _=>undef,fun _ _=>False⟩ av u:=fun i av u a b=>.pu _ _ (hR.2 i av u a b)
 have hlen:vs.length=pre.length+(post.length+1):=by rw [hR.1];simp
 have e1:vs.take pre.length=xs:=scs_of hs (by simp;omega) fun i av u a b=>by
  have hi:i<pre.length:=(List.getElem?_eq_some_iff.1 a).1
  rw [List.getElem?_take_of_lt hi] at b
  exact hG i av u (by rw [List.getElem?_append_left hi];exact a) b
 have e2:vs.drop (pre.length+1)=ys:=scs_of hs2 (by simp;omega) fun i av u a b=>by
  rw [List.getElem?_drop] at b
  exact hG (pre.length+1+i) av u (by rw [List.getElem?_append_right (by omega),show pre.length+1+i-pre.length=i+1 by omega];exact a) b
 have hp:vs[pre.length]?=some (vs[pre.length]'(by omega)):=List.getElem?_eq_getElem (by omega)
 obtain ⟨M,eM,hM⟩:=pc_of_rp hF (hR.2 pre.length _ _ (by rw [List.getElem?_append_right (Nat.le_refl _),Nat.sub_self];rfl) hp)
 have ev:vs=xs++pcValue M p::ys:=by
  rw [← e1,← e2,← eM]
  conv=>lhs;rw [← List.take_append_drop pre.length vs]
  congr 1
  rw [List.drop_eq_getElem_cons (by omega)]
 rw [ev]
 exact (h w M hM).mono fun e w' ⟨he,hb⟩=>⟨v,F,he,hb,fun _ _ h=>h,fun p u x=>by rw [hb.cell (cell_block (hF p u x))];exact hF p u x,fun _ _ h=>.inl h,hv F⟩
end Go.Proofs.YtgelfflighgajaaGreatDoor
namespace Go.Proofs.YtgelfflighgajaaGreatDoor
open Go.RowKit
theorem flat_rep (z:Value):∀ k:Nat,(List.replicate k [z]).flatten=List.replicate k z
 | 0=>rfl
 | k+1=>by rw [List.replicate_succ,List.replicate_succ,List.flatten_cons,flat_rep z k];rfl
section
variable {P:Program} {C:Cx} {σ:St} {o:Oper} {d:Tmp}
theorem WO.make1 {T e q k:Nat} {z:Value} {i:TypeInfo} {x y:Operand} (ho:o.op=.makeSlice T x y) (hT:P.underlying T=some (.slice e)) (hi:P.info? e=some i) (hz:i.zero=some z) (hn:i.size=1) (hby:Nat.ble i.bytes 1000=true)
  (hc:∀ k,(madeCells z.cells (k*1)).toList=List.replicate k z) (hz1:z.oneCell'=true) (hds:o.dst=some d) (hd:Nat.blt d C.N=true) (hx:σ.ev x=some (.sc (.int .i64 (k:Nat)))) (hy:σ.ev y=some (.sc (.int .i64 (k:Nat)))) (hk:k≤1000000) (hq:σ.nk=q) :
  WO P C o σ ((σ.new (.row e 1 (List.replicate k [.sc z]))).put d (.sl q)):=by
 intro G a w ok N Q' hN
 have hb:=Nat.le_of_ble_eq_true hby
 have hbk:i.bytes*k≤281474976710656:=Nat.le_trans (Nat.mul_le_mul hb hk) (by decide)
 obtain ⟨w',hrun,hown,hgr⟩:=run_makeSlice_full (P:=P) w C.w0.heap.size T e i z 1 hT hi hz hn .i64 .i64 k (by omega) hbk (by unfold maxLen;omega) ok.bel.size
 have hl:(List.replicate k [z]).length=k:=by simp
 have hsl:(.slice (some ⟨w.heap.size,0,none⟩) k k:Value).ownBlock=some w.heap.size:=rfl
 have hlt:w.heap.size<w'.heap.size:=by
  rcases hown.2 with⟨e,_⟩|⟨g,cap,cur,e,_,hh,_⟩
  ·cases e
  ·obtain rfl:w.heap.size=g:=by injection e with e _ _;injection e with e;injection e
   exact (Array.getElem?_eq_some_iff.1 hh).1
 have ok':=ok.newObj (w':=w') (S:=fun _=>False) (b:=w.heap.size) (n:=1) (h:=.slice (some ⟨w.heap.size,0,none⟩) k k) (φ:=fun x=>x=w.heap.size) (ob:=.row e 1 (List.replicate k [.sc z]))
  ⟨hgr.os,hgr.tape,hgr.output,hgr.size,fun x h1 _=>hgr.block x h1 (by simp)⟩ (fun _ h=>h.elim) (fun _ _ _ _ _ h=>h) (fun _ _ _ h=>h)
  ⟨with_n,(fun g hg=>by rw [with_h,hsl] at hg;rw [with_b];exact (Option.some.inj hg).symm),by
   rw [with_h,with_f]
   refine ⟨fun r hr=>by rw [List.eq_of_mem_replicate hr];rfl,List.replicate k [z],fun _ _ _=>False,by rw [hl,flat_rep,← hc k];exact own_weaken hown (Nat.zero_le _),by simp,?_,fun g hg=>by rw [hsl] at hg;exact (Option.some.inj hg).symm,
    fun _ _ _ h=>h.elim,fun _ _ _ _ _ h=>h.elim,fun j r r' h1 h2=>?_,fun j r r' q av u h1 h2 h3 h4=>?_⟩
   ·intro r hr u hu
    rw [List.eq_of_mem_replicate hr] at hu
    obtain rfl:u=z:=by simpa using hu
    exact hz1
   ·rw [List.eq_of_mem_replicate (List.mem_of_getElem? h1),List.eq_of_mem_replicate (List.mem_of_getElem? h2)];rfl
   ·rw [List.eq_of_mem_replicate (List.mem_of_getElem? h1)] at h3
    rw [List.eq_of_mem_replicate (List.mem_of_getElem? h2)] at h4
    match q with
    | 0=>cases h3;cases h4;exact .sc _
    | q+1=>simp at h3⟩ trivial (fun x hx=>by
   obtain rfl:x=w.heap.size:=hx
   refine ⟨.inl ok.bel.size,hlt,fun k o h1 h2=>?_,fun p u h1 h2=>?_⟩
   ·have:=(ok.my k o _ h1 h2).2;omega
   ·have:=cell_block (ok.fw p u h1);omega)
 unfold Oper.wp execOp
 simp only [ho,ok.evs hx,ok.evs hy,Sem.run_bind,hrun,Result.andThen_ok,Sem.run_pure,Oper.upon]
 rw [hds]
 subst hq
 exact hN _ _ _ (ok'.set (d:=some d) (av:=.sl σ.nk) (v:=.slice (some ⟨w.heap.size,0,none⟩) k k) (with_sl rfl) (.sl _ (Nat.lt_succ_self _)) fun x hx=>by cases hx;exact of_blt hd)
end
end Go.Proofs.YtgelfflighgajaaGreatDoor
namespace Go.Proofs.YtgelfflighgajaaGreatDoor
open Go.RowKit
def remS {α:Type} (k:Nat):List (Nat×α)→Option (List (Nat×α))
 | []=>some []
 | x::r =>
  match remS k r with
  | some r'=>bif Nat.beq k x.1 then some r' else some (x::r')
  | none=>none
theorem remS_eq {α:Type} {k:Nat}:∀ {l l':List (Nat×α)},remS k l=some l'→l'=rem k l
 | [],l',h=>by cases h;rfl
 | x::r,l',h=>by
  unfold remS at h
  split at h
  ·rename_i r' h2
   have:=remS_eq h2
   subst this
   unfold rem
   cases hb:Nat.beq k x.1 with
   | true=>rw [hb] at h;cases h;rfl
   | false=>rw [hb] at h;cases h;rfl
  ·cases h
def boolB (P:Program) (T:TypeId):Bool :=
 match P.underlying T with
 | some .bool=>true
 | _=>false
theorem boolB_of {P:Program} {T:TypeId} (h:boolB P T=true):P.underlying T=some .bool:=by
 unfold boolB at h
 split at h
 ·assumption
 ·cases h
def cmpI (op:BinOp) (m n:Int):Option Value :=
 match op with
 | .lss=>some (.bool (decide (m<n)))
 | .leq=>some (.bool (decide (m≤n)))
 | .gtr=>some (.bool (decide (n<m)))
 | .geq=>some (.bool (decide (n≤m)))
 | .eql=>some (.bool (decide (m=n)))
 | .neq=>some (.bool (!decide (m=n)))
 | _=>none
def cmpB (op:BinOp) (b c:Bool):Option Value :=
 match op with
 | .eql=>some (.bool (b == c))
 | .neq=>some (.bool (!(b == c)))
 | _=>none
def cmpS (op:BinOp) (s t:List UInt8):Option Value :=
 match op with
 | .eql=>some (.bool (s == t))
 | .neq=>some (.bool (!(s == t)))
 | _=>none
def cmpV (P:Program) (op:BinOp) (T:TypeId):Value→Value→Option Value
 | .string ⟨⟨s⟩⟩,.string ⟨⟨t⟩⟩=>cmpS op s t
 | .int j m,.int k n =>
  match decEq j k with
  | isTrue _=>cmpI op m n
  | isFalse _=>none
 | .bool b,.bool c=>bif boolB P T then cmpB op b c else none
 | _,_=>none
def pickV:AV→AV→AV→Option AV
 | .sc (.bool b),.sc u,.sc v=>some (.sc (bif b then u else v))
 | .sc (.bool true),x,_=>some x
 | .sc (.bool false),_,y=>some y
 | _,_,_=>none
def takeE:Nat→List AV→Option (List AV)
 | 0,_=>some []
 | n+1,x::r =>
  match takeE n r with
  | some l=>some (x::l)
  | none=>none
 | _+1,[]=>none
theorem takeE_of:∀ {n:Nat} {l l':List AV},takeE n l=some l'→l.take n=l'∧l'.length=n
 | 0,l,l',h=>by cases h;simp
 | n+1,[],l',h=>by cases h
 | n+1,x::r,l',h=>by
  unfold takeE at h
  split at h
  ·rename_i l2 h2
   cases h
   obtain ⟨a,b⟩:=takeE_of h2
   simp [a,b]
  ·cases h
def takeV (P:Program) (T:TypeId) (l:List AV):Option AV :=
 match aggB P T with
 | some false =>
  match l with
  | av::_=>some av
  | []=>none
 | some true =>
  match sizeB P T with
  | some n =>
   match takeE n l with
   | some l'=>some (.ag l')
   | none=>none
  | none=>none
 | none=>none
def ownB:AV→Bool
 | .ow _ _ _=>true
 | .ag l=>l.any AV.own
 | _=>false
def takeO (P:Program) (T:TypeId) (l:List AV):Option AV :=
 match takeV P T l with
 | some av =>
  match ownB av with
  | false=>some av
  | true=>none
 | none=>none
theorem takeO_of {P:Program} {T:TypeId} {l:List AV} {av:AV} (h:takeO P T l=some av):takeV P T l=some av∧ownB av=false:=by
 unfold takeO at h
 split at h
 ·rename_i h1
  split at h
  ·rename_i h2;cases h;exact ⟨h1,h2⟩
  ·cases h
 ·cases h
theorem ownB_own {av:AV} (h:ownB av=false):av.own=false:=by cases av<;>first|rfl|cases h
theorem ownB_all {l:List AV} (h:ownB (.ag l)=false):(l.all fun av=>!av.own)=true:=by
 rw [List.all_eq_true]
 intro x hx
 have h:l.any AV.own=false:=h
 rw [List.any_eq_false] at h
 simpa using h x hx
def loadV (P:Program) (σ:St) (T:TypeId):AV→Option AV
 | .pt k i j =>
  match look k σ.M with
  | some ob =>
   match ob.from_ i j with
   | some l=>takeO P T l
   | none=>none
  | none=>none
 | .pr cells=>takeV P T cells
 | _=>none
def nthL {α:Type}:List α→Nat→Option α
 | [],_=>none
 | x::_,0=>some x
 | _::r,n+1=>nthL r n
theorem nthL_eq {α:Type}:∀ (l:List α) (n:Nat),nthL l n=l[n]?
 | [],n=>by simp [nthL]
 | x::r,0=>by simp [nthL]
 | x::r,n+1=>by simp [nthL,nthL_eq r n]
def dropE {α:Type}:Nat→List α→List α
 | 0,l=>l
 | _+1,[]=>[]
 | n+1,_::r=>dropE n r
theorem dropE_eq {α:Type}:∀ (n:Nat) (l:List α),dropE n l=l.drop n
 | 0,l=>by simp [dropE]
 | n+1,[]=>by simp [dropE]
 | n+1,x::r=>by simp [dropE,dropE_eq n r]
def fldE (P:Program) (T i:Nat):Option Nat :=
 match P.underlying T with
 | some (.struct fs) =>
  match nthL fs.toList i with
  | some f=>bif Nat.beq (P.cellsOf f.type) 0 then none else some f.offset
  | none=>none
 | _=>none
theorem fldE_of {P:Program} {T i off:Nat} (h:fldE P T i=some off):fldB P T i=some off:=by
 unfold fldE at h
 unfold fldB
 split at h
 ·rename_i fs hu
  rw [nthL_eq] at h
  rw [show fs.toList[i]?=fs[i]? by simp] at h
  split at h
  ·rename_i f hf
   try rw [hu]
   try simp only [hf]
   cases hb:Nat.beq (P.cellsOf f.type) 0 with
   | true=>rw [hb] at h;cases h
   | false =>
    rw [hb] at h
    rw [if_neg (fun e=>by rw [e] at hb;cases hb)]
    exact h
  ·cases h
 ·cases h
def fldV (P:Program) (T i:Nat):AV→Option AV
 | .pt k r j =>
  match fldE P T i with
  | some off=>some (.pt k r (j+off))
  | none=>none
 | .pr cells =>
  match fldE P T i with
  | some off=>some (.pr (dropE off cells))
  | none=>none
 | _=>none
def stepV (P:Program) (σ:St):Op→Option AV
 | .move x=>σ.ev x
 | .assign x=>σ.ev x
 | .pick c x y =>
  match σ.ev c,σ.ev x,σ.ev y with
  | some ac,some ax,some ay=>pickV ac ax ay
  | _,_,_=>none
 | .binOp op T x y _ =>
  match σ.ev x,σ.ev y with
  | some (.sc u),some (.sc v) =>
   match cmpV P op T u v with
   | some r=>some (.sc r)
   | none=>none
  | _,_=>none
 | .unOp .not _ x =>
  match σ.ev x with
  | some (.sc (.bool b))=>some (.sc (.bool (!b)))
  | _=>none
 | .extract x i =>
  match σ.ev x with
  | some (.tu l)=>l[i]?
  | _=>none
 | .fieldAddr T x i =>
  match σ.ev x with
  | some av=>fldV P T i av
  | none=>none
 | .load T x =>
  match σ.ev x with
  | some av=>loadV P σ T av
  | none=>none
 | .build T parts =>
  match (P.info? T).bind (·.zero),placesB P T,σ.evs (parts.toList.map (·.2)) with
  | some z,some places,some avs =>
   match fillA places (z.cells.toList.map .sc) (pairUp parts.toList avs) with
   | some l=>some (.ag l)
   | none=>none
  | _,_,_=>none
 | _=>none
section
variable {P:Program} {C:Cx} {σ σ':St} {o:Oper} {d:Tmp} {av:AV}
theorem cmpV_of {op:BinOp} {T Ty:TypeId} {x y:Operand} {u v r:Value} (ho:o.op=.binOp op T x y Ty) (hx:σ.ev x=some (.sc u)) (hy:σ.ev y=some (.sc v)) (h:cmpV P op T u v=some r):WV P C o σ (.sc r):=by
 unfold cmpV at h
 split at h
 ·rename_i s t
  unfold cmpS at h
  split at h<;>first|cases h|skip
  ·exact WV.seq_ (s:=s) (t:=t) ho hx hy
  ·exact WV.sne (s:=s) (t:=t) ho hx hy
 ·split at h
  ·rename_i e _
   subst e
   unfold cmpI at h
   split at h<;>first|cases h|skip
   ·exact WV.lss ho hx hy
   ·exact WV.leq ho hx hy
   ·exact WV.gtr ho hx hy
   ·exact WV.geq ho hx hy
   ·exact WV.eql ho hx hy
   ·exact WV.neq ho hx hy
  ·cases h
 ·rename_i b c
  cases hb:boolB P T with
  | false=>rw [hb] at h;cases h
  | true =>
   rw [hb] at h
   simp only [cond_true] at h
   unfold cmpB at h
   split at h<;>first|cases h|skip
   ·exact WV.beq ho (boolB_of hb) hx hy
   ·exact WV.bne ho (boolB_of hb) hx hy
 ·cases h
theorem pickV_of {c x y:Operand} {ac ax ay:AV} (ho:o.op=.pick c x y) (hc:σ.ev c=some ac) (hx:σ.ev x=some ax) (hy:σ.ev y=some ay) (h:pickV ac ax ay=some av):WV P C o σ av:=by
 unfold pickV at h
 split at h
 ·rename_i b u v
  cases h
  have:=WV.pickS (P:=P) (C:=C) ho hc hx hy
  cases b<;>exact this
 ·cases h;exact WV.pickT ho hc hx
 ·cases h;exact WV.pickF ho hc hy
 ·cases h
theorem loadV_of {T:TypeId} {x:Operand} {a:AV} (ho:o.op=.load T x) (hx:σ.ev x=some a) (h:loadV P σ T a=some av):WV P C o σ av:=by
 unfold loadV at h
 split at h
 ·rename_i k i j
  split at h
  ·rename_i ob hk
   split at h
   ·rename_i l hf
    obtain ⟨h,hob⟩:=takeO_of h
    unfold takeV at h
    split at h
    ·rename_i hT
     split at h
     ·rename_i a r
      cases h
      exact WV.load1 ho hT hx hk hf rfl (ownB_own hob)
     ·cases h
    ·rename_i hT
     split at h
     ·rename_i n hn
      split at h
      ·rename_i l' hl
       cases h
       obtain ⟨e1,e2⟩:=takeE_of hl
       exact WV.loadN ho hT hn hx hk hf e1 e2 (ownB_all hob)
      ·cases h
     ·cases h
    ·cases h
   ·cases h
  ·cases h
 ·rename_i cells
  unfold takeV at h
  split at h
  ·rename_i hT
   split at h
   ·rename_i a r
    cases h
    exact WV.load1R ho hT hx rfl
   ·cases h
  ·rename_i hT
   split at h
   ·rename_i n hn
    split at h
    ·rename_i l' hl
     cases h
     obtain ⟨e1,e2⟩:=takeE_of hl
     exact WV.loadNR ho hT hn hx e1 e2
    ·cases h
   ·cases h
  ·cases h
 ·cases h
theorem fldV_of {T:TypeId} {i:Nat} {x:Operand} {a:AV} (ho:o.op=.fieldAddr T x i) (hx:σ.ev x=some a) (h:fldV P T i a=some av):WV P C o σ av:=by
 unfold fldV at h
 split at h
 ·split at h
  ·rename_i off hf;cases h;exact WV.fieldP ho (fldE_of hf) hx
  ·cases h
 ·split at h
  ·rename_i off hf;cases h;rw [dropE_eq];exact WV.fieldR ho (fldE_of hf) hx
  ·cases h
 ·cases h
theorem stepV_of {op:Op} (ho:o.op=op) (h:stepV P σ op=some av):WV P C o σ av:=by
 unfold stepV at h
 split at h
 ·exact WV.move ho h
 ·exact WV.assign ho h
 ·split at h
  ·rename_i h1 h2 h3;exact pickV_of ho h1 h2 h3 h
  ·cases h
 ·split at h
  ·rename_i h1 h2
   split at h
   ·rename_i r hr;cases h;exact cmpV_of ho h1 h2 hr
   ·cases h
  ·cases h
 ·split at h
  ·rename_i b h1;cases h;exact WV.not ho h1
  ·cases h
 ·split at h
  ·rename_i l h1;exact WV.extract ho h1 h
  ·cases h
 ·split at h
  ·rename_i a h1;exact fldV_of ho h1 h
  ·cases h
 ·split at h
  ·rename_i a h1;exact loadV_of ho h1 h
  ·cases h
 ·split at h
  ·rename_i h1 h2 h3
   split at h
   ·rename_i l hl;cases h;exact WV.build ho h1 h2 h3 hl
   ·cases h
  ·cases h
 ·cases h
end
def storeE (P:Program) (M:List (Nat×AO)) (T:TypeId):AV→AV→Option (Nat×AO)
 | .pt k i j,av =>
  match sizeB P T,look k M with
  | some m,some ob =>
   bif av.cellB && Nat.beq av.cells.length m && av.cells.all AV.oneB then
    match ob.put i j av.cells with
    | some ob'=>some (k,ob')
    | none=>none
   else none
  | _,_=>none
 | _,_=>none
def buildE (P:Program) (σ:St) (T:TypeId) (m:Nat) (parts:List (Nat×Operand)):Option AO :=
 match P.underlying T with
 | some (.slice e) =>
  match sizeB P e,(P.info? e).bind (·.zero),σ.evs (parts.map (·.2)) with
  | some n,some _,some avs =>
   bif numB 0 parts && Nat.beq parts.length m && Nat.ble (m*n) 16777216 && Nat.ble m 16777216 && rowsB n avs then some (.row e n (avs.map AV.cells)) else none
  | _,_,_=>none
 | _=>none
theorem wo_rem {P:Program} {C:Cx} {σ:St} {o:Oper} {t:List (Nat×AV)} {M:List (Nat×AO)} {nk k:Nat} {ob:AO} (h:WO P C o σ ⟨t,(k,ob)::M,nk⟩):WO P C o σ ⟨t,(k,ob)::rem k M,nk⟩:=fun G a w ok N Q' hN =>
 h G a w ok N Q' fun G' a' w' ok'=>hN G' a' w' (by
  have hl:∀ i,look i ((k,ob)::rem k M)=look i ((k,ob)::M):=fun i=>by
   by_cases e:i=k
   ·subst e;rw [look_set_same,look_set_same]
   ·rw [look_set_other e,look_set_other e,look_rem,if_neg e]
  exact ⟨ok'.sz,ok'.df,ok'.tm,ok'.bel,ok'.fw,ok'.f0,ok'.f1,fun i x hx=>ok'.ob i x (by rw [← hl];exact hx),fun i x y hx=>ok'.my i x y (by rw [← hl];exact hx),fun i x i' x' y hx hx'=>ok'.dj i x i' x' y (by rw [← hl];exact hx) (by rw [← hl];exact hx'),fun i x y p u hx=>ok'.dF i x y p u (by rw [← hl];exact hx)⟩)
def opE (P:Program) (N:Nat) (t:List (Nat×AV)) (M:List (Nat×AO)) (nk:Nat) (o:Oper):Option (List (Nat×AV)×List (Nat×AO)×Nat) :=
 match o.guard with
 | some _=>none
 | none =>
  match o.dst with
  | none =>
   match o.op with
   | .store T x y =>
    match (⟨t,M,nk⟩:St).ev x,(⟨t,M,nk⟩:St).ev y with
    | some ax,some ay =>
     match storeE P M T ax ay with
     | some (k,ob) =>
      match remS k M with
      | some M'=>some (t,(k,ob)::M',nk)
      | none=>none
     | none=>none
    | _,_=>none
   | _=>none
  | some d =>
   bif Nat.blt d N then
    match o.op with
    | .box T x =>
     match (⟨t,M,nk⟩:St).ev x with
     | some av=>bif av.cellB then some ((d,.pt nk 0 0)::t,(nk,.box T av.cells)::M,nk+1) else none
     | none=>none
    | .alloc T =>
     match (P.info? T).bind (·.zero) with
     | some z=>some ((d,.pt nk 0 0)::t,(nk,.box T (z.cells.toList.map .sc))::M,nk+1)
     | none=>none
    | .buildSlice T m parts =>
     match buildE P ⟨t,M,nk⟩ T m parts.toList with
     | some ob=>some ((d,.sl nk)::t,(nk,ob)::M,nk+1)
     | none=>none
    | op =>
     match stepV P ⟨t,M,nk⟩ op with
     | some av=>some ((d,av)::t,M,nk)
     | none=>none
   else none
theorem opE_of {P:Program} {C:Cx} {t t':List (Nat×AV)} {M M':List (Nat×AO)} {nk nk':Nat} {o:Oper} (h:opE P C.N t M nk o=some (t',M',nk')):o.guard=none∧WO P C o ⟨t,M,nk⟩ ⟨t',M',nk'⟩:=by
 unfold opE at h
 split at h
 ·cases h
 ·rename_i hg
  refine ⟨hg,?_⟩
  split at h
  ·rename_i hds
   split at h
   ·rename_i T x y ho
    split at h
    ·rename_i ax ay hx hy
     split at h
     ·rename_i k ob hst
      split at h
      case h_2=>cases h
      rename_i M1 hM1
      cases h
      rw [remS_eq hM1]
      unfold storeE at hst
      split at hst
      ·rename_i k i j
       split at hst
       ·rename_i m ob0 hm hk
        cases hb:ay.cellB && Nat.beq ay.cells.length m && ay.cells.all AV.oneB with
        | false=>rw [hb] at hst;cases hst
        | true =>
         rw [hb] at hst
         simp only [cond_true] at hst
         simp only [Bool.and_eq_true] at hb
         split at hst
         ·rename_i ob' hp
          cases hst
          exact wo_rem (WO.store (σ:=⟨t,M,nk⟩) ho hds hm hx hk hy hb.1.1 rfl (Nat.eq_of_beq_eq_true hb.1.2) hb.2 hp)
         ·cases hst
       ·cases hst
      ·cases hst
     ·cases h
    ·cases h
   ·cases h
  ·rename_i d hds
   cases hd:Nat.blt d C.N with
   | false=>rw [hd] at h;cases h
   | true =>
    rw [hd] at h
    simp only [cond_true] at h
    split at h
    ·rename_i T x ho
     split at h
     ·rename_i av hx
      cases hB:av.cellB with
      | false=>rw [hB] at h;cases h
      | true =>
       rw [hB] at h
       cases h
       exact WO.box (σ:=⟨t,M,nk⟩) ho hds hd hx hB rfl rfl
     ·cases h
    ·rename_i T ho
     split at h
     ·rename_i z hz
      cases h
      exact WO.alloc (σ:=⟨t,M,nk⟩) ho hz hds hd rfl rfl
     ·cases h
    ·rename_i T m parts ho
     split at h
     ·rename_i ob hob
      cases h
      unfold buildE at hob
      split at hob
      ·rename_i e hT
       split at hob
       ·rename_i n z avs hn hz hx
        cases hb:numB 0 parts.toList && Nat.beq parts.toList.length m && Nat.ble (m*n) 16777216 && Nat.ble m 16777216 && rowsB n avs with
        | false=>rw [hb] at hob;cases hob
        | true =>
         rw [hb] at hob
         simp only [Bool.and_eq_true] at hb
         cases hob
         exact WO.build (σ:=⟨t,M,nk⟩) ho hT hn hz hb.1.1.1.1 (Nat.eq_of_beq_eq_true hb.1.1.1.2) hb.1.1.2 hb.1.2 hds hd hx hb.2 rfl rfl
       ·cases hob
      ·cases hob
     ·cases h
    ·split at h
     ·rename_i av hv
      cases h
      exact WO.of_wv (σ:=⟨t,M,nk⟩) hds hd (stepV_of rfl hv)
     ·cases h
def goL (P:Program) (C:Cx) (ops:Array Oper) (Q:Exit→St→Prop):List Oper→List (Nat×AV)→List (Nat×AO)→Nat→Prop
 | [],t,M,nk=>Q .normal ⟨t,M,nk⟩
 | o::r,t,M,nk =>
  match opE P C.N t M nk o with
  | some (t',M',nk')=>goL P C ops Q r t' M' nk'
  | none=>WL P C ops (o::r) ⟨t,M,nk⟩ Q
theorem goL_of {P:Program} {C:Cx} {ops:Array Oper} {Q:Exit→St→Prop}:∀ {l:List Oper} {t:List (Nat×AV)} {M:List (Nat×AO)} {nk:Nat},goL P C ops Q l t M nk→WL P C ops l ⟨t,M,nk⟩ Q
 | [],t,M,nk,h=>WL.nil h
 | o::r,t,M,nk,h=>by
  unfold goL at h
  split at h
  ·rename_i t' M' nk' hs
   obtain ⟨h1,h2⟩:=opE_of hs
   exact WL.op h1 h2 (goL_of h)
  ·exact h
def goC (P:Program) (C:Cx):Code→St→(Exit→St→Prop)→Prop
 | .skip,σ,Q=>Q .normal σ
 | .exit id,σ,Q=>Q (.exit id) σ
 | .seq x y,σ,Q=>goC P C x σ (QThen (fun s=>W P C y s Q) Q)
 | .block id c,σ,Q=>goC P C c σ (QBlock id Q)
 | .region id ops false,⟨t,M,nk⟩,Q=>goL P C ops Q ops.toList t M nk
 | c,σ,Q=>W P C c σ Q
theorem goC_of {P:Program} {C:Cx}:∀ {c:Code} {σ:St} {Q:Exit→St→Prop},goC P C c σ Q→W P C c σ Q
 | .skip,σ,Q,h=>W.skip h
 | .exit id,σ,Q,h=>W.exit h
 | .ret,σ,Q,h=>h
 | .seq x y,σ,Q,h=>W.seq (goC_of (c:=x) h)
 | .block id c,σ,Q,h=>W.block (goC_of (c:=c) h)
 | .region id ops false,⟨t,M,nk⟩,Q,h=>fun G a w ok=>wp_region_list (goL_of (P:=P) (C:=C) (show goL P C ops Q ops.toList t M nk from h) G a w ok)
 | .region id ops true,σ,Q,h=>h
 | .cond c x y,σ,Q,h=>h
 | .loop c,σ,Q,h=>h
 | .rangeFunc f p a b,σ,Q,h=>h
 | .scope b,σ,Q,h=>h
 | .label l,σ,Q,h=>h
 | .goto l,σ,Q,h=>h
 | .refuse w,σ,Q,h=>h
def goB:Code→Bool
 | .skip=>true
 | .exit _=>true
 | .seq _ _=>true
 | .block _ _=>true
 | .region _ _ false=>true
 | _=>false
theorem W.go {P:Program} {C:Cx} {c:Code} {σ:St} {Q:Exit→St→Prop} (hc:goB c=true) (h:goC P C c σ Q):W P C c σ Q:=goC_of h
def goD (P:Program) (C:Cx):Code→St→(Exit→St→Prop)→Prop
 | .skip,σ,Q=>Q .normal σ
 | .exit id,σ,Q=>Q (.exit id) σ
 | .seq x y,σ,Q=>goD P C x σ (QThen (fun s=>W P C y s Q) Q)
 | .block id c,σ,Q=>goD P C c σ (QBlock id Q)
 | .region id ops false,⟨t,M,nk⟩,Q=>WL P C ops ops.toList ⟨t,M,nk⟩ Q
 | c,σ,Q=>W P C c σ Q
theorem goD_of {P:Program} {C:Cx}:∀ {c:Code} {σ:St} {Q:Exit→St→Prop},goD P C c σ Q→W P C c σ Q
 | .skip,σ,Q,h=>W.skip h
 | .exit id,σ,Q,h=>W.exit h
 | .ret,σ,Q,h=>h
 | .seq x y,σ,Q,h=>W.seq (goD_of (c:=x) h)
 | .block id c,σ,Q,h=>W.block (goD_of (c:=c) h)
 | .region id ops false,⟨t,M,nk⟩,Q,h=>fun G a w ok=>wp_region_list ((show WL P C ops ops.toList ⟨t,M,nk⟩ Q from h) G a w ok)
 | .region id ops true,σ,Q,h=>h
 | .cond c x y,σ,Q,h=>h
 | .loop c,σ,Q,h=>h
 | .rangeFunc f p a b,σ,Q,h=>h
 | .scope b,σ,Q,h=>h
 | .label l,σ,Q,h=>h
 | .goto l,σ,Q,h=>h
 | .refuse w,σ,Q,h=>h
theorem W.gob {P:Program} {C:Cx} {c:Code} {σ:St} {Q:Exit→St→Prop} (hc:goB c=true) (h:goD P C c σ Q):W P C c σ Q:=goD_of h
theorem WL.gyes {P:Program} {C:Cx} {ops:Array Oper} {o oj:Oper} {rest:List Oper} {σ:St} {Q:Exit→St→Prop} {j:Nat} {b:Bool} {d:Tmp} (hg:o.guard=some (j,b)) (hj:ops[j]?=some oj) (hd:oj.dst=some d) (hv:look d σ.t=some (.sc (.bool b)))
  (k:WL P C ops ({ o with guard:=none }::rest) σ Q):WL P C ops (o::rest) σ Q:=fun G a w ok=>by
 have h:=k G a w ok
 have hy:=yielded_of (ops:=ops) ok hj hd hv
 unfold wpList at h ⊢
 rw [if_pos (by simp [Region.wanted])] at h
 rw [if_pos (by simp [Region.wanted,hg,hy,vb])]
 exact h
def sideI (op:BinOp) (m n:Int):Option (Prop×Int) :=
 match op with
 | .add=>some (I64 (m+n),m+n)
 | .sub=>some (I64 (m-n),m-n)
 | .mul=>some (I64 (m*n),m*n)
 | _=>none
def sideV (σ:St):Op→Option (Prop×Int)
 | .binOp op _ x y _ =>
  match σ.ev x,σ.ev y with
  | some (.sc (.int .i64 m)),some (.sc (.int .i64 n))=>sideI op m n
  | _,_=>none
 | _=>none
def catV (σ:St):Op→Option (List UInt8×List UInt8)
 | .binOp .add _ x y _ =>
  match σ.ev x,σ.ev y with
  | some (.sc (.string ⟨⟨s⟩⟩)),some (.sc (.string ⟨⟨t⟩⟩))=>some (s,t)
  | _,_=>none
 | _=>none
def lenA (P:Program) (σ:St) (T:TypeId):AV→Option Nat
 | .sc (.string ⟨⟨s⟩⟩) =>
  match P.underlying T with
  | some .string=>some s.length
  | _=>none
 | .ls _ rows =>
  match P.underlying T with
  | some (.slice _)=>some rows.length
  | _=>none
 | .sl k =>
  match P.underlying T,look k σ.M with
  | some (.slice _),some ob =>
   match ob.rows? with
   | some rows=>some rows.length
   | none=>none
  | _,_=>none
 | .sc (.slice _ m _) =>
  match P.underlying T with
  | some (.slice _)=>some m
  | _=>none
 | _=>none
def lenV (P:Program) (σ:St):Op→Option Nat
 | .call { callee:=.builtin .len,args:=⟨[x]⟩,argTypes:=⟨[T]⟩ } =>
  match σ.ev x with
  | some av=>lenA P σ T av
  | none=>none
 | _=>none
def idxV (P:Program) (σ:St):Op→Option (List (List AV)×Int)
 | .indexAddr T x y =>
  match P.underlying T,σ.ev x,σ.ev y with
  | some (.slice e),some (.ls n rows),some (.sc (.int _ z)) =>
   match sizeB P e with
   | some m=>bif Nat.beq m n then some (rows,z) else none
   | none=>none
  | _,_,_=>none
 | _=>none
def ixsV (P:Program) (σ:St):Op→Option (Nat×List (List AV)×Int)
 | .indexAddr T x y =>
  match P.underlying T,σ.ev x,σ.ev y with
  | some (.slice e),some (.sl k),some (.sc (.int _ z)) =>
   match sizeB P e,look k σ.M with
   | some m,some ob =>
    match ob.rows?,ob.n? with
    | some rows,some n=>bif Nat.beq m n then some (k,rows,z) else none
    | _,_=>none
   | _,_=>none
  | _,_,_=>none
 | _=>none
structure AppD where
 T:TypeId
 n:Nat
 k:Nat
 a:List (List AV)
 b:List (List AV)
def appV (P:Program) (σ:St):Op→Option AppD
 | .call { callee:=.builtin .append,args:=⟨[x,y]⟩,argTypes:=⟨[T,T']⟩ } =>
  match P.underlying T,σ.ev x,σ.ev y with
  | some (.slice e),some (.sl k),some av2 =>
   match P.info? e,look k σ.M with
   | some i,some (.row e' n rows) =>
    match i.zero,σ.src n av2 with
    | some z,some rows2=>bif Nat.beq T T' && Nat.beq e e' && Nat.beq i.size n && Nat.beq z.cells.size n && Nat.blt 0 n && Nat.ble i.bytes 100000 then some ⟨e,n,k,rows,rows2⟩ else none
    | _,_=>none
   | _,_=>none
  | _,_,_=>none
 | _=>none
def dstB (N:Nat) (o:Oper):Option Tmp :=
 match o.guard,o.dst with
 | none,some d=>bif Nat.blt d N then some d else none
 | _,_=>none
section
variable {P:Program} {C:Cx} {ops:Array Oper} {o:Oper} {rest:List Oper} {σ:St} {Q:Exit→St→Prop} {d:Tmp}
theorem dstB_of (h:dstB C.N o=some d):o.guard=none∧o.dst=some d∧Nat.blt d C.N=true:=by
 unfold dstB at h
 split at h
 ·rename_i x h1 h2
  cases hb:Nat.blt x C.N with
  | false=>rw [hb] at h;cases h
  | true=>rw [hb] at h;cases h;exact ⟨h1,h2,hb⟩
 ·cases h
theorem WL.vl {av:AV} (hd:dstB C.N o=some d) (h:WV P C o σ av) (k:WL P C ops rest (σ.put d av) Q):WL P C ops (o::rest) σ Q :=
 WL.opv (dstB_of hd).1 (dstB_of hd).2.1 (dstB_of hd).2.2 h k
theorem catV_of {s t:List UInt8} (h:catV σ o.op=some (s,t)) (hl:s.length+t.length<9223372036854775808):WV P C o σ (.sc (.string (bs (s++t)))):=by
 unfold catV at h
 split at h
 ·rename_i T x y Ty ho
  split at h
  ·rename_i s t h1 h2
   cases h
   exact WV.cat (s:=s) (t:=t) ho h1 h2 hl
  ·cases h
 ·cases h
theorem WL.cat {s t:List UInt8} (hd:dstB C.N o=some d) (h:catV σ o.op=some (s,t)) (hl:s.length+t.length<9223372036854775808) (k:WL P C ops rest (σ.put d (.sc (.string (bs (s++t))))) Q):WL P C ops (o::rest) σ Q:=WL.vl hd (catV_of h hl) k
theorem lenV_of {m:Nat} (h:lenV P σ o.op=some m):WV P C o σ (.sc (.int .i64 m)):=by
 unfold lenV at h
 split at h
 ·rename_i x T ho
  split at h
  ·rename_i av hx
   unfold lenA at h
   split at h
   ·split at h
    ·rename_i s _ hT;cases h;exact WV.lenB (s:=s) ho hT hx
    ·cases h
   ·split at h
    ·rename_i hT;cases h;exact WV.lenL ho hT hx rfl
    ·cases h
   ·split at h
    ·rename_i ob hT hk
     split at h
     ·rename_i rows hr;cases h;exact WV.lenS ho hT hx hk hr rfl
     ·cases h
    ·cases h
   ·split at h
    ·rename_i hT;cases h;exact WV.lenN ho hT hx
    ·cases h
   ·cases h
  ·cases h
 ·cases h
theorem WL.len {m m':Nat} (hd:dstB C.N o=some d) (h:lenV P σ o.op=some m) (hm:m=m') (k:WL P C ops rest (σ.put d (.sc (.int .i64 m'))) Q):WL P C ops (o::rest) σ Q:=by
 subst hm
 exact WL.vl hd (lenV_of h) k
theorem idxV_of {rows:List (List AV)} {z:Int} {r:List AV} (h:idxV P σ o.op=some (rows,z)) (h0:0≤z) (hr:rows[z.toNat]?=some r):WV P C o σ (.pr r):=by
 unfold idxV at h
 split at h
 ·rename_i T x y ho
  split at h
  ·rename_i e n rows' q z' hT hx hy
   split at h
   ·rename_i m hn
    cases hb:Nat.beq m n with
    | false=>rw [hb] at h;cases h
    | true =>
     rw [hb] at h
     cases h
     obtain rfl:=Nat.eq_of_beq_eq_true hb
     exact WV.indexL ho hT hn hx hy h0 hr
   ·cases h
  ·cases h
 ·cases h
theorem WL.idx {rows:List (List AV)} {z:Int} {r:List AV} (hd:dstB C.N o=some d) (h:idxV P σ o.op=some (rows,z)) (h0:0≤z) (hr:rows[z.toNat]?=some r) (k:WL P C ops rest (σ.put d (.pr r)) Q):WL P C ops (o::rest) σ Q :=
 WL.vl hd (idxV_of h h0 hr) k
theorem ixsV_of {q:Nat} {rows:List (List AV)} {z:Int} (h:ixsV P σ o.op=some (q,rows,z)) (h0:0≤z) (h1:z<rows.length):WV P C o σ (.pt q z.toNat 0):=by
 unfold ixsV at h
 split at h
 ·rename_i T x y ho
  split at h
  ·rename_i e k q' z' hT hx hy
   split at h
   ·rename_i m ob hn hk
    split at h
    ·rename_i rows' n hr hn2
     cases hb:Nat.beq m n with
     | false=>rw [hb] at h;cases h
     | true =>
      rw [hb] at h
      cases h
      obtain rfl:=Nat.eq_of_beq_eq_true hb
      exact WV.indexS ho hT hn hx hy hk hr hn2 h0 h1
    ·cases h
   ·cases h
  ·cases h
 ·cases h
theorem WL.ixs {q:Nat} {rows:List (List AV)} {z:Int} (hd:dstB C.N o=some d) (h:ixsV P σ o.op=some (q,rows,z)) (h0:0≤z∧z<rows.length) (k:WL P C ops rest (σ.put d (.pt q z.toNat 0)) Q):WL P C ops (o::rest) σ Q :=
 WL.vl hd (ixsV_of h h0.1 h0.2) k
theorem appV_of {x:AppD} (hd:dstB C.N o=some d) (h:appV P σ o.op=some x) (hl:x.a.length+x.b.length≤1000000000):WO P C o σ (((σ.drop x.k).new (.row x.T x.n (x.a++x.b))).put d (.sl σ.nk)):=by
 obtain ⟨_,hds,hdb⟩:=dstB_of hd
 unfold appV at h
 split at h
 ·rename_i x y T T' ho
  split at h
  ·rename_i e k av2 hT hx hy
   split at h
   ·rename_i i e' n rows hi hk
    split at h
    ·rename_i z rows2 hz hs
     cases hb:Nat.beq T T' && Nat.beq e e' && Nat.beq i.size n && Nat.beq z.cells.size n && Nat.blt 0 n && Nat.ble i.bytes 100000 with
     | false=>rw [hb] at h;cases h
     | true =>
      rw [hb] at h
      simp only [Bool.and_eq_true] at hb
      cases h
      obtain ⟨⟨⟨⟨⟨b1,b2⟩,b3⟩,b4⟩,b5⟩,b6⟩:=hb
      obtain rfl:=Nat.eq_of_beq_eq_true b1
      obtain rfl:=Nat.eq_of_beq_eq_true b2
      exact WO.append ho hT hi hz (Nat.eq_of_beq_eq_true b3) rfl (Nat.eq_of_beq_eq_true b4) b5 hds hdb hx hk hy hs rfl hl b6 rfl
    ·cases h
   ·cases h
  ·cases h
 ·cases h
theorem WL.app {x:AppD} {t:List (Nat×AV)} {M M':List (Nat×AO)} {nk:Nat} (hd:dstB C.N o=some d) (h:appV P ⟨t,M,nk⟩ o.op=some x) (hM:remS x.k M=some M') (hl:x.a.length+x.b.length≤1000000000) (k:WL P C ops rest ⟨(d,.sl nk)::t,(nk,.row x.T x.n (x.a++x.b))::M',nk+1⟩ Q):WL P C ops (o::rest) ⟨t,M,nk⟩ Q:=by
 rw [remS_eq hM] at k
 exact WL.op (dstB_of hd).1 (appV_of hd h hl) k
theorem WL.ev {t:List (Nat×AV)} {M:List (Nat×AO)} {nk:Nat} (h:(opE P C.N t M nk o).isSome=true) (k:goL P C ops Q (o::rest) t M nk):WL P C ops (o::rest) ⟨t,M,nk⟩ Q:=goL_of k
/-! Regions that draw their order. -/
def stepD (P:Program) (N:Nat) (ops:Array Oper) (σ:St) (o:Oper):Option (Tmp×AV) :=
 match o.dst with
 | some d =>
  bif Nat.blt d N then
   match guardK ops o (σ.only (o.looksAt ops)) with
   | some true =>
    match stepV P (σ.only (o.looksAt ops)) o.op with
    | some av=>some (d,av)
    | none=>none
   | some false=>some (d,.sc undef)
   | none=>none
  else none
 | none=>none
theorem DK.st {av:AV} (h:stepD P C.N ops σ o=some (d,av)) (k:DK P C ops rest (σ.put d av) Q):DK P C ops (o::rest) σ Q:=by
 unfold stepD at h
 split at h
 ·rename_i x hds
  cases hb:Nat.blt x C.N with
  | false=>rw [hb] at h;cases h
  | true =>
   rw [hb] at h
   simp only [cond_true] at h
   split at h
   ·rename_i hg
    split at h
    ·rename_i av' hv
     cases h
     exact DK.val hds hb hg (stepV_of rfl hv) k
    ·cases h
   ·rename_i hg
    cases h
    exact DK.no hds hb hg k
   ·cases h
 ·cases h
theorem DK.tt {b:Bool} (h:stepD P C.N ops σ o=some (d,.sc (.bool b))) (hb:b=true) (k:DK P C ops rest (σ.put d (.sc (.bool true))) Q):DK P C ops (o::rest) σ Q:=by
 subst hb;exact DK.st h k
theorem DK.ff {b:Bool} (h:stepD P C.N ops σ o=some (d,.sc (.bool b))) (hb:b=false) (k:DK P C ops rest (σ.put d (.sc (.bool false))) Q):DK P C ops (o::rest) σ Q:=by
 subst hb;exact DK.st h k
def dstD (N:Nat) (ops:Array Oper) (σ:St) (o:Oper):Option Tmp :=
 match o.dst,guardK ops o (σ.only (o.looksAt ops)) with
 | some d,some true=>bif Nat.blt d N then some d else none
 | _,_=>none
theorem DK.vl {av:AV} (hd:dstD C.N ops σ o=some d) (h:WV P C o (σ.only (o.looksAt ops)) av) (k:DK P C ops rest (σ.put d av) Q):DK P C ops (o::rest) σ Q:=by
 unfold dstD at hd
 split at hd
 ·rename_i x h1 h2
  cases hb:Nat.blt x C.N with
  | false=>rw [hb] at hd;cases hd
  | true=>rw [hb] at hd;cases hd;exact DK.val h1 hb h2 h k
 ·cases hd
theorem DK.len {m m':Nat} (hd:dstD C.N ops σ o=some d) (h:lenV P (σ.only (o.looksAt ops)) o.op=some m) (hm:m=m') (k:DK P C ops rest (σ.put d (.sc (.int .i64 m'))) Q):DK P C ops (o::rest) σ Q:=by
 subst hm;exact DK.vl hd (lenV_of h) k
theorem DK.cat {s t:List UInt8} (hd:dstD C.N ops σ o=some d) (h:catV (σ.only (o.looksAt ops)) o.op=some (s,t)) (hl:s.length+t.length<9223372036854775808) (k:DK P C ops rest (σ.put d (.sc (.string (bs (s++t))))) Q):DK P C ops (o::rest) σ Q:=DK.vl hd (catV_of h hl) k
theorem DK.idx {rows:List (List AV)} {z:Int} {r:List AV} (hd:dstD C.N ops σ o=some d) (h:idxV P (σ.only (o.looksAt ops)) o.op=some (rows,z)) (h0:0≤z) (hr:rows[z.toNat]?=some r) (k:DK P C ops rest (σ.put d (.pr r)) Q):DK P C ops (o::rest) σ Q :=
 DK.vl hd (idxV_of h h0 hr) k
theorem DK.ixs {q:Nat} {rows:List (List AV)} {z:Int} (hd:dstD C.N ops σ o=some d) (h:ixsV P (σ.only (o.looksAt ops)) o.op=some (q,rows,z)) (h0:0≤z∧z<rows.length) (k:DK P C ops rest (σ.put d (.pt q z.toNat 0)) Q):DK P C ops (o::rest) σ Q :=
 DK.vl hd (ixsV_of h h0.1 h0.2) k
theorem sideV_of {φ:Prop} {z:Int} (h:sideV σ o.op=some (φ,z)) (hφ:φ):WV P C o σ (.sc (.int .i64 z)):=by
 unfold sideV at h
 split at h
 ·rename_i op T x y Ty ho
  split at h
  ·rename_i m n h1 h2
   unfold sideI at h
   split at h<;>first|cases h|skip
   ·exact WV.add ho h1 h2 hφ
   ·exact WV.sub ho h1 h2 hφ
   ·exact WV.mul ho h1 h2 hφ
  ·cases h
 ·cases h
theorem WL.ar {φ:Prop} {z:Int} (hd:dstB C.N o=some d) (h:sideV σ o.op=some (φ,z)) (hφ:φ) (k:WL P C ops rest (σ.put d (.sc (.int .i64 z))) Q):WL P C ops (o::rest) σ Q:=WL.vl hd (sideV_of h hφ) k
theorem DK.ar {φ:Prop} {z:Int} (hd:dstD C.N ops σ o=some d) (h:sideV (σ.only (o.looksAt ops)) o.op=some (φ,z)) (hφ:φ) (k:DK P C ops rest (σ.put d (.sc (.int .i64 z))) Q):DK P C ops (o::rest) σ Q:=DK.vl hd (sideV_of h hφ) k
end
end Go.Proofs.YtgelfflighgajaaGreatDoor
namespace Go.Proofs.YtgelfflighgajaaGreatDoor
open Go.RowKit
def lkIf (ok:Bool) (i c what:Int):List Lck:=if ok then [] else [(i,c,what)]
def hasS (s n:Int):Bool:=if s=3 then n != 8 else if s=4 then n == 8 else true
def lackStop (s i:Int) (L:Int→Nat) (x:Stp):List Lck :=
 if pOk s x.1 x.2.1=false then [(i,x.1,1)] else lkIf (okR s x.2.2.1) i x.1 2++(lkIf (okG s x.2.2.2.1) i x.1 3++lkIf (okH s x.2.2.2.2 (L x.1)) i x.1 4)
def lackHead (s i:Int) (e:Ev):List Lck :=
 (if e.val=0 then lkIf (hasS s 6) i 0 6 else [])++((if e.three=true then lkIf (hasS s 5) i 0 5 else [])++(if e.tie=true then lkIf (hasS s 7) i 0 7 else if e.stops.length=0 then lkIf (hasS s 8) i 0 8 else []))
def lackE (s:Int) (p:Pce) (i:Int) (e:Ev):List Lck:=lackHead s i e++e.stops.flatMap (lackStop s i fun c=>longestN p.evs i c)
theorem lkIf_len (ok:Bool) (i c what:Int):(lkIf ok i c what).length≤1:=by unfold lkIf;split<;>simp
theorem lackStop_len (s i:Int) (L:Int→Nat) (x:Stp):(lackStop s i L x).length≤3:=by
 unfold lackStop
 split
 ·simp
 ·have a:=lkIf_len (okR s x.2.2.1) i x.1 2
  have b:=lkIf_len (okG s x.2.2.2.1) i x.1 3
  have c:=lkIf_len (okH s x.2.2.2.2 (L x.1)) i x.1 4
  simp only [List.length_append];omega
theorem flat_len (s i:Int) (L:Int→Nat):∀ l:List Stp,(l.flatMap (lackStop s i L)).length≤3*l.length:=by
 intro l
 induction l with
 | nil=>simp
 | cons x r ih=>have:=lackStop_len s i L x;simp only [List.flatMap_cons,List.length_append,List.length_cons];omega
theorem flat_snoc (s i:Int) (L:Int→Nat) (l:List Stp) (k:Nat) (h:k<l.length):(l.take (k+1)).flatMap (lackStop s i L)=(l.take k).flatMap (lackStop s i L)++lackStop s i L l[k]:=by
 rw [List.take_succ_eq_append_getElem h,List.flatMap_append];simp
theorem say_any (ok:Bool) (c what ev:Int) (b be B0:Nat) (l:List Lck) (w:World) (h:SayAt w B0 b l) (hev:w.cell? ⟨be,0,none⟩=some (.int .i64 ev)) (hb:b<B0) (hB:B0≤w.heap.size) (hl:l.length≤32000) :
  Calls Tryz.prog 214 #[.bool ok,.int .i64 c,.int .i64 what,.pointer (some ⟨b,0,none⟩),.pointer (some ⟨be,0,none⟩)] w (SayPost B0 b (l++lkIf ok ev c what) w):=by
 cases ok
 ·exact say_no c what ev b be B0 l w h hev hb hB hl
 ·have e:l++lkIf true ev c what=l:=by simp [lkIf]
  rw [e];exact say_ok c what b be B0 l w h
structure LkSt (w:World) (P E:Array Value) (i:Int) (l:List Lck) (wx:World):Prop where
 bel:Below w.heap.size w wx
 bp:Blk wx w.heap.size 28 P
 bi:Blk wx (w.heap.size+1) 3 #[.int .i64 i]
 be:Blk wx (w.heap.size+3) 36 E
 say:SayAt wx (w.heap.size+3) (w.heap.size+2) l
theorem LkSt.after {w wx w':World} {P E:Array Value} {i:Int} {l:List Lck} (h:LkSt w P E i l wx) (hb:Below wx.heap.size wx w'):LkSt w P E i l w' :=
 ⟨h.bel.trans (hb.mono h.bel.size),h.bp.after hb,h.bi.after hb,h.be.after hb,h.say.after hb⟩
theorem LkSt.said {w wx w':World} {P E:Array Value} {i:Int} {l l':List Lck} {e:Ending} (h:LkSt w P E i l wx) (hb:SayPost (w.heap.size+3) (w.heap.size+2) l' wx e w'):LkSt w P E i l' w' :=
 ⟨h.bel.trans (hb.2.2.1.mono (by omega)),hb.2.2.2.2 _ _ _ h.bp (by omega) (by decide),hb.2.2.2.2 _ _ _ h.bi (by omega) (by decide),hb.2.2.2.2 _ _ _ h.be (by omega) (by decide),hb.2.1⟩
theorem LkSt.ask {w wx:World} {P E:Array Value} {i:Int} {l:List Lck} (h:LkSt w P E i l wx) (ok:Bool) (c what:Int) (hl:l.length≤32000) :
  Calls Tryz.prog 214 #[.bool ok,.int .i64 c,.int .i64 what,.pointer (some ⟨w.heap.size+2,0,none⟩),.pointer (some ⟨w.heap.size+1,0,none⟩)] wx (SayPost (w.heap.size+3) (w.heap.size+2) (l++lkIf ok i c what) wx) :=
 say_any ok c what i _ _ _ l wx h.say (h.bi.cell 0) (by omega) (Nat.le_of_lt h.be.lt) hl
def StopsIn (e:Ev):Prop :=
 ∀ k (h:k<e.stops.length),(1≤e.stops[k].1∧e.stops[k].1≤14)∧(0≤e.stops[k].2.1∧e.stops[k].2.1≤18)∧(0≤e.stops[k].2.2.1∧e.stops[k].2.2.1≤3)∧(0≤e.stops[k].2.2.2.1∧e.stops[k].2.2.2.1≤4)∧(0≤e.stops[k].2.2.2.2∧e.stops[k].2.2.2.2≤15)
def LkPost (l:List Lck) (W:World) (e:Ending) (w':World):Prop :=
 ∃ A d,e=.returned (.slice A l.length d)∧Below W.heap.size W w'∧Rd w' w'.heap.size 3 A (l.map lckCells)∧(∀ ad,A=some ad→W.heap.size≤ad.block)∧l.length≤d
def lk1 (s i v:Int):List Lck:=if v=0 then lkIf (hasS s 6) i 0 6 else []
def lk2 (s i:Int) (t:Bool):List Lck:=if t=true then lkIf (hasS s 5) i 0 5 else []
def lk3 (s i:Int) (t:Bool) (n:Nat):List Lck:=if t=true then lkIf (hasS s 7) i 0 7 else if n=0 then lkIf (hasS s 8) i 0 8 else []
theorem lk1_len (s i v:Int):(lk1 s i v).length≤1:=by unfold lk1;split;exact lkIf_len _ _ _ _;simp
theorem lk2_len (s i:Int) (t:Bool):(lk2 s i t).length≤1:=by unfold lk2;split;exact lkIf_len _ _ _ _;simp
theorem lk3_len (s i:Int) (t:Bool) (n:Nat):(lk3 s i t n).length≤1:=by
 unfold lk3;split
 ·exact lkIf_len _ _ _ _
 ·split;exact lkIf_len _ _ _ _;simp
theorem lackE_eq (s:Int) (p:Pce) (i:Int) (e:Ev):lackE s p i e=(lk1 s i e.val++(lk2 s i e.three++lk3 s i e.tie e.stops.length))++e.stops.flatMap (lackStop s i fun c=>longestN p.evs i c):=rfl
def lkW (w:World) (P E:Array Value) (i:Int):World:=(((w.alloc (.cells P 28)).alloc (.cells #[.int .i64 i] 3)).alloc (.cells #[.slice none 0 0] 204)).alloc (.cells E 36)
theorem LkSt.start (w:World) (P E:Array Value) (i:Int):LkSt w P E i [] (lkW w P E i):=by
 have n1:∀ (w:World) (o:Obj),(w.alloc o).heap.size=w.heap.size+1:=fun w o=>by simp
 unfold lkW
 have b0:=((((Blk.new w 28 P).alloc (.cells #[.int .i64 i] 3)).alloc (.cells #[.slice none 0 0] 204)).alloc (.cells E 36))
 have b1:=(((Blk.new (w.alloc (.cells P 28)) 3 #[.int .i64 i]).alloc (.cells #[.slice none 0 0] 204)).alloc (.cells E 36))
 have b2:=((Blk.new ((w.alloc (.cells P 28)).alloc (.cells #[.int .i64 i] 3)) 204 #[.slice none 0 0]).alloc (.cells E 36))
 have b3:=(Blk.new (((w.alloc (.cells P 28)).alloc (.cells #[.int .i64 i] 3)).alloc (.cells #[.slice none 0 0] 204)) 36 E)
 rw [n1] at b1
 rw [n1,n1] at b2
 rw [n1,n1,n1] at b3
 exact ⟨(by repeat (first|exact Below.refl _ _|assumption|refine bel_drewN ?_ _|refine Below.drew ?_|refine bel_alloc ?_ _|refine Below.setCell ?_ (by first|omega|(simp;done)|(simp;omega)) _|refine bel_step ?_ (by assumption))),b0,b1,b3,SayAt.start _ _ _ b2⟩
end Go.Proofs.YtgelfflighgajaaGreatDoor
namespace Go.Proofs.YtgelfflighgajaaGreatDoor
open Go.Shelf Go.RowKit
set_option maxRecDepth 100000
def joinRen:Go.Shelf.Ren:=⟨fun|156=>114|165=>174|166=>58|169=>59|240=>125|241=>213|276=>184|277=>235|n=>n,fun|0=>0|3=>3|4=>4|9=>9|20=>20|31=>65|37=>57|70=>107|72=>109|75=>112|76=>113|127=>202|164=>266|5=>5|80=>115|n=>n,fun|n=>n⟩
theorem joinLays:Go.Proofs.Lays.n156 Tryz.prog joinRen:={
 mixed:=by kernel_rfl
 f156:=Tryz.func114.trans (congrArg some (by kernel_rfl))
 f165:=Tryz.func174.trans (congrArg some (by kernel_rfl))
 f166:=Tryz.func58.trans (congrArg some (by kernel_rfl))
 f169:=Tryz.func59.trans (congrArg some (by kernel_rfl))
 f240:=Tryz.func125.trans (congrArg some (by kernel_rfl))
 f241:=Tryz.func213.trans (congrArg some (by kernel_rfl))
 f276:=Tryz.func184.trans (congrArg some (by kernel_rfl))
 f277:=Tryz.func235.trans (congrArg some (by kernel_rfl))
 t0:=Tryz.underlying0
 a0:=Tryz.isAgg0
 z0:=Tryz.sizeOf0
 v0:=Tryz.zeroValue0
 t3:=Tryz.underlying3
 a3:=Tryz.isAgg3
 z3:=Tryz.sizeOf3
 v3:=Tryz.zeroValue3
 t4:=Tryz.underlying4
 a4:=Tryz.isAgg4
 z4:=Tryz.sizeOf4
 v4:=Tryz.zeroValue4
 t9:=Tryz.underlying9
 a9:=Tryz.isAgg9
 z9:=Tryz.sizeOf9
 v9:=Tryz.zeroValue9
 t20:=Tryz.underlying20
 a20:=Tryz.isAgg20
 z20:=Tryz.sizeOf20
 v20:=Tryz.zeroValue20
 t31:=Tryz.underlying65
 a31:=Tryz.isAgg65
 z31:=Tryz.sizeOf65
 v31:=Tryz.zeroValue65
 t37:=Tryz.underlying57
 a37:=Tryz.isAgg57
 z37:=Tryz.sizeOf57
 v37:=Tryz.zeroValue57
 t70:=Tryz.underlying107
 a70:=Tryz.isAgg107
 z70:=Tryz.sizeOf107
 v70:=Tryz.zeroValue107
 t72:=Tryz.underlying109
 a72:=Tryz.isAgg109
 z72:=Tryz.sizeOf109
 v72:=Tryz.zeroValue109
 t75:=Tryz.underlying112
 a75:=Tryz.isAgg112
 z75:=Tryz.sizeOf112
 v75:=Tryz.zeroValue112
 t76:=Tryz.underlying113
 a76:=Tryz.isAgg113
 z76:=Tryz.sizeOf113
 v76:=Tryz.zeroValue113
 t127:=Tryz.underlying202
 a127:=Tryz.isAgg202
 z127:=Tryz.sizeOf202
 v127:=Tryz.zeroValue202
 t164:=Tryz.underlying266
 a164:=Tryz.isAgg266
 z164:=Tryz.sizeOf266
 v164:=Tryz.zeroValue266 }
theorem joinExtra:Builder.Extra Tryz.prog joinRen:={
 sizeBuilder:=by kernel_rfl
 liesBuilder:=by kernel_rfl
 t5:=Tryz.underlying5
 a5:=Tryz.isAgg5
 z5:=Tryz.sizeOf5
 v5:=Tryz.zeroValue5
 infoByte:=by kernel_rfl
 cellsByte:=by kernel_rfl
 sizeByte:=by kernel_rfl
 neB5:=by decide }
theorem strings_Join_none (a:Option Addr) (c:Nat) (sep:ByteArray) (w:World) :
  Calls Tryz.prog 114 #[.slice a 0 c,.string sep] w fun e w'=>e=.returned (.string ⟨#[]⟩)∧w'=w:=Any.strings_Join_none joinLays joinExtra a c sep w
theorem strings_Join (bk o c:Nat) (xs:List ByteArray) (sep:ByteArray) (w:World) (hcells:∀ (j:Nat) x,xs[j]?=some x→w.cell? ⟨bk,o+j,none⟩=some (.string x)) (hbk:bk<w.heap.size) (hN:xs.length≤140737488355328) (hcap:xs.length≤c) (hlen:(Lib.join (xs.map (·.data.toList)) sep.data.toList).length≤140737488355328) :
  Calls Tryz.prog 114 #[.slice (some ⟨bk,o,none⟩) xs.length c,.string sep] w fun e w'=>e=.returned (.string ⟨(Lib.join (xs.map (·.data.toList)) sep.data.toList).toArray⟩)∧Below w.heap.size w w':=Any.strings_Join joinLays joinExtra bk o c xs sep w hcells hbk hN hcap hlen
end Go.Proofs.YtgelfflighgajaaGreatDoor
