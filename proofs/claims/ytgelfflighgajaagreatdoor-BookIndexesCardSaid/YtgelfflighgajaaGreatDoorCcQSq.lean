/- The groups of rows that begin alike: plain. -/
import Derived.Test.YtgelfflighgajaaGreatDoorBk1Sq
import Derived.Test.YtgelfflighgajaaGreatDoorDlPSq
import Derived.Test.YtgelfflighgajaaGreatDoorLinSq
import Derived.Test.YtgelfflighgajaaGreatDoorSo2Sq
set_option maxHeartbeats 8000000
set_option maxRecDepth 100000
set_option linter.unusedVariables false
set_option linter.unusedSimpArgs false
namespace Go.Proofs.YtgelfflighgajaaGreatDoor
section
open Go.RowKit Go.WideShapes Go.ChangeShapes Go.Joins Go.Deep
theorem z7o {p:Prop} (h:p:=by omega):p:=h
section
variable {H:Type} {enc:TypeId×Value→H} {w:World} {base:Nat} {spare:Nat→Bool} {held:Bool}
theorem open_rows_rp {α:Type} {T e:TypeId} {m n:Nat} {en:α→List AV} {v:Value} {x:DataW H×List MemPlace} (hu:Tryz.prog.underlying T=some (.slice e)) (hc:Tryz.prog.cellsOf e=m) (hlen:∀ a,(en a).length=m)
  (hel:∀ (k:Nat) (cs:List Value) (y:DataW H×List MemPlace),DataW.trod enc Tryz.prog w base spare held k e cs=some y→cs.length=m→∃ a:α,∀ (j:Nat) av u,(en a)[j]?=some av→cs[j]?=some u→u.oneCell'=true∧RP (fun q=>w.cell? q) av u)
  (h:DataW.trod enc Tryz.prog w base spare held n T [v]=some x):∃ l:List α,RP (fun q=>w.cell? q) (.ls m (l.map en)) v:=by
 rcases open_slice (P:=Tryz.prog) hu h with⟨h0,_⟩|⟨a,len,cap,mm,n',D,Pl,hcs,hb,hl,hm,hmm,_,hi⟩
 ·obtain rfl:v=.slice none 0 0:=by simpa using h0
  exact ⟨[],.ls m [] none 0 ⟨0,0,none⟩ (fun _ _=>undef) (by simp) (by simp) (fun h=>absurd h (by simp)) (fun i r j av h=>by simp at h) (fun i r j av h=>by simp at h)⟩
 ·obtain rfl:v=.slice (some a) len cap:=by simpa using hcs
  have hlm:len≤mm:=by rw [hmm];split<;>omega
  obtain ⟨l,hll,hq⟩:=list_of (Q:=fun i (x:α×List Value)=>(∀ j,j<m→∃ u,x.2[j]?=some u∧w.cell? (a.add (i*m+j))=some u)∧∀ (j:Nat) av u,(en x.1)[j]?=some av→x.2[j]?=some u→u.oneCell'=true∧RP (fun q=>w.cell? q) av u) len (fun i hil=>by
   obtain ⟨cs',hc',ht'⟩:=hi i z7o
   rw [hc] at hc'
   obtain ⟨_,hcl,hat⟩:=World.cells?_some hc'
   obtain ⟨b,hb2⟩:=hel _ _ _ ht' hcl
   refine ⟨(b,cs'),fun j hj=>?_,hb2⟩
   have:=hat j hj
   rw [add_of_add] at this
   exact ⟨cs'[j]'(by omega),List.getElem?_eq_getElem _,by rw [this];exact List.getElem?_eq_getElem _⟩)
  refine ⟨l.map (·.1),?_⟩
  have hlm2:len=((l.map (·.1)).map en).length:=by simp [hll]
  have key:∀ (i:Nat) r (j:Nat) av,((l.map (·.1)).map en)[i]?=some r→r[j]?=some av→∃ x u,l[i]?=some x∧x.2[j]?=some u∧w.cell? (a.add (i*m+j))=some u∧u.oneCell'=true∧RP (fun q=>w.cell? q) av u:=fun i r j av hr hav=>by
   rw [List.map_map,List.getElem?_map] at hr
   cases hx:l[i]? with
   | none=>simp [hx] at hr
   | some x =>
    rw [hx] at hr
    obtain rfl:en x.1=r:=by simpa using hr
    obtain ⟨hkl,hkx⟩:=List.getElem?_eq_some_iff.1 hx
    have q:=hq i hkl
    rw [hkx] at q
    have hj:j<m:=by have:=(List.getElem?_eq_some_iff.1 hav).1;rw [hlen] at this;exact this
    obtain ⟨u,hu1,hu2⟩:=q.1 j hj
    obtain ⟨q1,q2⟩:=q.2 j av u hav hu1
    exact ⟨x,u,rfl,hu1,hu2,q1,q2⟩
  rw [hlm2]
  refine .ls m _ (some a) cap a (fun i j=>((l[i]?).bind fun x=>x.2[j]?).getD undef) (by rw [← hlm2];exact hl) (fun r hr=>?_) (fun _=>rfl) (fun i r j av hr hav=>?_) (fun i r j av hr hav=>?_)
  ·obtain ⟨x,_,rfl⟩:=List.mem_map.1 hr;exact hlen x
  ·obtain ⟨x,u,h1,h2,h3,h4,_⟩:=key i r j av hr hav
   simp only [h1,Option.bind_some,h2,Option.getD_some]
   exact ⟨h3,h4⟩
  ·obtain ⟨x,u,h1,h2,_,_,h5⟩:=key i r j av hr hav
   simp only [h1,Option.bind_some,h2,Option.getD_some]
   exact h5
end
end
section
open Go.RowKit
theorem rBkCopy_FS (b:List En) (hB:BkOk b):Ctr Tryz.prog 23 [eBk b] (eBk b):=by
 have hn:=hB.n
 refine Ctr.intro Tryz.func23 rfl Tryz.ntmps23 (Nat.le_of_ble_eq_true rfl) (bd_all rfl) fun w0 F0=>?_;dsimp only [St.init,number,Nat.reduceAdd]
 repeat refine W.go rfl ?_
 refine (?_:W _ _ _ _ _)
 refine W.tr (Tr.nilBox (k:=2) (j:=0) 95 5 rfl rfl rfl rfl) ?_
 refine W.loop (fun k:Nat=>k≤b.length) (fun k=>⟨[(1,.pt 0 0 0),(2,.pt 1 0 0),(3,.pt 2 0 0),(4,.sc (.int .i64 k))],[(0,.box 48 [.ls 5 (b.map eEn)]),(1,.box 48 [.sc (.slice none 0 0)]),(2,.box 48 [.sl 3]),(3,.row 95 5 ((b.take k).map eEn))],4⟩) (fun k=>b.length - k) 0 z7o (zqt id) fun k hk=>?_
 by_cases hlt:k < b.length
 ·have hO:=hB.p k hlt
  repeat (first|refine W.gob rfl ?_|refine WL.nil ?_|refine WL.bt rfl rfl rfl z7o ?_|refine WL.e1 rfl ?_|refine WL.len rfl rfl zql ?_|refine WL.idx rfl rfl z7o zqm ?_|refine W.condT rfl ?_)
  refine (?_:WL _ _ _ _ _ _)
  refine WL.vl rfl (WV.call rfl (callF Tryz.func17 rfl rfl) rfl rfl (pcCopy_FS b[k].p hO)) ?_
  repeat (first|refine W.go rfl ?_|refine WL.ev rfl ?_|refine WL.ar rfl rfl (by unfold I64;omega) ?_|refine WL.app rfl rfl rfl (by first|omega|(simp;done)|(simp;omega)) ?_)
  refine ⟨k+1,by omega,by omega,?_⟩
  exact (zqu (fun q=>bif Nat.beq q 3 then 6 else q) (by repeat (first|exact trivial|refine ⟨⟨?_,?_,?_⟩,?_⟩|rfl|exact congrArg (fun q=>some (AO.row _ _ q)) (take_map_succ hlt))) rfl)
 ·obtain rfl:k=b.length:=by omega
  rw [List.take_length]
  repeat (first|refine W.gob rfl ?_|refine WL.nil ?_|refine WL.bf rfl rfl rfl z7o ?_|refine WL.e1 rfl ?_|refine WL.len rfl rfl zql ?_|refine W.condF rfl ?_)
  refine (?_:W _ _ _ _ _)
  refine W.tr (Tr.freeze 3 rfl) ?_
  exact W.ret (fin_cell rfl rfl rfl rfl rfl rfl rfl rfl)
end
section
open Go.RowKit
def bigL:List En→Nat→Bool
 | [],n=>decide (200<(n:Int))
 | e::r,n=>longB e.p|| (decide (1000<(e.t.length:Int))|| bigL r (n+e.p.evs.length))
def evN(l:List En):Nat:=(l.map fun e=>e.p.evs.length).sum
def bigT (b:List En):Bool:=decide (70<(b.length:Int))|| bigL b 0
theorem bigL_ok:∀ {l:List En} {n:Nat},bigL l n=false→∀ k (h:k<l.length),longB l[k].p=false∧l[k].t.length≤1000
 | [],n,_,k,h=>by simp at h
 | e::r,n,hb,k,h=>by
  simp only [bigL,Bool.or_eq_false_iff,decide_eq_false_iff_not]at hb
  cases k with
  | zero=>exact⟨hb.1,by have:=hb.2.1;simp only [List.getElem_cons_zero];omega⟩
  | succ k=>exact bigL_ok hb.2.2 k (by simpa using h)
theorem bkOk_of {b:List En} (h:bigT b=false):BkOk b:=by
 simp only [bigT,Bool.or_eq_false_iff,decide_eq_false_iff_not]at h
 exact⟨by omega,fun k hk=>pcOk_of3 (bigL_ok h.2 k hk).1,fun k hk=>(bigL_ok h.2 k hk).2⟩
theorem evN_take {b:List En} {k:Nat} (h:k<b.length):evN (b.take (k+1))=evN (b.take k)+b[k].p.evs.length:=by
 unfold evN
 rw [List.take_succ_eq_append_getElem h,List.map_append,List.sum_append]
 simp only [List.map_cons,List.map_nil,List.sum_cons,List.sum_nil,Nat.add_zero]
theorem bigL_drop {b:List En} {k n:Nat} (h:k<b.length):bigL (b.drop k) n=(longB b[k].p|| (decide (1000<(b[k].t.length:Int))|| bigL (b.drop (k+1)) (n+b[k].p.evs.length))):=by
 rw [List.drop_eq_getElem_cons h];rfl
theorem bigBk_FS (b:List En):Ctr Tryz.prog 21 [eBk b] (.sc (.bool (bigT b))):=by
 by_cases hn:70 < (b.length:Int)
 ·refine Ctr.intro Tryz.func21 rfl Tryz.ntmps21 (Nat.le_of_ble_eq_true rfl) (bd_all rfl) fun w0 F0=>?_;dsimp only [St.init,number,Nat.reduceAdd]
  repeat (first|refine W.gob rfl ?_|refine WL.nil ?_|refine WL.bt rfl rfl rfl z7o ?_|refine WL.e1 rfl ?_|refine WL.len rfl rfl zql ?_|refine W.condT rfl ?_)
  refine (?_:W _ _ _ _ _)
  exact W.ret (fin1 rfl rfl (sc_bool (by unfold bigT;rw [decide_eq_true hn];rfl)) rfl)
 refine Ctr.intro Tryz.func21 rfl Tryz.ntmps21 (Nat.le_of_ble_eq_true rfl) (bd_all rfl) fun w0 F0=>?_;dsimp only [St.init,number,Nat.reduceAdd]
 repeat (first|refine W.gob rfl ?_|refine WL.nil ?_|refine WL.bf rfl rfl rfl z7o ?_|refine WL.e1 rfl ?_|refine WL.len rfl rfl zql ?_|refine W.condF rfl ?_)
 refine (?_:W _ _ _ _ _)
 refine W.loop (fun k:Nat=>k≤b.length∧evN (b.take k)≤60*k∧bigL (b.drop k) (evN (b.take k))=bigL b 0) (fun k=>⟨[(1,.pt 0 0 0),(3,.sc (.int .i64 (evN (b.take k)))),(4,.sc (.int .i64 k))],[(0,.box 48 [.ls 5 (b.map eEn)])],1⟩) (fun k=>b.length - k) 0 ⟨Nat.zero_le _,by simp [evN],by simp [evN]⟩ (zqt id) fun k hk=>?_
 obtain ⟨hk,hs,hd⟩:=hk
 by_cases hlt:k < b.length
 rotate_left
 ·obtain rfl:k=b.length:=by omega
  rw [List.drop_length,List.take_length] at hd
  rw [List.take_length] at hs ⊢
  repeat (first|refine W.gob rfl ?_|refine WL.nil ?_|refine WL.bf rfl rfl rfl z7o ?_|refine WL.e1 rfl ?_|refine WL.len rfl rfl zql ?_|refine W.condF rfl ?_)
  refine (?_:W _ _ _ _ _)
  refine W.ret (fin1 rfl rfl (sc_bool ?_) rfl)
  unfold bigT
  rw [decide_eq_false hn,Bool.false_or,← hd]
  unfold bigL
  first|rfl|(rw [decide_eq_decide];omega)
 have hgd:=bigL_drop (n:=evN (b.take k)) hlt
 repeat (first|refine W.gob rfl ?_|refine WL.nil ?_|refine WL.bt rfl rfl rfl z7o ?_|refine WL.e1 rfl ?_|refine WL.len rfl rfl zql ?_|refine WL.idx rfl rfl z7o zqm ?_|refine W.condT rfl ?_)
 refine (?_:WL _ _ _ _ _ _)
 refine WL.vl rfl (WV.call rfl (callF Tryz.func14 rfl rfl) rfl rfl (long_FS b[k].p)) ?_
 repeat refine WL.e1 rfl ?_
 refine (?_:WL _ _ _ _ _ _)
 refine WL.partG rfl rfl rfl rfl (fun hp=>?_) (fun hp=>?_)
 ·repeat (first|refine W.gob rfl ?_|refine WL.nil ?_|refine WL.e1 rfl ?_|refine WL.opno rfl rfl rfl rfl rfl rfl rfl ?_|refine W.condT rfl ?_)
  refine (?_:W _ _ _ _ _)
  refine W.ret (fin1 rfl rfl (sc_bool ?_) rfl)
  unfold bigT
  rw [decide_eq_false hn,Bool.false_or,← hd,hgd,hp];rfl
 rw [hp,Bool.false_or] at hgd
 by_cases ht:1000 < (b[k].t.length:Int)
 ·repeat (first|refine W.gob rfl ?_|refine WL.nil ?_|refine WL.bt rfl rfl rfl z7o ?_|refine WL.e1 rfl ?_|refine WL.gyes rfl rfl rfl rfl ?_|refine WL.len rfl rfl zql ?_|refine WL.idx rfl rfl z7o zqm ?_|refine W.condT rfl ?_)
  refine (?_:W _ _ _ _ _)
  refine W.ret (fin1 rfl rfl (sc_bool ?_) rfl)
  unfold bigT
  rw [decide_eq_false hn,Bool.false_or,← hd,hgd,decide_eq_true ht];rfl
 rw [decide_eq_false ht,Bool.false_or] at hgd
 have hev:b[k].p.evs.length≤60:=by
  unfold longB at hp
  simp only [Bool.or_eq_false_iff,decide_eq_false_iff_not] at hp
  omega
 have hst:=evN_take hlt
 repeat (first|refine W.gob rfl ?_|refine WL.nil ?_|refine WL.bf rfl rfl rfl z7o ?_|refine WL.e1 rfl ?_|refine WL.gyes rfl rfl rfl rfl ?_|refine WL.ar rfl rfl (by unfold I64;omega) ?_|refine WL.len rfl rfl zql ?_|refine WL.idx rfl rfl z7o zqm ?_|refine W.condF rfl ?_)
 refine ⟨k+1,⟨by omega,by omega,by rw [hst,← hgd,hd]⟩,by omega,?_⟩
 rw [hst]
 exact (zqt id)
end
section
open Go.RowKit
theorem ensE_zero {b:List En}:∀ {l:List En} {i:Nat},ensE b i l=0→∀ k (h:k<l.length),enE b (i+k) l[k]=0
 | [],_,_,k,h=>by simp at h
 | e::r,i,h0,k,h=>by
  have h1:enE b i e=0:=by
   by_cases h2:enE b i e=0
   ·exact h2
   ·have e1:ensE b i (e::r)=enE b i e:=if_neg h2
    rw [← e1];exact h0
  have e1:ensE b i (e::r)=ensE b (i+1) r:=if_pos h1
  cases k with
  | zero=>exact h1
  | succ k =>
   have:=ensE_zero (e1 ▸ h0) k (by simpa using h)
   rw [show i+1+k=i+(k+1) by omega] at this
   simpa using this
theorem bkE_zero {b:List En} (h:bkE b=0):b.length≤64∧∀ k(h:k<b.length),enE b k b[k]=0:=by
 unfold bkE at h
 by_cases h1:64<b.length
 ·rw [if_pos h1]at h;omega
 ·rw [if_neg h1]at h
  refine⟨by omega,fun k hk=>?_⟩
  have:=ensE_zero h k hk
  simpa using this
theorem enE_zero {b:List En} {i:Nat} {e:En} (h:enE b i e=0):(1≤e.s∧e.s≤4)∧pceE e.p=0∧lksR e.s e.p=[]:=by
 unfold enE at h
 by_cases h1:ttlOk e.t=false∨ttlN b e.t<i
 ·rw [if_pos h1]at h;omega
 rw [if_neg h1]at h
 by_cases h2:1≤e.s∧e.s≤4
 rotate_left
 ·rw [if_pos h2]at h;omega
 rw [if_neg (fun k=>k h2)]at h
 by_cases h3:pceE e.p=0
 rotate_left
 ·rw [if_pos h3]at h;exact absurd h h3
 rw [if_neg (fun k=>k h3)]at h
 by_cases h4:lksR e.s e.p=[]
 ·exact⟨h2,h3,h4⟩
 ·rw [if_neg h4]at h;omega
end
section
abbrev alk (x:Rw):Rw→Bool:=fun y=>decide (y.2=x.2)
abbrev lng (n:Int):Rw→Bool:=fun r=>decide (n≤(r.2.length:Int))
def fsS (f:List Rw)(x:Rw):List Rw:=if f.any (alk x)then f else f++[x]
def fsT(L:List Rw):List Rw:=L.foldl fsS []
def grp (L:List Rw)(r:Rw):List Rw:=L.filter (alk r)
def cnG (L:List Rw):List (List Rw):=(fsT L).map (grp L)
abbrev two:List Rw→Bool:=fun g=>decide (2≤g.length)
def ens (g:List Rw):List Int:=g.map (·.1)
def cnc (L:List Rw):List (List Int):=((cnG L).filter two).map ens
theorem fsT_s (L:List Rw)(x:Rw):fsT (L++[x])=fsS (fsT L) x:=by unfold fsT;rw [List.foldl_append];rfl
theorem snoc_ind {α:Type} {p:List α→Prop} (h0:p [])(hs:∀ l x,p l→p (l++[x]))(l:List α):p l:=by
 have:∀ r:List α,p r.reverse:=fun r=>by
  induction r with
  | nil=>exact h0
  | cons x r ih=>rw [List.reverse_cons];exact hs _ _ ih
 have h:=this l.reverse
 rwa [List.reverse_reverse]at h
theorem fsT_mem {L:List Rw}:∀ r∈fsT L,r∈L:=by
 induction L using snoc_ind with
 | h0=>intro r h;cases h
 | hs L x ih =>
  intro r h
  rw [fsT_s]at h
  unfold fsS at h
  split at h
  ·exact List.mem_append_left _ (ih r h)
  ·rcases List.mem_append.1 h with h|h
   ·exact List.mem_append_left _ (ih r h)
   ·exact List.mem_append_right _ h
theorem any_snoc {L:List Rw} {y:Rw} {q:Rw→Bool}:(L++[y]).any q=(L.any q|| q y):=by rw [List.any_append];simp
theorem fsT_any (L:List Rw)(x:Rw):(fsT L).any (alk x)=L.any (alk x):=by
 induction L using snoc_ind with
 | h0=>rfl
 | hs L y ih =>
  rw [fsT_s,any_snoc,← ih]
  unfold fsS
  split
  ·rename_i h
   by_cases e:y.2=x.2
   ·have hx:(fsT L).any (alk x)=true:=by
     have:alk x=alk y:=by funext z;simp [alk,e]
     rw [this];exact h
    rw [hx];rfl
   ·have:alk x y=false:=decide_eq_false e
    rw [this,Bool.or_false]
  ·rw [any_snoc]
theorem fsT_old {L:List Rw} {x:Rw} (h:L.any (alk x)=true):fsT (L++[x])=fsT L:=by
 rw [fsT_s];unfold fsS;rw [if_pos (by rw [fsT_any];exact h)]
theorem fsT_new {L:List Rw} {x:Rw} (h:L.any (alk x)=false):fsT (L++[x])=fsT L++[x]:=by
 rw [fsT_s];unfold fsS;rw [if_neg (by rw [fsT_any,h];exact Bool.false_ne_true)]
theorem fsT_dis (L:List Rw):(fsT L).Pairwise (fun a b=>a.2≠b.2):=by
 induction L using snoc_ind with
 | h0=>exact List.Pairwise.nil
 | hs L x ih =>
  by_cases h:L.any (alk x)=true
  ·rw [fsT_old h];exact ih
  ·have h:L.any (alk x)=false:=by simpa using h
   rw [fsT_new h]
   refine List.pairwise_append.2 ⟨ih,List.pairwise_singleton _ _,fun a ha b hb=>?_⟩
   rcases List.mem_singleton.1 hb with rfl
   intro e
   rw [List.any_eq_false]at h
   exact h a (fsT_mem a ha) (decide_eq_true e)
theorem fsT_len(L:List Rw):(fsT L).length≤L.length:=by
 induction L using snoc_ind with
 | h0=>exact Nat.le_refl _
 | hs L x ih =>
  rw [fsT_s];unfold fsS
  split<;>simp<;>omega
theorem cnG_len(L:List Rw):(cnG L).length=(fsT L).length:=List.length_map _
theorem grp_len(L:List Rw)(r:Rw):(grp L r).length≤L.length:=List.length_filter_le _ _
theorem grp_head {L:List Rw}:∀ r∈fsT L,∃ t,grp L r=r::t:=by
 induction L using snoc_ind with
 | h0=>intro r h;cases h
 | hs L x ih =>
  intro r hr
  unfold grp
  rw [List.filter_append]
  by_cases h:L.any (alk x)=true
  ·rw [fsT_old h]at hr
   obtain⟨t,ht⟩:=ih r hr
   refine⟨t++[x].filter (alk r),?_⟩
   rw [show L.filter (alk r)=grp L r from rfl,ht];rfl
  ·have h:L.any (alk x)=false:=by simpa using h
   rw [fsT_new h]at hr
   rcases List.mem_append.1 hr with hr|hr
   ·obtain⟨t,ht⟩:=ih r hr
    refine⟨t++[x].filter (alk r),?_⟩
    rw [show L.filter (alk r)=grp L r from rfl,ht];rfl
   ·rcases List.mem_singleton.1 hr with rfl
    refine⟨[],?_⟩
    have e:L.filter (alk r)=[]:=by
     rw [List.filter_eq_nil_iff]
     rw [List.any_eq_false]at h
     intro a ha;exact h a ha
    rw [e,List.filter_cons_of_pos (by simp),List.filter_nil];rfl
def grI (L:List Rw)(x:Rw):Nat:=(fsT L).findIdx (alk x)
theorem grI_le(L:List Rw)(x:Rw):grI L x≤(fsT L).length:=List.findIdx_le_length
theorem grI_at {L:List Rw} {x:Rw} (h:grI L x<(fsT L).length):(fsT L)[grI L x].2=x.2:=by
 show ((fsT L)[(fsT L).findIdx (alk x)]'h).2=x.2
 exact of_decide_eq_true (List.findIdx_getElem (p:=alk x) (w:=h))
theorem grI_lt {L:List Rw} {x:Rw} {i:Nat} (h:i<grI L x) (h2:i<(fsT L).length):¬ (fsT L)[i].2=x.2:=by
 have:=List.not_of_lt_findIdx (p:=alk x) (xs:=fsT L) h
 simpa [alk] using this
theorem grI_any {L:List Rw} {x:Rw}:grI L x<(fsT L).length↔L.any (alk x)=true:=by
 rw [← fsT_any]
 unfold grI
 rw [List.findIdx_lt_length,List.any_eq_true]
theorem cnG_old {L:List Rw} {x:Rw} (h:grI L x<(fsT L).length) (h2:grI L x<(cnG L).length):cnG (L++[x])=(cnG L).set (grI L x) ((cnG L)[grI L x]++[x]):=by
 have ho:fsT (L++[x])=fsT L:=fsT_old (grI_any.1 h)
 have hx:=grI_at h
 apply List.ext_getElem
 ·rw [List.length_set,cnG_len,cnG_len,ho]
 ·intro i h1 h3
  rw [cnG_len,ho] at h1
  rw [List.getElem_set]
  simp only [cnG,List.getElem_map,ho]
  have hg:∀ r,grp (L++[x]) r=grp L r++[x].filter (alk r):=fun r=>List.filter_append ..
  rw [hg]
  split
  ·rename_i e
   subst e
   rw [List.filter_cons_of_pos (by simp [alk,hx]),List.filter_nil]
  ·rename_i e
   have hne:¬ x.2=(fsT L)[i].2:=fun e2=>by
    have hp:=List.pairwise_iff_getElem.1 (fsT_dis L)
    rcases Nat.lt_or_gt_of_ne e with hl|hl
    ·exact hp _ _ h h1 hl (by rw [hx,e2])
    ·exact hp _ _ h1 h hl (by rw [hx,e2])
   rw [List.filter_cons_of_neg (by simp [alk,hne]),List.filter_nil,List.append_nil]
theorem cnG_new {L:List Rw} {x:Rw} (h:¬ grI L x<(fsT L).length):cnG (L++[x])=cnG L++[[x]]:=by
 have hf:L.any (alk x)=false:=by
  rw [grI_any] at h;simpa using h
 have ho:fsT (L++[x])=fsT L++[x]:=fsT_new hf
 unfold cnG
 rw [ho,List.map_append]
 have hg:∀ r,grp (L++[x]) r=grp L r++[x].filter (alk r):=fun r=>List.filter_append ..
 congr 1
 ·apply List.map_congr_left
  intro r hr
  rw [hg]
  have hne:¬ x.2=r.2:=fun e=>by
   rw [List.any_eq_false] at hf
   exact hf r (fsT_mem r hr) (decide_eq_true e.symm)
  rw [List.filter_cons_of_neg (by simp [alk,hne]),List.filter_nil,List.append_nil]
 ·rw [List.map_cons,List.map_nil,hg]
  have e:grp L x=[]:=by
   unfold grp
   rw [List.filter_eq_nil_iff]
   rw [List.any_eq_false] at hf
   intro a ha;exact hf a ha
  rw [e,List.filter_cons_of_pos (by simp),List.filter_nil];rfl
theorem cnG_at {L:List Rw} {i:Nat} (h:i<(cnG L).length)(h2:i<(fsT L).length):∃ t,(cnG L)[i]=(fsT L)[i]::t:=by
 simp only [cnG,List.getElem_map]
 exact grp_head _ (List.getElem_mem h2)
end
end Go.Proofs.YtgelfflighgajaaGreatDoor
