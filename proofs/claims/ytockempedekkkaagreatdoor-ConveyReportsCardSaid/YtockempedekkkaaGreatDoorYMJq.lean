/- A piece carried over, as the reference does it: stop after stop is put, with where it comes from. Plain. -/
import Derived.LaidMore
import Derived.HandedShaped
import Derived.Stop.LaidErr
import Derived.Lay
import Derived.Test.YtockempedekkkaaGreatDoorRq5Jq
import Derived.Test.YtockempedekkkaaGreatDoorYRJq
set_option maxHeartbeats 8000000
set_option maxRecDepth 100000
set_option linter.unusedVariables false
set_option linter.unusedSimpArgs false
namespace Go.Proofs.YtockempedekkkaaGreatDoor
section
open Go.ChangeShapes Go.WideShapes Go.ChangeAt Go.RowKit
def laidR:List (String×DataW Unit):=[("math/bits.deBruijn32tab",Rows.laid_math_bits_deBruijn32tab),("math/bits.deBruijn64tab",Rows.laid_math_bits_deBruijn64tab),("internal/strconv.uint64pow10",Rows.laid_internal_strconv_uint64pow10),("unicode/utf8.acceptRanges",Rows.laid_unicode_utf8_acceptRanges),("strconv.ErrRange",Rows.laid_strconv_ErrRange),("strconv.ErrSyntax",Rows.laid_strconv_ErrSyntax),("unicode.White_Space",Rows.laid_unicode_White_Space),("strings.asciiSpace",Rows.laid_strings_asciiSpace),("unicode/utf8.first",Rows.laid_unicode_utf8_first)]
theorem ownR:ownKnob Tryz.prog.godebug=none:=by kernel_rfl
theorem starR:"*"++"errors.errorString"="*errors.errorString":=by decide
theorem rowErrR (u:TypeId) (h:Tryz.prog.typeName? 3 u=some "*errors.errorString"):u=227 :=
 typeName_ptr_named (nm:="errors.errorString") (by rw [starR];kernel_rfl) zqk (by decide) u (by rw [starR];exact h)
theorem errSynR:Tryz.prog.globalNamed "strconv.ErrSyntax"=some 3:=by kernel_rfl
theorem errRngR:Tryz.prog.globalNamed "strconv.ErrRange"=some 4:=by kernel_rfl
theorem tabR_of_laid {W:World} (h:laidMetH Tryz.prog laidR W) (hs:W.ShapedOpen Tryz.prog):tabR W (fun p=>W.cell? p):=by
 rw [MakeChecks.laidMetH_plain _ _ _ zqk] at h
 have h3:=h.tail.tail
 have h5:=h3.tail.tail
 have h6:=h5.tail
 have h8:=h6.tail.tail
 have e1:Lib.TabIs Tryz.prog W "internal/strconv.uint64pow10" .u64 Lib.pow10Tab :=
  Lib.tabIs_of_head (g:=5) (t:=222) (e:=199) (n:=20) zqk zqk Tryz.underlying222 Tryz.underlying199 zqk zqk h3
 have e2:Lib.TabIs Tryz.prog W "strings.asciiSpace" .u8 Lib.asciiSpaceTab :=
  Lib.tabIs_of_head (g:=0) (t:=104) (e:=5) (n:=256) zqk zqk Tryz.underlying104 Tryz.underlying5 zqk zqk h8
 obtain ⟨a5,s5,hv5,_⟩:=laid_sentinel h5 errRngR zqk Tryz.underlying61 rowErrR Tryz.underlying227 Tryz.underlying229 rfl rfl Tryz.underlying9 zqk zqk
 obtain ⟨a6,s6,hv6,_⟩:=laid_sentinel h6 errSynR zqk Tryz.underlying61 rowErrR Tryz.underlying227 Tryz.underlying229 rfl rfl Tryz.underlying9 zqk zqk
 refine ⟨e1,e2,cell_of_shapedOpen_int (zero:=#[.int .i64 0]) (t:=3) hs (of_decide_eq_true zqk) zqk rfl zqk zqk Tryz.underlying3,⟨?_,?_,?_⟩,⟨?_,?_,?_⟩⟩
 ·exact 227
 ·exact .pointer (some a6)
 ·have h0:=World.var?_cell errSynR hv6 0
  simpa using h0
 ·exact 227
 ·exact .pointer (some a5)
 ·have h0:=World.var?_cell errRngR hv5 0
  simpa using h0
theorem doorR_met (os:Os) (args:Array Value):laidMetH Tryz.prog laidR ((World.laidAll Tryz.prog os laidR).forCall (fun _ _=>0) ⟨#[],args,[]⟩).memory:=by
 rw [MakeChecks.laidMetH_plain _ _ _ zqk]
 exact laidMet_laidAll _ zqk zqk
theorem shapedR (os:Os):(World.laidAll Tryz.prog os laidR).Shaped Tryz.prog:=World.shaped_of_ZipB (by kernel_rfl) (by kernel_rfl)
theorem returnsR {H:Type} {enc:TypeId×Value→H} {a:Assume} {C:Checked} {os:Os} {f:FuncId} {fn:Func} {s:ChangeSpec} {conds:List PathCond} {apart fresh handsOn again:Bool} {X:World→Array Value→Prop}
  (hX:∀ (w w':World) (args:Array Value),w.heap=w'.heap→X w args→X w' args)
  (own:ownKnob C.prog.godebug=none) (started:os.Started) (noInit:C.prog.inits.idxOf? f=none) (hfn:C.prog.funcs[f]?=some fn)
  (witness:∃ (w:World) (tape:Tape) (i:Input),w.os=os∧(w.forCall tape i).Shaped C.prog∧i.vars=[]∧Input.okWide C.prog (w.forCall tape i) .any w.heap.size f i ∧
   ((s.pre enc C.prog fn conds apart (w.forCall tape i).memory i.args∧X (w.forCall tape i).memory i.args)∧sizedMet enc C.prog fn (OpenSpec.ofChange s) apart (w.forCall tape i).memory i.args)∧a.holds C.prog (lone (Frame.enter C.prog f i.args .normal) [] (w.forCall tape i)))
  (contract:∀ (W:World) (base:Nat) (args:Array Value) (ds gs:List (DataW H)) (before:List MemPlace),
   (∀ (j:Nat) t v,fn.params[j]?=some t→args[j]?=some v→Value.okWide C.prog W .any base t v) →
   DataW.Whole enc C.prog fn.params.toList s.vars apart W args.toList ds gs before→X W args→W.ShapedOpen C.prog →
   Calls C.prog f args W fun e W'=>∃ v,e=.returned v∧s.post enc C.prog fn apart fresh handsOn again W args v W') :
  ReturnsInHanded a C os f .any (fun w args=>(s.pre enc C.prog fn conds apart w args∧X w args)∧sizedMet enc C.prog fn (OpenSpec.ofChange s) apart w args) (s.post enc C.prog fn apart fresh handsOn again):=by
 refine returnsInHanded_of_calls own started noInit witness ?_
 intro w tape i _ hsh _ hok hpre _
 obtain ⟨_,_,_,fn',hfn',_,_,_,_,hval⟩:=hok
 obtain rfl:fn'=fn:=Option.some.inj (hfn'.symm.trans hfn)
 obtain ⟨⟨⟨ds,gs,before,hw,_⟩,hx⟩,_⟩:=hpre
 refine (contract (w.forCall tape i) w.heap.size i.args ds gs before hval (DataW.Whole.of_heap (w':=w.forCall tape i) (by rfl) hw) (hX _ _ _ (by rfl) hx) hsh).mono fun e W' ⟨v,he,hp⟩=>?_
 subst he
 exact ChangeSpec.post_blind hp
end
section
open Go.RowKit
def rq_nmR:List (List UInt8):=[]::rq_nmL
theorem rWords4_FS:Ctr Tryz.prog 18 [] (.ls 1 (rq_nmR.map eTx)):=by
 refine zqe Tryz.func18 Tryz.ntmps18 fun w0 F0=>?_;dsimp only [St.init,number,Nat.reduceAdd]
 repeat (first|refine W.go rfl ?_)
 (first|refine (?_:W _ _ _ _ _)|refine (?_:WL _ _ _ _ _ _)|skip)
 try dsimp only [St.put,Nat.reduceAdd]
 refine W.tr (Tr.freeze 0 rfl) ?_
 exact W.ret zqr
end
section
open Go.RowKit
section
variable {P:Program} {C:Cx} {σ:St} {o:Oper} {d:Tmp} {ops:Array Oper} {rest:List Oper} {Q:Exit→St→Prop} {mem:List Bool} {Mc:List (Nat×AO)} {nk0 k:Nat}
theorem put_row {T n i j:Nat} {rows:List (List AV)} {r l:List AV} (hr:rows[i]?=some r) (hj:j+l.length≤r.length) (hp:l.all AV.pu0=true):(AO.row T n rows).put i j l=some (.row T n (rows.set i (putL j l r))):=by
 simp only [AO.put,hr]
 rw [if_pos ⟨hj,hp⟩]
end
end
section
open Go.RowKit
section
variable {P:Program} {C:Cx} {σ:St}
theorem Tr.nilA {t:Tmp} (j n:Nat) {l l':List AV} (h:look t σ.t=some (.ag l)) (hj:l[j]?=some (.sc (.slice none 0 0))) (he:l.set j (.ls n [])=l') (hl:l.all AV.pu00=true):Tr C σ (σ.put t (.ag l')):=fun G a w ok=>by
 subst he
 have hjl:=(List.getElem?_eq_some_iff.1 hj).1
 have hall:∀ (i:Nat) x,(l.set j (.ls n []))[i]?=some x→x.pu00=true:=fun i x hx=>by
  by_cases e:j=i
  ·subst e
   rw [List.getElem?_set_self hjl] at hx
   cases hx;rfl
  ·rw [List.getElem?_set_ne e] at hx
   exact List.all_eq_true.1 hl x (List.mem_of_getElem? hx)
 refine ⟨G,ok.reslot h (.ag _ fun i x hx=>pu00_bd (hall i x hx) _) fun v hv=>?_⟩
 obtain ⟨cs,rfl,h1,h2⟩:=hv.ag_of
 refine .ag _ cs (by simpa using h1) fun i av u x y=>?_
 by_cases e:j=i
 ·subst e
  rw [List.getElem?_set_self hjl] at x
  cases x
  rw [(h2 j _ u hj y).sc_eq]
  exact .pu _ _ (.ls n [] none 0 ⟨0,0,none⟩ (fun _ _=>undef) (by simp) (by simp) (by simp) (by simp) (by simp))
 ·rw [List.getElem?_set_ne e] at x
  exact h2 i av u x y
end
end
section
open Go.RowKit
def Gh.fpk(G:Gh)(k:Nat)(φ:Nat→Prop):Gh:=⟨G.F,G.b,G.n,G.h,fun q=>if q=k then φ else G.fp q⟩
theorem fpk_le (G:Gh)(k:Nat)(φ:Nat→Prop)(nk:Nat):G.le (G.fpk k φ) nk:=⟨fun _ _ h=>h,fun _ _=>rfl,fun _ _=>rfl,fun _ _=>rfl⟩
theorem fpk_same {G:Gh} {k:Nat} {φ:Nat→Prop}:(G.fpk k φ).fp k=φ:=if_pos rfl
theorem fpk_other {G:Gh} {k q:Nat} {φ:Nat→Prop} (h:q≠k):(G.fpk k φ).fp q=G.fp q:=if_neg h
section
variable {B:World→View→Prop} {gl:Nat} {P:Program} {C:Cx} {σ σ':St} {G G':Gh} {a:Act} {w w':World} {o:Oper} {d:Tmp} {ops:Array Oper} {rest:List Oper} {Q:Exit→St→Prop}
theorem Ok.refp (ok:Ok C σ G a w) {k:Nat} {ob ob':AO} {φ:Nat→Prop} (hk:look k σ.M=some ob) (hob:ObAt (G.fpk k φ) w k ob') (hbd:ob'.bd σ.nk)
  (hφ:∀ x,φ x→C.may x∧x<w.heap.size∧(∀ i o,i≠k→look i σ.M=some o→¬ G.fp i x)∧∀ p u,G.F p=some u→p.block≠x):Ok C (σ.upd k ob') (G.fpk k φ) a w:=by
 have hl:∀ k' o,look k' (σ.upd k ob').M=some o→(k'=k∧o=ob')∨(k'≠k∧look k' σ.M=some o):=fun k' o hx=>by
  by_cases e:k'=k
  ·subst e
   rw [show look k' (σ.upd k' ob').M=some ob' from look_set_same] at hx
   cases hx
   exact .inl ⟨rfl,rfl⟩
  ·rw [show look k' (σ.upd k ob').M=look k' σ.M from look_set_other e] at hx
   exact .inr ⟨e,hx⟩
 refine ⟨ok.sz,ok.df,fun i av h=>⟨(ok.tm i av h).1,(ok.tm i av h).2.1,(ok.tm i av h).2.2.mono (fpk_le G k φ σ.nk) (ok.tm i av h).2.1⟩,ok.bel,ok.fw,ok.f0,ok.f1,fun i o h=>?_,fun i o x h1 h2=>?_,fun i o i' o' x h1 h2 h3 h4=>?_,fun i o x p u h1 h2 h3=>?_⟩
 ·rcases hl i o h with⟨rfl,rfl⟩|⟨e,y⟩
  ·exact ⟨(ok.ob i _ hk).1,hbd,hob⟩
  ·obtain ⟨a1,a2,a3⟩:=ok.ob i o y
   exact ⟨a1,a2,a3.keep (fpk_le G k φ σ.nk) a1 a2 (fpk_other e) fun _ _=>rfl⟩
 ·rcases hl i o h1 with⟨rfl,rfl⟩|⟨e,y⟩
  ·rw [fpk_same] at h2;exact ⟨(hφ x h2).1,(hφ x h2).2.1⟩
  ·rw [fpk_other e] at h2;exact ok.my i o x y h2
 ·rcases hl i o h1 with⟨rfl,rfl⟩|⟨e,y⟩
  ·rcases hl i' o' h2 with⟨rfl,rfl⟩|⟨e',y'⟩
   ·rfl
   ·rw [fpk_same] at h3
    rw [fpk_other e'] at h4
    exact absurd h4 ((hφ x h3).2.2.1 i' o' e' y')
  ·rcases hl i' o' h2 with⟨rfl,rfl⟩|⟨e',y'⟩
   ·rw [fpk_same] at h4
    rw [fpk_other e] at h3
    exact absurd h3 ((hφ x h4).2.2.1 i o e y)
   ·rw [fpk_other e] at h3
    rw [fpk_other e'] at h4
    exact ok.dj i o i' o' x y y' h3 h4
 ·rcases hl i o h1 with⟨rfl,rfl⟩|⟨e,y⟩
  ·rw [fpk_same] at h2;exact (hφ x h2).2.2.2 p u h3
  ·rw [fpk_other e] at h2;exact ok.dF i o x p u y h2 h3
theorem RowIs.open_ {F:View} {T n:Nat} {rows:List (List AV)} {v:Value} {φ:Nat→Prop} (h:RowIs w T n rows v φ (XO F w)) {i j:Nat} {r:List AV} {av:AV} (hr:rows[i]?=some r) (hj:r[j]?=some av) :
  ∃ u ψ,OW F w av u ψ∧(∀ x,ψ x→φ x)∧u.oneCell'=true∧∀ (X:Nat→Nat→(Nat→Prop)→AV→Value→Prop),(∀ χ,X i j χ av u)→(∀ q s χ y z,¬ (q=i∧s=j)→OW F w y z χ→X q s χ y z)→RowIs w T n rows v (fun x=>φ x∧¬ ψ x) X:=by
 obtain ⟨h1,vs,Φ,h2,h3,h4,h5,h6,h7,h8,h9⟩:=h
 have hi:i<rows.length:=(List.getElem?_eq_some_iff.1 hr).1
 have hv:vs[i]?=some vs[i]:=List.getElem?_eq_getElem (by omega)
 have e1:=h8 i r _ hr hv
 have hjl:j<vs[i].length:=by rw [e1];exact (List.getElem?_eq_some_iff.1 hj).1
 have hu:vs[i][j]?=some vs[i][j]:=List.getElem?_eq_getElem hjl
 refine ⟨vs[i][j],Φ i j,h9 i r _ j av _ hr hv hj hu,fun x hx=>(h6 i j x hx).1,h4 _ (List.getElem_mem _) _ (List.getElem_mem _),fun X hX hO=>?_⟩
 refine ⟨h1,vs,fun q s x=>¬ (q=i∧s=j)∧Φ q s x,h2,h3,h4,fun g hg=>⟨h5 g hg,fun hx=>(h6 i j g hx).2 hg⟩,fun q s x hx=>⟨⟨(h6 q s x hx.2).1,fun hy=>hx.1 ((h7 q s i j x hx.2 hy))⟩,(h6 q s x hx.2).2⟩,fun q s q' s' x hx hy=>h7 q s q' s' x hx.2 hy.2,h8,fun q r1 r2 s y z a1 a2 a3 a4=>?_⟩
 by_cases e:q=i∧s=j
 ·obtain ⟨rfl,rfl⟩:=e
  rw [hr] at a1;cases a1
  rw [hv] at a2;cases a2
  rw [hj] at a3;cases a3
  rw [hu] at a4;cases a4
  exact hX _
 ·have:(fun x=>¬ (q=i∧s=j)∧Φ q s x)=Φ q s:=by
   funext x
   exact propext ⟨fun hx=>hx.2,fun hx=>⟨e,hx⟩⟩
  show X q s (fun x=>¬ (q=i∧s=j)∧Φ q s x) y z
  rw [this]
  exact hO q s _ y z e (h9 q r1 r2 s y z a1 a2 a3 a4)
theorem Tr.open_ (k i j:Nat) {T n T' n' m:Nat} {rows rows':List (List AV)} {r:List AV} (hk:look k σ.M=some (.rwn T n rows)) (hr:rows[i]?=some r) (hj:r[j]?=some (.ow T' n' rows')) (hp:∀ q∈rows',∀ av∈q,av.own=false) (hm:σ.nk=m) :
  Tr C σ ((σ.new (.row T' n' rows')).upd k (.rwo T n rows i j (.sl m))):=fun G a w ok=>by
 subst hm
 obtain ⟨g1,_,g3,g4,g5⟩:=ok.ob k _ hk
 obtain ⟨u,ψ,hO,hψ,hone,hX⟩:=g5.open_ hr hj
 have hR:=hO.row
 have ok1:=ok.refp (φ:=fun x=>G.fp k x∧¬ ψ x) (ob':=.rwo T n rows i j (.sc u)) hk ⟨g3,g4,by
  rw [fpk_same]
  refine hX (XQ (G.fpk k _) w i j (.sc u)) (fun χ=>?_) fun q s χ y z hne hy=>?_
  ·unfold XQ
   rw [if_pos ⟨rfl,rfl⟩]
   exact .pu _ _ (.sc u)
  ·unfold XQ
   rw [if_neg hne]
   exact hy⟩ (.sc u) fun x hx=>⟨(ok.my k _ x hk hx.1).1,(ok.my k _ x hk hx.1).2,fun q oq hq h1 h2=>hq (ok.dj q oq k _ x h1 hk h2 hx.1),fun p v=>ok.dF k _ x p v hk hx.1⟩
 have ok2:=ok1.newObj (S:=fun _=>False) (b:=u.ownBlock.getD 0) (n:=n') (h:=u) (φ:=ψ) (ob:=.row T' n' rows') (Kept.refl _ w) (fun _ h=>h.elim) (fun _ _ _ _ _ h=>h) (fun _ _ _ h=>h)
  ⟨with_n,(fun g hg=>by rw [with_h] at hg;rw [with_b,hg];rfl),by
   rw [with_h,with_f]
   exact hR.keep (fun _ _=>rfl) fun q rr s av χ z a1 a2 _ x=>OW.p x (hp rr (List.mem_of_getElem? a1) av (List.mem_of_getElem? a2))⟩ trivial
  (fun x hx=>⟨(ok.my k _ x hk (hψ x hx)).1,(ok.my k _ x hk (hψ x hx)).2,fun q oq h1 h2=>by
   by_cases e:q=k
   ·subst e
    rw [fpk_same] at h2
    exact h2.2 hx
   ·rw [fpk_other e] at h2
    rw [show look q (σ.upd k _).M=look q σ.M from look_set_other e] at h1
    exact e (ok.dj q oq k _ x h1 hk h2 (hψ x hx)),fun p v h1=>ok.dF k _ x p v hk (hψ x hx) h1⟩)
 have hkn:k≠(σ.upd k (.rwo T n rows i j (.sc u))).nk:=Nat.ne_of_lt g1
 have hk2:look k ((σ.upd k (.rwo T n rows i j (.sc u))).new (.row T' n' rows')).M=some (.rwo T n rows i j (.sc u)):=(look_set_other hkn).trans look_set_same
 obtain ⟨b1,b2,b3,b4,b5⟩:=ok2.ob k _ hk2
 have ok3:=ok2.reob (ob':=.rwo T n rows i j (.sl σ.nk)) hk2 ⟨b1,.sl _ (Nat.lt_succ_self _),b3,b4,b5.keep (fun _ _=>rfl) fun q rr s av χ z _ _ _ x=>by
  unfold XQ at x ⊢
  by_cases e:q=i∧s=j
  ·rw [if_pos e] at x ⊢
   rw [x.sc_eq]
   exact with_sl hone
  ·rw [if_neg e] at x ⊢
   exact x⟩
 have hl:∀ q,look q ((σ.new (.row T' n' rows')).upd k (.rwo T n rows i j (.sl σ.nk))).M=look q (((σ.upd k (.rwo T n rows i j (.sc u))).new (.row T' n' rows')).upd k (.rwo T n rows i j (.sl σ.nk))).M:=fun q=>by
  by_cases e:q=k
  ·subst e;exact look_set_same.trans look_set_same.symm
  ·refine (look_set_other e).trans (Eq.trans ?_ (look_set_other e).symm)
   by_cases e2:q=σ.nk
   ·subst e2;exact look_set_same.trans look_set_same.symm
   ·exact (look_set_other e2).trans ((look_set_other e2).trans (look_set_other e)).symm
 exact ⟨_,ok3.sz,ok3.df,ok3.tm,ok3.bel,ok3.fw,ok3.f0,ok3.f1,fun q x hx=>ok3.ob q x (by rw [← hl];exact hx),fun q x y hx=>ok3.my q x y (by rw [← hl];exact hx),fun q x q' x' y hx hx'=>ok3.dj q x q' x' y (by rw [← hl];exact hx) (by rw [← hl];exact hx'),fun q x y p u hx=>ok3.dF q x y p u (by rw [← hl];exact hx)⟩
theorem Tr.close_ (k:Nat) {T n T' n' m i j:Nat} {rows rows' rows2:List (List AV)} {r:List AV} (hk:look k σ.M=some (.rwo T n rows i j (.sl m))) (hm:look m σ.M=some (.row T' n' rows')) (hkm:Nat.beq k m=false) (hr:rows[i]?=some r) (hj:j<r.length) (he:rows.set i (r.set j (.ow T' n' rows'))=rows2) :
  Tr C σ ((σ.drop m).upd k (.rwn T n rows2)):=fun G a w ok=>by
 subst he
 have hne:k≠m:=fun e=>by rw [e,Nat.beq_refl] at hkm;cases hkm
 obtain ⟨g1,_,g3,g4,g5⟩:=ok.ob k _ hk
 obtain ⟨m1,_,m3,m4,m5⟩:=ok.ob m _ hm
 have okd:=ok.drop_ m
 have hkd:look k (σ.drop m).M=some (.rwo T n rows i j (.sl m)):=by
  show look k (rem m σ.M)=_
  rw [look_rem,if_neg hne];exact hk
 have hIn:OW G.F w (.ow T' n' rows') (G.h m) (G.fp m):=(m5.keep (X':=XO G.F w) (fun _ _=>rfl) fun q rr s av χ z _ _ _ x=>.pu _ _ _ x).ow
 have hi:i<rows.length:=(List.getElem?_eq_some_iff.1 hr).1
 have hdj:∀ x,G.fp k x→G.fp m x→False:=fun x h1 h2=>hne (ok.dj k _ m _ x hk hm h1 h2)
 refine ⟨G.fpk k (fun x=>G.fp k x∨G.fp m x),okd.refp hkd ⟨g3,g4,?_⟩ trivial fun x hx=>?_⟩
 ·rw [fpk_same]
  obtain ⟨h1,vs,Φ,h2,h3,h4,h5,h6,h7,h8,h9⟩:=g5
  have key:∀ q s,(if q=i∧s=j then (fun (_:Unit)=>G.fp m) else (fun _=>Φ q s)) ()=fun x=>(q=i∧s=j∧G.fp m x)∨(¬ (q=i∧s=j)∧Φ q s x):=fun q s=>by
   by_cases e:q=i∧s=j
   ·rw [if_pos e]
    funext x
    exact propext ⟨fun h=>.inl ⟨e.1,e.2,h⟩,fun h=>h.elim (fun y=>y.2.2) fun y=>absurd e y.1⟩
   ·rw [if_neg e]
    funext x
    exact propext ⟨fun h=>.inr ⟨e,h⟩,fun h=>h.elim (fun y=>absurd ⟨y.1,y.2.1⟩ e) fun y=>y.2⟩
  refine ⟨fun q hq=>?_,vs,fun q s x=>(q=i∧s=j∧G.fp m x)∨(¬ (q=i∧s=j)∧Φ q s x),h2,by simpa using h3,h4,fun g hg=>.inl (h5 g hg),fun q s x hx=>?_,fun q s q' s' x hx hy=>?_,fun q r1 r2 a1 a2=>?_,fun q r1 r2 s y z a1 a2 a3 a4=>?_⟩
  ·rcases List.mem_or_eq_of_mem_set hq with hq|rfl
   ·exact h1 q hq
   ·rw [List.length_set];exact h1 r (List.mem_of_getElem? hr)
  ·rcases hx with⟨_,_,hx⟩|⟨_,hx⟩
   ·exact ⟨.inr hx,fun e=>hdj x (h5 x e) hx⟩
   ·exact ⟨.inl (h6 q s x hx).1,(h6 q s x hx).2⟩
  ·rcases hx with⟨e1,e2,hx⟩|⟨_,hx⟩
   ·rcases hy with⟨e3,e4,hy⟩|⟨_,hy⟩
    ·exact ⟨e1.trans e3.symm,e2.trans e4.symm⟩
    ·exact (hdj x (h6 _ _ x hy).1 hx).elim
   ·rcases hy with⟨e3,e4,hy⟩|⟨_,hy⟩
    ·exact (hdj x (h6 _ _ x hx).1 hy).elim
    ·exact h7 q s q' s' x hx hy
  ·by_cases e:i=q
   ·subst e
    rw [List.getElem?_set_self hi] at a1
    cases a1
    rw [List.length_set];exact h8 i r r2 hr a2
   ·rw [List.getElem?_set_ne e] at a1
    exact h8 q r1 r2 a1 a2
  ·show OW G.F w y z (fun x=>(q=i∧s=j∧G.fp m x)∨(¬ (q=i∧s=j)∧Φ q s x))
   rw [← key q s]
   by_cases e:i=q
   ·subst e
    rw [List.getElem?_set_self hi] at a1
    cases a1
    by_cases e2:j=s
    ·subst e2
     rw [List.getElem?_set_self hj] at a3
     cases a3
     rw [if_pos ⟨rfl,rfl⟩]
     have:=h9 i r r2 j r[j] z hr a2 (List.getElem?_eq_getElem hj) a4
     unfold XQ at this
     rw [if_pos ⟨rfl,rfl⟩] at this
     rw [this.sl_of.1]
     exact hIn
    ·rw [List.getElem?_set_ne e2] at a3
     rw [if_neg (fun h=>e2 h.2.symm)]
     have:=h9 i r r2 s y z hr a2 a3 a4
     unfold XQ at this
     rw [if_neg (fun h=>e2 h.2.symm)] at this
     exact this
   ·rw [List.getElem?_set_ne e] at a1
    rw [if_neg (fun h=>e h.1.symm)]
    have:=h9 q r1 r2 s y z a1 a2 a3 a4
    unfold XQ at this
    rw [if_neg (fun h=>e h.1.symm)] at this
    exact this
 ·have old:∀ q oq,look q σ.M=some oq→(q=k∨q=m)→G.fp q x→C.may x∧x<w.heap.size∧(∀ i o,i≠k→look i (σ.drop m).M=some o→¬ G.fp i x)∧∀ p u,G.F p=some u→p.block≠x:=fun q oq hq hkq hx=>by
   refine ⟨(ok.my q oq x hq hx).1,(ok.my q oq x hq hx).2,fun i' o' hi' h1 h2=>?_,fun p u=>ok.dF q oq x p u hq hx⟩
   obtain ⟨d1,d2⟩:=drop_look h1
   have:=ok.dj i' o' q oq x d2 hq h2 hx
   rcases hkq with e|e
   ·exact hi' (this.trans e)
   ·exact d1 (this.trans e)
  rcases hx with hx|hx
  ·exact old k _ hk (.inl rfl) hx
  ·exact old m _ hm (.inr rfl) hx
def stQV (P:Program)(σ:St):Op→Option (Nat×TypeId×Nat×List (List AV)×Nat×Nat×AV)
 | .store T x y =>
  match σ.ev x,σ.ev y with
  | some (.pt k i j),some av =>
   match sizeB P T,look k σ.M with
   | some 1,some (.rwn T' n rows)=>bif av.oneB then some (k,T',n,rows,i,j,av)else none
   | _,_=>none
  | _,_=>none
 | _=>none
def stRV (P:Program)(σ:St):Op→Option (Nat×TypeId×Nat×List (List AV)×Nat×Nat×Nat×Nat×AV)
 | .store T x y =>
  match σ.ev x,σ.ev y with
  | some (.pt k i j),some av =>
   match sizeB P T,look k σ.M with
   | some 1,some (.rwo T' n rows hi hj _)=>bif av.oneB then some (k,T',n,rows,i,j,hi,hj,av)else none
   | _,_=>none
  | _,_=>none
 | _=>none
theorem WV.ldQ {T T' n:Nat} {x:Operand} {k i j:Nat} {rows:List (List AV)} {r:List AV} {av:AV} (ho:o.op=.load T x) (hT:aggB P T=some false) (hx:σ.ev x=some (.pt k i j)) (hk:look k σ.M=some (.rwo T' n rows i j av)) (hr:rows[i]?=some r) (hj:j<r.length):WV P C o σ av :=
 WV.val (fun G a w ok=>(ok.ob k _ hk).2.1) fun G a w ok=>by
  obtain ⟨p,e,h1,h2,h3⟩:=(ok.evr hx).2.pt_of
  obtain rfl:=addr_eq h1 h2 h3
  obtain ⟨hn,hg,hR⟩:=(ok.ob k _ hk).2.2
  obtain ⟨u,hu,ψ,hX⟩:=hR.cell_at hg hr (List.getElem?_eq_getElem hj)
  unfold XQ at hX
  rw [if_pos ⟨rfl,rfl⟩] at hX
  rw [← hn] at hu
  exact ⟨u,by unfold execOp;simp [ho,e,run_load1 hT hu],hX⟩
def ldqV (P:Program)(σ:St):Op→Option (List (List AV)×Nat×Nat×Nat×Nat×AV)
 | .load T x =>
  match aggB P T,σ.ev x with
  | some false,some (.pt k i j) =>
   match look k σ.M with
   | some (.rwo _ _ rows hi hj av)=>some (rows,i,j,hi,hj,av)
   | _=>none
  | _,_=>none
 | _=>none
theorem ldqV_O {rows:List (List AV)} {i j hi hj:Nat} {r:List AV} {av:AV} (h:ldqV P σ o.op=some (rows,i,j,hi,hj,av))(e1:i=hi)(e2:j=hj)(hr:rows[i]?=some r)(hjr:j<r.length):WV P C o σ av:=by
 subst e1 e2
 unfold ldqV at h
 split at h
 ·rename_i T x ho
  split at h
  ·rename_i k i' j' hT hx
   split at h
   ·rename_i T' n rows' hi' hj' av' hk
    cases h
    exact WV.ldQ ho hT hx hk hr hjr
   ·cases h
  ·cases h
 ·cases h
theorem WL.ldQ {rows:List (List AV)} {i j hi hj:Nat} {r:List AV} {av:AV} (hd:dstB C.N o=some d)(h:ldqV P σ o.op=some (rows,i,j,hi,hj,av))(e1:i=hi)(e2:j=hj)(hr:rows[i]?=some r)(hjr:j<r.length)(k:WL P C ops rest (σ.put d av) Q):WL P C ops (o::rest) σ Q:=WL.vl hd (ldqV_O h e1 e2 hr hjr) k
def Lent (C:Cx)(σ:St)(av av':AV):Prop:=∀ G a w,Ok C σ G a w→∀ v,R G av v→RP (fun q=>w.cell? q) av' v
inductive Lents (C:Cx) (σ:St):List AV→List AV→Prop
 | nil:Lents C σ [] []
 | cons {x y:AV} {l m:List AV}:Lent C σ x y→Lents C σ l m→Lents C σ (x::l) (y::m)
theorem Lents.at_ {l m:List AV} (h:Lents C σ l m):l.length=m.length∧∀ (i:Nat)y,m[i]?=some y→∃ x,l[i]?=some x∧Lent C σ x y:=by
 induction h with
 | nil=>exact⟨rfl,fun i y hy=>by simp at hy⟩
 | cons h1 _ ih =>
  refine⟨by simp [ih.1],fun i y hy=>?_⟩
  cases i with
  | zero=>cases hy;exact⟨_,rfl,h1⟩
  | succ i=>exact ih.2 i y (by simpa using hy)
theorem Lent.pu {av:AV} (hp:av.pu2=true):Lent C σ av av:=fun G a w ok v h=>RP.mono (fun p u x=>ok.fw p u x) ((pu2_bd hp 0).rp h)
theorem Lent.row {k T n:Nat} {rows:List (List AV)} (hk:look k σ.M=some (.row T n rows)):Lent C σ (.sl k) (.ls n rows):=fun G a w ok v h=>by
 rw [h.sl_of.1]
 obtain ⟨_,_,hob⟩:=ok.ob k _ hk
 have:=RowIs.fix (F':=fun q=>w.cell? q) id hob.2.2 (fun _ _=>rfl) fun i r j av u ψ _ _ _ x=>RP.mono (fun p u x=>ok.fw p u x) x
 simpa using this
theorem Lent.rwn (dp:Nat) {k T n:Nat} {rows rows':List (List AV)} (hk:look k σ.M=some (.rwn T n rows)) (hs:∀ r∈rows,∀ av∈r,av.shal dp=true) (hr:(rows.map fun r=>r.map (AV.fz dp))=rows'):Lent C σ (.sl k) (.ls n rows'):=fun G a w ok v h=>by
 rw [h.sl_of.1,← hr]
 obtain ⟨_,_,hob⟩:=ok.ob k _ hk
 exact RowIs.fix (F':=fun q=>w.cell? q) (AV.fz dp) hob.2.2 (fun _ _=>rfl) fun i r j av u ψ hr hav hψ x=>OW.fix (fun p u x=>ok.fw p u x) dp x (fun _ _=>rfl) (hs r (List.mem_of_getElem? hr) av (List.mem_of_getElem? hav))
theorem RowIs.fixQ {T n:Nat} {rows rows':List (List AV)} {v:Value} {φ:Nat→Prop} {X:Nat→Nat→(Nat→Prop)→AV→Value→Prop} {F':View} (h:RowIs w T n rows v φ X)(hl:rows'.length=rows.length)(hln:∀ r∈rows',r.length=n)
  (hX:∀ (i:Nat) r (j:Nat) av u ψ,rows'[i]?=some r→r[j]?=some av→(∀ r0 av0,rows[i]?=some r0→r0[j]?=some av0→X i j ψ av0 u)→RP F' av u)(hF:∀ p,φ p.block→F' p=w.cell? p):RP F' (.ls n rows') v:=by
 have hrl:=h.1
 have h':RowIs w T n rows' v φ (fun i j ψ av u=>∀ r0 av0,rows[i]?=some r0→r0[j]?=some av0→X i j ψ av0 u):=by
  obtain⟨h1,vs,Φ,h2,h3,h4,h5,h6,h7,h8,h9⟩:=h
  refine⟨hln,vs,Φ,h2,by rw [hl];exact h3,h4,h5,h6,h7,fun i r r' a1 a2=>?_,fun i r r' j av u a1 a2 a3 a4 r0 av0 b1 b2=>h9 i r0 r' j av0 u b1 a2 b2 a4⟩
  have hi:i<rows.length:=by rw [← hl];exact (List.getElem?_eq_some_iff.1 a1).1
  have e0:=h8 i rows[i] r' (List.getElem?_eq_getElem hi) a2
  rw [e0,hln r (List.mem_of_getElem? a1)]
  exact hrl _ (List.getElem_mem _)
 have:=RowIs.fix (F':=F') id h' hF fun i r j av u ψ hr hav _ x=>hX i r j av u ψ hr hav x
 simpa using this
theorem Lent.rwo (dp:Nat) {k T n i j:Nat} {rows rows':List (List AV)} {r:List AV} {x x':AV} (hk:look k σ.M=some (.rwo T n rows i j x)) (hx:Lent C σ x x') (hs:∀ r∈rows,∀ av∈r,av.shal dp=true) (hr:rows[i]?=some r) (hj:j<r.length)
  (he:(rows.map fun r=>r.map (AV.fz dp)).set i ((r.map (AV.fz dp)).set j x')=rows'):Lent C σ (.sl k) (.ls n rows'):=fun G a w ok v h=>by
 rw [h.sl_of.1,← he]
 obtain ⟨_,_,hob⟩:=ok.ob k _ hk
 have hi:i<rows.length:=(List.getElem?_eq_some_iff.1 hr).1
 have hrl:=hob.2.2.1
 refine RowIs.fixQ hob.2.2 (by simp) (fun q hq=>?_) (fun q r1 s av u ψ a1 a2 a3=>?_) (fun _ _=>rfl)
 ·rcases List.mem_or_eq_of_mem_set hq with hq|rfl
  ·obtain ⟨r0,h0,rfl⟩:=List.mem_map.1 hq
   rw [List.length_map];exact hrl r0 h0
  ·rw [List.length_set,List.length_map];exact hrl r (List.mem_of_getElem? hr)
 ·by_cases e:i=q
  ·subst e
   rw [List.getElem?_set_self (by simpa using hi)] at a1
   cases a1
   by_cases e2:j=s
   ·subst e2
    rw [List.getElem?_set_self (by simpa using hj)] at a2
    cases a2
    have:=a3 r r[j] hr (List.getElem?_eq_getElem hj)
    unfold XQ at this
    rw [if_pos ⟨rfl,rfl⟩] at this
    exact hx G a w ok u this
   ·rw [List.getElem?_set_ne e2,List.getElem?_map] at a2
    cases h0:r[s]? with
    | none=>simp [h0] at a2
    | some av0 =>
     simp only [h0,Option.map_some,Option.some.injEq] at a2
     subst a2
     have:=a3 r av0 hr h0
     unfold XQ at this
     rw [if_neg (fun h=>e2 h.2.symm)] at this
     exact OW.fix (fun p u x=>ok.fw p u x) dp this (fun _ _=>rfl) (hs r (List.mem_of_getElem? hr) av0 (List.mem_of_getElem? h0))
  ·rw [List.getElem?_set_ne e,List.getElem?_map] at a1
   cases h0:rows[q]? with
   | none=>simp [h0] at a1
   | some r0 =>
    simp only [h0,Option.map_some,Option.some.injEq] at a1
    subst a1
    rw [List.getElem?_map] at a2
    cases h1:r0[s]? with
    | none=>simp [h1] at a2
    | some av0 =>
     simp only [h1,Option.map_some,Option.some.injEq] at a2
     subst a2
     have:=a3 r0 av0 h0 h1
     unfold XQ at this
     rw [if_neg (fun h=>e h.1.symm)] at this
     exact OW.fix (fun p u x=>ok.fw p u x) dp this (fun _ _=>rfl) (hs r0 (List.mem_of_getElem? h0) av0 (List.mem_of_getElem? h1))
theorem Lent.ag {l m:List AV} (h:Lents C σ l m):Lent C σ (.ag l) (.ag m):=fun G a w ok v hv=>by
 obtain ⟨cs,rfl,h1,h2⟩:=hv.ag_of
 obtain ⟨q1,q2⟩:=h.at_
 refine .ag _ cs zqo fun i av u x y=>?_
 obtain ⟨b,hb,hL⟩:=q2 i av x
 exact hL G a w ok u (h2 i b u hb y)
theorem WV.lendX (hB:Holds B gl C) {f:FuncId} {xs:Array Operand} {ts:Array TypeId} {args args':List AV} {res:Value} (ho:o.op=.call { callee:=.value (.func f),args:=xs,argTypes:=ts }) (hc:∀ vs w,(callFunc f vs).run P w=.ok (.enter f vs) w)
  (hx:σ.evs xs.toList=some args) (hl:Lents C σ args args') (hst:∀ w F F',View.le F F'→B w F→B w F') (h:Ctg B P f args' (.sc res)):WV P C o σ (.sc res):=by
 intro G a w ok N Q' hN
 obtain ⟨e1,e2⟩:=ok.evl hx
 obtain ⟨q1,q2⟩:=hl.at_
 have hF:G.F.le fun q=>w.cell? q:=fun p u x=>ok.fw p u x
 have hcalls:=h w (fun q=>w.cell? q) (xs.toList.map a.eval) (hst w _ _ hF (hB.1 w G.F ok.bel ok.f0)) (fun _ _ x=>x) ⟨by rw [e1,q1],fun i av u p q=>by
  obtain ⟨b,hb,hL⟩:=q2 i av p
  exact hL G a w ok u (e2 i b u hb q)⟩
 unfold Oper.wp execOp
 have ev:a.eval (.func f)=.func (.func f) #[] #[]:=rfl
 have e3:(#[]++xs.map a.eval++#[]:Array Value)=(xs.toList.map a.eval).toArray:=by apply Array.ext';simp
 simp only [ho,resolve,ev,Deferred.ofValue,invoke,Sem.run_bind,Sem.run_pure,Result.andThen_ok,hc,Oper.upon,e3]
 refine hcalls.mono fun e w1 ⟨v,F',he,hb,h1,h2,h3,h4⟩=>?_
 subst he
 have hv:=h4.sc_eq
 subst hv
 exact hN _ { G with F:=G.F } w1 (fun σ'' a'' ok''=>ok''.called hb (fun _ _ x=>x) (fun p u x=>by rw [hb.cell (cell_block (ok.fw p u x))];exact ok.fw p u x) (fun _ _ x=>.inl x)) (.pu _ _ (.sc _)) (RP.bd (F:=G.F) (.sc _) _)
end
end
section
open Go.RowKit
section
variable {P:Program} {C:Cx} {σ:St} {G:Gh} {a:Act} {w:World} {o:Oper} {d:Tmp} {ops:Array Oper} {rest:List Oper} {Q:Exit→St→Prop}
theorem WO.buildO {T e n q:Nat} {z:Value} {parts:Array (Nat×Operand)} {x0:Operand} {av0 y0:AV} {j0:Nat} (ho:o.op=.buildSlice T 1 parts) (hT:P.underlying T=some (.slice e)) (hn:sizeB P e=some n) (hz:(P.info? e).bind (·.zero)=some z)
  (hp:parts.toList=number 0 [x0]) (hb:Nat.ble (1*n) 16777216=true) (hds:o.dst=some d) (hd:Nat.blt d C.N=true) (hx:σ.ev x0=some av0) (hcB:av0.cellB=true) (hcl:av0.cells.length=n) (hc1:av0.cells.all AV.oneB=true) (hcj:av0.cells[j0]?=some y0) (hc0:∀ s x,s≠j0→av0.cells[s]?=some x→x.pu0=true) (hq:σ.nk=q) :
  WO P C o σ ((σ.new (.rwo e n [av0.cells] 0 j0 y0)).put d (.sl q)):=by
 intro G a w ok N Q' hN
 obtain ⟨hbd,hr⟩:=ok.evr hx
 obtain ⟨c1,c2⟩:=cells_of hr hcB
 have hv:(a.eval x0).cells.size=n:=c1.trans hcl
 have hrun:=run_buildS (P:=P) (T:=T) (e:=e) (n:=n) (m:=1) (vs:=[a.eval x0]) (parts:=parts.map fun (i,x)=>(i,a.eval x)) hT hn hz (by
  have:=number_map a.eval 0 [x0]
  rw [← hp] at this
  simpa using this) rfl (fun v hv'=>by obtain rfl:=List.mem_singleton.1 hv';exact hv) (Nat.le_of_ble_eq_true hb) w
 have hfl:(([a.eval x0]).map fun v=>v.cells.toList).flatten=(a.eval x0).cells.toList:=by simp
 have hown:=own_built w e n 1 (([a.eval x0]).map fun v=>v.cells.toList).flatten.toArray (by unfold maxLen;omega) (by
  rw [hfl,Array.toArray_toList,hv];omega)
 have honeR:∀ r∈[(a.eval x0).cells.toList],∀ u∈r,u.oneCell'=true:=fun r hr' u hu=>by
  obtain rfl:=List.mem_singleton.1 hr'
  obtain ⟨j,hj,rfl⟩:=List.getElem_of_mem hu
  have hj2:j<av0.cells.length:=by rw [← c1];simpa using hj
  exact oneB_of (c2 j _ _ (List.getElem?_eq_getElem hj2) (by simp at hj;simp [hj])) (List.all_eq_true.1 hc1 _ (List.getElem_mem hj2))
 have hsl:(.slice (some ⟨w.heap.size,0,none⟩) 1 1:Value).ownBlock=some w.heap.size:=rfl
 have hy:Bd σ.nk y0:=cells_bd hbd j0 y0 hcj
 have ok':=ok.newObj (w':=w.alloc (.cells (([a.eval x0]).map fun v=>v.cells.toList).flatten.toArray e)) (S:=fun _=>False) (b:=w.heap.size) (n:=n) (h:=.slice (some ⟨w.heap.size,0,none⟩) 1 1) (φ:=fun x=>x=w.heap.size) (ob:=.rwo e n [av0.cells] 0 j0 y0)
  (Kept.below ((Below.refl _ _).alloc (Nat.le_refl _) _)) (fun _ h=>h.elim) (fun _ _ _ _ _ h=>h) (fun _ _ _ h=>h)
  ⟨with_n,(fun g hg=>by rw [with_h,hsl] at hg;rw [with_b];exact (Option.some.inj hg).symm),by
   rw [with_h,with_f]
   refine ⟨fun r hr'=>by obtain rfl:=List.mem_singleton.1 hr';exact hcl,[(a.eval x0).cells.toList],fun _ _ _=>False,?_,rfl,honeR,fun g hg=>by rw [hsl] at hg;exact (Option.some.inj hg).symm,
    fun _ _ _ h=>h.elim,fun _ _ _ _ _ h=>h.elim,fun i r r' h1 h2=>?_,fun i r r' j av u h1 h2 h3 h4=>?_⟩
   ·exact own_weaken (by simpa using hown) (Nat.zero_le _)
   ·cases i with
    | zero=>cases h1;cases h2;simpa using c1
    | succ i=>simp at h1
   ·cases i with
    | succ i=>simp at h1
    | zero =>
     cases h1;cases h2
     have hR:=c2 j av u h3 (by simpa using h4)
     unfold XQ
     by_cases e:j=j0
     ·subst e
      rw [if_pos ⟨rfl,rfl⟩]
      rw [hcj] at h3
      cases h3
      exact hR.mono (G.with_le σ.nk _ _ _ _) hy
     ·rw [if_neg (fun h=>e h.2)]
      exact .pu _ _ _ (show RP G.F av u from (pu0_bd (hc0 j av e h3) 0).rp hR)⟩ (hy.mono (Nat.le_succ _)) (fun x hx=>by
   obtain rfl:x=w.heap.size:=hx
   refine ⟨.inl ok.bel.size,by simp,fun k o h1 h2=>?_,fun p u h1 h2=>?_⟩
   ·have:=(ok.my k o _ h1 h2).2;omega
   ·have:=cell_block (ok.fw p u h1);omega)
 unfold Oper.wp execOp
 simp only [ho,Sem.run_bind,hrun,Result.andThen_ok,Sem.run_pure,Oper.upon]
 rw [hds]
 subst hq
 exact hN _ _ _ (ok'.set (d:=some d) (av:=.sl σ.nk) (v:=.slice (some ⟨w.heap.size,0,none⟩) 1 1) (with_sl rfl) (.sl _ (Nat.lt_succ_self _)) fun x hx=>by cases hx;exact of_blt hd)
structure BdD where
 e:TypeId
 n:Nat
 cells:List AV
def bdoV (P:Program) (σ:St):Op→Option BdD
 | .buildSlice T 1 ⟨[(0,x)]⟩ =>
  match P.underlying T,σ.ev x with
  | some (.slice e),some av =>
   match sizeB P e,(P.info? e).bind (·.zero) with
   | some n,some _=>bif av.cellB && Nat.beq av.cells.length n && av.cells.all AV.oneB && Nat.ble (1*n) 16777216 then some ⟨e,n,av.cells⟩ else none
   | _,_=>none
  | _,_=>none
 | _=>none
def pu0But (j:Nat):Nat→List AV→Bool
 | _,[]=>true
 | s,x::r=>(Nat.beq s j|| x.pu0) && pu0But j (s+1) r
theorem pu0But_at {j:Nat}:∀ {l:List AV} {s:Nat},pu0But j s l=true→∀ i x,s+i≠j→l[i]?=some x→x.pu0=true
 | [],s,_,i,x,_,h=>by simp at h
 | y::r,s,hp,i,x,hi,h=>by
  simp only [pu0But,Bool.and_eq_true,Bool.or_eq_true] at hp
  cases i with
  | zero =>
   cases h
   rcases hp.1 with e|e
   ·exact absurd (Nat.eq_of_beq_eq_true e) hi
   ·exact e
  | succ i=>exact pu0But_at hp.2 i x (by omega) (by simpa using h)
theorem WL.bdO {x:BdD} {t:List (Nat×AV)} {M:List (Nat×AO)} {nk:Nat} (j:Nat) {y:AV} (hd:dstB C.N o=some d) (h:bdoV P ⟨t,M,nk⟩ o.op=some x) (hj:x.cells[j]?=some y) (hp:pu0But j 0 x.cells=true)
  (k:WL P C ops rest ⟨(d,.sl nk)::t,(nk,.rwo x.e x.n [x.cells] 0 j y)::M,nk+1⟩ Q):WL P C ops (o::rest) ⟨t,M,nk⟩ Q:=by
 obtain ⟨hg,hds,hdb⟩:=dstB_of hd
 refine WL.op hg ?_ k
 unfold bdoV at h
 split at h
 ·rename_i T x0 ho
  split at h
  ·rename_i e av hT hx
   split at h
   ·rename_i n z hn hz
    cases hb:av.cellB && Nat.beq av.cells.length n && av.cells.all AV.oneB && Nat.ble (1*n) 16777216 with
    | false=>rw [hb] at h;cases h
    | true =>
     rw [hb] at h
     cases h
     simp only [Bool.and_eq_true] at hb
     obtain ⟨⟨⟨b1,b2⟩,b3⟩,b4⟩:=hb
     exact WO.buildO (σ:=⟨t,M,nk⟩) ho hT hn hz rfl b4 hds hdb hx b1 (Nat.eq_of_beq_eq_true b2) b3 hj (fun s x hs hx=>pu0But_at hp s x zqo hx) rfl
   ·cases h
  ·cases h
 ·cases h
structure ApmD where
 T:TypeId
 n:Nat
 k:Nat
 q:Nat
 a:List (List AV)
 b:List (List AV)
def apmV (P:Program) (σ:St):Op→Option ApmD
 | .call { callee:=.builtin .append,args:=⟨[x,y]⟩,argTypes:=⟨[T,T']⟩ } =>
  match P.underlying T,σ.ev x,σ.ev y with
  | some (.slice e),some (.sl k),some (.sl q) =>
   match P.info? e,look k σ.M,look q σ.M with
   | some i,some (.rwn e' n rows),some (.rwn _ n' rows2) =>
    match i.zero with
    | some z=>bif Nat.beq T T' && Nat.beq e e' && Nat.beq n n' && Nat.beq i.size n && Nat.beq z.cells.size n && Nat.blt 0 n && Nat.ble i.bytes 100000 && !Nat.beq k q then some ⟨e,n,k,q,rows,rows2⟩else none
    | _=>none
   | _,_,_=>none
  | _,_,_=>none
 | _=>none
theorem WL.apM {x:ApmD} {t:List (Nat×AV)} {M M1 M':List (Nat×AO)} {nk:Nat} (hd:dstB C.N o=some d) (h:apmV P ⟨t,M,nk⟩ o.op=some x) (hM:remS x.k M=some M1) (hM2:remS x.q M1=some M') (hl:x.a.length+x.b.length≤1000000000)
  (k:WL P C ops rest ⟨(d,.sl nk)::t,(nk,.rwn x.T x.n (x.a++x.b))::M',nk+1⟩ Q):WL P C ops (o::rest) ⟨t,M,nk⟩ Q:=by
 rw [remS_eq hM2,remS_eq hM] at k
 obtain ⟨hg,hds,hdb⟩:=dstB_of hd
 refine WL.op hg ?_ k
 unfold apmV at h
 split at h
 ·rename_i x0 y0 T T' ho
  split at h
  ·rename_i e k' q' hT hx hy
   split at h
   ·rename_i i e' n rows e2 n' rows2 hi hk hq
    split at h
    ·rename_i z hz
     cases hb:Nat.beq T T' && Nat.beq e e' && Nat.beq n n' && Nat.beq i.size n && Nat.beq z.cells.size n && Nat.blt 0 n && Nat.ble i.bytes 100000 && !Nat.beq k' q' with
     | false=>rw [hb] at h;cases h
     | true =>
      rw [hb] at h
      simp only [Bool.and_eq_true,Bool.not_eq_true'] at hb
      cases h
      obtain ⟨⟨⟨⟨⟨⟨⟨b1,b2⟩,b3⟩,b4⟩,b5⟩,b6⟩,b7⟩,b8⟩:=hb
      obtain rfl:=Nat.eq_of_beq_eq_true b1
      obtain rfl:=Nat.eq_of_beq_eq_true b2
      obtain rfl:=Nat.eq_of_beq_eq_true b3
      exact WO.appendM (σ:=⟨t,M,nk⟩) ho hT hi hz (Nat.eq_of_beq_eq_true b4) rfl (Nat.eq_of_beq_eq_true b5) b6 hds hdb hx hk hy hq b8 rfl hl b7 rfl
    ·cases h
   ·cases h
  ·cases h
 ·cases h
end
end
section
open Go.RowKit
def AV.frb0 (k:Nat)(cells0:List AV):AV→AV
 | .pt q 0 j=>bif Nat.beq q k then .pr (cells0.drop j)else .pt q 0 j
 | av=>av
def AV.frb1 (k:Nat)(cells0:List AV):AV→AV
 | .fn f l=>.fn f (l.map (AV.frb0 k cells0))
 | av=>av.frb0 k cells0
def AV.frb2 (k:Nat)(cells0:List AV):AV→AV
 | .ag l=>.ag (l.map (AV.frb1 k cells0))
 | av=>av.frb1 k cells0
def AV.frb (k:Nat)(cells0:List AV):AV→AV
 | .tu l=>.tu (l.map (AV.frb2 k cells0))
 | av=>av.frb2 k cells0
def AO.frb (k:Nat)(cells0:List AV):AO→AO
 | .box T cells=>.box T (cells.map (AV.frb1 k cells0))
 | .rof T m rs hi hj x=>.rof T m rs hi hj (x.frb1 k cells0)
 | .rwo T m rs hi hj x=>.rwo T m rs hi hj (x.frb1 k cells0)
 | ob=>ob
def St.freezeB (σ:St) (k:Nat) (cells0:List AV):St:=⟨mapS (AV.frb k cells0) σ.t,mapS (AO.frb k cells0) (rem k σ.M),σ.nk⟩
def PtPr (G:Gh) (k:Nat) (cells0:List AV):Prop:=∀ (j:Nat) (p:Addr),p.block=G.b k→p.off=j→p.spot=none→R G (.pr (cells0.drop j)) (.pointer (some p))
section
variable {P:Program} {C:Cx} {σ σ':St} {G G':Gh} {a:Act} {w w':World} {o:Oper} {d:Tmp}
section
variable {k nk:Nat} {cells0:List AV} {av:AV} {v:Value}
theorem frb0_R (h:PtPr G k cells0)(r:R G av v):R G (av.frb0 k cells0) v:=by
 cases av with
 | pt q i j =>
  cases i with
  | zero =>
   simp only [AV.frb0]
   cases e:Nat.beq q k with
   | true =>
    obtain rfl:=Nat.eq_of_beq_eq_true e
    obtain⟨p,rfl,h1,h2,h3⟩:=r.pt_of
    exact h j p h1 (by rw [h2];simp) h3
   | false=>exact r
  | succ i=>exact r
 | _=>exact r
theorem frb0_bd (b:Bd nk av):Bd nk (av.frb0 k cells0):=by
 cases av with
 | pt q i j =>
  cases i with
  | zero =>
   simp only [AV.frb0]
   cases e:Nat.beq q k with
   | true=>exact .pr _
   | false=>exact b
  | succ i=>exact b
 | _=>exact b
theorem frb1_R (h:PtPr G k cells0)(r:R G av v):R G (av.frb1 k cells0) v:=by
 cases av with
 | fn f l =>
  obtain⟨cs,rfl,h1,h2⟩:=r.fn_of
  obtain⟨q1,q2⟩:=list_R h1 h2 fun _ _=>frb0_R h
  exact .fn f _ cs q1 q2
 | pt q i j=>exact frb0_R (av:=.pt q i j) h r
 | _=>exact r
theorem frb1_bd (b:Bd nk av):Bd nk (av.frb1 k cells0):=by
 cases av with
 | fn f l=>cases b with|fn _ _ hb=>exact .fn f _ (list_bd hb fun _=>frb0_bd)
 | pt q i j=>exact frb0_bd (av:=.pt q i j) b
 | _=>exact b
theorem frb2_R (h:PtPr G k cells0)(r:R G av v):R G (av.frb2 k cells0) v:=by
 cases av with
 | ag l =>
  obtain⟨cs,rfl,h1,h2⟩:=r.ag_of
  obtain⟨q1,q2⟩:=list_R h1 h2 fun _ _=>frb1_R h
  exact .ag _ cs q1 q2
 | fn f l=>exact frb1_R (av:=.fn f l) h r
 | pt q i j=>exact frb0_R (av:=.pt q i j) h r
 | _=>exact r
theorem frb2_bd (b:Bd nk av):Bd nk (av.frb2 k cells0):=by
 cases av with
 | ag l=>cases b with|ag _ hb=>exact .ag _ (list_bd hb fun _=>frb1_bd)
 | fn f l=>exact frb1_bd (av:=.fn f l) b
 | pt q i j=>exact frb0_bd (av:=.pt q i j) b
 | _=>exact b
theorem frb_R (h:PtPr G k cells0)(r:R G av v):R G (av.frb k cells0) v:=by
 cases av with
 | tu l =>
  obtain⟨cs,rfl,h1,h2⟩:=r.tu_of
  obtain⟨q1,q2⟩:=list_R h1 h2 fun _ _=>frb2_R h
  exact .tu _ cs q1 q2
 | ag l=>exact frb2_R (av:=.ag l) h r
 | fn f l=>exact frb1_R (av:=.fn f l) h r
 | pt q i j=>exact frb0_R (av:=.pt q i j) h r
 | _=>exact r
theorem frb_bd (b:Bd nk av):Bd nk (av.frb k cells0):=by
 cases av with
 | tu l=>cases b with|tu _ hb=>exact .tu _ (list_bd hb fun _=>frb2_bd)
 | ag l=>exact frb2_bd (av:=.ag l) b
 | fn f l=>exact frb1_bd (av:=.fn f l) b
 | pt q i j=>exact frb0_bd (av:=.pt q i j) b
 | _=>exact b
theorem frb1_C {φ:Nat→Prop} (h:PtPr G k cells0)(r:CR G w φ av v):CR G w φ (av.frb1 k cells0) v:=by
 rcases r with r|o
 ·exact .inl (frb1_R h r)
 ·by_cases ho:av.own=true
  ·cases av with
   | ow T n rows=>exact .inr o
   | _=>cases ho
  ·exact .inl (frb1_R h (.pu _ _ (OW.p o (by simpa using ho))))
end
theorem Tr.freezeB (k:Nat) {T:TypeId} {cells0:List AV} (hk:look k σ.M=some (.box T cells0)) (hp0:(cells0.all fun av=>(av.pu2 && !av.own) && av.oneB)=true):Tr C σ (σ.freezeB k cells0):=fun G a w ok=>by
 obtain ⟨hkn,_,hob⟩:=ok.ob k _ hk
 classical
 let F':View:=fun p=>if G.fp k p.block then w.cell? p else G.F p
 have hF:G.F.le F':=fun p u h=>by
  show (if _ then _ else _)=_
  rw [if_neg (fun e=>ok.dF k _ p.block p u hk e h rfl)];exact h
 have hFn:∀ p u,F' p=some u→G.F p=some u∨(G.fp k p.block∧w.cell? p=some u):=fun p u h=>by
  have h:(if G.fp k p.block then w.cell? p else G.F p)=some u:=h
  by_cases e:G.fp k p.block
  ·rw [if_pos e] at h;exact .inr ⟨e,h⟩
  ·rw [if_neg e] at h;exact .inl h
 have hle:G.le { G with F:=F' } σ.nk:=⟨hF,fun _ _=>rfl,fun _ _=>rfl,fun _ _=>rfl⟩
 have hls':PtPr { G with F:=F' } k cells0:=by
  intro j p h1 h2 h3
  obtain ⟨g1,cs,Φ,g2,g3,_,_,g6⟩:=hob
  have hpe:∀ i,p.add i=⟨G.b k,j+i,none⟩:=fun i=>by
   obtain ⟨pb,po,ps⟩:=p
   dsimp only at h1 h2 h3
   subst h1 h2 h3
   simp [Addr.add]
  have hcell:∀ i av,(cells0.drop j)[i]?=some av→∃ u,cs[j+i]?=some u∧w.cell? (p.add i)=some u∧u.oneCell'=true∧RP G.F av u:=fun i av hi=>by
   rw [List.getElem?_drop] at hi
   have hlt:j+i<cells0.length:=(List.getElem?_eq_some_iff.1 hi).1
   have hcs:cs[j+i]?=some (cs[j+i]'(by omega)):=Array.getElem?_eq_getElem _
   have hpu:=List.all_eq_true.1 hp0 av (List.mem_of_getElem? hi)
   rw [Bool.and_eq_true,Bool.and_eq_true] at hpu
   have hr:=(g6 (j+i) av _ hi hcs).r (by simpa using hpu.1.2)
   exact ⟨_,hcs,by rw [hpe,g2.cell,hcs],oneB_of hr hpu.2,(pu2_bd hpu.1.1 0).rp hr⟩
  classical
  refine .pu _ _ (.pr _ p (fun i=>cs.getD (j+i) undef) (fun i av hi=>?_) fun i av hi=>?_)
  ·obtain ⟨u,q1,q2,q3,q4⟩:=hcell i av hi
   rw [show cs.getD (j+i) undef=u by rw [Array.getD_eq_getD_getElem?,q1];rfl]
   refine ⟨?_,q3⟩
   show (if G.fp k (p.add i).block then w.cell? (p.add i) else G.F (p.add i))=some u
   rw [if_pos (by rw [hpe];exact g1)]
   exact q2
  ·obtain ⟨u,q1,q2,q3,q4⟩:=hcell i av hi
   rw [show cs.getD (j+i) undef=u by rw [Array.getD_eq_getD_getElem?,q1];rfl]
   exact q4.mono hF
 have hl:∀ i ob,look i (σ.freezeB k cells0).M=some ob→∃ ob0,i≠k∧look i σ.M=some ob0∧ob=ob0.frb k cells0:=fun i ob h=>by
  rw [show look i (σ.freezeB k cells0).M=_ from look_mapS _ i _,look_rem] at h
  by_cases e:i=k
  ·rw [if_pos e] at h;cases h
  ·rw [if_neg e] at h
   cases hq:look i σ.M with
   | none=>simp [hq] at h
   | some ob0=>simp [hq] at h;exact ⟨ob0,e,rfl,h.symm⟩
 refine ⟨{ G with F:=F' },ok.sz,ok.df,fun i av h=>?_,ok.bel,fun p u h=>?_,fun p u h=>hF p u (ok.f0 p u h),fun p u h=>?_,fun i ob h=>?_,fun i o x h1 h2=>?_,?_,?_⟩
 ·rw [show look i (σ.freezeB k cells0).t=_ from look_mapS _ i _] at h
  cases hq:look i σ.t with
  | none=>simp [hq] at h
  | some av0 =>
   simp [hq] at h
   obtain ⟨h1,h2,h3⟩:=ok.tm i av0 hq
   rw [← h]
   exact ⟨h1,frb_bd h2,frb_R hls' (h3.mono hle h2)⟩
 ·rcases hFn p u h with h|⟨_,h⟩
  ·exact ok.fw p u h
  ·exact h
 ·rcases hFn p u h with h|⟨h,_⟩
  ·exact ok.f1 p u h
  ·exact .inr (ok.my k _ _ hk h).1
 ·obtain ⟨ob0,e,h0,rfl⟩:=hl i ob h
  obtain ⟨g1,g2,g3⟩:=ok.ob i ob0 h0
  have g4:=g3.keep (w':=w) (G':={ G with F:=F' }) hle g1 g2 rfl (fun _ _=>rfl)
  refine ⟨g1,?_,?_⟩
  ·cases ob0 with
   | box T cells=>exact list_bd g2 fun _=>frb1_bd
   | rof T m rs hi hj y=>exact frb1_bd g2
   | rwo T m rs hi hj y=>exact frb1_bd g2
   | _=>exact g2
  ·cases ob0 with
   | box T cells =>
    obtain ⟨b1,cs,Φ,b2,b3,b4,b5,b6⟩:=g4
    refine ⟨b1,cs,Φ,b2,by simpa using b3,b4,b5,fun j av u x y=>?_⟩
    rw [List.getElem?_map] at x
    cases hq:cells[j]? with
    | none=>simp [hq] at x
    | some b=>simp [hq] at x;rw [← x];exact frb1_C hls' (b6 j b u hq y)
   | rof T m rs hi hj y =>
    obtain ⟨c1,c2,c3⟩:=g4
    refine ⟨c1,c2,c3.keep (fun _ _=>rfl) fun i r j av ψ u _ _ _ x=>?_⟩
    unfold XH at x ⊢
    by_cases e:i=hi∧j=hj
    ·rw [if_pos e] at x ⊢
     exact frb1_R hls' x
    ·rw [if_neg e] at x ⊢
     exact x
   | rwo T m rs hi hj y =>
    obtain ⟨c1,c2,c3⟩:=g4
    refine ⟨c1,c2,c3.keep (fun _ _=>rfl) fun i r j av ψ u _ _ _ x=>?_⟩
    unfold XQ at x ⊢
    by_cases e:i=hi∧j=hj
    ·rw [if_pos e] at x ⊢
     exact frb1_R hls' x
    ·rw [if_neg e] at x ⊢
     exact x
   | _=>exact g4
 ·obtain ⟨ob0,e,h0,rfl⟩:=hl i o h1
  exact ok.my i ob0 x h0 h2
 ·intro i o i' o' x h1 h2 h3 h4
  obtain ⟨ob0,e,h0,rfl⟩:=hl i o h1
  obtain ⟨ob0',e',h0',rfl⟩:=hl i' o' h2
  exact ok.dj i ob0 i' ob0' x h0 h0' h3 h4
 ·intro i o x p u h1 h2 h3
  obtain ⟨ob0,e,h0,rfl⟩:=hl i o h1
  rcases hFn p u h3 with h|⟨h,_⟩
  ·exact ok.dF i ob0 x p u h0 h2 h
  ·intro e2
   exact e (ok.dj i ob0 k _ x h0 hk h2 (by rw [← e2];exact h))
end
end
section
open Go.RowKit
structure CgLs (C:Cg):Prop where
 crs:∀ x y,C.mv x=some y→y.1=x.1∧y.2.2.2.2=x.2.2.2.2
 ml:∀ x y,C.mv x=some y→C.ml (C.ch x).1=(if y.2.2.1=x.2.2.1 then []else [2])++(if y.2.2.2.1=x.2.2.2.1 then []else [3])
end
end Go.Proofs.YtockempedekkkaaGreatDoor
