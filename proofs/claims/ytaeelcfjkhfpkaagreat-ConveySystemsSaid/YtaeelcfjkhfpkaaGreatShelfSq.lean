/- The contracts of the library functions that this seat reaches, laid by the kit's tool in plain words. -/
import Derived.Test.YtaeelcfjkhfpkaaGreatE4Sq
import Derived.Shelf.Strconv.Itoa3
import Derived.Shelf.Strings.Repeat
import Derived.Shelf.Strings.BuilderCap
import Derived.Test.YtaeelcfjkhfpkaaGreatProg
set_option linter.unusedVariables false
set_option linter.unusedSimpArgs false
namespace Go.Proofs.YtaeelcfjkhfpkaaGreat
open Go.RowKit
def St.new(σ:St)(ob:AO):St:={ σ with M:=(σ.nk,ob)::σ.M,nk:=σ.nk+1 }
def St.upd(σ:St)(k:Nat)(ob:AO):St:={ σ with M:=(k,ob)::σ.M }
def AV.cells:AV→List AV
 | .ag l=>l
 | av=>[av]
def AV.cellB:AV→Bool
 | .sc v=>v.oneCell'
 | .tu _=>false
 | .ow _ _ _=>false
 | _=>true
def AV.oneB:AV→Bool
 | .sc v=>v.oneCell'
 | .tu _=>false
 | .ag _=>false
 | .ow _ _ _=>false
 | _=>true
section
variable {P:Program} {C:Cx} {σ σ':St} {G G':Gh} {a:Act} {w w':World} {o:Oper} {d:Tmp}
theorem AO.bd_mono {nk nk':Nat} (h:nk≤nk') {ob:AO} (b:ob.bd nk):ob.bd nk':=by
 cases ob with
 | box T cells=>exact fun i av x=>(b i av x).mono h
 | row T n rows=>trivial
 | rwn T n rows=>trivial
 | rof T n rows hi hj y=>exact Bd.mono h b
 | rwo T n rows hi hj y=>exact Bd.mono h b
 | bld T e l=>trivial
 | opq q=>trivial
theorem Ok.add (ok:Ok C σ G a w) {ob:AO} (h:ObAt G w σ.nk ob) (hbd:ob.bd (σ.nk+1))
  (hown:∀ x,G.fp σ.nk x→C.may x∧x<w.heap.size∧(∀ k o,look k σ.M=some o→¬ G.fp k x)∧∀ p u,G.F p=some u→p.block≠x):Ok C (σ.new ob) G a w:=by
 have hl:∀ k o,look k (σ.new ob).M=some o→(k=σ.nk∧o=ob)∨(k≠σ.nk∧look k σ.M=some o):=fun k o hx=>by
  by_cases e:k=σ.nk
  ·subst e
   rw [show look σ.nk (σ.new ob).M=some ob from look_set_same] at hx
   cases hx
   exact .inl ⟨rfl,rfl⟩
  ·rw [show look k (σ.new ob).M=look k σ.M from look_set_other e] at hx
   exact .inr ⟨e,hx⟩
 refine ⟨ok.sz,⟨ok.df.1,Nat.le_succ_of_le ok.df.2.1,ok.df.2.2⟩,fun i av x=>⟨(ok.tm i av x).1,(ok.tm i av x).2.1.mono (Nat.le_succ _),(ok.tm i av x).2.2⟩,ok.bel,ok.fw,ok.f0,ok.f1,?_,?_,?_,?_⟩
 ·intro k o x
  rcases hl k o x with⟨rfl,rfl⟩|⟨e,y⟩
  ·exact ⟨Nat.lt_succ_self _,hbd,h⟩
  ·exact ⟨Nat.lt_succ_of_lt (ok.ob k o y).1,AO.bd_mono (Nat.le_succ _) (ok.ob k o y).2.1,(ok.ob k o y).2.2⟩
 ·intro k o x h1 h2
  rcases hl k o h1 with⟨rfl,rfl⟩|⟨e,y⟩
  ·exact ⟨(hown x h2).1,(hown x h2).2.1⟩
  ·exact ok.my k o x y h2
 ·intro k o k' o' x h1 h2 h3 h4
  rcases hl k o h1 with⟨rfl,rfl⟩|⟨e,y⟩
  ·rcases hl k' o' h2 with⟨rfl,rfl⟩|⟨e',y'⟩
   ·rfl
   ·exact absurd h4 ((hown x h3).2.2.1 k' o' y')
  ·rcases hl k' o' h2 with⟨rfl,rfl⟩|⟨e',y'⟩
   ·exact absurd h3 ((hown x h4).2.2.1 k o y)
   ·exact ok.dj k o k' o' x y y' h3 h4
 ·intro k o x p u h1 h2 h3
  rcases hl k o h1 with⟨rfl,rfl⟩|⟨e,y⟩
  ·exact (hown x h2).2.2.2 p u h3
  ·exact ok.dF k o x p u y h2 h3
def Gh.with(G:Gh)(k:Nat)(b n:Nat)(h:Value)(φ:Nat→Prop):Gh :=
 ⟨G.F,fun q=>if q=k then b else G.b q,fun q=>if q=k then n else G.n q,fun q=>if q=k then h else G.h q,fun q=>if q=k then φ else G.fp q⟩
theorem Gh.with_le (G:Gh)(k:Nat)(b n:Nat)(h:Value)(φ:Nat→Prop):G.le (G.with k b n h φ) k:=⟨fun _ _ h=>h,fun q hq=>if_neg (by omega),fun q hq=>if_neg (by omega),fun q hq=>if_neg (by omega)⟩
theorem Gh.with_fp (G:Gh)(k:Nat)(b n:Nat)(h:Value)(φ:Nat→Prop):∀ q,q<k→(G.with k b n h φ).fp q=G.fp q:=fun q hq=>if_neg (by omega)
theorem Ok.newBox (ok:Ok C σ G a w) {cells:List AV} {cs:Array Value} (T:TypeId) (hs:cs.size=cells.length) (hc:∀ (i:Nat) av u,cells[i]?=some av→cs[i]?=some u→R G av u) (hb:∀ (i:Nat) av,cells[i]?=some av→Bd σ.nk av) :
  ∃ G',G.le G' σ.nk∧G'.b σ.nk=w.heap.size∧Ok C (σ.new (.box T cells)) G' a (w.alloc (.cells cs T)):=by
 have hle:=G.with_le σ.nk w.heap.size 0 undef (fun x=>x=w.heap.size)
 have hfp:=G.with_fp σ.nk w.heap.size 0 undef (fun x=>x=w.heap.size)
 have hbl:∀ x,x<w.heap.size→(w.alloc (.cells cs T)).heap[x]?=w.heap[x]?:=fun x hx=>Below.heap_alloc w _ x hx
 have ok1:Ok C σ (G.with σ.nk w.heap.size 0 undef (fun x=>x=w.heap.size)) a (w.alloc (.cells cs T)) :=
  ok.world (S:=fun _=>False) hle hfp (Kept.below ((Below.refl _ _).alloc (Nat.le_refl _) _)) (fun _ h=>h.elim) (fun k o x h1 h2=>hbl x (ok.my k o x h1 h2).2)
   (fun p u h=>(World.cell?_of_block (hbl _ (cell_block (ok.fw p u h)))).trans (ok.fw p u h)) (fun _ _ h=>.inl h)
 have e1:(G.with σ.nk w.heap.size 0 undef (fun x=>x=w.heap.size)).b σ.nk=w.heap.size:=if_pos rfl
 have e2:(G.with σ.nk w.heap.size 0 undef (fun x=>x=w.heap.size)).fp σ.nk=fun x=>x=w.heap.size:=if_pos rfl
 refine ⟨_,hle,e1,ok1.add ⟨by rw [e1,e2],cs,fun _ _=>False,?_,hs,fun _ _ h=>h.elim,fun _ _ _ h=>h.elim,fun i av u x y=>.inl ((hc i av u x y).mono hle (hb i av x))⟩ (fun i av x=>(hb i av x).mono (Nat.le_succ _)) ?_⟩
 ·rw [e1];exact Blk.new w T cs
 ·intro x hx
  rw [e2] at hx
  obtain rfl:x=w.heap.size:=hx
  refine ⟨.inl ok.bel.size,by simp,fun k o h1 h2=>?_,fun p u h=>?_⟩
  ·rw [hfp k (ok.ob k o h1).1] at h2
   have:=(ok.my k o _ h1 h2).2
   omega
  ·have:=cell_block (ok.fw p u h)
   omega
theorem cells_of {av:AV} {v:Value} (r:R G av v)(hB:av.cellB=true):v.cells.size=av.cells.length∧∀ (i:Nat)x u,av.cells[i]?=some x→v.cells[i]?=some u→R G x u:=by
 have one:∀ (av:AV)(v:Value),R G av v→v.oneCell'=true→v.cells.size=[av].length∧∀ (i:Nat)x u,[av][i]?=some x→v.cells[i]?=some u→R G x u:=fun av v r h=>by
  have hv:v.cells=#[v]:=by cases v<;>first|rfl|cases h
  rw [hv]
  refine⟨rfl,fun i x u a b=>?_⟩
  cases i with
  | zero=>cases a;cases b;exact r
  | succ i=>simp at a
 cases av with
 | sc x =>
  have:=r.sc_eq
  subst this
  exact one _ _ r hB
 | ag l =>
  obtain⟨cs,rfl,h1,h2⟩:=r.ag_of
  exact⟨h1,h2⟩
 | tu l=>cases hB
 | ls n rows=>obtain⟨A,cap,ad,u,rfl,_⟩:=r.pu_of.ls_of;exact one _ _ r rfl
 | pr cells=>obtain⟨p,u,rfl,_⟩:=r.pr_of.pr_of;exact one _ _ r rfl
 | pt k i j=>obtain⟨p,rfl,_⟩:=r.pt_of;exact one _ _ r rfl
 | sl k=>exact one _ _ r r.sl_of.2
 | ow T n rows=>cases hB
 | fn f l=>obtain⟨cs,rfl,_⟩:=r.fn_of;exact one _ _ r rfl
theorem cells_bd {nk:Nat} {av:AV} (b:Bd nk av):∀ (i:Nat)x,av.cells[i]?=some x→Bd nk x:=by
 have one:∀ av:AV,Bd nk av→∀ (i:Nat)x,[av][i]?=some x→Bd nk x:=fun av b i x h=>by
  cases i with
  | zero=>cases h;exact b
  | succ i=>simp at h
 cases av with
 | ag l=>cases b with|ag _ h=>exact h
 | _=>exact one _ b
theorem WO.box {T:TypeId} {x:Operand} {av:AV} {l:List AV} {n:Nat} (ho:o.op=.box T x) (hds:o.dst=some d) (hd:Nat.blt d C.N=true) (hx:σ.ev x=some av) (hB:av.cellB=true) (hl:av.cells=l) (hn:σ.nk=n):WO P C o σ ((σ.new (.box T l)).put d (.pt n 0 0)):=by
 intro G a w ok N Q' hN
 obtain ⟨hb,hr⟩:=ok.evr hx
 obtain ⟨h1,h2⟩:=cells_of hr hB
 obtain ⟨G',hle,hbb,ok'⟩:=ok.newBox T h1 h2 (cells_bd hb)
 unfold Oper.wp execOp
 simp only [ho,Instr.box,newVar,newRow,Sem.run_bind,Sem.run_pure,run_newObj,Result.andThen_ok]
 show N (a.put o.dst _) _
 rw [hds]
 subst hl hn
 exact hN G' _ _ (ok'.set (d:=some d) (.pt σ.nk 0 0 _ hbb.symm (by simp) rfl) (.pt _ _ _ (Nat.lt_succ_self _)) fun x hx=>by cases hx;exact of_blt hd)
theorem WO.alloc {T:TypeId} {z:Value} {l:List AV} {n:Nat} (ho:o.op=.alloc T) (hz:(P.info? T).bind (·.zero)=some z) (hds:o.dst=some d) (hd:Nat.blt d C.N=true) (hl:z.cells.toList.map .sc=l) (hn:σ.nk=n):WO P C o σ ((σ.new (.box T l)).put d (.pt n 0 0)):=by
 intro G a w ok N Q' hN
 have hc:∀ (i:Nat) av u,l[i]?=some av→z.cells[i]?=some u→R G av u:=fun i av u x y=>by
  rw [← hl,List.getElem?_map] at x
  rw [show z.cells.toList[i]?=z.cells[i]? by simp,y] at x
  cases x
  exact .pu _ _ (.sc _)
 have hb:∀ (i:Nat) av,l[i]?=some av→Bd σ.nk av:=fun i av x=>by
  rw [← hl,List.getElem?_map] at x
  cases hq:z.cells.toList[i]? with
  | none=>simp [hq] at x
  | some u=>simp [hq] at x;rw [← x];exact .sc _
 obtain ⟨G',hle,hbb,ok'⟩:=ok.newBox (cells:=l) (cs:=z.cells) T (by rw [← hl];simp) hc hb
 cases hi:P.info? T with
 | none=>simp [hi] at hz
 | some i =>
  simp [hi] at hz
  unfold Oper.wp execOp
  simp only [ho,Instr.alloc,zeroValue,typeInfo,newVar,newRow,Sem.run_bind,Sem.run_pure,run_newObj,Result.andThen_ok,run_program,hi,hz]
  show N (a.put o.dst _) _
  rw [hds]
  subst hn
  exact hN G' _ _ (ok'.set (d:=some d) (.pt σ.nk 0 0 _ hbb.symm (by simp) rfl) (.pt _ _ _ (Nat.lt_succ_self _)) fun x hx=>by cases hx;exact of_blt hd)
end
end Go.Proofs.YtaeelcfjkhfpkaaGreat
namespace Go.Proofs
open Go.Shelf
def Tryz.laysM246_ren:Go.Shelf.Ren:=⟨fun|246=>199|283=>205|284=>206|285=>207|286=>208|129=>159|317=>211|318=>212|319=>213|320=>214|337=>215|338=>216|n=>n,fun|2=>2|3=>3|9=>9|4=>4|171=>252|0=>0|53=>209|37=>239|5=>5|173=>254|212=>261|51=>207|20=>20|213=>262|46=>196|232=>263|233=>264|n=>n,fun|17=>0|18=>2|19=>3|n=>n⟩
def Tryz.laysM243_ren:Go.Shelf.Ren:=⟨fun|243=>192|246=>199|283=>205|284=>206|285=>207|286=>208|129=>159|317=>211|318=>212|319=>213|320=>214|337=>215|338=>216|n=>n,fun|3=>3|9=>9|2=>2|4=>4|171=>252|0=>0|53=>209|37=>239|5=>5|173=>254|212=>261|51=>207|20=>20|213=>262|46=>196|232=>263|233=>264|n=>n,fun|17=>0|18=>2|19=>3|n=>n⟩
def Tryz.laysM171_ren:Go.Shelf.Ren:=⟨fun|171=>190|243=>192|246=>199|283=>205|284=>206|285=>207|286=>208|129=>159|317=>211|318=>212|319=>213|320=>214|337=>215|338=>216|n=>n,fun|3=>3|9=>9|2=>2|4=>4|171=>252|0=>0|53=>209|37=>239|5=>5|173=>254|212=>261|51=>207|20=>20|213=>262|46=>196|232=>263|233=>264|n=>n,fun|17=>0|18=>2|19=>3|n=>n⟩
def Tryz.lays171_ren:Go.Shelf.Ren:=⟨fun|171=>190|243=>192|246=>199|283=>205|284=>206|285=>207|286=>208|129=>159|317=>211|318=>212|319=>213|320=>214|337=>215|338=>216|n=>n,fun|3=>3|9=>9|2=>2|4=>4|171=>252|0=>0|53=>209|37=>239|5=>5|173=>254|212=>261|51=>207|20=>20|213=>262|46=>196|232=>263|233=>264|n=>n,fun|17=>0|18=>2|19=>3|n=>n⟩
theorem Tryz.lays171:Go.Proofs.Lays.n171 Tryz.prog Tryz.lays171_ren:={
 mixed:=by kernel_rfl
 f129:=Tryz.func159.trans (congrArg some (by kernel_rfl))
 f171:=Tryz.func190.trans (congrArg some (by kernel_rfl))
 f243:=Tryz.func192.trans (congrArg some (by kernel_rfl))
 f246:=Tryz.func199.trans (congrArg some (by kernel_rfl))
 f283:=Tryz.func205.trans (congrArg some (by kernel_rfl))
 f284:=Tryz.func206.trans (congrArg some (by kernel_rfl))
 f285:=Tryz.func207.trans (congrArg some (by kernel_rfl))
 f286:=Tryz.func208.trans (congrArg some (by kernel_rfl))
 f317:=Tryz.func211.trans (congrArg some (by kernel_rfl))
 f318:=Tryz.func212.trans (congrArg some (by kernel_rfl))
 f319:=Tryz.func213.trans (congrArg some (by kernel_rfl))
 f320:=Tryz.func214.trans (congrArg some (by kernel_rfl))
 f337:=Tryz.func215.trans (congrArg some (by kernel_rfl))
 f338:=Tryz.func216.trans (congrArg some (by kernel_rfl))
 t0:=Tryz.underlying0
 a0:=Tryz.isAgg0
 z0:=Tryz.sizeOf0
 v0:=Tryz.zeroValue0
 t2:=Tryz.underlying2
 a2:=Tryz.isAgg2
 z2:=Tryz.sizeOf2
 v2:=Tryz.zeroValue2
 t3:=Tryz.underlying3
 a3:=Tryz.isAgg3
 z3:=Tryz.sizeOf3
 v3:=Tryz.zeroValue3
 t4:=Tryz.underlying4
 a4:=Tryz.isAgg4
 z4:=Tryz.sizeOf4
 v4:=Tryz.zeroValue4
 t5:=Tryz.underlying5
 a5:=Tryz.isAgg5
 z5:=Tryz.sizeOf5
 v5:=Tryz.zeroValue5
 t9:=Tryz.underlying9
 a9:=Tryz.isAgg9
 z9:=Tryz.sizeOf9
 v9:=Tryz.zeroValue9
 t20:=Tryz.underlying20
 a20:=Tryz.isAgg20
 z20:=Tryz.sizeOf20
 v20:=Tryz.zeroValue20
 t37:=Tryz.underlying239
 a37:=Tryz.isAgg239
 z37:=Tryz.sizeOf239
 v37:=Tryz.zeroValue239
 t46:=Tryz.underlying196
 a46:=Tryz.isAgg196
 z46:=Tryz.sizeOf196
 v46:=Tryz.zeroValue196
 t51:=Tryz.underlying207
 a51:=Tryz.isAgg207
 z51:=Tryz.sizeOf207
 v51:=Tryz.zeroValue207
 t53:=Tryz.underlying209
 a53:=Tryz.isAgg209
 z53:=Tryz.sizeOf209
 v53:=Tryz.zeroValue209
 t171:=Tryz.underlying252
 a171:=Tryz.isAgg252
 z171:=Tryz.sizeOf252
 v171:=Tryz.zeroValue252
 t173:=Tryz.underlying254
 a173:=Tryz.isAgg254
 z173:=Tryz.sizeOf254
 v173:=Tryz.zeroValue254
 t212:=Tryz.underlying261
 a212:=Tryz.isAgg261
 z212:=Tryz.sizeOf261
 v212:=Tryz.zeroValue261
 t213:=Tryz.underlying262
 a213:=Tryz.isAgg262
 z213:=Tryz.sizeOf262
 t232:=Tryz.underlying263
 a232:=Tryz.isAgg263
 z232:=Tryz.sizeOf263
 v232:=Tryz.zeroValue263
 t233:=Tryz.underlying264
 a233:=Tryz.isAgg264
 z233:=Tryz.sizeOf264
 v233:=Tryz.zeroValue264
 g17:=by kernel_rfl
 g18:=by kernel_rfl
 g19:=by kernel_rfl }
open Go.RowKit Go.Sort Go.Lib in
theorem Tryz.strconv_Itoa_small (i:Nat) (hi:i<100) (w:World) :
  Calls Tryz.prog 190 #[.int .i64 i] w fun e w'=>e=.returned (.string ⟨(Lib.decDigits i).toArray⟩)∧w'=w:=Any.strconv_Itoa_small Tryz.lays171 i hi w
def Tryz.lays105_ren:Go.Shelf.Ren:=⟨fun|105=>191|212=>193|99=>194|165=>195|166=>196|170=>197|169=>198|263=>200|264=>201|206=>202|240=>203|241=>204|276=>209|277=>210|n=>n,fun|9=>9|3=>3|4=>4|20=>20|0=>0|46=>196|109=>235|5=>5|72=>241|76=>245|51=>207|146=>248|53=>209|148=>250|70=>238|37=>239|75=>244|127=>228|164=>256|80=>134|n=>n,fun|n=>n⟩
theorem Tryz.lays105:Go.Proofs.Lays.n105 Tryz.prog Tryz.lays105_ren:={
 mixed:=by kernel_rfl
 f99:=Tryz.func194.trans (congrArg some (by kernel_rfl))
 f105:=Tryz.func191.trans (congrArg some (by kernel_rfl))
 f165:=Tryz.func195.trans (congrArg some (by kernel_rfl))
 f166:=Tryz.func196.trans (congrArg some (by kernel_rfl))
 f169:=Tryz.func198.trans (congrArg some (by kernel_rfl))
 f170:=Tryz.func197.trans (congrArg some (by kernel_rfl))
 f206:=Tryz.func202.trans (congrArg some (by kernel_rfl))
 f212:=Tryz.func193.trans (congrArg some (by kernel_rfl))
 f240:=Tryz.func203.trans (congrArg some (by kernel_rfl))
 f241:=Tryz.func204.trans (congrArg some (by kernel_rfl))
 f263:=Tryz.func200.trans (congrArg some (by kernel_rfl))
 f264:=Tryz.func201.trans (congrArg some (by kernel_rfl))
 f276:=Tryz.func209.trans (congrArg some (by kernel_rfl))
 f277:=Tryz.func210.trans (congrArg some (by kernel_rfl))
 t0:=Tryz.underlying0
 a0:=Tryz.isAgg0
 z0:=Tryz.sizeOf0
 v0:=Tryz.zeroValue0
 t3:=Tryz.underlying3
 a3:=Tryz.isAgg3
 z3:=Tryz.sizeOf3
 v3:=Tryz.zeroValue3
 t4:=Tryz.underlying4
 a4:=Tryz.isAgg4
 z4:=Tryz.sizeOf4
 v4:=Tryz.zeroValue4
 t5:=Tryz.underlying5
 a5:=Tryz.isAgg5
 z5:=Tryz.sizeOf5
 v5:=Tryz.zeroValue5
 t9:=Tryz.underlying9
 a9:=Tryz.isAgg9
 z9:=Tryz.sizeOf9
 v9:=Tryz.zeroValue9
 t20:=Tryz.underlying20
 a20:=Tryz.isAgg20
 z20:=Tryz.sizeOf20
 v20:=Tryz.zeroValue20
 t37:=Tryz.underlying239
 a37:=Tryz.isAgg239
 z37:=Tryz.sizeOf239
 v37:=Tryz.zeroValue239
 t46:=Tryz.underlying196
 a46:=Tryz.isAgg196
 z46:=Tryz.sizeOf196
 v46:=Tryz.zeroValue196
 t51:=Tryz.underlying207
 a51:=Tryz.isAgg207
 z51:=Tryz.sizeOf207
 v51:=Tryz.zeroValue207
 t53:=Tryz.underlying209
 a53:=Tryz.isAgg209
 z53:=Tryz.sizeOf209
 v53:=Tryz.zeroValue209
 t70:=Tryz.underlying238
 a70:=Tryz.isAgg238
 z70:=Tryz.sizeOf238
 v70:=Tryz.zeroValue238
 t72:=Tryz.underlying241
 a72:=Tryz.isAgg241
 z72:=Tryz.sizeOf241
 v72:=Tryz.zeroValue241
 t75:=Tryz.underlying244
 a75:=Tryz.isAgg244
 z75:=Tryz.sizeOf244
 v75:=Tryz.zeroValue244
 t76:=Tryz.underlying245
 a76:=Tryz.isAgg245
 z76:=Tryz.sizeOf245
 v76:=Tryz.zeroValue245
 t109:=Tryz.underlying235
 a109:=Tryz.isAgg235
 z109:=Tryz.sizeOf235
 v109:=Tryz.zeroValue235
 t127:=Tryz.underlying228
 a127:=Tryz.isAgg228
 z127:=Tryz.sizeOf228
 v127:=Tryz.zeroValue228
 t146:=Tryz.underlying248
 a146:=Tryz.isAgg248
 z146:=Tryz.sizeOf248
 v146:=Tryz.zeroValue248
 t148:=Tryz.underlying250
 a148:=Tryz.isAgg250
 z148:=Tryz.sizeOf250
 v148:=Tryz.zeroValue250
 t164:=Tryz.underlying256
 a164:=Tryz.isAgg256
 z164:=Tryz.sizeOf256
 v164:=Tryz.zeroValue256 }
theorem Tryz.Builder_Extra_105:Builder.Extra Tryz.prog Tryz.lays105_ren:={
 sizeBuilder:=by kernel_rfl
 liesBuilder:=by kernel_rfl
 t5:=Tryz.underlying5
 a5:=Tryz.isAgg5
 z5:=Tryz.sizeOf5
 v5:=Tryz.zeroValue5
 infoByte:=by kernel_rfl
 cellsByte:=by kernel_rfl
 sizeByte:=by kernel_rfl
 neB5:=by decide }
open Go.RowKit Go.Lib in
theorem Tryz.strings_Repeat (s:ByteArray) (c:Nat) (w:World) (hc:c≤9223372036854775807) (hlen:s.size*c≤140737488355328) :
  Calls Tryz.prog 191 #[.string s,.int .i64 c] w fun e w'=>e=.returned (.string ⟨(Lib.repeatL s.data.toList c).toArray⟩)∧Below w.heap.size w w':=Any.strings_Repeat Tryz.lays105 Tryz.Builder_Extra_105 s c w hc hlen
end Go.Proofs
