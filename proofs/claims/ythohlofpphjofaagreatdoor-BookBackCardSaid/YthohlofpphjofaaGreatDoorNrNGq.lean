/- Numbers: the program. -/
import Derived.Test.YthohlofpphjofaaGreatDoorFBbGq
import Derived.LaidMore
import Derived.HandedShaped
import Derived.Stop.LaidErr
import Derived.Lay
import Derived.Test.YthohlofpphjofaaGreatDoorJnGq
import Derived.Test.YthohlofpphjofaaGreatDoorRq5Gq
set_option maxHeartbeats 4000000
set_option maxRecDepth 100000
set_option linter.unusedVariables false
set_option linter.unusedSimpArgs false
namespace Go.Proofs.YthohlofpphjofaaGreatDoor
theorem aeU {p:Prop}(h:p:=by
 refine vM ?_
 simp only [ek,hcc]
 refine uM ?_
 exact dY):p:=h
theorem aeL {p:Prop}(h:p:=by
 rw [e]
 refine jc Tryz.func160 Tryz.ntmps160 fun w0 F0=>?_;dsimp only [St.init,number,Nat.reduceAdd]
 refine uM ?_
 exact dY):p:=h
theorem Xd {p:Prop}(h:p:=by
 by_cases e:j=k
 ·subst e;exact h
 ·exact hall j hj aj):p:=h
theorem oG {p:Prop}(h:p:=by
 refine (?_:Tr _ _ _)
 exact (zqt id)):p:=h
theorem UA {p q:Prop}(k:q)(h:aS q→p:=by
 intro hq
 repeat (first|refine DK.st rfl ?_|refine DK.ar rfl rfl sV ?_|refine DK.idx rfl rfl aj zqm ?_|refine DK.nil ?_)
 exact hq.k):p:=h ⟨k⟩
theorem vM {p q:Prop}(k:q)(h:aS q→p:=by
 intro hq
 refine uM ?_
 refine WL.six rfl rfl ⟨by omega,by omega⟩ ?_
 exact hq.k):p:=h ⟨k⟩
section
open Go.ChangeShapes Go.WideShapes Go.ChangeAt Go.RowKit
def zS:List (String×DataW Unit):=[("math/bits.deBruijn32tab",Rows.laid_math_bits_deBruijn32tab),("math/bits.deBruijn64tab",Rows.laid_math_bits_deBruijn64tab),("internal/strconv.uint64pow10",Rows.laid_internal_strconv_uint64pow10),("unicode/utf8.acceptRanges",Rows.laid_unicode_utf8_acceptRanges),("theorbo/instrument.bases",Rows.laid_theorbo_instrument_bases),("theorbo/instrument.fifths",Rows.laid_theorbo_instrument_fifths),("unicode/utf8.first",Rows.laid_unicode_utf8_first)]
theorem aog:ownKnob Tryz.prog.godebug=none:=by kernel_rfl
theorem Wx(l:List Int)(i:Nat)(v:Int)(hv:l[i]?=some v):i<l.length∧l.getD i 0=v:=by
 obtain⟨hi,e⟩:=List.getElem?_eq_some_iff.1 hv
 exact⟨hi,by rw [dI,hv];rfl⟩
theorem Ll {W:World} (h:laidMetH Tryz.prog zS W) (hs:W.ShapedOpen Tryz.prog):ZB W (fun p=>W.cell? p):=by
 rw [MakeChecks.laidMetH_plain _ _ _ aK] at h
 have h3:=h.tail.tail
 have h5:=h3.tail.tail
 have e1:Lib.TabIs Tryz.prog W "internal/strconv.uint64pow10" .u64 Lib.pow10Tab :=
  Lib.tabIs_of_head (g:=5) (t:=371) (e:=349) (n:=20) aK aK Tryz.underlying371 Tryz.underlying349 aK aK h3
 have e2:Lib.TabIs Tryz.prog W "theorbo/instrument.bases" .i64 bsL :=
  Lib.tabIs_of_head (g:=1) (t:=261) (e:=3) (n:=7) aK aK Tryz.underlying261 Tryz.underlying3 aK aK h5
 have e3:Lib.TabIs Tryz.prog W "theorbo/instrument.fifths" .i64 ftL :=
  Lib.tabIs_of_head (g:=0) (t:=261) (e:=3) (n:=7) aK aK Tryz.underlying261 Tryz.underlying3 aK aK h5.tail
 have c2:∀ (i:Nat) v,bsL[i]?=some v→W.cell? ⟨1,i,none⟩=some (.int .i64 v):=fun i v hv=>by
  obtain ⟨hi,e⟩:=Wx _ _ _ hv
  rw [← e];exact e2.cell aK i hi
 have c3:∀ (i:Nat) v,ftL[i]?=some v→W.cell? ⟨0,i,none⟩=some (.int .i64 v):=fun i v hv=>by
  obtain ⟨hi,e⟩:=Wx _ _ _ hv
  rw [← e];exact e3.cell aK i hi
 exact ⟨⟨c3,c2,e1⟩,c2,e1,cell_of_shapedOpen_int (zero:=#[.int .i64 0]) (t:=3) hs (nC aK) aK rfl aK aK Tryz.underlying3⟩
theorem Xv (os:Os) (args:Array Value):laidMetH Tryz.prog zS ((World.laidAll Tryz.prog os zS).forCall (fun _ _=>0) ⟨#[],args,[]⟩).memory:=by
 rw [MakeChecks.laidMetH_plain _ _ _ aK]
 exact laidMet_laidAll _ aK aK
theorem aho (os:Os):(World.laidAll Tryz.prog os zS).Shaped Tryz.prog:=World.shaped_of_ZipB (by kernel_rfl) (by kernel_rfl)
theorem acf {H:Type} {enc:TypeId×Value→H} {a:Assume} {C:Checked} {os:Os} {f:FuncId} {fn:Func} {s:ChangeSpec} {conds:List PathCond} {apart fresh handsOn again:Bool} {X:World→Array Value→Prop}
  (hX:∀ (w w':World) (args:Array Value),w.heap=w'.heap→X w args→X w' args)
  (own:ownKnob C.prog.godebug=none) (started:os.Started) (noInit:C.prog.inits.idxOf? f=none) (hfn:C.prog.funcs[f]?=some fn)
  (witness:∃ (w:World) (tape:Tape) (i:Input),w.os=os∧(w.forCall tape i).Shaped C.prog∧i.vars=[]∧Input.okWide C.prog (w.forCall tape i) .any w.heap.size f i ∧
   ((s.pre enc C.prog fn conds apart (w.forCall tape i).memory i.args∧X (w.forCall tape i).memory i.args)∧sizedMet enc C.prog fn (OpenSpec.ofChange s) apart (w.forCall tape i).memory i.args)∧a.holds C.prog (lone (Frame.enter C.prog f i.args .normal) [] (w.forCall tape i)))
  (contract:∀ (W:World) (base:Nat) (args:Array Value) (ds gs:List (DataW H)) (before:List MemPlace),
   (∀ (j:Nat) t v,fn.params[j]?=some t→args[j]?=some v→Value.okWide C.prog W .any base t v) →
   DataW.Whole enc C.prog fn.params.toList s.vars apart W args.toList ds gs before→X W args→W.ShapedOpen C.prog →
   Calls C.prog f args W fun e W'=>∃ v,e=.returned v∧s.post enc C.prog fn apart fresh handsOn again W args v W') :
  ReturnsInHanded a C os f .any (fun w args=>(s.pre enc C.prog fn conds apart w args∧X w args)∧sizedMet enc C.prog fn (OpenSpec.ofChange s) apart w args) (s.post enc C.prog fn apart fresh handsOn again):=by
 refine returnsInHanded_of_calls own started noInit witness ?_
 intro w tape i _ hsh _ hok hpre _
 obtain ⟨_,_,_,fn',hfn',_,_,_,_,hval⟩:=hok
 obtain rfl:fn'=fn:=Option.some.inj (hfn'.symm.trans hfn)
 obtain ⟨⟨⟨ds,gs,before,hw,_⟩,hx⟩,_⟩:=hpre
 refine (contract (w.forCall tape i) w.heap.size i.args ds gs before hval (DataW.Whole.of_heap (w':=w.forCall tape i) (by rfl) hw) (hX _ _ _ (by rfl) hx) hsh).mono fun e W' ⟨v,he,hp⟩=>?_
 subst he
 exact ChangeSpec.post_blind hp
end
section
open Go.RowKit
theorem aah {st:List Int}:∀ {cs:List (Int×Int×Bool)},tH st cs=0→∀ k (h:k<cs.length),0≤cs[k].1∧cs[k].1≤127:=by
 intro cs
 induction cs with
 | nil=>intro _ k h;simp at h
 | cons x r ih =>
  intro h k hk
  unfold tH at h
  by_cases h1:x.2.1<0∨(st.length:Int)<x.2.1
  ·rw [if_pos h1]at h;cases h
  ·rw [if_neg h1]at h
   by_cases h2:(x.1<0∨127<x.1)∨127<uF st x
   ·rw [if_pos h2]at h;cases h
   ·rw [if_neg h2]at h
    cases k with
    | zero=>simp;omega
    | succ k=>simpa using ih h k sW
theorem TK (cs:List (Int×Int×Bool)) (st:List Int) (x:Int×Int×Bool) (f:Int) (hx:0≤x.1∧x.1≤127) (hf:0≤f∧f≤st.length) (hl:st.length≤18) (hs:∀ k (h:k < st.length),1≤st[k]∧st[k]≤127) :
  Ctr Tryz.prog 280 [.ag (oJ cs st),.ag (aW x),.sc (.int .i64 f)] (.sc (.int .i64 (x.1+if 0 < f then st.getD (f - 1).toNat 0 else 0))):=by
 refine jc Tryz.func280 Tryz.ntmps280 fun w0 F0=>?_;dsimp only [St.init,number,Nat.reduceAdd]
 by_cases h0:f=0
 ·subst h0
  have e0:x.1+(if (0:Int) < 0 then st.getD ((0:Int) - 1).toNat 0 else 0)=x.1:=by simp
  rw [e0]
  refine aia ?_
  exact W.ret vJ
 ·have hlt:(f - 1).toNat < st.length:=by omega
  have hs1:=hs _ hlt
  have hg:st.getD (f - 1).toNat 0=st[(f - 1).toNat]:=by rw [dI,aB hlt];rfl
  rw [if_pos (by omega),hg]
  refine ail ?_
  refine iT ?_
  refine UA ?_
  refine ail ?_
  exact W.ret vJ
theorem akw (cs:List (Int×Int×Bool)) (st:List Int) (c f:Int) (hI:gB cs st=0) (hc:1≤c∧c≤cs.length) (hf:0≤f∧f≤dS cs c) :
  Ctr Tryz.prog 266 [.ag (oJ cs st),.ag [.sc (.int .i64 c),.sc (.int .i64 f)]] (.tu [.sc (.int .i64 (xk cs st c f)),.sc (.int .i64 0)]):=by
 obtain ⟨l1,l2,l3,l4,l5⟩:=jK hI
 have hC:=rO cs st
 rw [hI] at hC
 have hk:(c - 1).toNat < cs.length:=by omega
 have hfr:=BN l5 _ hk
 have hp:=aah l5 _ hk
 have ef:dS cs c=cs[(c - 1).toNat].2.1:=by
  exact UJ
 rw [ef] at hf
 have ep:xk cs st c f=cs[(c - 1).toNat].1+if 0 < f then st.getD (f - 1).toNat 0 else 0:=by
  unfold xk
  rw [dI,aB hk];rfl
 rw [ep]
 have hS:=TK cs st cs[(c - 1).toNat] f hp ⟨hf.1,by omega⟩ l3 (kE (ni 0) l4)
 refine jc Tryz.func266 Tryz.ntmps266 fun w0 F0=>?_;dsimp only [St.init,number,Nat.reduceAdd]
 refine amC ?_
 refine WL.vl rfl (bU Tryz.func103 hC) ?_
 refine ain ?_
 refine WL.vl rfl (bU Tryz.func280 hS) ?_
 refine ain ?_
 exact W.ret (fin2 rfl rfl rfl rfl rfl rfl rfl)
theorem DV (w:List UInt8) (hl:w.length≤1000000):Ctr Tryz.prog 160 [.sc (.string (bs w))] (.tu [.sc (.int .i64 (((bT w).getD 0:Nat):Int)),.sc (.bool (bT w).isSome)]):=by
 by_cases h1:w.length < 1
 ·have e:bT w=none:=if_pos (.inl h1)
  exact aeL
 by_cases h2:3 < w.length
 ·have e:bT w=none:=if_pos (.inr (.inl h2))
  exact aeL
 have ez:((0:Int)).toNat=0:=rfl
 have hz:((w.getD 0 0).toNat:Int)=48↔w.getD 0 0=48:=⟨fun h=>UInt8.toNat_inj.1 (by show _=48;omega),fun h=>by rw [h];rfl⟩
 obtain ⟨b0,hb0⟩:∃ z,((w.getD 0 0).toNat:Int)=z:=⟨_,rfl⟩
 rw [hb0] at hz
 by_cases h3:b0=48∧1 < w.length
 ·have e:bT w=none:=if_pos (.inr (.inr ⟨hz.1 h3.1,h3.2⟩))
  have hw:(w == [48])=false:=by
   cases h:w == [48] with
   | false=>rfl
   | true =>
    have:=eq_of_beq h
    rw [this] at h3;exact absurd h3.2 (by decide)
  rw [e]
  obtain ⟨h4,h5⟩:=h3
  refine jc Tryz.func160 Tryz.ntmps160 fun w0 F0=>?_;dsimp only [St.init,number,Nat.reduceAdd]
  refine vM ?_
  simp only [ez,hb0]
  refine uM ?_
  rw [hw]
  refine uM ?_
  exact dY
 have e:bT w=o7 0 w:=if_neg (by
  rintro (h|h|h)
  ·exact h1 h
  ·exact h2 h
  ·exact h3 ⟨hz.2 h.1,h.2⟩)
 rw [e]
 have key:∀ {Q:Prop},(b0≠48→Q)→(b0=48→(w == [48])=true→Q)→Q:=fun {Q} f g=>by
  by_cases h:b0=48
  ·refine g h ?_
   match w,h1,h2,h3,hz with
   | [x],_,_,_,hz =>
    have:x=48:=hz.1 h
    subst this;rfl
   | x::y::r,_,_,h3,_=>exact absurd ⟨h,by simp⟩ h3
   | [],h1,_,_,_=>exact absurd (by simp) h1
  ·exact f h
 refine jc Tryz.func160 Tryz.ntmps160 fun w0 F0=>?_;dsimp only [St.init,number,Nat.reduceAdd]
 refine vM ?_
 simp only [ez,hb0]
 refine key (fun h4=>?_) (fun h4 h5=>?_)
 all_goals
  refine uM ?_
  try rw [h5]
  refine uM ?_
  refine W.loop (fun k:Nat=>k≤w.length∧∀ j (hj:j < w.length),j < k→48≤w[j].toNat∧w[j].toNat≤57) (fun k=>⟨[(0,.sc (.string (bs w))),(4,.sc (.int .i64 (lT w k:Nat))),(5,.sc (.int .i64 k))],[],0⟩) (fun k=>w.length - k) 0 ⟨by omega,fun j hj h=>absurd h aj⟩ (zqt id) fun k hk=>?_
  obtain ⟨hk,hall⟩:=hk
  by_cases hlt:k < w.length
  rotate_left
  ·obtain rfl:k=w.length:=by omega
   have hg:=Am w 0 fun b hb=>by
    obtain ⟨j,hj,rfl⟩:=List.mem_iff_getElem.1 hb
    exact hall j hj hj
   have hv:lT w w.length=w.foldl (fun a b=>10*a+(b.toNat - 48)) 0:=by unfold lT;rw [fE]
   rw [hg,← hv]
   refine uM ?_
   exact dY
  have ek:((k:Nat):Int).toNat=k:=dB k
  have hgd:w.getD k 0=w[k]:=by rw [dI,aB hlt];rfl
  have hbad:=Ap w 0 k hlt
  have hvs:=yC hlt
  have hvb:lT w k < 100:=by
   have h10:(10:Nat) ^ k≤10 ^ 2:=Nat.pow_le_pow_right aj aj
   have:∀ k,k≤w.length→(∀ j (hj:j < w.length),j < k→48≤w[j].toNat∧w[j].toNat≤57)→lT w k < 10 ^ k:=fun k=>by
    induction k with
    | zero=>intro _ _;simp [lT]
    | succ k ih =>
     intro hk' ha
     have i1:=ih aj fun j hj hjk=>ha j hj aj
     have i2:=ha k aj aj
     rw [yC (by omega),Nat.pow_succ];omega
   have:=this k hk hall
   have e2:(10:Nat) ^ 2=100:=rfl
   omega
  have hnx:48≤w[k].toNat∧w[k].toNat≤57→∀ j (hj:j < w.length),j < k+1→48≤w[j].toNat∧w[j].toNat≤57:=fun h j hj hjk=>by
   exact Xd
  obtain ⟨c,hc⟩:∃ z,w[k].toNat=z:=⟨_,rfl⟩
  rw [hc] at hbad hvs hnx
  have hcc:((w.getD k 0).toNat:Int)=(c:Int):=by rw [hgd,hc]
  obtain ⟨v,hv⟩:∃ z,lT w k=z:=⟨_,rfl⟩
  rw [hv] at hvs hvb ⊢
  clear hall
  by_cases c1:c < 48
  ·rw [hbad (by omega)]
   exact aeU
  by_cases c2:57 < c
  ·rw [hbad (by omega)]
   refine vM ?_
   simp only [ek,hcc]
   exact aeU
  have hn2:=hnx aj
  clear hbad hnx
  refine vM ?_
  simp only [ek,hcc]
  refine vM ?_
  simp only [ek,hcc]
  refine vM ?_
  simp only [ek,hcc]
  refine uM ?_
  refine WL.sb8 rfl rfl aj ?_
  refine WL.cvt rfl rfl rfl (I64.wrap sV) ?_
  refine uM ?_
  refine ⟨k+1,⟨by omega,hn2⟩,by omega,?_⟩
  rw [hvs,show ((10*v+(c - 48):Nat):Int)=10*(v:Int)+((c:Int) - 48) by omega]
  exact (mP (fun q=>q) BK rfl)
end
end Go.Proofs.YthohlofpphjofaaGreatDoor
