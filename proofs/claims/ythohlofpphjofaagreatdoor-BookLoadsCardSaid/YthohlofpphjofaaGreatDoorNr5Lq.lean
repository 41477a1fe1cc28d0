/- The reader of the reference: the loop of a chord in plain words. -/
import Derived.LaidMore
import Derived.HandedShaped
import Derived.Stop.LaidErr
import Derived.Lay
import Derived.Test.YthohlofpphjofaaGreatDoorGbLq
import Derived.Test.YthohlofpphjofaaGreatDoorNrTLq
set_option maxRecDepth 100000
set_option linter.unusedVariables false
set_option linter.unusedSimpArgs false
namespace Go.Proofs.YthohlofpphjofaaGreatDoor
theorem arD {p:Prop}(h:p:=by rw [show W.length - 1 - k+1=W.length - k by omega];exact hP.2):p:=h
theorem adZ {p:Prop}(h:p:=by show ¬ (4:Int)=0;decide):p:=h
section
variable {p:Prop}
theorem amA(h:p:=by
 by_cases hk:k < n;.rw [if_pos hk] at hs;omega
 .omega):p:=h
theorem amw(h:p:=by
 by_cases hk:k < n;.exact hk
 .rw [if_neg hk] at hs;omega):p:=h
theorem ama(h:p:=by
 by_cases hk:W.length - 1 - k < n;.rw [if_pos hk] at hs;omega
 .omega):p:=h
theorem al5(h:p:=by
 rw [if_pos hk] at hd hc ⊢;rw [if_neg (λe=>hd ⟨by omega,e⟩),hc];rfl):p:=h
theorem al2(h:p:=by
 by_cases hk:W.length - 1 - k < n;.exact hk
 .rw [if_neg hk] at hs;omega):p:=h
theorem alG(h:p:=by
 .show gV 2 n V (max (W.length - (k+1)) n)=gV 2 n V (max (W.length - k) n);rw [hmax k h hk]):p:=h
theorem UM(h:p:=by exact⟨by rw [hl,← e];rfl,by decide,by decide⟩):p:=h
end
section
open Go.ChangeShapes Go.WideShapes Go.ChangeAt Go.RowKit
def Iw:List (String×DataW Unit):=[("math/bits.deBruijn32tab",Rows.laid_math_bits_deBruijn32tab),("math/bits.deBruijn64tab",Rows.laid_math_bits_deBruijn64tab),("internal/strconv.uint64pow10",Rows.laid_internal_strconv_uint64pow10),("unicode/utf8.acceptRanges",Rows.laid_unicode_utf8_acceptRanges),("theorbo/instrument.bases",Rows.laid_theorbo_instrument_bases),("theorbo/instrument.fifths",Rows.laid_theorbo_instrument_fifths),("unicode/utf8.first",Rows.laid_unicode_utf8_first)]
theorem aAp:ownKnob Tryz.prog.godebug=none:=by kernel_rfl
theorem adH(l:List Int)(i:Nat)(v:Int)(hv:l[i]?=some v):i<l.length/\l.getD i 0=v:=by
 obtain⟨hi,e⟩:=List.getElem?_eq_some_iff.1 hv;exact⟨hi,by rw [dL,hv];rfl⟩
theorem Uh {W:World} (h:laidMetH Tryz.prog Iw W) (hs:W.ShapedOpen Tryz.prog):agE W (fun p=>W.cell? p):=by
 rw [MakeChecks.laidMetH_plain _ _ _ aK] at h
 have h3:=h.tail.tail
 have h5:=h3.tail.tail
 have e1:Lib.TabIs Tryz.prog W "internal/strconv.uint64pow10" .u64 Lib.pow10Tab :=
  Lib.tabIs_of_head (g:=5) (t:=371) (e:=349) (n:=20) aK aK Tryz.underlying371 Tryz.underlying349 aK aK h3
 have e2:Lib.TabIs Tryz.prog W "theorbo/instrument.bases" .i64 bsL :=
  Lib.tabIs_of_head (g:=1) (t:=261) (e:=3) (n:=7) aK aK Tryz.underlying261 Tryz.underlying3 aK aK h5
 have e3:Lib.TabIs Tryz.prog W "theorbo/instrument.fifths" .i64 ftL :=
  Lib.tabIs_of_head (g:=0) (t:=261) (e:=3) (n:=7) aK aK Tryz.underlying261 Tryz.underlying3 aK aK h5.tail
 have c2:∀ (i:Nat) v,bsL[i]?=some v→W.cell? ⟨1,i,none⟩=some (.int .i64 v):=fun i v hv=>by
  obtain ⟨hi,e⟩:=adH _ _ _ hv
  rw [← e];exact e2.cell aK i hi
 have c3:∀ (i:Nat) v,ftL[i]?=some v→W.cell? ⟨0,i,none⟩=some (.int .i64 v):=fun i v hv=>by
  obtain ⟨hi,e⟩:=adH _ _ _ hv
  rw [← e];exact e3.cell aK i hi
 exact ⟨⟨c3,c2,e1⟩,c2,e1,cell_of_shapedOpen_int (zero:=#[.int .i64 0]) (t:=3) hs (rP aK) aK rfl aK aK Tryz.underlying3⟩
theorem aez (os:Os) (args:Array Value):laidMetH Tryz.prog Iw ((World.laidAll Tryz.prog os Iw).forCall (λ_ _=>0) ⟨#[],args,[]⟩).memory:=by
 rw [MakeChecks.laidMetH_plain _ _ _ aK];exact laidMet_laidAll _ aK aK
theorem ap4 (os:Os):(World.laidAll Tryz.prog os Iw).Shaped Tryz.prog:=World.shaped_of_ZipB (by kernel_rfl) (by kernel_rfl)
theorem ajH {H:Type} {enc:TypeId×Value->H} {a:Assume} {C:Checked} {os:Os} {f:FuncId} {fn:Func} {s:ChangeSpec} {conds:List PathCond} {apart fresh handsOn again:Bool} {X:World->Array Value->Prop}(hX:∀ (w w':World) (args:Array Value),w.heap=w'.heap->X w args->X w' args)(own:ownKnob C.prog.godebug=none) (started:os.Started) (noInit:C.prog.inits.idxOf? f=none) (hfn:C.prog.funcs[f]?=some fn)(witness:∃ (w:World) (tape:Tape) (i:Input),w.os=os/\(w.forCall tape i).Shaped C.prog/\i.vars=[]/\Input.okWide C.prog (w.forCall tape i) .any w.heap.size f i /\((s.pre enc C.prog fn conds apart (w.forCall tape i).memory i.args/\X (w.forCall tape i).memory i.args)/\sizedMet enc C.prog fn (OpenSpec.ofChange s) apart (w.forCall tape i).memory i.args)/\a.holds C.prog (lone (Frame.enter C.prog f i.args .normal) [] (w.forCall tape i)))(contract:∀ (W:World) (base:Nat) (args:Array Value) (ds gs:List (DataW H)) (before:List MemPlace),(∀ (j:Nat) t v,fn.params[j]?=some t->args[j]?=some v->Value.okWide C.prog W .any base t v) ->DataW.Whole enc C.prog fn.params.toList s.vars apart W args.toList ds gs before->X W args->W.ShapedOpen C.prog ->Calls C.prog f args W λe W'=>∃ v,e=.returned v/\s.post enc C.prog fn apart fresh handsOn again W args v W') :ReturnsInHanded a C os f .any (λw args=>(s.pre enc C.prog fn conds apart w args/\X w args)/\sizedMet enc C.prog fn (OpenSpec.ofChange s) apart w args) (s.post enc C.prog fn apart fresh handsOn again):=by
 refine returnsInHanded_of_calls own started noInit witness ?_;intro w tape i _ hsh _ hok hpre _;obtain ⟨_,_,_,fn',hfn',_,_,_,_,hval⟩:=hok;obtain rfl:fn'=fn:=Option.some.inj (hfn'.symm.trans hfn);obtain ⟨⟨⟨ds,gs,before,hw,_⟩,hx⟩,_⟩:=hpre;refine (contract (w.forCall tape i) w.heap.size i.args ds gs before hval (DataW.Whole.of_heap (w':=w.forCall tape i) (by rfl) hw) (hX _ _ _ (by rfl) hx) hsh).mono λe W' ⟨v,he,hp⟩=>?_;subst he;exact ChangeSpec.post_blind hp
end
section
open Go.RowKit
def axE(s:Int):List UInt8:=if s=1 then [102,114,101,110,99,104]else if s=2 then [105,116,97,108,105,97,110]else if s=3 then [115,112,97,110,105,115,104]else [103,101,114,109,97,110]
def adf(s:Int):List UInt8:=[116,97,98,108,97,116,117,114,101,32]++axE s
def BD (s:Int)(p:bV):List (List UInt8):=p.evs.mapIdx λi e=>colS s p i e
def axB (s:Int)(p:bV):List UInt8:=aC 10 (adf s::fmT p.cs p.st::BD s p) []
theorem aiX {l:List UInt8} {s:Int} (h:nN l=some s):l=adf s/\1<=s/\s<=4:=by
 unfold nN at h;split at h
 .rename_i h0;have hl:=(NI 10 l).symm;rw [h0]at hl;split at h
  .rename_i e;cases h;exact UM
  .split at h
   .rename_i e;cases h;exact UM
   .split at h
    .rename_i e;cases h;exact UM
    .split at h
     .rename_i e;cases h;exact UM
     .cases h
 .cases h
theorem IX {cs:List Crs}:∀ {l:List N5},mX cs l=0->∀ x∈l,dX cs x=0
 | [],_,x,hx=>by cases hx| y::r,h,x,hx=>by
  unfold mX at h;by_cases e:dX cs y≠0;.omega
  .rw [if_neg e]at h;rcases List.mem_cons.1 hx with rfl|hx;.omega
   .exact IX h x hx
theorem Xo {cs:List Crs} {x:N5} (h1:1<=x.1):dX cs x=0↔(x.1<=cs.length/\(x.2.1:Int)<=jV cs x.1):=by grind[dX,jV]
section
variable {s:Int} {p:bV}
structure NwP(s:Int)(p:bV):Prop where
 e:bM p=0y:1<=s/\s<=4l:∀ i(h:i<p.evs.length),qV s p i p.evs[i]=[]
theorem IW(s:Int)(p:bV):(BD s p).length=p.evs.length:=NH
theorem aah {i:Nat} (h:i<(BD s p).length):(BD s p)[i]=colS s p i (p.evs[i]'(by simp_all[IW])):=by grind[BD]
end
theorem IE {s:Int} {cs:List Crs}:∀ {L:List (List UInt8)} {k:Nat},nK s cs k L=none->∀ i (h:i<L.length),eY s cs (k+i) L[i]=0
 | t::r,k,h,i,hi=>by
  unfold nK at h;by_cases e:eY s cs k t≠0;.simp_all
  .rw [if_neg e] at h;cases i with
   | zero=>simp_all| succ i =>
    have:=IE h i (by simpa using hi);grind
theorem Qc {s:Int} {cs:List Crs}:∀ {L:List (List UInt8)} {k:Nat} {x:Nat×Int},nK s cs k L=some x->x.2≠0
 | t::r,k,x,h=>by
  unfold nK at h;by_cases e:eY s cs k t≠0;.grind
  .rw [if_neg e]at h;exact Qc h
structure NwR (t:List UInt8)(s:Int)(l1:List UInt8)(F:List (List UInt8)):Prop where
 spl:aH 10 t=(adf s::l1::F,[])y:1<=s/\s<=4ins:(aF l1).2=0len:F.length<=400bad:∀ i (h:i<F.length),eY s (aF l1).1.1 i F[i]=0hb:pG s (F.map (aT s (aF l1).1.1))=none
 eq:aG t=(s,⟨(aF l1).1.1,(aF l1).1.2,oM s (F.map (aT s (aF l1).1.1))⟩,0,0)
theorem aal {t:List UInt8} (h:(aG t).2.2.2=0):∃ s l1 F,NwR t s l1 F:=by
 have e0:aG t=jq (aH 10 t).2 (aH 10 t).1:=rfl;obtain⟨⟨F0,tl⟩,hF⟩:∃ z,aH 10 t=z:=⟨_,rfl⟩;rw [e0,hF]at h;rw [hF]at e0;dsimp only at h e0;cases F0 with
 | nil=>exact absurd h adZ| cons l0 F1 =>
  unfold jq at h e0;dsimp only at h e0;cases hs:nN l0 with
  | none=>rw [hs]at h;exact absurd h adZ| some s =>
   rw [hs]at h e0;dsimp only at h e0;cases F1 with
   | nil=>exact absurd h adZ| cons l1 F =>
    unfold wP at h e0;dsimp only at h e0;by_cases hi:(aF l1).2≠0
    .rw [if_pos hi]at h;exact absurd h hi
    rw [if_neg hi]at h e0;by_cases hm:400<F.length+(if tl=[]then 0 else 1)
    .rw [if_pos hm]at h;exact absurd h (by show ¬ (2:Int)=0;decide)
    rw [if_neg hm]at h e0;unfold mF at h e0;cases hb:nK s (aF l1).1.1 0 F with
    | some x =>
     rw [hb]at h;exact absurd h (Qc hb)| none =>
     rw [hb]at h e0;dsimp only at h e0;by_cases ht:tl≠[]
     .rw [if_pos ht]at h;exact absurd h adZ
     rw [if_neg ht]at h e0;have ht2:tl=[]:=Decidable.not_not.1 ht;cases hh:pG s (F.map (aT s (aF l1).1.1))with
     | some i =>
      rw [hh]at h;exact absurd h (by show ¬ (24:Int)=0;decide)| none =>
      rw [hh]at e0;obtain⟨q1,q2⟩:=aiX hs;subst q1;subst ht2;refine⟨s,l1,F,hF,q2,Decidable.not_not.1 hi,by simpa using hm,λi hi=>?_,hh,e0⟩;have:=IE hb i hi;rw [oC]at this;exact this
theorem afw {s:Int} {cs:List Crs} {k:Nat} {t:List UInt8} (h:eY s cs k t=0):dQ s (aA s cs) t=some (aT s cs t)/\¬ (k=0/\(aT s cs t).v=0)/\¬ (k=0/\(aT s cs t).tie=true)/\∀ y∈(aT s cs t).l,dX cs y=0:=by grind[eY,aT,oL,IX]
theorem aai {l:List UInt8} (h:(aF l).2=0):jW (aF l).1.1 (aF l).1.2=0:=by grind[aF]
theorem PG {p:bV}:∀ {l:List Ev} {k:Nat},(∀ i (h:i<l.length),Vg p ((k+i:Nat):Int) l[i]=0)->Kv p k l=0
 | [],_,_=>rfl| e::r,k,h=>by
  have h0:=h 0 (by simp);simp only [NU,FQ] at h0;unfold Kv;rw [if_neg (by rw [h0];decide)];exact PG λi hi=>by
   have:=h (i+1) (by simpa using hi);grind
theorem aaj {p:bV} (h1:jW p.cs p.st=0)(h2:p.evs.length<=400)(h3:∀ i(h:i<p.evs.length),Vg p i p.evs[i]=0):bM p=0:=by simp_all[bM,PG]
theorem Jd {p:bV} {i:Int}:∀ {l:List Stp} {last:Int},(l.Pairwise λx y=>x.1<y.1)->(∀ x∈l,last<x.1)->(∀ x∈l,∀ la,la<x.1->lI p i x la=0)->kN p i last l=0
 | [],_,_,_,_=>rfl| x::r,last,h1,h2,h3=>by
  unfold kN;rw [if_neg (by simp_all)];exact Jd (List.pairwise_cons.1 h1).2 (List.pairwise_cons.1 h1).1 λy hy=>h3 y CY
section
variable {t:List UInt8} {s:Int} {l1:List UInt8} {F:List (List UInt8)}
noncomputable def mY (s:Int)(l1:List UInt8)(F:List (List UInt8)):bV:=⟨(aF l1).1.1,(aF l1).1.2,oM s (F.map (aT s (aF l1).1.1))⟩
theorem ZX(s:Int)(E:List NC):(oM s E).length=E.length:=NH
theorem Xm (s:Int)(E:List NC)(i c:Int):ak (oM s E) i c=ak (E.map iQ) i c:=by
 refine LH ?_ i c;unfold oM;apply oV;all_goals simp[sZ,iQ,dJ,lC]
theorem aiU (h:NwR t s l1 F):(mY s l1 F).evs.length=F.length:=by
 show (oM s (F.map (aT s (aF l1).1.1))).length=_;simp[ZX]
theorem EW (h:NwR t s l1 F) {i:Nat} (hi:i < (mY s l1 F).evs.length) (hF:i < F.length) :colS s (mY s l1 F) i (mY s l1 F).evs[i]=F[i]/\qV s (mY s l1 F) i (mY s l1 F).evs[i]=[]/\Vg (mY s l1 F) i (mY s l1 F).evs[i]=0/\(mY s l1 F).evs[i].stops.length<=20:=by
 obtain ⟨e1,e2,e3,e4⟩:=afw (h.bad i hF);have hbn:=h.hb;unfold pG at hbn;rw [NJ] at hbn;have hb:=hbn i (List.mem_range.2 (by simp_all));rw [dw,aO hF] at hb;have hb2:∀ y∈(aT s (aF l1).1.1 F[i]).l,nU s (F.map (aT s (aF l1).1.1)) i y=false:=by simp_all
 have hlong:∀ c,ak (mY s l1 F).evs i c=ak ((F.map (aT s (aF l1).1.1)).map iQ) i c:=λc=>Xm _ _ _ _;have hev:(mY s l1 F).evs[i]=dJ (aT s (aF l1).1.1 F[i]) λy=>xK s (ak (mY s l1 F).evs i y.1) y.2.2.2.2:=by
  have:(mY s l1 F).evs[i]=dJ (aT s (aF l1).1.1 F[i]) (aN s (F.map (aT s (aF l1).1.1)) i):=by rw [List.getElem_of_eq (show (mY s l1 F).evs=(F.map (aT s (aF l1).1.1)).mapIdx λi x=>dJ x (aN s (F.map (aT s (aF l1).1.1)) i) from rfl) hi,Jh,Yx]
  rw [this];congr 1;funext y;rw [hlong];rfl
 have hH:∀ y∈(aT s (aF l1).1.1 F[i]).l,NwH s (λc=>ak (mY s l1 F).evs i c) y:=λy hy=>by
  have:=hb2 y hy;unfold nU pI at this;rw [← hlong] at this;refine ⟨λh0=>?_,λh1=>?_⟩;all_goals grind
 obtain ⟨c1,c2,c3⟩:=apo (p:=mY s l1 F) (i:=(i:Int)) h.y e1 hH;rw [← hev] at c1 c2;refine ⟨c1,c2,?_,?_⟩;.-- the event is valid
  have hstops:(mY s l1 F).evs[i].stops=(aT s (aF l1).1.1 F[i]).l.map (jv s λc=>ak (mY s l1 F).evs i c):=by rw [hev];rfl
  have hval:(mY s l1 F).evs[i].val=((aT s (aF l1).1.1 F[i]).v:Int):=by rw [hev];rfl
  have htie:(mY s l1 F).evs[i].tie=(aT s (aF l1).1.1 F[i]).tie:=by rw [hev];rfl
  have hsg:qG (mY s l1 F).evs[i].val (mY s l1 F).evs[i].dot (mY s l1 F).evs[i].three=true:=by rw [hev];exact c3.sg
  unfold Vg;rw [hstops,htie,hval] at *;rw [if_neg (λq=>by
   rcases q with q|q
   .have:=hsg;rw [q] at this;cases this
   .exact e2 ⟨by omega,by omega⟩),if_neg (λq=>by
   have hnil:=c3.tie q.1;rcases q.2 with k|k;.rw [hnil] at k;simp at k
   .exact e3 ⟨by omega,q.1⟩)];refine Jd ?_ ?_ ?_
  .rw [List.pairwise_map];refine List.Pairwise.imp (λ{a b} hab=>?_) c3.asc;show ((a.1:Nat):Int) < ((b.1:Nat):Int);omega
  .intro x hx;obtain ⟨y,hy,rfl⟩:=List.mem_map.1 hx;have:=(c3.st y hy).c;show 0 < (y.1:Int);have h2:(1:Int)<=(y.1:Int):=this.1;omega
  .intro x hx la hla;obtain ⟨y,hy,rfl⟩:=List.mem_map.1 hx;obtain ⟨d1,d2,d3,d4,d5,d6,d7,d8⟩:=c3.st y hy;have h1:1<=y.1:=by have h2:(1:Int)<=(y.1:Int):=d1.1;omega
   obtain ⟨f1,f2⟩:=(Xo h1).1 (e4 y hy);have a1:(jv s (λc=>ak (mY s l1 F).evs i c) y).1=(y.1:Int):=rfl;have a2:(jv s (λc=>ak (mY s l1 F).evs i c) y).2.1=(y.2.1:Int):=rfl;have a3:(mY s l1 F).cs=(aF l1).1.1:=rfl;refine akf ?_ ?_ ?_ ?_ ?_;.rw [a1,a3];omega
   .rw [a1,a2,a3];omega
   .omega
   .omega
   .intro q;rcases q with q|q
    .rcases q with q|q;.omega
     .omega
    .exact d7 q.1 q.2
 .rw [hev];show ((aT s (aF l1).1.1 F[i]).l.map _).length<=20;rw [bK];rcases Dt (a:=0) c3.asc (λx hx=>by
   have h2:=(c3.st x hx).c;have h3:(1:Int)<=(x.1:Int)/\(x.1:Int)<=14:=h2;omega) with q|q;.omega
  .rw [q];simp
theorem aan (h:NwR t s l1 F):NwP s (mY s l1 F)/\jh (mY s l1 F)/\axB s (mY s l1 F)=aC 10 (adf s::fmT (mY s l1 F).cs (mY s l1 F).st::F) []:=by
 have hl:=aiU h;have hI:=aai h.ins;obtain⟨i1,i2,i3,_,_⟩:=uG hI;have hcols:BD s (mY s l1 F)=F:=by grind[oV,IW,aah,EW]
 refine⟨⟨aaj hI (by have:=h.len;omega) λi hi=>(EW h hi au).2.2.1,h.y,λi hi=>(EW h hi au).2.1⟩,⟨?_,?_,?_,λk hk=>(EW h hk au).2.2.2⟩,?_⟩;.show (aF l1).1.1.length<=64;omega
 .show (aF l1).1.2.length<=64;omega
 .have:=h.len;omega
 simp_all[axB]
end
def mg(x:N5):Stp:=(x.1,x.2.1,x.2.2.1,x.2.2.2.1,(x.2.2.2.2:Int))
theorem I4:∀ (l:List N5) (x:N5),tJ (l.map mg) (mg x)=(oN l x).map mg
 | [],x=>rfl| y::r,x=>by
  have e:((mg y).1<(mg x).1)=(y.1<x.1):=by
   show ((y.1:Int)<(x.1:Int))=_;exact propext Int.ofNat_lt
  show (if (mg y).1<(mg x).1 then _ else _)=_;unfold oN;by_cases h:y.1<x.1;.rw [if_pos (by rw [e];exact h),if_pos h,I4 r x];rfl
  .rw [if_neg (by rw [e];exact h),if_neg h];rfl
theorem qE {s:Int} {n m i:Nat} (h:s≠2):eH s n m i=if i<n then ((i:Int)+1)else 0:=by
 unfold eH;rw [if_neg h];by_cases k:i<n;.rw [if_pos k,if_neg (by omega)]
 .rw [if_neg k,if_pos (by omega)]
theorem qC {n m i:Nat} (hi:i<m):eH 2 n m i=if m-1-i<n then (((m-1-i:Nat):Int)+1)else 0:=by
 unfold eH;rw [if_pos rfl];by_cases k:m-1-i<n;.rw [if_pos k,if_neg (by omega)];omega
 .rw [if_neg k,if_pos (by omega)]
theorem af0 {W:List (List UInt8)} {i:Nat} (hi:i<W.length):(fJ 2 W)[W.length-1-i]?=some W[i]:=by
 unfold fJ;rw [if_pos rfl,List.getElem?_reverse (by omega),show W.length-1-(W.length-1-i)=i by omega,aO hi]
theorem afV {s:Int} {n:Nat} {W:List (List UInt8)} (h:uT s n W.length):pF s n W=none:=by
 unfold pF;have hl:(fJ s W).length=W.length:=Dw s W;rcases h with h|h|⟨h3,h⟩;.exact IG (by rw [hl];exact h)
 .have:fJ s W=[]:=List.length_eq_zero_iff.1 (hl.trans h);rw [this];exact Bv rfl
 .subst h3;exact uO (i:=n) (by rw [hl];exact h) (by unfold bF;rw [if_neg (Nat.lt_irrefl n),Z9];rfl)
theorem ajM {s:Int} {n m:Nat} (h:¬ uT s n m):n<=m/\0<m/\(s=3->m=n):=by
 unfold uT at h;omega
structure as4 (s:Int)(n:Nat)(W:List (List UInt8))(P:Nat->Prop)(LL:Nat->List N5)(la:Nat->Nat)(RR:Option (List N5)):Prop where
 start:P 0/\LL 0=[]/\la 0=0
 bad:∀ k (h:k<W.length),P k->¬ (0<eH s n W.length k/\W[k]=[45])->iP s (eH s n W.length k) W[k]=none->RR=none
 dash:∀ k (h:k<W.length),P k->0<eH s n W.length k->W[k]=[45]->P (k+1)/\LL (k+1)=LL k/\la (k+1)=la k
 on:∀ k (h:k<W.length) x,P k->0<eH s n W.length k->W[k]≠[45]->iP s (eH s n W.length k) W[k]=some x->P (k+1)/\LL (k+1)=oN (LL k) x/\la (k+1)=la k
 fall:∀ k (h:k<W.length)(x:N5),P k->eH s n W.length k=0->iP s (eH s n W.length k) W[k]=some x->0<la k->(s=2/\la k<=x.1\/s≠2/\x.1<=la k)->RR=none
 out:∀ k (h:k<W.length)(x:N5),P k->eH s n W.length k=0->iP s (eH s n W.length k) W[k]=some x->¬ (0<la k/\(s=2/\la k<=x.1\/s≠2/\x.1<=la k))->P (k+1)/\LL (k+1)=oN (LL k) x/\la (k+1)=x.1done:P W.length->RR=if LL W.length=[] then none else some (LL W.length)len:∀ k,(LL k).length<=k
theorem aaO {s:Int} {n m i:Nat} (hi:i<m):0<=eH s n m i:=by
 by_cases h:s=2;.subst h;rw [qC hi];split<;>omega
 .rw [qE h];split<;>omega
theorem aiK (s:Int) (n:Nat) (W:List (List UInt8)):∀ k,(jA s n W k).length<=W.length-k:=by
 intro k;unfold jA;generalize W.length-k=d;induction d generalizing k with
 | zero=>simp| succ d ih =>
  rw [FP,NG,dS];have:=EP (s:=s) (n:=n) (W:=W) k;have:=ih (k+1);omega
theorem ajJ {s:Int} {n:Nat} {W:List (List UInt8)} (h2:s≠2) (hn:n<=W.length) (h6:n<=6) (h4:s=4->n=0) :as4 s n W (λk=>(∀ i (h:i < W.length),i < k->(bF s n i W[i]).isSome=true)/\eX (gQ s n W k)) (gQ s n W) (vW s n W) (pF s n W):=by
 have hrev:pF s n W=nM s n W:=by unfold pF fJ;rw [if_neg h2]
 rw [hrev];have hnx:∀ {k:Nat} {P:∀ i,i < W.length->Prop},(∀ i (h:i < W.length),i < k->P i h)->(∀ h:k < W.length,P k h)->∀ i (h:i < W.length),i < k+1->P i h:=λ{k P} h1 h3 i h h5=>by
  by_cases e:i=k;.subst e;exact h3 h
  .exact h1 i h au
 refine ⟨⟨⟨λi h hi=>absurd hi (by omega),List.Pairwise.nil⟩,rfl,qA (by omega)⟩,?_,?_,?_,?_,?_,?_,λk=>EI s n W k⟩
 .intro k h hP hd hc;rw [qE h2] at hd hc;refine uO h ?_;unfold bF;by_cases hk:k < n;.exact al5
  .rw [if_neg hk] at hc ⊢;rw [hc];rfl
 .intro k h hP hs hd;rw [qE h2] at hs;have hk:k < n:=by exact amw
  have hw:bF s n k W[k]=some none:=by unfold bF;rw [if_pos hk,if_pos hd]
  have e:gQ s n W (k+1)=gQ s n W k:=by rw [wO,BA h hw,xX]
  refine ⟨⟨hnx hP.1 λ_=>by rw [hw];rfl,by rw [e];exact hP.2⟩,e,?_⟩;rw [qA (by omega),qA (by omega)]
 .intro k h x hP hs hd hc;rw [qE h2] at hs hc;have hk:k < n:=by exact amw
  rw [if_pos hk] at hc;have hw:bF s n k W[k]=some (some x):=by unfold bF;rw [if_pos hk,if_neg hd,hc];rfl
  have hx:=jg h hw;have hx1:=LQ hk hw;refine ⟨⟨hnx hP.1 λ_=>by rw [hw];rfl,Tv (by omega)⟩,?_,by rw [qA (by omega),qA (by omega)]⟩;rw [wO,hx,zV];intro y hy;obtain ⟨i,hi,hyi⟩:=uM.1 hy;rw [vX (by omega) hyi,hx1];omega
 .intro k h x hP hs hc hla hb;rw [qE h2] at hs hc;have hk:n<=k:=by exact amA
  rw [if_neg (by omega)] at hc;have hw:bF s n k W[k]=some (some x):=by unfold bF;rw [if_neg (by omega),hc];rfl
  have hx:=jg h hw;refine EK (k:=k+1) au λha=>?_;have:=(GH h6 h4 hk hP.1 au hP.2 hx).1 ha;omega
 .intro k h x hP hs hc hb;rw [qE h2] at hs hc;have hk:n<=k:=by exact amA
  rw [if_neg (by omega)] at hc;have hw:bF s n k W[k]=some (some x):=by unfold bF;rw [if_neg (by omega),hc];rfl
  have hx:=jg h hw;have hx1:=Bz (s:=s) (n:=n) (W:=W) (i:=k) (x:=x) (by rw [hx];simp);have ha:=(GH h6 h4 hk hP.1 au hP.2 hx).2 au;refine ⟨⟨hnx hP.1 λ_=>by rw [hw];rfl,ha⟩,?_,GU hk hx⟩;rw [wO,hx] at ha ⊢;rw [zV];intro y hy;exact (List.pairwise_append.1 ha).2.2 y hy x (by simp)
 .intro hP;by_cases hnil:gQ s n W W.length=[];.rw [if_pos hnil];exact Bv hnil
  .rw [if_neg hnil];exact GL hn (λi h=>hP.1 i h h) hP.2 hnil
theorem ajI {n:Nat} {W:List (List UInt8)} (hn:n<=W.length) (h6:n<=6) :as4 2 n W (λk=>(∀ i (h:i < (fJ 2 W).length),W.length - k<=i->(bF 2 n i (fJ 2 W)[i]).isSome=true)/\eX (jA 2 n (fJ 2 W) (W.length - k))) (λk=>jA 2 n (fJ 2 W) (W.length - k)) (λk=>gV 2 n (fJ 2 W) (max (W.length - k) n)) (pF 2 n W):=by
 have hrev:pF 2 n W=nM 2 n (fJ 2 W):=rfl;rw [hrev];have hl:(fJ 2 W).length=W.length:=Dw 2 W;have hget:∀ k (h:k < W.length),∃ h2:W.length - 1 - k < (fJ 2 W).length,(fJ 2 W)[W.length - 1 - k]=W[k]:=λk h=>by
  have e:=af0 h;have h2:W.length - 1 - k < (fJ 2 W).length:=by omega
  rw [aO h2] at e;exact ⟨h2,Option.some.inj e⟩
 obtain ⟨V,hV⟩:∃ z,fJ 2 W=z:=⟨_,rfl⟩;rw [hV] at hl hget ⊢;have h4:(2:Int)=4->n=0:=λh=>by cases h
 have hnx:∀ {k:Nat} {P:∀ i,i < V.length->Prop},k < W.length->(∀ i (h:i < V.length),W.length - k<=i->P i h)->(∀ h:W.length - 1 - k < V.length,P (W.length - 1 - k) h)->∀ i (h:i < V.length),W.length - (k+1)<=i->P i h:=λ{k P} hk h1 h3 i h h5=>by
  by_cases e:i=W.length - 1 - k;.subst e;exact h3 h
  .exact h1 i h au
 have hR:∀ k,k < W.length->jA 2 n V (W.length - (k+1))=kV 2 n V (W.length - 1 - k)++jA 2 n V (W.length - k):=λk h=>by rw [show W.length - (k+1)=W.length - 1 - k by omega,GI 2 n V (k:=W.length - 1 - k) (by omega),show W.length - 1 - k+1=W.length - k by omega]
 have aqC:∀ k,k < W.length->W.length - 1 - k < n->eX (jA 2 n V (W.length - k))->eX (jA 2 n V (W.length - (k+1)))/\∀ x∈kV 2 n V (W.length - 1 - k),∀ y∈jA 2 n V (W.length - k),x.1 < y.1:=λk h hk ha=>by
  have e:=apj (s:=2) (n:=n) (W:=V) (k:=W.length - 1 - k) h6 h4 hk (by omega) (by rw [show W.length - 1 - k+1=W.length - k by omega];exact ha);rw [show W.length - 1 - k+1=W.length - k by omega] at e;rw [show W.length - (k+1)=W.length - 1 - k by omega];exact e
 have hmax:∀ k,k < W.length->W.length - 1 - k < n->max (W.length - (k+1)) n=max (W.length - k) n:=λk h hk=>by omega
 refine ⟨⟨⟨λi h hi=>absurd hi au,?_⟩,?_,?_⟩,?_,?_,?_,?_,?_,?_,λk=>?_⟩;.rw [CP,← hl,Lp];exact List.Pairwise.nil
 .show jA 2 n V (W.length - 0)=[];rw [CP,← hl,Lp]
 .show gV 2 n V (max (W.length - 0) n)=0;rw [show max (W.length - 0) n=V.length by omega];exact LC
 .intro k h hP hd hc;obtain ⟨h2,hg⟩:=hget k h;rw [qC h] at hd hc;refine uO h2 ?_;rw [hg];unfold bF;by_cases hk:W.length - 1 - k < n;.exact al5
  .rw [if_neg hk] at hc ⊢;rw [hc];rfl
 .intro k h hP hs hd;obtain ⟨h2,hg⟩:=hget k h;rw [qC h] at hs;have hk:W.length - 1 - k < n:=by exact al2
  have hw:bF 2 n (W.length - 1 - k) V[W.length - 1 - k]=some none:=by rw [hg];unfold bF;rw [if_pos hk,if_pos hd]
  refine ⟨⟨hnx h hP.1 λ_=>by rw [hw];rfl,(aqC k h hk hP.2).1⟩,?_,?_⟩
  .show jA 2 n V (W.length - (k+1))=jA 2 n V (W.length - k);rw [hR k h,BA h2 hw];rfl
  exact alG
 .intro k h x hP hs hd hc;obtain ⟨h2,hg⟩:=hget k h;rw [qC h] at hs hc;have hk:W.length - 1 - k < n:=by exact al2
  rw [if_pos hk] at hc;have hw:bF 2 n (W.length - 1 - k) V[W.length - 1 - k]=some (some x):=by rw [hg];unfold bF;rw [if_pos hk,if_neg hd,hc];rfl
  have hx:=jg h2 hw;obtain ⟨a1,a2⟩:=aqC k h hk hP.2;refine ⟨⟨hnx h hP.1 λ_=>by rw [hw];rfl,a1⟩,?_,?_⟩
  .show jA 2 n V (W.length - (k+1))=oN (jA 2 n V (W.length - k)) x;rw [Ci (a2 x (by rw [hx];simp)),hR k h,hx];rfl
  exact alG
 .intro k h x hP hs hc hla hb;obtain ⟨h2,hg⟩:=hget k h;rw [qC h] at hs hc;have hk:n<=W.length - 1 - k:=by exact ama
  rw [if_neg (by omega)] at hc;have hw:bF 2 n (W.length - 1 - k) V[W.length - 1 - k]=some (some x):=by rw [hg];unfold bF;rw [if_neg (by omega),hc];rfl
  have hx:=jg h2 hw;refine Qd λha=>?_;have at6:=ZV (Xb 2 n V (k:=W.length - 1 - k) au) ha;have hst:=Xa (s:=2) (n:=n) (W:=V) (k:=W.length - 1 - k) hk (by omega) (λi hi hik=>hP.1 i hi (by omega)) arD hx;rw [show W.length - 1 - k+1=W.length - k by omega] at hst;have aBT:0 < gV 2 n V (W.length - k):=by rw [show W.length - k=max (W.length - k) n by omega];exact hla
  have hb2:gV 2 n V (W.length - k)<=x.1:=by
   rw [show W.length - k=max (W.length - k) n by omega];rcases hb with b|b;.exact b.2
   .exact absurd rfl b.1
  have hlt:∀ y∈jA 2 n V (W.length - k),x.1 < y.1:=by
   have e:=GI 2 n V (k:=W.length - 1 - k) au;rw [show W.length - 1 - k+1=W.length - k by omega,hx] at e;rw [e] at at6;exact λy hy=>(List.pairwise_append.1 at6).2.2 x (by simp) y hy
  have:=hst.2 ⟨at6,hlt⟩;omega
 .intro k h x hP hs hc hb;obtain ⟨h2,hg⟩:=hget k h;rw [qC h] at hs hc;have hk:n<=W.length - 1 - k:=by exact ama
  rw [if_neg (by omega)] at hc;have hw:bF 2 n (W.length - 1 - k) V[W.length - 1 - k]=some (some x):=by rw [hg];unfold bF;rw [if_neg (by omega),hc];rfl
  have hx:=jg h2 hw;have hst:=Xa (s:=2) (n:=n) (W:=V) (k:=W.length - 1 - k) hk (by omega) (λi hi hik=>hP.1 i hi (by omega)) arD hx;rw [show W.length - 1 - k+1=W.length - k by omega] at hst;have hb2:¬ (0 < gV 2 n V (W.length - k)/\(2=2/\gV 2 n V (W.length - k)<=x.1\/(2:Int)≠2/\x.1<=gV 2 n V (W.length - k))):=by
   intro q;apply hb;rw [show max (W.length - k) n=W.length - k by omega];exact ⟨q.1,q.2.imp (λa=>⟨rfl,a.2⟩) (λa=>a)⟩
  obtain ⟨a1,a2⟩:=hst.1 (by
   rcases abu (gV 2 n V (W.length - k)) with z|z;.exact .inl z
   .exact .inr (by
     rcases FM x.1 (gV 2 n V (W.length - k)) with y|y;.exact y
     .exact absurd ⟨z,.inl ⟨rfl,y⟩⟩ hb2));refine ⟨⟨hnx h hP.1 λ_=>by rw [hw];rfl,by rw [show W.length - (k+1)=W.length - 1 - k by omega];exact a1⟩,?_,?_⟩
  .show jA 2 n V (W.length - (k+1))=oN (jA 2 n V (W.length - k)) x;rw [Ci a2,hR k h,hx];rfl
  .show gV 2 n V (max (W.length - (k+1)) n)=x.1;rw [show max (W.length - (k+1)) n=W.length - 1 - k by omega];exact LD au hx
 .intro hP;show _=if jA 2 n V (W.length - W.length)=[] then none else some (jA 2 n V (W.length - W.length));have hP1:∀ i (h:i < V.length),(bF 2 n i V[i]).isSome=true:=λi h=>hP.1 i h au;have hP2:=hP.2;rw [Nat.sub_self,aiJ] at hP2 ⊢;by_cases hnil:gQ 2 n V V.length=[];.rw [if_pos hnil];exact Bv hnil
  .rw [if_neg hnil];exact GL (by omega) hP1 hP2 hnil
 .show (jA 2 n V (W.length - k)).length<=k;have:=aiK 2 n V (W.length - k);omega
end
end Go.Proofs.YthohlofpphjofaaGreatDoor
