/- Slide and Release of the reference. (RWN.) -/
import Derived.Test.YtaeelcfjkhfpkaaGreatREePq
import Derived.Test.YtaeelcfjkhfpkaaGreatYHPq
set_option maxHeartbeats 8000000
set_option maxRecDepth 100000
set_option linter.unusedVariables false
set_option linter.unusedSimpArgs false
namespace Go.Proofs.YtaeelcfjkhfpkaaGreat
section
open Go.RowKit
section
variable {P:Program} {C:Cx} {σ σ':St} {G G':Gh} {a:Act} {w w':World} {o:Oper} {d:Tmp}
theorem WO.appendW {T e n by_ k m:Nat} {z:Value} {i:TypeInfo} {x y:Operand} {rows rows2 rows':List (List AV)} {av2:AV} (ho:o.op=.call { callee:=.builtin .append,args:=#[x,y],argTypes:=#[T,T] }) (hT:P.underlying T=some (.slice e))
  (hi:P.info? e=some i) (hz:i.zero=some z) (hn:i.size=n) (hby:i.bytes=by_) (hzs:z.cells.size=n) (h0:Nat.blt 0 n=true) (hds:o.dst=some d) (hd:Nat.blt d C.N=true)
  (hx:σ.ev x=some (.sl k)) (hk:look k σ.M=some (.rwn e n rows)) (hy:σ.ev y=some av2) (hs:σ.src n av2=some rows2) (hm:σ.nk=m) (hb1:rows.length+rows2.length≤1000000000) (hb2:Nat.ble by_ 100000=true) (hrr:rows++rows2=rows') :
  WO P C o σ (((σ.drop k).new (.rwn e n rows')).put d (.sl m)):=by
 intro G a w ok N Q' hN
 obtain ⟨A,c,l,ey,hl,hrd,hll,hl1,hrl2,hrel2⟩:=ok.src_ hs (ok.evr hy).2
 obtain ⟨hn',hg,hR⟩:=(ok.ob k _ hk).2.2
 obtain ⟨v',w',hrun,q2,q3,hone,hR'⟩:=RowIs.app (P:=P) (ty:=o.type) (c:=c) (Y:=fun w ψ av u=>OW G.F w av u ψ) (φ2:=fun _=>False) (Ψ:=fun _ _ _=>False) hR hT hi hz hn hby hzs (of_blt h0) hrd hl hll hl1 hrl2 (fun i r r' a b=>(hrel2 i r r' a b).1) (fun _ _ _ h=>h) (fun _ _ _ _ _ h=>h.elim) (fun _ _ h=>h)
  (fun x hx=>hx.elim (fun h=>(ok.my k _ x hk h).2) False.elim) (fun i r r' j av u a b c d=>.pu _ _ _ ((hrel2 i r r' a b).2 j av u c d)) (fun _ _ _ _ hw h=>h.keep (fun _ _ h=>h) hw) hb1 (Nat.le_of_ble_eq_true hb2)
 rw [← hl] at ey
 have ok':=ok.joined (gone:=[]) (n:=n) (v':=v') (φ2:=fun _=>False) (ob':=.rwn e n rows') (okd:=ok.drop_ k) (fun i o h=>⟨(drop_look h).1,(drop_look h).2,by simp⟩) rfl hk hR.fp (fun x h=>h.elim) q2 q3 hR'.lt
  ⟨with_n,(fun g hg=>by rw [with_h] at hg;rw [with_b,hg];rfl),by rw [with_h,with_f,← hrr];exact hR'⟩ trivial
 refine run_appendO ho (ok.evr hx).2.sl_of.1 ey hrun ?_
 rw [hds]
 subst hm
 exact hN _ _ _ (ok'.set (d:=some d) (av:=.sl σ.nk) (v:=v') (by have:=R.sl (G:=G.with σ.nk (v'.ownBlock.getD 0) n v' (fun x=>v'.ownBlock=some x∨G.fp k x∨False)) σ.nk (by rw [with_h];exact hone);rw [with_h] at this;exact this) (.sl _ (Nat.lt_succ_self _)) fun x hx=>by cases hx;exact of_blt hd)
end
end
section
open Go.RowKit
section
variable {P:Program} {C:Cx} {σ σ':St} {o:Oper} {d:Tmp} {ops:Array Oper} {rest:List Oper} {Q:Exit→St→Prop}
theorem DK.ldr {rows:List (List AV)} {i j:Nat} {r:List AV} {av:AV} (hd:dstD C.N ops σ o=some d)(h:ldrV P (σ.only (o.looksAt ops)) o.op=some (rows,i,j))(hi:rows[i]?=some r)(hj:r[j]?=some av)(ho2:av.own=false)(k:DK P C ops rest (σ.put d av) Q):DK P C ops (o::rest) σ Q:=DK.vl hd (ldrV_of h hi hj ho2) k
end
end
section
open Go.RowKit
def mpK {α:Type} (f:α→α)(k:Nat)(l:List α):List α:=(l.take k).map f++l.drop k
theorem mpK_0 {α:Type} (f:α→α)(l:List α):mpK f 0 l=l:=by unfold mpK;simp
theorem mpK_all {α:Type} (f:α→α)(l:List α):mpK f l.length l=l.map f:=by unfold mpK;simp
theorem mpK_len {α:Type} (f:α→α)(k:Nat)(l:List α):(mpK f k l).length=l.length:=by
 unfold mpK;rw [List.length_append,List.length_map,List.length_take,List.length_drop];omega
theorem mpK_get {α:Type} {f:α→α} {k:Nat} {l:List α} (h:k<l.length):(mpK f k l)[k]?=some l[k]:=by
 unfold mpK
 have hl:((l.take k).map f).length=k:=by rw [List.length_map,List.length_take];omega
 rw [List.getElem?_append_right (by omega),hl,Nat.sub_self,List.getElem?_drop,Nat.add_zero,List.getElem?_eq_getElem h]
theorem mpK_put {α:Type} {f:α→α} {k:Nat} {l:List α} (h:k<l.length):(mpK f k l).set k (f l[k])=mpK f (k+1) l:=by
 unfold mpK
 have hl:((l.take k).map f).length=k:=by rw [List.length_map,List.length_take];omega
 rw [List.set_append_right _ _ (by omega),hl,Nat.sub_self,List.drop_eq_getElem_cons h,List.set_cons_zero,List.take_succ_eq_append_getElem h,List.map_append,List.append_assoc];rfl
def gmE(g:Stp→Stp)(e:Ev):Ev:={ e with stops:=e.stops.map g }
theorem gmE_len(g:Stp→Stp)(e:Ev):(gmE g e).stops.length=e.stops.length:=List.length_map _
theorem gm_ok {g:Stp→Stp} {p:Pce} {cs:List (Int×Int×Bool)} {st:List Int} (hO:PcOk p) (h1:cs.length≤64) (h2:st.length≤64):PcOk ⟨cs,st,p.evs.map (gmE g)⟩ :=
 ⟨h1,h2,by show (p.evs.map (gmE g)).length≤420;rw [List.length_map];exact hO.n3,fun k hk=>by
  have hk2:k<p.evs.length:=by
   have hk:k<(p.evs.map (gmE g)).length:=hk
   rw [List.length_map]at hk;exact hk
  show ((p.evs.map (gmE g))[k]'hk).stops.length≤20
  rw [List.getElem_map,gmE_len]
  exact hO.n4 k hk2⟩
def shF (cs:List (Int×Int×Bool))(by':Int)(x:Stp):Stp:=if 0<fretsOf cs x.1 then (x.1,x.2.1+by',x.2.2)else x
end
section
open Go.RowKit
section
variable {P:Program} {C:Cx} {σ:St} {o:Oper} {d:Tmp} {av:AV} {ops:Array Oper} {rest:List Oper} {Q:Exit→St→Prop} {mem:List Bool} {Mc McB:List (Nat×AO)} {e0 nk0 k:Nat}
def appVW (P:Program) (σ:St):Op→Option AppD
 | .call { callee:=.builtin .append,args:=⟨[x,y]⟩,argTypes:=⟨[T,T']⟩ } =>
  match P.underlying T,σ.ev x,σ.ev y with
  | some (.slice e),some (.sl k),some av2 =>
   match P.info? e,look k σ.M with
   | some i,some (.rwn e' n rows) =>
    match i.zero,σ.src n av2 with
    | some z,some rows2=>bif Nat.beq T T' && Nat.beq e e' && Nat.beq i.size n && Nat.beq z.cells.size n && Nat.blt 0 n && Nat.ble i.bytes 100000 then some ⟨e,n,k,rows,rows2⟩else none
    | _,_=>none
   | _,_=>none
  | _,_,_=>none
 | _=>none
theorem DoesM.appendW {T e n by_ k m:Nat} {z:Value} {i:TypeInfo} {x y:Operand} {rows rows2 rows':List (List AV)} {av2:AV} {M':List (Nat×AO)} {nk':Nat} (hg:o.guard=none) (ho:o.op=.call { callee:=.builtin .append,args:=#[x,y],argTypes:=#[T,T] }) (hT:P.underlying T=some (.slice e))
  (hi:P.info? e=some i) (hz:i.zero=some z) (hn:i.size=n) (hby:i.bytes=by_) (hzs:z.cells.size=n) (h0:Nat.blt 0 n=true) (hds:o.dst=some d) (hd:Nat.blt d C.N=true)
  (hx:σ.ev x=some (.sl k)) (hk:look k σ.M=some (.rwn e n rows)) (hy:σ.ev y=some av2) (hs:σ.src n av2=some rows2) (hm:σ.nk=m) (hb1:rows.length+rows2.length≤1000000000) (hb2:Nat.ble by_ 100000=true) (hrr:rows++rows2=rows') (hM:(m,.rwn e n rows')::rem k σ.M=M') (hnk:m+1=nk') :
  DoesM P C ops o σ d (.sl m) M' nk':=by
 subst hM hnk
 refine ⟨hg,fun t H=>?_⟩
 have hmem:∀ q∈[x,y],q∈o.op.operands.toList:=fun q hq=>by rw [ho];simp [Op.operands,Call.operands] at hq ⊢;exact hq
 have:=WO.appendW (P:=P) (C:=C) (σ:=⟨t,σ.M,σ.nk⟩) ho hT hi hz hn hby hzs h0 hds hd ((ev_agree H (hmem x (by simp))).trans hx) hk ((ev_agree H (hmem y (by simp))).trans hy) ((src_same n av2).trans hs) hm hb1 hb2 hrr
 subst hm
 exact this
theorem DTK.apW {x:AppD} (hd:wrB mem C.N k o=some d) (h:appVW P σ o.op=some x) (hl:x.a.length+x.b.length≤1000000000) (hs:msSub Mc ((σ.nk,.rwn x.T x.n (x.a++x.b))::rem x.k σ.M)) (hsB:Nat.blt k e0=true→msSub McB ((σ.nk,.rwn x.T x.n (x.a++x.b))::rem x.k σ.M)) (r:DTK P C ops mem Mc McB e0 nk0 (k+1) rest ⟨(d,.sl σ.nk)::σ.t,(σ.nk,.rwn x.T x.n (x.a++x.b))::rem x.k σ.M,σ.nk+1⟩ Q):DTK P C ops mem Mc McB e0 nk0 k (o::rest) σ Q:=by
 obtain ⟨a,b,c,e⟩:=wrB_of hd
 unfold appVW at h
 split at h
 ·rename_i x y T T' ho
  split at h
  ·rename_i el q av2 hT hx hy
   split at h
   ·rename_i i e' n rows hi hk
    split at h
    ·rename_i z rows2 hz hs2
     cases hb:Nat.beq T T' && Nat.beq el e' && Nat.beq i.size n && Nat.beq z.cells.size n && Nat.blt 0 n && Nat.ble i.bytes 100000 with
     | false=>rw [hb] at h;cases h
     | true =>
      rw [hb] at h
      simp only [Bool.and_eq_true] at hb
      cases h
      obtain ⟨⟨⟨⟨⟨b1,b2⟩,b3⟩,b4⟩,b5⟩,b6⟩:=hb
      obtain rfl:=Nat.eq_of_beq_eq_true b1
      obtain rfl:=Nat.eq_of_beq_eq_true b2
      exact DTK.of_m a b (Nat.ble_eq_true_of_le (Nat.le_succ _)) hs hsB (DoesM.appendW c ho hT hi hz (Nat.eq_of_beq_eq_true b3) rfl (Nat.eq_of_beq_eq_true b4) b5 b e hx hk hy hs2 rfl hl b6 rfl rfl rfl) r
    ·cases h
   ·cases h
  ·cases h
 ·cases h
end
end
section
open Go.RowKit
def tame2:Op→Bool
 | .move _=>true
 | .build _ _=>true
 | .buildSlice _ _ _=>true
 | .call c=>match c.callee with
  | .builtin .append=>true
  | _=>false
 | .assign _=>true
 | .alloc _=>true
 | .box _ _=>true
 | .load _ _=>true
 | .store _ _ _=>true
 | .fieldAddr _ _ _=>true
 | .field _ _ _=>true
 | .indexAddr _ _ _=>true
 | .index _ _ _=>true
 | .nilCheck _=>true
 | _=>false
structure Laid2 (ops A:Array Oper)(π ρ:Nat→Nat)(i j:Nat):Prop where
 sz:A.size=ops.size
 lt:∀ p,p<ops.size→π p<ops.size
 inv:∀ p,p<ops.size→ρ (π p)=p
 ltr:∀ q,q<ops.size→ρ q<ops.size
 inr:∀ q,q<ops.size→π (ρ q)=q
 hi:i<ops.size
 hj:j<ops.size
 op:∀ (p:Nat)(o:Oper),ops[p]?=some o→∃ X:Array Edge,A[π p]?=some { o with after:=X }∧(∀ e∈X,Region.binds .any e=true→(∃ e'∈o.after,Region.binds .any e'=true∧e.on=π e'.on)∨(p=j∧e.on=π i)) ∧
  (∀ e'∈o.after,Region.binds .any e'=true→∃ e∈X,Region.binds .any e=true∧e.on=π e'.on)
 tm:∀ (p:Nat)(o:Oper),ops[p]?=some o→tame2 o.op=true∧o.guard=none∧∀ e∈o.after,e.on<ops.size
structure Agr2 (n:Nat)(π:Nat→Nat)(L LA:Array Bool):Prop where
 s1:L.size=n
 s2:LA.size=n
 at_:∀ p,p<n→LA.getD (π p) false=L.getD p false
end
section
open Go.RowKit
theorem uCopyOO (p:Pce) (hO:PcOk p):Cto truB 0 Tryz.prog 15 [ePce p] [] 0 (.ag [.ls 3 (p.cs.map eCrs),.ls 1 (p.st.map eInt),.sl 0])
  [(0,.rwn 45 6 (p.evs.map eEvO)),(1,.box 29 [.ls 3 (p.cs.map eCrs),.ls 1 (p.st.map eInt),.sl 0])] 2:=by
 have hn3:=hO.n3
 refine Cto.intro truS Tryz.func15 rfl Tryz.ntmps15 (Nat.le_of_ble_eq_true rfl) rfl fun w0 F0 fp pg hB=>?_
 dsimp only [number,Nat.reduceAdd]
 repeat (first|refine W.go rfl ?_|refine WL.nil ?_|refine WL.ev rfl ?_|refine WL.ar rfl rfl (by unfold I64;omega) ?_|refine WL.len rfl rfl zql ?_|refine WL.idx rfl rfl zqo zqm ?_|refine WL.app rfl rfl rfl zqs ?_|refine W.condT rfl ?_|refine W.condF rfl ?_)
 (first|refine (?_:W _ _ _ _ _)|refine (?_:WL _ _ _ _ _ _)|skip)
 try dsimp only [St.put,Nat.reduceAdd]
 refine WL.vl rfl (WV.call rfl (callF Tryz.func35 rfl rfl) rfl rfl (insCopy_FS p.cs p.st hO.n1 hO.n2)) ?_
 repeat (first|refine W.go rfl ?_|refine WL.nil ?_|refine WL.ev rfl ?_|refine WL.ar rfl rfl (by unfold I64;omega) ?_|refine WL.len rfl rfl zql ?_|refine WL.idx rfl rfl zqo zqm ?_|refine WL.app rfl rfl rfl zqs ?_|refine W.condT rfl ?_|refine W.condF rfl ?_)
 (first|refine (?_:W _ _ _ _ _)|refine (?_:WL _ _ _ _ _ _)|skip)
 try dsimp only [St.put,Nat.reduceAdd]
 refine W.tr (Tr.nilBox (k:=2) (j:=2) 45 6 rfl rfl rfl rfl) ?_
 dsimp only [St.put,St.new,St.upd,Nat.reduceAdd]
 refine W.tr (Tr.widen 3 rfl) ?_
 dsimp only [St.upd]
 refine W.loop (fun k:Nat=>k≤p.evs.length) (fun k=>⟨[(1,.pt 0 0 0),(2,.pt 1 0 0),(3,.pt 2 0 0),(4,.sc (.int .i64 k))],[(0,.box 29 [.ls 3 (p.cs.map eCrs),.ls 1 (p.st.map eInt),.ls 6 (p.evs.map eEv)]),(1,.box 29 [.sc (.slice none 0 0),.sc (.slice none 0 0),.sc (.slice none 0 0)]),(2,.box 29 [.ls 3 (p.cs.map eCrs),.ls 1 (p.st.map eInt),.sl 3]),(3,.rwn 45 6 ((p.evs.take k).map eEvO))],4⟩) (fun k=>p.evs.length - k) 0 (by omega) (zqt id) fun k hk=>?_
 by_cases hk2:k < p.evs.length
 ·have h20:=hO.n4 k hk2
  have hml:((p.evs.take k).map eEvO).length=k:=by rw [List.length_map,List.length_take];omega
  have hmm:(p.evs.take k).map eEvO++[eEvO p.evs[k]]=(p.evs.take (k+1)).map eEvO:=by rw [List.take_succ_eq_append_getElem hk2,List.map_append];rfl
  repeat (first|refine W.gob rfl ?_|refine WL.nil ?_|refine WL.bt rfl rfl rfl zqo ?_|refine WL.bf rfl rfl rfl zqo ?_|refine WL.e1 rfl ?_|refine WL.ar rfl rfl (by unfold I64;omega) ?_|refine WL.len rfl rfl zql ?_|refine WL.idx rfl rfl zqo zqm ?_|refine WL.app rfl rfl rfl zqs ?_|refine W.condT rfl ?_|refine W.condF rfl ?_)
  (first|refine (?_:W _ _ _ _ _)|refine (?_:WL _ _ _ _ _ _)|skip)
  try dsimp only [St.put,Nat.reduceAdd]
  refine WL.bdO 5 rfl rfl rfl rfl ?_
  refine WL.tr (Tr.close_ 7 rfl rfl rfl rfl (by show 5 < 6;omega) rfl) ?_
  dsimp only [St.upd,St.drop,rem,cond,Nat.beq]
  refine WL.apM rfl rfl rfl rfl (by show ((p.evs.take k).map eEvO).length+1≤1000000000;omega) ?_
  repeat (first|refine W.go rfl ?_|refine WL.nil ?_|refine WL.ev rfl ?_|refine WL.ar rfl rfl (by unfold I64;omega) ?_|refine WL.len rfl rfl zql ?_|refine WL.idx rfl rfl zqo zqm ?_|refine WL.app rfl rfl rfl zqs ?_|refine W.condT rfl ?_|refine W.condF rfl ?_)
  (first|refine (?_:W _ _ _ _ _)|refine (?_:WL _ _ _ _ _ _)|skip)
  try dsimp only [St.put,Nat.reduceAdd]
  exact ⟨k+1,by omega,by omega,(zqu (fun q=>bif Nat.beq q 3 then 8 else q) (by repeat (first|exact trivial|refine ⟨⟨?_,?_,?_⟩,?_⟩|rfl|exact congrArg (fun q=>some (AO.row _ _ q)) hmm|exact congrArg (fun q=>some (AO.rwn _ _ q)) hmm)) rfl)⟩
 ·obtain rfl:k=p.evs.length:=by omega
  rw [List.take_length]
  repeat (first|refine W.gob rfl ?_|refine WL.nil ?_|refine WL.bt rfl rfl rfl zqo ?_|refine WL.bf rfl rfl rfl zqo ?_|refine WL.e1 rfl ?_|refine WL.ar rfl rfl (by unfold I64;omega) ?_|refine WL.len rfl rfl zql ?_|refine WL.idx rfl rfl zqo zqm ?_|refine WL.app rfl rfl rfl zqs ?_|refine W.condT rfl ?_|refine W.condF rfl ?_)
  (first|refine (?_:W _ _ _ _ _)|refine (?_:WL _ _ _ _ _ _)|skip)
  try dsimp only [St.put,Nat.reduceAdd]
  refine W.tr (σ':=⟨[(2,.pt 1 0 0)],[(0,.rwn 45 6 (p.evs.map eEvO)),(1,.box 29 [.ls 3 (p.cs.map eCrs),.ls 1 (p.st.map eInt),.sl 0])],2⟩) (zqu (fun q=>bif Nat.beq q 0 then 3 else q) (by repeat (first|exact trivial|refine ⟨⟨?_,?_,?_⟩,?_⟩|rfl|exact congrArg (fun q=>some (AO.row _ _ q)) (by first|rfl|(simp;done)|(simp [eInt];done)|(simp [eLk];done)))) rfl) ?_
  exact W.ret (finM rfl rfl rfl rfl rfl)
end
end Go.Proofs.YtaeelcfjkhfpkaaGreat
