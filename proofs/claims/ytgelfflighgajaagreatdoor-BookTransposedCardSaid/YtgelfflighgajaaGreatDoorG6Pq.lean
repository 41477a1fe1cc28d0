/- A walk that knows values as trees: the end of an own slice of wide rows cleared. -/
import Derived.Test.YtgelfflighgajaaGreatDoorOnsPq
import Derived.Test.YtgelfflighgajaaGreatDoorG2Pq
set_option maxHeartbeats 8000000
set_option maxRecDepth 100000
set_option linter.unusedVariables false
set_option linter.unusedSimpArgs false
namespace Go.Proofs.YtgelfflighgajaaGreatDoor
section
open Go.RowKit
theorem pOnsets_bad (M:PM)(p:Pce)(w:World)(hP:PcAt w w.heap.size M p)(hO:PcOk p)(h0:pceE p≠0):Calls Tryz.prog 111 #[pcValue M p] w (Ret (.tuple #[.slice none 0 0,.int .i64 (pceE p)]) w):=by
 have hC:=fun (w':World)(hb:Below w.heap.size w w')=>pCheck_any M p w' (hP.after hb) hO
 obtain⟨E,hE⟩:∃ E,pceE p=E:=⟨_,rfl⟩
 rw [hE] at hC h0 ⊢
 obtain⟨A1,A2,A3,c1,c2,c3⟩:=M
 unfold pcValue at *
 simp only at *
 have HC:=Lib.hid hC
 have e1:(E == 0)=false:=by simpa using h0
 have e2:(E != 0)=true:=by simpa using h0
 clear hC hP hO h0 hE
 go_enter Tryz.func111,Tryz.ntmps111
 go_wp2_with (go_at_call 52;refine (HC.out _ zqb).mono ?_;rintro e' w1⟨rfl,hb1⟩;have k1:=(Blk.new _ _ _).after hb1;have l1:w.heap.size < w1.heap.size:=k1.lt;clear k1)
 go_ret2
 exact Ret.mk' rfl zqb
theorem pMeasures_bad (M:PM)(p:Pce)(w:World)(hP:PcAt w w.heap.size M p)(hO:PcOk p)(h0:pceE p≠0):Calls Tryz.prog 112 #[pcValue M p] w (Ret (.tuple #[.slice none 0 0,.int .i64 (pceE p)]) w):=by
 have hC:=fun (w':World)(hb:Below w.heap.size w w')=>pCheck_any M p w' (hP.after hb) hO
 obtain⟨E,hE⟩:∃ E,pceE p=E:=⟨_,rfl⟩
 rw [hE] at hC h0 ⊢
 obtain⟨A1,A2,A3,c1,c2,c3⟩:=M
 unfold pcValue at *
 simp only at *
 have HC:=Lib.hid hC
 have e1:(E == 0)=false:=by simpa using h0
 have e2:(E != 0)=true:=by simpa using h0
 clear hC hP hO h0 hE
 go_enter Tryz.func112,Tryz.ntmps112
 go_wp2_with (go_at_call 52;refine (HC.out _ zqb).mono ?_;rintro e' w1⟨rfl,hb1⟩;have k1:=(Blk.new _ _ _).after hb1;have l1:w.heap.size < w1.heap.size:=k1.lt;clear k1)
 go_ret2
 exact Ret.mk' rfl zqb
end
section
open Go.RowKit
theorem rd_of_ints {w:World} {base e n cap B:Nat} {g:Nat} {l:List Int} (h:w.ownsRow base e 1 (.slice (some ⟨g,0,none⟩) n cap) n (l.map fun x=>.int .i64 x)) (hn:l.length=n) (hg:g<B):Rd w B 1 (some ⟨g,0,none⟩) (l.map intCell):=by
 intro _
 refine ⟨⟨g,0,none⟩,rfl,hg,fun k r hr j y hy=>?_⟩
 rw [List.getElem?_map] at hr
 cases hk:l[k]? with
 | none=>simp [hk] at hr
 | some x =>
  simp only [hk,Option.map_some,Option.some.injEq] at hr
  subst hr
  have hkl:=(List.getElem?_eq_some_iff.1 hk).1
  match j with
  | 0 =>
   cases hy
   have:=h.cellAt k (by omega)
   rw [List.getElem?_map,hk] at this
   have e:(⟨g,0,none⟩:Addr).add (k*1+0)=⟨g,k,none⟩:=by
    by_cases hz:k=0
    ·subst hz;rfl
    ·simp [Addr.add,hz]
   rw [e]
   simpa using this
  | j+1=>simp [intCell] at hy
theorem pOnsets_FS (p:Pce) (hO:PcOk p):Ctr Tryz.prog 111 [ePce p] (.tu [.ls 1 (if pceE p=0 then (onsL p.evs p.evs.length).map eInt else []),.sc (.int .i64 (pceE p))]):=by
 intro w F vs hF hR
 match vs,hR.1 with
 | [v],_ =>
  obtain ⟨M,rfl,hM⟩:=pc_of_rp hF (hR.2 0 _ v rfl rfl)
  by_cases h0:pceE p=0
  ·rw [if_pos h0,h0]
   refine (pOnsets_ok M p w hM hO h0).mono fun e w' ⟨v,he,hrow,hb⟩=>?_
   obtain ⟨g,cap,rfl⟩:∃ g cap,v=.slice (some ⟨g,0,none⟩) (p.evs.length+1) cap:=by
    rcases hrow.2 with⟨_,h⟩|⟨g,cap,cur,e,_⟩
    ·omega
    ·exact ⟨g,cap,e⟩
   have hlt:=hrow.lt g rfl
   have hcap:p.evs.length+1≤cap:=by
    rcases hrow.2 with⟨h,_⟩|⟨g',cap',cur,e,_,_,h,_⟩
    ·cases h
    ·cases e;exact h
   have hlen:(onsL p.evs p.evs.length).length=p.evs.length+1:=onsL_length _ _
   refine ⟨_,newF F w w',he,hb,newF_le hF,newF_fw hF hb,newF_new,.tu _ _ rfl fun i av u a b=>?_⟩
   match i with
   | 0 =>
    cases a;cases b
    have:=rp_of_rd (F:=F) (w:=w) (rd_of_ints (B:=w'.heap.size) hrow hlen hlt.2) (fun ad e=>by cases e;exact hlt.1) (c:=cap) (by omega) (e:=eInt) (fun _=>rfl) eInt_of
    rw [hlen] at this
    exact this
   | 1=>cases a;cases b;exact .sc _
   | i+2=>simp at a
  ·rw [if_neg h0]
   refine (pOnsets_bad M p w hM hO h0).mono fun e w' ⟨he,hb⟩=>?_
   refine ⟨_,newF F w w',he,hb,newF_le hF,newF_fw hF hb,newF_new,.tu _ _ rfl fun i av u a b=>?_⟩
   match i with
   | 0=>cases a;cases b;exact .ls 1 [] none 0 ⟨0,0,none⟩ (fun _ _=>undef) (by simp) (by simp) (by simp) (by simp) (by simp)
   | 1=>cases a;cases b;exact .sc _
   | i+2=>simp at a
end
section
open Go.RowKit
def onsR (p:Pce):List (List AV):=if pceE p=0 then (onsL p.evs p.evs.length).map eInt else []
def eSnd (p:Pce):AV:=.ag [.ls 3 (p.cs.map eCrs),.ls 1 (p.st.map eInt),.ls 6 (p.evs.map eEv),.ls 1 (onsR p)]
theorem listen_FS (p:Pce) (hO:PcOk p):Ctr Tryz.prog 208 [ePce p] (.tu [eSnd p,.sc (.int .i64 (pceE p))]):=by
 refine Ctr.intro Tryz.func208 rfl Tryz.ntmps208 (Nat.le_of_ble_eq_true rfl) (bd_all rfl) fun w0 F0=>?_;dsimp only [St.init,number,Nat.reduceAdd]
 repeat refine W.go rfl ?_
 refine (?_:WL _ _ _ _ _ _)
 refine WL.vl rfl (WV.call rfl (callF Tryz.func111 rfl rfl) rfl rfl (pOnsets_FS p hO)) ?_
 repeat (first|refine W.go rfl ?_|refine WL.ev rfl ?_)
 refine (?_:W _ _ _ _ _)
 exact W.ret (finN rfl rfl rfl rfl)
end
section
open Go.RowKit
theorem end_FS (p:Pce) (hO:PcOk p) (h0:pceE p=0):Ctr Tryz.prog 232 [eSnd p] (.sc (.int .i64 (onsAt p.evs p.evs.length))):=by
 have hn:=hO.n3
 have hl:(onsL p.evs p.evs.length).length=p.evs.length+1:=onsL_length _ _
 have he:eSnd p=.ag [.ls 3 (p.cs.map eCrs),.ls 1 (p.st.map eInt),.ls 6 (p.evs.map eEv),.ls 1 ((onsL p.evs p.evs.length).map eInt)]:=by unfold eSnd onsR;rw [if_pos h0]
 rw [he]
 refine Ctr.intro Tryz.func232 rfl Tryz.ntmps232 (Nat.le_of_ble_eq_true rfl) (bd_all rfl) fun w0 F0=>?_;dsimp only [St.init,number,Nat.reduceAdd]
 repeat (first|refine W.go rfl ?_|refine WL.ev rfl ?_|refine WL.ar rfl rfl (by unfold I64;omega) ?_|refine WL.len rfl rfl zql ?_|refine WL.idx rfl rfl (by omega) zqm ?_)
 refine (?_:W _ _ _ _ _)
 refine W.ret (fin1 rfl rfl (sc_int ?_) rfl)
 simp [onsL]
end
section
open Go.RowKit
section
variable {C:Cx} {σ:St}
theorem Tr.freezeI (k d:Nat) {T n:Nat} {rows rows':List (List AV)} (hk:look k σ.M=some (.rwn T n rows)) (hs:∀ r∈rows,∀ av∈r,av.shal d=true) (hr:(rows.map fun r=>r.map (AV.fz d))=rows'):Tr C σ (σ.upd k (.row T n rows')):=fun G a w ok=>by
 obtain ⟨hkn,_,hb1,hb2,hb3⟩:=ok.ob k _ hk
 obtain ⟨h1,vs,Φ,h2,h3,h4,h5,h6,h7,h8,h9⟩:=hb3
 classical
 let F':View:=fun p=>if ∃ i j,Φ i j p.block then w.cell? p else G.F p
 have hF:G.F.le F':=fun p u h=>by
  show (if _ then _ else _)=_
  rw [if_neg (fun e=>by obtain ⟨i,j,e⟩:=e;exact ok.dF k _ p.block p u hk (h6 i j _ e).1 h rfl)];exact h
 have hFn:∀ p u,F' p=some u→G.F p=some u∨((∃ i j,Φ i j p.block)∧w.cell? p=some u):=fun p u h=>by
  have h:(if ∃ i j,Φ i j p.block then w.cell? p else G.F p)=some u:=h
  by_cases e:∃ i j,Φ i j p.block
  ·rw [if_pos e] at h;exact .inr ⟨e,h⟩
  ·rw [if_neg e] at h;exact .inl h
 let G':Gh:={ (G.fpk k fun x=>(G.h k).ownBlock=some x) with F:=F' }
 have hle:G.le G' σ.nk:=⟨hF,fun _ _=>rfl,fun _ _=>rfl,fun _ _=>rfl⟩
 have hfs:G'.fp k=fun x=>(G.h k).ownBlock=some x:=fpk_same
 have hfo:∀ q,q≠k→G'.fp q=G.fp q:=fun q h=>fpk_other h
 have hl:∀ i o,look i (σ.upd k (.row T n rows')).M=some o→(i=k∧o=.row T n rows')∨(i≠k∧look i σ.M=some o):=fun i o hx=>by
  by_cases e:i=k
  ·subst e
   rw [show look i (σ.upd i (.row T n rows')).M=some (.row T n rows') from look_set_same] at hx
   cases hx
   exact .inl ⟨rfl,rfl⟩
  ·rw [show look i (σ.upd k (.row T n rows')).M=look i σ.M from look_set_other e] at hx
   exact .inr ⟨e,hx⟩
 have hφ:∀ i o x,look i (σ.upd k (.row T n rows')).M=some o→G'.fp i x→∃ o0,look i σ.M=some o0∧G.fp i x:=fun i o x h e=>by
  rcases hl i o h with⟨rfl,rfl⟩|⟨e1,y⟩
  ·rw [hfs] at e;exact ⟨_,hk,h5 x e⟩
  ·rw [hfo i e1] at e;exact ⟨_,y,e⟩
 refine ⟨G',ok.sz,ok.df,fun i av h=>⟨(ok.tm i av h).1,(ok.tm i av h).2.1,(ok.tm i av h).2.2.mono hle (ok.tm i av h).2.1⟩,ok.bel,fun p u h=>?_,fun p u h=>hF p u (ok.f0 p u h),fun p u h=>?_,fun i o h=>?_,fun i o x a1 a2=>?_,fun i o i' o' x a1 a2 a3 a4=>?_,fun i o x p u a1 a2 a3=>?_⟩
 ·rcases hFn p u h with h|⟨_,h⟩
  ·exact ok.fw p u h
  ·exact h
 ·rcases hFn p u h with h|⟨⟨i,j,h⟩,_⟩
  ·exact ok.f1 p u h
  ·exact .inr (ok.my k _ _ hk (h6 i j _ h).1).1
 ·rcases hl i o h with⟨rfl,rfl⟩|⟨e,y⟩
  ·refine ⟨hkn,trivial,hb1,hb2,?_⟩
   rw [hfs,← hr]
   refine ⟨fun r hrm=>?_,vs,fun _ _ _=>False,h2,by rw [List.length_map];exact h3,h4,fun g hg=>hg,fun _ _ _ h=>h.elim,fun _ _ _ _ _ h=>h.elim,fun q r r' b1 b2=>?_,fun q r r' j av u b1 b2 b3 b4=>?_⟩
   ·obtain ⟨r0,h0,rfl⟩:=List.mem_map.1 hrm
    rw [List.length_map];exact h1 r0 h0
   ·rw [List.getElem?_map] at b1
    cases h0:rows[q]? with
    | none=>simp [h0] at b1
    | some r0 =>
     simp only [h0,Option.map_some,Option.some.injEq] at b1
     subst b1
     rw [List.length_map];exact h8 q r0 r' h0 b2
   ·rw [List.getElem?_map] at b1
    cases h0:rows[q]? with
    | none=>simp [h0] at b1
    | some r0 =>
     simp only [h0,Option.map_some,Option.some.injEq] at b1
     subst b1
     rw [List.getElem?_map] at b3
     cases hj0:r0[j]? with
     | none=>simp [hj0] at b3
     | some av0 =>
      simp only [hj0,Option.map_some,Option.some.injEq] at b3
      subst b3
      have x:OW G.F w av0 u (Φ q j):=h9 q r0 r' j av0 u h0 b2 hj0 b4
      exact OW.fix hF d x (fun p hp=>if_pos ⟨q,j,hp⟩) (hs r0 (List.mem_of_getElem? h0) av0 (List.mem_of_getElem? hj0))
  ·obtain ⟨a1,a2,a3⟩:=ok.ob i o y
   exact ⟨a1,a2,a3.keep hle a1 a2 (hfo i e) fun _ _=>rfl⟩
 ·obtain ⟨o0,b1,b2⟩:=hφ i o x a1 a2
  exact ok.my i o0 x b1 b2
 ·obtain ⟨o0,b1,b2⟩:=hφ i o x a1 a3
  obtain ⟨o1,c1,c2⟩:=hφ i' o' x a2 a4
  exact ok.dj i o0 i' o1 x b1 c1 b2 c2
 ·obtain ⟨o0,b1,b2⟩:=hφ i o x a1 a2
  rcases hFn p u a3 with h|⟨⟨q,j,h⟩,_⟩
  ·exact ok.dF i o0 x p u b1 b2 h
  ·intro e
   rw [e] at h
   have hik:=ok.dj i o0 k _ x b1 hk b2 (h6 q j _ h).1
   subst hik
   rw [hfs] at a2
   exact (h6 q j _ h).2 a2
theorem Lent.fn {av av':AV} (h:lendC σ.M av=av')(hp:av'.pu2=true):Lent C σ av av':=fun G a w ok v hv=>by
 subst h
 exact lendC_rp ok hv hp
end
end
section
open Go.RowKit
theorem flatN {α:Type} {zs:List α}:∀ {k:Nat},(List.replicate k zs).flatten.length=k*zs.length
 | 0=>by simp
 | k+1=>by rw [List.replicate_succ,List.flatten_cons,List.length_append,flatN (k:=k),Nat.succ_mul];omega
theorem flatN_at {α:Type} [Inhabited α] {zs:List α}:∀ {k i:Nat},i<k*zs.length→(List.replicate k zs).flatten[i]?=zs[i % zs.length]?
 | 0,i,h=>by omega
 | k+1,i,h=>by
  rw [List.replicate_succ,List.flatten_cons]
  by_cases e:i<zs.length
  ·rw [List.getElem?_append_left e,Nat.mod_eq_of_lt e]
  ·rw [List.getElem?_append_right (by omega),flatN_at (k:=k) (by rw [Nat.succ_mul]at h;omega)]
   congr 1
   conv=>rhs;rw [show i=(i-zs.length)+zs.length by omega,Nat.add_mod_right]
theorem zeroCells_n (zs:List Value)(k:Nat):(Builtin.zeroCells zs.toArray k).toList=(List.replicate k zs).flatten:=by
 apply List.ext_getElem?
 intro i
 by_cases h:i<k*zs.length
 ·rw [flatN_at h]
  have hp:0<zs.length:=by
   rcases Nat.eq_zero_or_pos zs.length with e|e
   ·rw [e]at h;omega
   ·exact e
  have hm:=Nat.mod_lt i hp
  simp [Builtin.zeroCells,h,hm]
 ·rw [List.getElem?_eq_none (by simp [Builtin.zeroCells];omega),List.getElem?_eq_none (by rw [flatN];omega)]
section
variable {P:Program} {C:Cx} {σ σ':St} {G G':Gh} {a:Act} {w w':World} {o:Oper} {d:Tmp} {ops:Array Oper} {rest:List Oper} {Q:Exit→St→Prop}
theorem RowIs.clrN {T n:Nat} {rows:List (List AV)} {F:View} {g cap:Nat} {φ:Nat→Prop} {zs:List Value} (hzn:zs.length=n) (hz:∀ z∈zs,z.oneCell'=true) (h:RowIs w T n rows (.slice (some ⟨g,0,none⟩) rows.length cap) φ (XP F)) {i:Nat} (hi:i<rows.length) :
  ∃ cur,w.heap[g]?=some (.cells cur T (0,0))∧rows.length*n≤cur.size∧φ g ∧
   RowIs (w.setRow g (cur.toList.take (i*n)++(List.replicate (rows.length-i) zs).flatten++cur.toList.drop (i*n+(List.replicate (rows.length-i) zs).flatten.length)).toArray) T n (rows.take i++List.replicate (rows.length-i) (zs.map .sc)) (.slice (some ⟨g,0,none⟩) rows.length cap) φ (XP F):=by
 obtain ⟨hrl,vs,Φ,h4,h5,h7,hgf,hΦ,hΦd,h8,h6⟩:=h
 have hvl:∀ r∈vs,r.length=n:=by
  intro r' hr'
  obtain ⟨q,hq,rfl⟩:=List.getElem_of_mem hr'
  have:=h8 q rows[q] vs[q] (List.getElem?_eq_getElem (by omega)) (List.getElem?_eq_getElem hq)
  rw [this];exact hrl _ (List.getElem_mem _)
 rcases h4.2 with⟨e1,e2⟩|⟨g',cap',cur,e1,hb,hh,hnc,hcm,hcs,ht⟩
 ·cases e1
 ·injection e1 with a1 a2 a3
  injection a1 with a1
  injection a1 with a1
  subst a1 a3
  have hin:i*n+(rows.length-i)*n=rows.length*n:=by rw [← Nat.add_mul];congr 1;omega
  have hle:rows.length*n≤cap*n:=Nat.mul_le_mul_right n (by omega)
  have hll:(List.replicate (rows.length-i) zs).flatten.length=(rows.length-i)*n:=by rw [flatN,hzn]
  refine ⟨cur,hh,by omega,hgf g rfl,?_⟩
  have hfl:(vs.take i++List.replicate (rows.length-i) zs).flatten=cur.toList.take (i*n)++(List.replicate (rows.length-i) zs).flatten:=by
   have e:min (i*n) (vs.length*n)=i*n:=by rw [h5];omega
   rw [List.flatten_append,flatten_take vs i hvl,← ht,List.take_take,e]
  have hlen:(vs.take i++List.replicate (rows.length-i) zs).length=rows.length:=by simp;omega
  have hlr:(rows.take i++List.replicate (rows.length-i) (zs.map AV.sc)).length=rows.length:=by simp;omega
  have part:∀ {α:Type} {l:List α} {m:Nat} {y x:α} {q:Nat},i≤l.length→(l.take i++List.replicate m y)[q]?=some x→(q<i∧l[q]?=some x)∨(i≤q∧x=y):=fun {α l m y x q} hl hq=>by
   by_cases e:q<i
   ·rw [List.getElem?_append_left (by simp;omega),List.getElem?_take_of_lt e] at hq
    exact .inl ⟨e,hq⟩
   ·rw [List.getElem?_append_right (by simp;omega)] at hq
    exact .inr ⟨by omega,List.eq_of_mem_replicate (List.mem_of_getElem? hq)⟩
  refine ⟨fun r hr=>?_,vs.take i++List.replicate (rows.length-i) zs,fun q s x=>q<i∧Φ q s x,⟨?_,.inr ⟨g,cap,_,?_,hb,setRow_heap w _ _ _ _ _ hh,by omega,hcm,?_,?_⟩⟩,by rw [hlen,hlr],fun r hr u hu=>?_,hgf,fun q s x hx=>hΦ q s x hx.2,fun q s q' s' x h1 h2=>hΦd q s q' s' x h1.2 h2.2,fun q r r' a b=>?_,fun q r r' s av u a b c e=>?_⟩
  ·rcases List.mem_append.1 hr with hr|hr
   ·exact hrl r (List.mem_of_mem_take hr)
   ·rw [List.eq_of_mem_replicate hr,List.length_map];exact hzn
  ·rw [flatten_len (size:=n) fun r hr=>?_]
   rcases List.mem_append.1 hr with hr|hr
   ·exact hvl r (List.mem_of_mem_take hr)
   ·rw [List.eq_of_mem_replicate hr];exact hzn
  ·rw [hlen]
  ·simp [hll];omega
  ·rw [hlen,hfl]
   have hl2:(cur.toList.take (i*n)++(List.replicate (rows.length-i) zs).flatten).length=rows.length*n:=by
    rw [List.length_append,hll,List.length_take]
    have:cur.toList.length=cur.size:=rfl
    omega
   simp only []
   rw [List.take_append,hl2,List.take_of_length_le (by omega),Nat.sub_self,List.take_zero,List.append_nil]
  ·rcases List.mem_append.1 hr with hr|hr
   ·exact h7 r (List.mem_of_mem_take hr) u hu
   ·rw [List.eq_of_mem_replicate hr] at hu;exact hz u hu
  ·rcases part (by omega) a with⟨a1,a2⟩|⟨a1,a2⟩
   ·rcases part (by omega) b with⟨b1,b2⟩|⟨b1,b2⟩
    ·exact h8 q r r' a2 b2
    ·omega
   ·rcases part (by omega) b with⟨b1,b2⟩|⟨b1,b2⟩
    ·omega
    ·subst a2 b2;rw [List.length_map]
  ·rcases part (by omega) a with⟨a1,a2⟩|⟨a1,a2⟩
   ·rcases part (by omega) b with⟨b1,b2⟩|⟨b1,b2⟩
    ·exact h6 q r r' s av u a2 b2 c e
    ·omega
   ·rcases part (by omega) b with⟨b1,b2⟩|⟨b1,b2⟩
    ·omega
    ·subst a2 b2
     rw [List.getElem?_map,e] at c
     cases c
     exact .sc _
def endN (P:Program)(σ:St):Op→Option (Nat×TypeId×Nat×List (List AV)×Int×List Value)
 | .slice T x (some y) none none =>
  match P.underlying T,σ.ev x,σ.ev y with
  | some (.slice e),some (.sl k),some (.sc (.int _ j)) =>
   match sizeB P e,look k σ.M,(P.info? e).bind (·.zero) with
   | some m,some (.row T' n rows),some z=>bif Nat.beq m n && Nat.beq z.cells.toList.length n && z.cells.toList.all Value.oneCell' then some (k,T',n,rows,j,z.cells.toList) else none
   | _,_,_=>none
  | _,_,_=>none
 | _=>none
theorem WL.clrN {o1 o2:Oper} {d:Tmp} {T:TypeId} {q n:Nat} {T':TypeId} {rows:List (List AV)} {j:Int} {zs:List Value} {t:List (Nat×AV)} {M M':List (Nat×AO)} {nk:Nat} (hd:dstB C.N o1=some d) (h:endN P ⟨t,M,nk⟩ o1.op=some (q,T',n,rows,j,zs)) (ho1:opT o1.op=some T) (hl:look d t=none)
  (hg2:o2.guard=none) (hd2:o2.dst=none) (ho2:o2.op=.call { callee:=.builtin .clear,args:=#[.tmp d],argTypes:=#[T] }) (hM:remS q M=some M') (hj:0≤j∧j≤rows.length)
  (k:WL P C ops rest ⟨t,(q,.row T' n (rows.take j.toNat++List.replicate (rows.length - j.toNat) (zs.map .sc)))::M',nk⟩ Q):WL P C ops (o1::o2::rest) ⟨t,M,nk⟩ Q:=by
 rw [remS_eq hM] at k
 obtain ⟨hg1,hds,hdb⟩:=dstB_of hd
 intro G a w ok
 refine wpList_plain hg1 fun K hK=>?_
 unfold endN at h
 split at h
 ·rename_i T0 x y ho
  rw [ho] at ho1
  obtain rfl:T0=T:=Option.some.inj ho1
  split at h
  ·rename_i e k0 kj j' hT hx hy
   split at h
   ·rename_i m T2 n' rows' z' hm hk hz
    cases hb:Nat.beq m n' && Nat.beq z'.cells.toList.length n' && z'.cells.toList.all Value.oneCell' with
    | false=>rw [hb] at h;cases h
    | true =>
     rw [hb] at h
     cases h
     simp only [Bool.and_eq_true] at hb
     obtain ⟨⟨hb1,hb2⟩,hb3⟩:=hb
     obtain rfl:=Nat.eq_of_beq_eq_true hb1
     have hzn:z'.cells.toList.length=m:=Nat.eq_of_beq_eq_true hb2
     have hz1:∀ v∈z'.cells.toList,v.oneCell'=true:=List.all_eq_true.1 hb3
     obtain ⟨zs,hzs⟩:∃ zs,z'.cells.toList=zs:=⟨_,rfl⟩
     rw [hzs] at hzn hz1 k
     have hza:z'.cells=zs.toArray:=by rw [← hzs]
     obtain ⟨hn',hg,hR⟩:=(ok.ob q _ hk).2.2
     obtain ⟨A,c,hv⟩:=hR.len
     have ex:a.eval x=.slice A rows.length c:=(ok.evr hx).2.sl_of.1.trans hv
     have hcap:rows.length≤c:=by
      obtain ⟨_,vs,Φ,h4,h5,_⟩:=hR
      rcases h4.2 with ⟨e1,e2⟩|⟨g,cap,cur,e1,_,_,hnc,_⟩
      ·omega
      ·rw [hv] at e1;injection e1 with a1 a2 a3;omega
     have hrun:=run_sliceS (P:=P) hT hm A rows.length c (some (a.eval y)) none j rows.length w (.inl ⟨kj,by rw [ok.evs hy]⟩) (.inr ⟨rfl,rfl⟩) ⟨hj.1,hj.2,Int.le_refl _⟩ hcap
     rw [Int.toNat_natCast] at hrun
     have hsa:(Instr.sliceAt T0 (.slice A rows.length c) (some (a.eval y)) none none).run P w=.ok (.slice (if c=j.toNat then A else A.map (·.add (j.toNat*m))) (rows.length - j.toNat) (c - j.toNat)) w:=by
      unfold Instr.sliceAt
      rw [Sem.run_bind,run_underlying hT w];exact hrun
     unfold Oper.wp execOp
     simp only [ho,ex,Option.map_none,Option.map_some,Sem.run_bind,hsa,Sem.run_pure,Result.andThen_ok,Oper.upon]
     rw [hds]
     refine hK _ _ ?_
     obtain ⟨v1,hv1⟩:∃ v1,(Value.slice (if c=j.toNat then A else A.map (·.add (j.toNat*m))) (rows.length - j.toNat) (c - j.toNat))=v1:=⟨_,rfl⟩
     rw [hv1]
     have ok1:=ok.putNo (d:=d) hl v1
     have hev:(a.put (some d) v1).eval (.tmp d)=v1:=by
      show (a.tmps.setIfInBounds d v1).getD d undef=v1
      have hlt:d < a.tmps.size:=by rw [ok.sz];exact of_blt hdb
      simp [Array.getD_eq_getD_getElem?,hlt]
     refine wpList_plain hg2 fun K2 hK2=>?_
     have fin:∀ (w2:World) G2,Ok C ⟨t,(q,.row T' m (rows.take j.toNat++List.replicate (rows.length - j.toNat) (zs.map .sc)))::rem q M,nk⟩ G2 (a.put (some d) v1) w2→(Builtin.clear_ #[T0] o2.type #[v1]).run P w=.ok (.tuple #[]) w2→o2.wp P (a.put (some d) v1) w K2 (Post C Q):=fun w2 G2 ok2 hr=>by
      unfold Oper.wp execOp
      have hargs:(#[Operand.tmp d]:Array Operand).map (a.put (some d) v1).eval=#[v1]:=by simp [hev]
      simp only [ho2,resolve,invoke,builtin,Sem.run_bind,Sem.run_pure,Result.andThen_ok,hargs,hr,Oper.upon]
      rw [hd2]
      exact hK2 _ _ (k G2 _ w2 ok2)
     by_cases hlt:j.toNat < rows.length
     ·obtain ⟨g,hgA⟩:∃ g,A=some ⟨g,0,none⟩:=by
       obtain ⟨_,vs,Φ,h4,h5,_⟩:=hR
       rcases h4.2 with ⟨e1,e2⟩|⟨g,cap,cur,e1,_⟩
       ·omega
       ·rw [hv] at e1;injection e1 with a1 a2 a3;exact ⟨g,a1⟩
      subst hgA
      rw [hv] at hR hg
      obtain ⟨cur,hh,hcs,hφ,hR2⟩:=hR.clrN hzn hz1 hlt
      have hgb:g=G.b q:=hg g rfl
      rw [if_neg (by omega)] at hv1
      have hadd:(Option.map (fun x:Addr=>x.add (j.toNat*m)) (some ⟨g,0,none⟩))=some (⟨g,j.toNat*m,none⟩:Addr):=by
       simp only [Option.map_some,add_flat,Nat.zero_add]
      rw [hadd] at hv1
      have hll:(List.replicate (rows.length - j.toNat) zs).flatten.length=(rows.length - j.toNat)*m:=by rw [flatN,hzn]
      have hin:j.toNat*m+(rows.length - j.toNat)*m=rows.length*m:=by rw [← Nat.add_mul];congr 1;omega
      have hst:=run_storeCells_at P g (j.toNat*m) T' (List.replicate (rows.length - j.toNat) zs).flatten 0 cur w hh (by rw [hll];omega) (fun v hv=>by
       obtain ⟨l,hl1,hl2⟩:=List.mem_flatten.1 hv
       rw [List.eq_of_mem_replicate hl1] at hl2
       exact hz1 v hl2)
      rw [Nat.add_zero] at hst
      have hzz:∃ i,P.info? e=some i∧i.zero=some z':=by
       cases hi:P.info? e with
       | none=>simp [hi] at hz
       | some i=>exact ⟨i,rfl,by simpa [hi] using hz⟩
      obtain ⟨i0,hi0,hz0⟩:=hzz
      obtain ⟨cs,hcs2⟩:∃ cs,(cur.toList.take (j.toNat*m)++(List.replicate (rows.length - j.toNat) zs).flatten++cur.toList.drop (j.toNat*m+(List.replicate (rows.length - j.toNat) zs).flatten.length)).toArray=cs:=⟨_,rfl⟩
      rw [hcs2] at hst hR2
      refine fin (w.setRow g cs) G (wo_rem_ok (ok1.writeG (σ:=⟨t,M,nk⟩) (ob':=.row T' m (rows.take j.toNat++List.replicate (rows.length - j.toNat) (zs.map .sc))) hk (by exact hφ) (kept_setRow w g cs) ⟨hn',?_,?_⟩ trivial)) ?_
      ·rw [hv];exact hg
      ·rw [hv];exact hR2
      ·subst hv1
       rw [← zeroCells_n] at hst
       obtain ⟨m0,hm0⟩:∃ m,rows.length - j.toNat=m+1:=⟨rows.length - j.toNat - 1,by omega⟩
       rw [hm0] at hst ⊢
       simp [Builtin.clear_,run_underlying hT,zeroValue,typeInfo,hi0,hz0,hza,hst]
     ·have e0:rows.length - j.toNat=0:=by omega
      have et:rows.take j.toNat++List.replicate (rows.length - j.toNat) (zs.map AV.sc)=rows:=by rw [e0,List.take_of_length_le (by omega)];simp
      refine fin w G ?_ ?_
      ·rw [et]
       exact wo_rem_ok (σ:=⟨t,M,nk⟩) (k:=q) (ob:=.row T' m rows) (ok1.reob hk ⟨(ok.ob q _ hk).1,trivial,hn',hg,hR⟩)
      ·rw [← hv1,e0]
       split<;>(cases A<;>simp [Builtin.clear_,run_underlying hT])
   ·cases h
  ·cases h
 ·cases h
end
end
end Go.Proofs.YtgelfflighgajaaGreatDoor
