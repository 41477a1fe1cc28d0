/- A walk that knows values as trees: a box of its own that is never written again. -/
import Derived.Test.YtaeelcfjkhfpkaaGreatYRNq
set_option maxHeartbeats 8000000
set_option maxRecDepth 100000
set_option linter.unusedVariables false
set_option linter.unusedSimpArgs false
namespace Go.Proofs.YtaeelcfjkhfpkaaGreat
section
open Go.RowKit
def ixB {α:Type} (t:α→Bool)(l:List α):Int:=if l.any t=true then((l.findIdx t:Nat):Int)else -1
theorem ixB_at {α:Type} {t:α→Bool} {l:List α} {k:Nat} (hk:k<l.length) (h1:t l[k]=true) (h2:∀ i (hi:i<k),t (l[i]'(by omega))=false):ixB t l=k:=by
 have hh:l.any t=true:=List.any_eq_true.2 ⟨l[k],List.getElem_mem hk,h1⟩
 unfold ixB
 rw [if_pos hh,(List.findIdx_eq hk).2 ⟨h1,h2⟩]
theorem ixB_no {α:Type} {t:α→Bool} {l:List α} (h:∀ i(hi:i<l.length),t l[i]=false):ixB t l=-1:=by
 have hh:l.any t=false:=by
  rw [List.any_eq_false]
  intro x hx
  obtain⟨i,hi,rfl⟩:=List.getElem_of_mem hx
  simp [h i hi]
 unfold ixB
 rw [hh];rfl
theorem ixB_has {α:Type} (t:α→Bool)(l:List α):decide (0≤ixB t l)=l.any t:=by
 unfold ixB
 cases h:l.any t with
 | true=>rw [if_pos rfl];exact decide_eq_true (by omega)
 | false=>rw [if_neg (by simp)];rfl
theorem has1_FS (x:Lck) (w:Int):Ctr Tryz.prog 98 [.ag (eLk x),.pr [.sc (.int .i64 w)]] (.sc (.bool (x.2.2 == w))):=by
 refine zqe Tryz.func98 Tryz.ntmps98 fun w0 F0=>?_;dsimp only [St.init,number,Nat.reduceAdd]
 repeat refine W.go rfl ?_
 refine (?_:W _ _ _ _ _)
 refine W.ret (fin1 rfl rfl (sc_bool ?_) rfl)
 rfl
theorem idxL_FS (l:List Lck) (w:Int) (hl:l.length≤100000):Ctr Tryz.prog 129 [.ls 3 (l.map eLk),.fn 98 [.pr [.sc (.int .i64 w)]]] (.sc (.int .i64 (ixB (fun x:Lck=>x.2.2 == w) l))):=by
 refine zqe Tryz.func129 Tryz.ntmps129 fun w0 F0=>?_;dsimp only [St.init,number,Nat.reduceAdd]
 repeat (first|refine W.go rfl ?_|refine WL.ev rfl ?_|refine WL.len rfl rfl zql ?_)
 refine (?_:W _ _ _ _ _)
 refine W.loop (fun k:Nat=>k≤l.length∧∀ i (hi:i < k) (h:i < l.length),(l[i].2.2 == w)=false) (fun k=>⟨[(0,.ls 3 (l.map eLk)),(1,.fn 98 [.pr [.sc (.int .i64 w)]]),(7,.sc (.int .i64 l.length)),(8,.sc (.int .i64 k))],[],0⟩) (fun k=>l.length - k) 0 ⟨by omega,fun i hi=>by omega⟩ (zqt id) fun k hk=>?_
 obtain ⟨hk,hno⟩:=hk
 by_cases hlt:k < l.length
 ·repeat (first|refine W.gob rfl ?_|refine WL.nil ?_|refine WL.bt rfl rfl rfl zqo ?_|refine WL.e1 rfl ?_|refine WL.idx rfl rfl zqo zqm ?_|refine W.condT rfl ?_)
  refine (?_:WL _ _ _ _ _ _)
  refine WL.vl rfl (WV.callV (truH _) rfl (callF Tryz.func98 rfl rfl) rfl rfl rfl rfl rfl (has1_FS l[k] w).g) ?_
  cases he:l[k].2.2 == w with
  | true =>
   rw [ixB_at (t:=fun x:Lck=>x.2.2 == w) hlt he fun i hi=>hno i hi (by omega)]
   repeat (first|refine W.gob rfl ?_|refine WL.nil ?_|refine WL.e1 rfl ?_|refine W.condT rfl ?_)
   refine (?_:W _ _ _ _ _)
   exact W.ret zqr
  | false =>
   repeat (first|refine W.gob rfl ?_|refine WL.nil ?_|refine WL.e1 rfl ?_|refine WL.ar rfl rfl (by unfold I64;omega) ?_|refine W.condF rfl ?_)
   exact ⟨k+1,⟨by omega,fun i hi h=>by
    by_cases e:i=k
    ·subst e;exact he
    ·exact hno i zqo h⟩,by omega,(zqt id)⟩
 ·rw [ixB_no (t:=fun x:Lck=>x.2.2 == w) fun i hi=>hno i (by omega) hi]
  repeat (first|refine W.gob rfl ?_|refine WL.nil ?_|refine WL.bf rfl rfl rfl zqo ?_|refine WL.e1 rfl ?_|refine W.condF rfl ?_)
  refine (?_:W _ _ _ _ _)
  exact W.ret zqr
theorem contL_FS (l:List Lck) (w:Int) (hl:l.length≤100000):Ctr Tryz.prog 97 [.ls 3 (l.map eLk),.fn 98 [.pr [.sc (.int .i64 w)]]] (.sc (.bool (hasW l w))):=by
 have hI:=idxL_FS l w hl
 have hh:decide (0≤ixB (fun x:Lck=>x.2.2 == w) l)=hasW l w:=ixB_has _ l
 obtain ⟨z,hz⟩:∃ z,ixB (fun x:Lck=>x.2.2 == w) l=z:=⟨_,rfl⟩
 rw [hz] at hI hh
 refine zqe Tryz.func97 Tryz.ntmps97 fun w0 F0=>?_;dsimp only [St.init,number,Nat.reduceAdd]
 repeat refine W.go rfl ?_
 refine (?_:WL _ _ _ _ _ _)
 refine WL.vl rfl (zqc Tryz.func129 hI) ?_
 repeat refine WL.ev rfl ?_
 refine (?_:W _ _ _ _ _)
 refine W.ret (fin1 rfl rfl (sc_bool ?_) rfl)
 rw [← hh]
theorem yHas_FS (l:List Lck) (w:Int) (hl:l.length≤100000):Ctr Tryz.prog 47 [.ls 3 (l.map eLk),.sc (.int .i64 w)] (.sc (.bool (hasW l w))):=by
 have hC:=contL_FS l w hl
 refine zqe Tryz.func47 Tryz.ntmps47 fun w0 F0=>?_;dsimp only [St.init,number,Nat.reduceAdd]
 repeat refine W.go rfl ?_
 refine (?_:WL _ _ _ _ _ _)
 refine WL.vl rfl (WV.mkf rfl rfl) ?_
 refine WL.vl rfl (WV.lendV (truH _) rfl (callF Tryz.func97 rfl rfl) rfl rfl rfl rfl rfl rfl truST hC.g) ?_
 repeat refine WL.ev rfl ?_
 refine (?_:W _ _ _ _ _)
 exact W.ret zqr
end
section
open Go.RowKit
def AV.frb0 (k:Nat)(cells0:List AV):AV→AV
 | .pt q 0 j=>bif Nat.beq q k then .pr (cells0.drop j)else .pt q 0 j
 | av=>av
def AV.frb1 (k:Nat)(cells0:List AV):AV→AV
 | .fn f l=>.fn f (l.map (AV.frb0 k cells0))
 | av=>av.frb0 k cells0
def AV.frb2 (k:Nat)(cells0:List AV):AV→AV
 | .ag l=>.ag (l.map (AV.frb1 k cells0))
 | av=>av.frb1 k cells0
def AV.frb (k:Nat)(cells0:List AV):AV→AV
 | .tu l=>.tu (l.map (AV.frb2 k cells0))
 | av=>av.frb2 k cells0
def AO.frb (k:Nat)(cells0:List AV):AO→AO
 | .box T cells=>.box T (cells.map (AV.frb1 k cells0))
 | .rof T m rs hi hj x=>.rof T m rs hi hj (x.frb1 k cells0)
 | .rwo T m rs hi hj x=>.rwo T m rs hi hj (x.frb1 k cells0)
 | ob=>ob
def St.freezeB (σ:St) (k:Nat) (cells0:List AV):St:=⟨mapS (AV.frb k cells0) σ.t,mapS (AO.frb k cells0) (rem k σ.M),σ.nk⟩
def PtPr (G:Gh) (k:Nat) (cells0:List AV):Prop:=∀ (j:Nat) (p:Addr),p.block=G.b k→p.off=j→p.spot=none→R G (.pr (cells0.drop j)) (.pointer (some p))
section
variable {P:Program} {C:Cx} {σ σ':St} {G G':Gh} {a:Act} {w w':World} {o:Oper} {d:Tmp}
section
variable {k nk:Nat} {cells0:List AV} {av:AV} {v:Value}
theorem frb0_R (h:PtPr G k cells0)(r:R G av v):R G (av.frb0 k cells0) v:=by
 cases av with
 | pt q i j =>
  cases i with
  | zero =>
   simp only [AV.frb0]
   cases e:Nat.beq q k with
   | true =>
    obtain rfl:=Nat.eq_of_beq_eq_true e
    obtain⟨p,rfl,h1,h2,h3⟩:=r.pt_of
    exact h j p h1 (by rw [h2];simp) h3
   | false=>exact r
  | succ i=>exact r
 | _=>exact r
theorem frb0_bd (b:Bd nk av):Bd nk (av.frb0 k cells0):=by
 cases av with
 | pt q i j =>
  cases i with
  | zero =>
   simp only [AV.frb0]
   cases e:Nat.beq q k with
   | true=>exact .pr _
   | false=>exact b
  | succ i=>exact b
 | _=>exact b
theorem frb1_R (h:PtPr G k cells0)(r:R G av v):R G (av.frb1 k cells0) v:=by
 cases av with
 | fn f l =>
  obtain⟨cs,rfl,h1,h2⟩:=r.fn_of
  obtain⟨q1,q2⟩:=list_R h1 h2 fun _ _=>frb0_R h
  exact .fn f _ cs q1 q2
 | pt q i j=>exact frb0_R (av:=.pt q i j) h r
 | _=>exact r
theorem frb1_bd (b:Bd nk av):Bd nk (av.frb1 k cells0):=by
 cases av with
 | fn f l=>cases b with|fn _ _ hb=>exact .fn f _ (list_bd hb fun _=>frb0_bd)
 | pt q i j=>exact frb0_bd (av:=.pt q i j) b
 | _=>exact b
theorem frb2_R (h:PtPr G k cells0)(r:R G av v):R G (av.frb2 k cells0) v:=by
 cases av with
 | ag l =>
  obtain⟨cs,rfl,h1,h2⟩:=r.ag_of
  obtain⟨q1,q2⟩:=list_R h1 h2 fun _ _=>frb1_R h
  exact .ag _ cs q1 q2
 | fn f l=>exact frb1_R (av:=.fn f l) h r
 | pt q i j=>exact frb0_R (av:=.pt q i j) h r
 | _=>exact r
theorem frb2_bd (b:Bd nk av):Bd nk (av.frb2 k cells0):=by
 cases av with
 | ag l=>cases b with|ag _ hb=>exact .ag _ (list_bd hb fun _=>frb1_bd)
 | fn f l=>exact frb1_bd (av:=.fn f l) b
 | pt q i j=>exact frb0_bd (av:=.pt q i j) b
 | _=>exact b
theorem frb_R (h:PtPr G k cells0)(r:R G av v):R G (av.frb k cells0) v:=by
 cases av with
 | tu l =>
  obtain⟨cs,rfl,h1,h2⟩:=r.tu_of
  obtain⟨q1,q2⟩:=list_R h1 h2 fun _ _=>frb2_R h
  exact .tu _ cs q1 q2
 | ag l=>exact frb2_R (av:=.ag l) h r
 | fn f l=>exact frb1_R (av:=.fn f l) h r
 | pt q i j=>exact frb0_R (av:=.pt q i j) h r
 | _=>exact r
theorem frb_bd (b:Bd nk av):Bd nk (av.frb k cells0):=by
 cases av with
 | tu l=>cases b with|tu _ hb=>exact .tu _ (list_bd hb fun _=>frb2_bd)
 | ag l=>exact frb2_bd (av:=.ag l) b
 | fn f l=>exact frb1_bd (av:=.fn f l) b
 | pt q i j=>exact frb0_bd (av:=.pt q i j) b
 | _=>exact b
theorem frb1_C {φ:Nat→Prop} (h:PtPr G k cells0)(r:CR G w φ av v):CR G w φ (av.frb1 k cells0) v:=by
 rcases r with r|o
 ·exact .inl (frb1_R h r)
 ·by_cases ho:av.own=true
  ·cases av with
   | ow T n rows=>exact .inr o
   | _=>cases ho
  ·exact .inl (frb1_R h (.pu _ _ (OW.p o (by simpa using ho))))
end
theorem Tr.freezeB (k:Nat) {T:TypeId} {cells0:List AV} (hk:look k σ.M=some (.box T cells0)) (hp0:(cells0.all fun av=>(av.pu2 && !av.own) && av.oneB)=true):Tr C σ (σ.freezeB k cells0):=fun G a w ok=>by
 obtain ⟨hkn,_,hob⟩:=ok.ob k _ hk
 classical
 let F':View:=fun p=>if G.fp k p.block then w.cell? p else G.F p
 have hF:G.F.le F':=fun p u h=>by
  show (if _ then _ else _)=_
  rw [if_neg (fun e=>ok.dF k _ p.block p u hk e h rfl)];exact h
 have hFn:∀ p u,F' p=some u→G.F p=some u∨(G.fp k p.block∧w.cell? p=some u):=fun p u h=>by
  have h:(if G.fp k p.block then w.cell? p else G.F p)=some u:=h
  by_cases e:G.fp k p.block
  ·rw [if_pos e] at h;exact .inr ⟨e,h⟩
  ·rw [if_neg e] at h;exact .inl h
 have hle:G.le { G with F:=F' } σ.nk:=⟨hF,fun _ _=>rfl,fun _ _=>rfl,fun _ _=>rfl⟩
 have hls':PtPr { G with F:=F' } k cells0:=by
  intro j p h1 h2 h3
  obtain ⟨g1,cs,Φ,g2,g3,_,_,g6⟩:=hob
  have hpe:∀ i,p.add i=⟨G.b k,j+i,none⟩:=fun i=>by
   obtain ⟨pb,po,ps⟩:=p
   dsimp only at h1 h2 h3
   subst h1 h2 h3
   simp [Addr.add]
  have hcell:∀ i av,(cells0.drop j)[i]?=some av→∃ u,cs[j+i]?=some u∧w.cell? (p.add i)=some u∧u.oneCell'=true∧RP G.F av u:=fun i av hi=>by
   rw [List.getElem?_drop] at hi
   have hlt:j+i<cells0.length:=(List.getElem?_eq_some_iff.1 hi).1
   have hcs:cs[j+i]?=some (cs[j+i]'(by omega)):=Array.getElem?_eq_getElem _
   have hpu:=List.all_eq_true.1 hp0 av (List.mem_of_getElem? hi)
   rw [Bool.and_eq_true,Bool.and_eq_true] at hpu
   have hr:=(g6 (j+i) av _ hi hcs).r (by simpa using hpu.1.2)
   exact ⟨_,hcs,by rw [hpe,g2.cell,hcs],oneB_of hr hpu.2,(pu2_bd hpu.1.1 0).rp hr⟩
  classical
  refine .pu _ _ (.pr _ p (fun i=>cs.getD (j+i) undef) (fun i av hi=>?_) fun i av hi=>?_)
  ·obtain ⟨u,q1,q2,q3,q4⟩:=hcell i av hi
   rw [show cs.getD (j+i) undef=u by rw [Array.getD_eq_getD_getElem?,q1];rfl]
   refine ⟨?_,q3⟩
   show (if G.fp k (p.add i).block then w.cell? (p.add i) else G.F (p.add i))=some u
   rw [if_pos (by rw [hpe];exact g1)]
   exact q2
  ·obtain ⟨u,q1,q2,q3,q4⟩:=hcell i av hi
   rw [show cs.getD (j+i) undef=u by rw [Array.getD_eq_getD_getElem?,q1];rfl]
   exact q4.mono hF
 have hl:∀ i ob,look i (σ.freezeB k cells0).M=some ob→∃ ob0,i≠k∧look i σ.M=some ob0∧ob=ob0.frb k cells0:=fun i ob h=>by
  rw [show look i (σ.freezeB k cells0).M=_ from look_mapS _ i _,look_rem] at h
  by_cases e:i=k
  ·rw [if_pos e] at h;cases h
  ·rw [if_neg e] at h
   cases hq:look i σ.M with
   | none=>simp [hq] at h
   | some ob0=>simp [hq] at h;exact ⟨ob0,e,rfl,h.symm⟩
 refine ⟨{ G with F:=F' },ok.sz,ok.df,fun i av h=>?_,ok.bel,fun p u h=>?_,fun p u h=>hF p u (ok.f0 p u h),fun p u h=>?_,fun i ob h=>?_,fun i o x h1 h2=>?_,?_,?_⟩
 ·rw [show look i (σ.freezeB k cells0).t=_ from look_mapS _ i _] at h
  cases hq:look i σ.t with
  | none=>simp [hq] at h
  | some av0 =>
   simp [hq] at h
   obtain ⟨h1,h2,h3⟩:=ok.tm i av0 hq
   rw [← h]
   exact ⟨h1,frb_bd h2,frb_R hls' (h3.mono hle h2)⟩
 ·rcases hFn p u h with h|⟨_,h⟩
  ·exact ok.fw p u h
  ·exact h
 ·rcases hFn p u h with h|⟨h,_⟩
  ·exact ok.f1 p u h
  ·exact .inr (ok.my k _ _ hk h).1
 ·obtain ⟨ob0,e,h0,rfl⟩:=hl i ob h
  obtain ⟨g1,g2,g3⟩:=ok.ob i ob0 h0
  have g4:=g3.keep (w':=w) (G':={ G with F:=F' }) hle g1 g2 rfl (fun _ _=>rfl)
  refine ⟨g1,?_,?_⟩
  ·cases ob0 with
   | box T cells=>exact list_bd g2 fun _=>frb1_bd
   | rof T m rs hi hj y=>exact frb1_bd g2
   | rwo T m rs hi hj y=>exact frb1_bd g2
   | _=>exact g2
  ·cases ob0 with
   | box T cells =>
    obtain ⟨b1,cs,Φ,b2,b3,b4,b5,b6⟩:=g4
    refine ⟨b1,cs,Φ,b2,by simpa using b3,b4,b5,fun j av u x y=>?_⟩
    rw [List.getElem?_map] at x
    cases hq:cells[j]? with
    | none=>simp [hq] at x
    | some b=>simp [hq] at x;rw [← x];exact frb1_C hls' (b6 j b u hq y)
   | rof T m rs hi hj y =>
    obtain ⟨c1,c2,c3⟩:=g4
    refine ⟨c1,c2,c3.keep (fun _ _=>rfl) fun i r j av ψ u _ _ _ x=>?_⟩
    unfold XH at x ⊢
    by_cases e:i=hi∧j=hj
    ·rw [if_pos e] at x ⊢
     exact frb1_R hls' x
    ·rw [if_neg e] at x ⊢
     exact x
   | rwo T m rs hi hj y =>
    obtain ⟨c1,c2,c3⟩:=g4
    refine ⟨c1,c2,c3.keep (fun _ _=>rfl) fun i r j av ψ u _ _ _ x=>?_⟩
    unfold XQ at x ⊢
    by_cases e:i=hi∧j=hj
    ·rw [if_pos e] at x ⊢
     exact frb1_R hls' x
    ·rw [if_neg e] at x ⊢
     exact x
   | _=>exact g4
 ·obtain ⟨ob0,e,h0,rfl⟩:=hl i o h1
  exact ok.my i ob0 x h0 h2
 ·intro i o i' o' x h1 h2 h3 h4
  obtain ⟨ob0,e,h0,rfl⟩:=hl i o h1
  obtain ⟨ob0',e',h0',rfl⟩:=hl i' o' h2
  exact ok.dj i ob0 i' ob0' x h0 h0' h3 h4
 ·intro i o x p u h1 h2 h3
  obtain ⟨ob0,e,h0,rfl⟩:=hl i o h1
  rcases hFn p u h3 with h|⟨h,_⟩
  ·exact ok.dF i ob0 x p u h0 h2 h
  ·intro e2
   exact e (ok.dj i ob0 k _ x h0 hk h2 (by rw [← e2];exact h))
end
end
end Go.Proofs.YtaeelcfjkhfpkaaGreat
