/- Capo of the program, the piece: the function of each stop, moved. -/
import Derived.Test.YtaeelcfjkhfpkaaGreatYVPq
import Derived.Test.YtaeelcfjkhfpkaaGreatYNPq
import Derived.Test.YtaeelcfjkhfpkaaGreatYSPq
import Derived.Test.YtaeelcfjkhfpkaaGreatYAPq
set_option maxHeartbeats 8000000
set_option maxRecDepth 100000
set_option linter.unusedVariables false
set_option linter.unusedSimpArgs false
namespace Go.Proofs.YtaeelcfjkhfpkaaGreat
section
open Go.RowKit
theorem z49i {z:Int} (h:I64 z:=by unfold I64;omega):I64 z:=h
def AV.frb0 (k:Nat)(cells0:List AV):AV→AV
 | .pt q 0 j=>bif Nat.beq q k then .pr (cells0.drop j)else .pt q 0 j
 | av=>av
def AV.frb1 (k:Nat)(cells0:List AV):AV→AV
 | .fn f l=>.fn f (l.map (AV.frb0 k cells0))
 | av=>av.frb0 k cells0
def AV.frb2 (k:Nat)(cells0:List AV):AV→AV
 | .ag l=>.ag (l.map (AV.frb1 k cells0))
 | av=>av.frb1 k cells0
def AV.frb (k:Nat)(cells0:List AV):AV→AV
 | .tu l=>.tu (l.map (AV.frb2 k cells0))
 | av=>av.frb2 k cells0
def AO.frb (k:Nat)(cells0:List AV):AO→AO
 | .box T cells=>.box T (cells.map (AV.frb1 k cells0))
 | .rof T m rs hi hj x=>.rof T m rs hi hj (x.frb1 k cells0)
 | .rwo T m rs hi hj x=>.rwo T m rs hi hj (x.frb1 k cells0)
 | ob=>ob
def St.freezeB (σ:St) (k:Nat) (cells0:List AV):St:=⟨mapS (AV.frb k cells0) σ.t,mapS (AO.frb k cells0) (rem k σ.M),σ.nk⟩
def PtPr (G:Gh) (k:Nat) (cells0:List AV):Prop:=∀ (j:Nat) (p:Addr),p.block=G.b k→p.off=j→p.spot=none→R G (.pr (cells0.drop j)) (.pointer (some p))
section
variable {P:Program} {C:Cx} {σ σ':St} {G G':Gh} {a:Act} {w w':World} {o:Oper} {d:Tmp}
section
variable {k nk:Nat} {cells0:List AV} {av:AV} {v:Value}
theorem frb0_R (h:PtPr G k cells0)(r:R G av v):R G (av.frb0 k cells0) v:=by
 cases av with
 | pt q i j =>
  cases i with
  | zero =>
   simp only [AV.frb0]
   cases e:Nat.beq q k with
   | true =>
    obtain rfl:=Nat.eq_of_beq_eq_true e
    obtain⟨p,rfl,h1,h2,h3⟩:=r.pt_of
    exact h j p h1 (by rw [h2];simp) h3
   | false=>exact r
  | succ i=>exact r
 | _=>exact r
theorem frb0_bd (b:Bd nk av):Bd nk (av.frb0 k cells0):=by
 cases av with
 | pt q i j =>
  cases i with
  | zero =>
   simp only [AV.frb0]
   cases e:Nat.beq q k with
   | true=>exact .pr _
   | false=>exact b
  | succ i=>exact b
 | _=>exact b
theorem frb1_R (h:PtPr G k cells0)(r:R G av v):R G (av.frb1 k cells0) v:=by
 cases av with
 | fn f l =>
  obtain⟨cs,rfl,h1,h2⟩:=r.fn_of
  obtain⟨q1,q2⟩:=list_R h1 h2 fun _ _=>frb0_R h
  exact .fn f _ cs q1 q2
 | pt q i j=>exact frb0_R (av:=.pt q i j) h r
 | _=>exact r
theorem frb1_bd (b:Bd nk av):Bd nk (av.frb1 k cells0):=by
 cases av with
 | fn f l=>cases b with|fn _ _ hb=>exact .fn f _ (list_bd hb fun _=>frb0_bd)
 | pt q i j=>exact frb0_bd (av:=.pt q i j) b
 | _=>exact b
theorem frb2_R (h:PtPr G k cells0)(r:R G av v):R G (av.frb2 k cells0) v:=by
 cases av with
 | ag l =>
  obtain⟨cs,rfl,h1,h2⟩:=r.ag_of
  obtain⟨q1,q2⟩:=list_R h1 h2 fun _ _=>frb1_R h
  exact .ag _ cs q1 q2
 | fn f l=>exact frb1_R (av:=.fn f l) h r
 | pt q i j=>exact frb0_R (av:=.pt q i j) h r
 | _=>exact r
theorem frb2_bd (b:Bd nk av):Bd nk (av.frb2 k cells0):=by
 cases av with
 | ag l=>cases b with|ag _ hb=>exact .ag _ (list_bd hb fun _=>frb1_bd)
 | fn f l=>exact frb1_bd (av:=.fn f l) b
 | pt q i j=>exact frb0_bd (av:=.pt q i j) b
 | _=>exact b
theorem frb_R (h:PtPr G k cells0)(r:R G av v):R G (av.frb k cells0) v:=by
 cases av with
 | tu l =>
  obtain⟨cs,rfl,h1,h2⟩:=r.tu_of
  obtain⟨q1,q2⟩:=list_R h1 h2 fun _ _=>frb2_R h
  exact .tu _ cs q1 q2
 | ag l=>exact frb2_R (av:=.ag l) h r
 | fn f l=>exact frb1_R (av:=.fn f l) h r
 | pt q i j=>exact frb0_R (av:=.pt q i j) h r
 | _=>exact r
theorem frb_bd (b:Bd nk av):Bd nk (av.frb k cells0):=by
 cases av with
 | tu l=>cases b with|tu _ hb=>exact .tu _ (list_bd hb fun _=>frb2_bd)
 | ag l=>exact frb2_bd (av:=.ag l) b
 | fn f l=>exact frb1_bd (av:=.fn f l) b
 | pt q i j=>exact frb0_bd (av:=.pt q i j) b
 | _=>exact b
theorem frb1_C {φ:Nat→Prop} (h:PtPr G k cells0)(r:CR G w φ av v):CR G w φ (av.frb1 k cells0) v:=by
 rcases r with r|o
 ·exact .inl (frb1_R h r)
 ·by_cases ho:av.own=true
  ·cases av with
   | ow T n rows=>exact .inr o
   | _=>cases ho
  ·exact .inl (frb1_R h (.pu _ _ (OW.p o (by simpa using ho))))
end
theorem Tr.freezeB (k:Nat) {T:TypeId} {cells0:List AV} (hk:look k σ.M=some (.box T cells0)) (hp0:(cells0.all fun av=>(av.pu2 && !av.own) && av.oneB)=true):Tr C σ (σ.freezeB k cells0):=fun G a w ok=>by
 obtain ⟨hkn,_,hob⟩:=ok.ob k _ hk
 classical
 let F':View:=fun p=>if G.fp k p.block then w.cell? p else G.F p
 have hF:G.F.le F':=fun p u h=>by
  show (if _ then _ else _)=_
  rw [if_neg (fun e=>ok.dF k _ p.block p u hk e h rfl)];exact h
 have hFn:∀ p u,F' p=some u→G.F p=some u∨(G.fp k p.block∧w.cell? p=some u):=fun p u h=>by
  have h:(if G.fp k p.block then w.cell? p else G.F p)=some u:=h
  by_cases e:G.fp k p.block
  ·rw [if_pos e] at h;exact .inr ⟨e,h⟩
  ·rw [if_neg e] at h;exact .inl h
 have hle:G.le { G with F:=F' } σ.nk:=⟨hF,fun _ _=>rfl,fun _ _=>rfl,fun _ _=>rfl⟩
 have hls':PtPr { G with F:=F' } k cells0:=by
  intro j p h1 h2 h3
  obtain ⟨g1,cs,Φ,g2,g3,_,_,g6⟩:=hob
  have hpe:∀ i,p.add i=⟨G.b k,j+i,none⟩:=fun i=>by
   obtain ⟨pb,po,ps⟩:=p
   dsimp only at h1 h2 h3
   subst h1 h2 h3
   simp [Addr.add]
  have hcell:∀ i av,(cells0.drop j)[i]?=some av→∃ u,cs[j+i]?=some u∧w.cell? (p.add i)=some u∧u.oneCell'=true∧RP G.F av u:=fun i av hi=>by
   rw [List.getElem?_drop] at hi
   have hlt:j+i<cells0.length:=(List.getElem?_eq_some_iff.1 hi).1
   have hcs:cs[j+i]?=some (cs[j+i]'(by omega)):=Array.getElem?_eq_getElem _
   have hpu:=List.all_eq_true.1 hp0 av (List.mem_of_getElem? hi)
   rw [Bool.and_eq_true,Bool.and_eq_true] at hpu
   have hr:=(g6 (j+i) av _ hi hcs).r (by simpa using hpu.1.2)
   exact ⟨_,hcs,by rw [hpe,g2.cell,hcs],oneB_of hr hpu.2,(pu2_bd hpu.1.1 0).rp hr⟩
  classical
  refine .pu _ _ (.pr _ p (fun i=>cs.getD (j+i) undef) (fun i av hi=>?_) fun i av hi=>?_)
  ·obtain ⟨u,q1,q2,q3,q4⟩:=hcell i av hi
   rw [show cs.getD (j+i) undef=u by rw [Array.getD_eq_getD_getElem?,q1];rfl]
   refine ⟨?_,q3⟩
   show (if G.fp k (p.add i).block then w.cell? (p.add i) else G.F (p.add i))=some u
   rw [if_pos (by rw [hpe];exact g1)]
   exact q2
  ·obtain ⟨u,q1,q2,q3,q4⟩:=hcell i av hi
   rw [show cs.getD (j+i) undef=u by rw [Array.getD_eq_getD_getElem?,q1];rfl]
   exact q4.mono hF
 have hl:∀ i ob,look i (σ.freezeB k cells0).M=some ob→∃ ob0,i≠k∧look i σ.M=some ob0∧ob=ob0.frb k cells0:=fun i ob h=>by
  rw [show look i (σ.freezeB k cells0).M=_ from look_mapS _ i _,look_rem] at h
  by_cases e:i=k
  ·rw [if_pos e] at h;cases h
  ·rw [if_neg e] at h
   cases hq:look i σ.M with
   | none=>simp [hq] at h
   | some ob0=>simp [hq] at h;exact ⟨ob0,e,rfl,h.symm⟩
 refine ⟨{ G with F:=F' },ok.sz,ok.df,fun i av h=>?_,ok.bel,fun p u h=>?_,fun p u h=>hF p u (ok.f0 p u h),fun p u h=>?_,fun i ob h=>?_,fun i o x h1 h2=>?_,?_,?_⟩
 ·rw [show look i (σ.freezeB k cells0).t=_ from look_mapS _ i _] at h
  cases hq:look i σ.t with
  | none=>simp [hq] at h
  | some av0 =>
   simp [hq] at h
   obtain ⟨h1,h2,h3⟩:=ok.tm i av0 hq
   rw [← h]
   exact ⟨h1,frb_bd h2,frb_R hls' (h3.mono hle h2)⟩
 ·rcases hFn p u h with h|⟨_,h⟩
  ·exact ok.fw p u h
  ·exact h
 ·rcases hFn p u h with h|⟨h,_⟩
  ·exact ok.f1 p u h
  ·exact .inr (ok.my k _ _ hk h).1
 ·obtain ⟨ob0,e,h0,rfl⟩:=hl i ob h
  obtain ⟨g1,g2,g3⟩:=ok.ob i ob0 h0
  have g4:=g3.keep (w':=w) (G':={ G with F:=F' }) hle g1 g2 rfl (fun _ _=>rfl)
  refine ⟨g1,?_,?_⟩
  ·cases ob0 with
   | box T cells=>exact list_bd g2 fun _=>frb1_bd
   | rof T m rs hi hj y=>exact frb1_bd g2
   | rwo T m rs hi hj y=>exact frb1_bd g2
   | _=>exact g2
  ·cases ob0 with
   | box T cells =>
    obtain ⟨b1,cs,Φ,b2,b3,b4,b5,b6⟩:=g4
    refine ⟨b1,cs,Φ,b2,by simpa using b3,b4,b5,fun j av u x y=>?_⟩
    rw [List.getElem?_map] at x
    cases hq:cells[j]? with
    | none=>simp [hq] at x
    | some b=>simp [hq] at x;rw [← x];exact frb1_C hls' (b6 j b u hq y)
   | rof T m rs hi hj y =>
    obtain ⟨c1,c2,c3⟩:=g4
    refine ⟨c1,c2,c3.keep (fun _ _=>rfl) fun i r j av ψ u _ _ _ x=>?_⟩
    unfold XH at x ⊢
    by_cases e:i=hi∧j=hj
    ·rw [if_pos e] at x ⊢
     exact frb1_R hls' x
    ·rw [if_neg e] at x ⊢
     exact x
   | rwo T m rs hi hj y =>
    obtain ⟨c1,c2,c3⟩:=g4
    refine ⟨c1,c2,c3.keep (fun _ _=>rfl) fun i r j av ψ u _ _ _ x=>?_⟩
    unfold XQ at x ⊢
    by_cases e:i=hi∧j=hj
    ·rw [if_pos e] at x ⊢
     exact frb1_R hls' x
    ·rw [if_neg e] at x ⊢
     exact x
   | _=>exact g4
 ·obtain ⟨ob0,e,h0,rfl⟩:=hl i o h1
  exact ok.my i ob0 x h0 h2
 ·intro i o i' o' x h1 h2 h3 h4
  obtain ⟨ob0,e,h0,rfl⟩:=hl i o h1
  obtain ⟨ob0',e',h0',rfl⟩:=hl i' o' h2
  exact ok.dj i ob0 i' ob0' x h0 h0' h3 h4
 ·intro i o x p u h1 h2 h3
  obtain ⟨ob0,e,h0,rfl⟩:=hl i o h1
  rcases hFn p u h3 with h|⟨h,_⟩
  ·exact ok.dF i ob0 x p u h0 h2 h
  ·intro e2
   exact e (ok.dj i ob0 k _ x h0 hk h2 (by rw [← e2];exact h))
end
end
section
open Go.RowKit
theorem carryA (C:Cg) (hm:∀ y,C.mr y=y) (hml:∀ y,C.ml y=[]) (ht:∀ i e,C.tie i e=e.tie) (hba:∀ i,C.bare i=decide (0 < i)) (hcr:∀ x y,C.mv x=some y→y.1=x.1∧y.2.2.2.2=x.2.2.2.2) (cs:List (Int×Int×Bool)) (st:List Int) (hc1:cs.length≤64) (hs1:st.length≤64) (L:List AV)
  (p:Pce) (hO:PcOk p) (h0:pceE p=0) (hch:∀ k (hk:k < p.evs.length),Ctr Tryz.prog 118 [.ls 5 (p.evs[k].stops.map eStp),.pr L] (.ls 6 ((p.evs[k].stops.map C.ch).map eKp))) :
  Ctr Tryz.prog 57 [.ag [.ls 3 (cs.map eCrs),.ls 1 (st.map eInt),.sc (.bool false),.sc .nilFunc,.fn 118 [.pr L],.sc .nilFunc,.sc .nilFunc],ePce p] (.tu [ePce ⟨cs,st,fnL (ftH (nwL C p.evs)) (nwL C p.evs)⟩,.ls 3 ((lsL C (ftH (nwL C p.evs)) p.evs p.evs.length).map eLk)]):=by
 obtain ⟨_,h400,_⟩:=pceE_zero h0
 have h20:∀ e∈p.evs,e.stops.length≤20:=fun e he=>by
  obtain ⟨i,hi,rfl⟩:=List.getElem_of_mem he
  exact hO.n4 i hi
 have hAsc:∀ e∈p.evs,e.stops.Pairwise fun x y=>x.1 < y.1:=fun e he=>by
  obtain ⟨i,hi,rfl⟩:=List.getElem_of_mem he
  exact (evOk_of h0 hi).asc
 have hNl:=nwL_len C p.evs
 have hN20:∀ e∈(nwL C p.evs),e.stops.length≤20:=fun e he=>by
  obtain ⟨i,hi,rfl⟩:=List.getElem_of_mem he
  have hi':i < p.evs.length:=by rw [nwL_len] at hi;exact hi
  rw [nwL_get hi']
  exact Nat.le_trans (nwS_len _ _) (hO.n4 i hi')
 have hLo:=yLoss_FS C (ftH (nwL C p.evs)) p.evs cs st (by omega) h20 (fun y=>by rw [hml];exact Nat.zero_le _) hcr hAsc
 have hone:∀ k (hk:k < p.evs.length),Cto truB 0 Tryz.prog 106 [.ag [.ls 3 (cs.map eCrs),.ls 1 (st.map eInt),.sc (.bool false),.sc .nilFunc,.fn 118 [.pr L],.sc .nilFunc,.sc .nilFunc],.pt 0 0 0,.sc (.bool (decide (k=0)))] [(0,.box 45 (eEv p.evs[k]))] 1 (.ag (eOc (evT C k p.evs[k]) (ocN C p.evs[k].stops) (ocG C p.evs[k].stops)))
   [(0,.box 45 (eEvS (nwE C k p.evs[k]) 1)),(1,.row 48 5 ((nwS C p.evs[k].stops).map eStp)),(2,.box 152 (eOc (evT C k p.evs[k]) (ocN C p.evs[k].stops) (ocG C p.evs[k].stops)))] 3:=fun k hk=>by
  have hE:=evOk_of h0 hk
  by_cases hz:p.evs[k].stops=[]
  ·exact oneA_0 C ht cs st L k p.evs[k] hz
  ·exact oneA_1 C hm hml ht hba hcr cs st L k p.evs[k] hz hE.asc (asc14 hE.asc fun x hx=>⟨(hE.stops x hx).crs.1,(hE.stops x hx).c14⟩) (hch k hk)
 have hrow1:∀ k (hk:k < p.evs.length),((ocA C p.evs).take k).map eOcR++[eOc (evT C k p.evs[k]) (ocN C p.evs[k].stops) (ocG C p.evs[k].stops)]=((ocA C p.evs).take (k+1)).map eOcR:=fun k hk=>by
  rw [List.take_succ_eq_append_getElem (by rw [ocA_len];exact hk),List.map_append]
  congr 1
  simp only [ocA,List.getElem_mapIdx]
  rfl
 have hrow2:∀ k (hk:k < p.evs.length),((nwL C p.evs).take k).map eEvO++[eEvO (nwE C k p.evs[k])]=((nwL C p.evs).take (k+1)).map eEvO:=fun k hk=>by
  rw [List.take_succ_eq_append_getElem (by rw [nwL_len];exact hk),List.map_append,nwL_get hk];rfl
 have hAl:(ocA C p.evs).length=p.evs.length:=ocA_len _ _
 refine zqe Tryz.func57 Tryz.ntmps57 fun w0 F0=>?_;dsimp only [St.init,number,Nat.reduceAdd]
 repeat (first|refine W.go rfl ?_|refine WL.ev rfl ?_|refine WL.len rfl rfl zql ?_)
 refine (?_:W _ _ _ _ _)
 refine W.tr (Tr.nil (t:=7) 152 3 rfl rfl) ?_
 refine W.tr (Tr.nilBox (k:=3) (j:=2) 45 6 rfl rfl rfl rfl) ?_
 refine W.tr (Tr.widen 5 rfl) ?_
 dsimp only [St.put,St.new,St.upd,Nat.reduceAdd]
 refine (?_:W _ _ _ _ _)
 refine W.loop (fun k:Nat=>k≤p.evs.length) (fun k=>⟨[(2,.pt 0 0 0),(3,.pt 1 0 0),(4,.pt 2 0 0),(6,.pt 3 0 0),(7,.sl 4),(21,.ls 6 (p.evs.map eEv)),(22,.sc (.int .i64 p.evs.length)),(23,.sc (.int .i64 k))],[(0,.box 85 [.ls 3 (cs.map eCrs),.ls 1 (st.map eInt),.sc (.bool false),.sc .nilFunc,.fn 118 [.pr L],.sc .nilFunc,.sc .nilFunc]),(1,.box 29 [.ls 3 (p.cs.map eCrs),.ls 1 (p.st.map eInt),.ls 6 (p.evs.map eEv)]),(2,.box 29 [.sc (.slice none 0 0),.sc (.slice none 0 0),.sc (.slice none 0 0)]),(3,.box 29 [.ls 3 (cs.map eCrs),.ls 1 (st.map eInt),.sl 5]),(4,.row 152 3 (((ocA C p.evs).take k).map eOcR)),(5,.rwn 45 6 (((nwL C p.evs).take k).map eEvO))],6⟩) (fun k=>p.evs.length - k) 0 (by omega) (zqt id) fun k hk=>?_
 by_cases hlt:k < p.evs.length
 ·have hr1:=hrow1 k hlt
  have hr2:=hrow2 k hlt
  have ho:=hone k hlt
  have l1:(((ocA C p.evs).take k).map eOcR).length=k:=by rw [List.length_map,List.length_take,hAl];omega
  have l2:(((nwL C p.evs).take k).map eEvO).length=k:=by rw [List.length_map,List.length_take,hNl];omega
  obtain ⟨R1,hR1⟩:∃ z,((ocA C p.evs).take k).map eOcR=z:=⟨_,rfl⟩
  obtain ⟨R2,hR2⟩:∃ z,((nwL C p.evs).take k).map eEvO=z:=⟨_,rfl⟩
  rw [hR1] at hr1 l1 ⊢
  rw [hR2] at hr2 l2 ⊢
  clear hR1 hR2 hone hrow1 hrow2 hLo
  obtain ⟨b,hb⟩:∃ b,decide (k=0)=b:=⟨_,rfl⟩
  rw [hb] at ho
  have hbk:(b=true∧(k:Int)=0)∨(b=false∧(k:Int)≠0):=by
   cases b with
   | true=>exact .inl ⟨rfl,by have:=of_decide_eq_true hb;omega⟩
   | false=>exact .inr ⟨rfl,by have:=of_decide_eq_false hb;omega⟩
  clear hb
  rcases hbk with ⟨rfl,hk0⟩|⟨rfl,hk0⟩
  all_goals
   repeat (first|refine W.gob rfl ?_|refine WL.nil ?_|refine WL.bt rfl rfl rfl zqo ?_|refine WL.bf rfl rfl rfl zqo ?_|refine WL.e1 rfl ?_|refine WL.idx rfl rfl zqo zqm ?_|refine W.condT rfl ?_)
   refine (?_:WL _ _ _ _ _ _)
   refine WL.cto (truH _) [6] rfl rfl (callF Tryz.func106 rfl rfl) ho rfl rfl rfl ⟨⟨rfl,rfl,rfl⟩,trivial⟩ rfl rfl rfl rfl ?_
   repeat (first|refine W.gob rfl ?_|refine WL.nil ?_|refine WL.e1 rfl ?_|refine WL.app rfl rfl rfl zqs ?_)
   refine (?_:WL _ _ _ _ _ _)
   refine WL.bdO 5 rfl rfl rfl rfl ?_
   refine WL.tr (Tr.close_ 12 (m:=7) rfl rfl rfl rfl (by show 5 < 6;omega) rfl) ?_
   dsimp only [St.upd,St.drop,rem,cond,Nat.beq]
   refine WL.apM rfl rfl rfl rfl (by show R2.length+1≤1000000000;omega) ?_
   repeat (first|refine W.gob rfl ?_|refine WL.nil ?_|refine WL.e1 rfl ?_|refine WL.ar rfl rfl z49i ?_)
   refine ⟨k+1,by omega,by omega,?_⟩
   exact (zqu (fun q=>bif Nat.beq q 4 then 11 else bif Nat.beq q 5 then 13 else q) (by repeat (first|exact trivial|refine ⟨⟨?_,?_,?_⟩,?_⟩|rfl|exact congrArg (fun q=>some (AO.row _ _ q)) hr1|exact congrArg (fun q=>some (AO.rwn _ _ q)) hr1|exact congrArg (fun q=>some (AO.row _ _ q)) hr2|exact congrArg (fun q=>some (AO.rwn _ _ q)) hr2)) rfl)
 obtain rfl:k=p.evs.length:=by omega
 rw [List.take_of_length_le (by omega:(ocA C p.evs).length≤p.evs.length),List.take_of_length_le (by omega:(nwL C p.evs).length≤p.evs.length)]
 have hAl2:((ocA C p.evs).map eOcR).length=p.evs.length:=by rw [List.length_map,hAl]
 obtain ⟨AL,hAL⟩:∃ z,(ocA C p.evs).map eOcR=z:=⟨_,rfl⟩
 rw [hAL] at hLo hAl2 ⊢
 obtain ⟨EV,hEV⟩:∃ z,p.evs.map eEv=z:=⟨_,rfl⟩
 rw [hEV]
 have hNW400:(nwL C p.evs).length≤400:=by omega
 clear hone hrow1 hrow2 hAL hEV
 obtain ⟨NW,hNW⟩:∃ z,(nwL C p.evs)=z:=⟨_,rfl⟩
 rw [hNW] at hNl hN20 hLo hNW400 
 rw [hNW]
 clear hNW
 obtain ⟨H0,hH0⟩:∃ z,ftH NW=z:=⟨_,rfl⟩
 rw [hH0] at hLo
 rw [hH0]
 repeat (first|refine W.gob rfl ?_|refine WL.nil ?_|refine WL.bf rfl rfl rfl zqo ?_|refine WL.e1 rfl ?_|refine WL.len rfl rfl zql ?_|refine W.condF rfl ?_)
 refine (?_:W _ _ _ _ _)
 rw [show NW.map eEvO=(fnN H0 NW 0 0).map eEvO by rw [fnN_0]]
 refine W.loop (fun n:Nat=>n≤NW.length) (fun n=>⟨[(2,.pt 0 0 0),(4,.pt 2 0 0),(6,.pt 3 0 0),(7,.sl 4),(45,.sc (.int .i64 NW.length)),(46,.sc (.int .i64 n))],[(0,.box 85 [.ls 3 (cs.map eCrs),.ls 1 (st.map eInt),.sc (.bool false),.sc .nilFunc,.fn 118 [.pr L],.sc .nilFunc,.sc .nilFunc]),(2,.box 29 [.sc (.slice none 0 0),.sc (.slice none 0 0),.sc (.slice none 0 0)]),(3,.box 29 [.ls 3 (cs.map eCrs),.ls 1 (st.map eInt),.sl 5]),(4,.row 152 3 AL),(5,.rwn 45 6 ((fnN H0 NW n 0).map eEvO))],6⟩) (fun n=>NW.length - n) 0 (by omega) (zqt id) fun n hn=>?_
 have hnl:((fnN H0 NW n 0).map eEvO).length=NW.length:=by rw [List.length_map,fnN_len]
 by_cases hlt:n < NW.length
 ·have hat0:(fnN H0 NW n 0)[n]'(by rw [fnN_len];exact hlt)=NW[n]:=fnN_0at hlt
  have hlt2:n < (fnN H0 NW n 0).length:=by rw [fnN_len];exact hlt
  have hat:((fnN H0 NW n 0).map eEvO)[n]?=some (eEvO NW[n]):=by rw [evO_at hlt2,hat0]
  have hn20:=hN20 _ (List.getElem_mem hlt)
  repeat (first|refine W.gob rfl ?_|refine WL.nil ?_|refine WL.bt rfl rfl rfl zqo ?_|refine WL.e1 rfl ?_|refine WL.ixs rfl rfl zqs ?_|refine W.condT rfl ?_)
  refine (?_:WL _ _ _ _ _ _)
  refine WL.tr (Tr.open_ 5 n 5 rfl hat rfl (eStp_own _) rfl) ?_
  dsimp only [St.upd,St.new,Nat.reduceAdd]
  refine (?_:WL _ _ _ _ _ _)
  refine WL.ldQ rfl rfl rfl rfl hat (by show 5 < 6;omega) ?_
  repeat (first|refine W.gob rfl ?_|refine WL.nil ?_|refine WL.e1 rfl ?_|refine WL.len rfl rfl zql ?_)
  refine (?_:W _ _ _ _ _)
  refine W.loop (fun j:Nat=>j≤NW[n].stops.length) (fun j=>⟨[(2,.pt 0 0 0),(4,.pt 2 0 0),(6,.pt 3 0 0),(7,.sl 4),(11,.sc (.int .i64 n)),(45,.sc (.int .i64 NW.length)),(46,.sc (.int .i64 n)),(55,.sc (.int .i64 NW[n].stops.length)),(56,.sc (.int .i64 j))],[(0,.box 85 [.ls 3 (cs.map eCrs),.ls 1 (st.map eInt),.sc (.bool false),.sc .nilFunc,.fn 118 [.pr L],.sc .nilFunc,.sc .nilFunc]),(2,.box 29 [.sc (.slice none 0 0),.sc (.slice none 0 0),.sc (.slice none 0 0)]),(3,.box 29 [.ls 3 (cs.map eCrs),.ls 1 (st.map eInt),.sl 5]),(4,.row 152 3 AL),(5,.rwo 45 6 ((fnN H0 NW n 0).map eEvO) n 5 (.sl 6)),(6,.row 48 5 ((fnK H0 n j NW[n].stops).map eStp))],7⟩) (fun j=>NW[n].stops.length - j) 0 (by omega) (zqu (fun q=>q) (by repeat (first|exact trivial|refine ⟨⟨?_,?_,?_⟩,?_⟩|rfl|exact congrArg (fun q=>some (AO.row _ _ q)) (by rw [fnK_0])|exact congrArg (fun q=>some (AO.rwn _ _ q)) (by rw [fnK_0]))) rfl) fun j hj=>?_
  have hjl:((fnK H0 n j NW[n].stops).map eStp).length=NW[n].stops.length:=by rw [List.length_map,fnK_len]
  by_cases hjt:j < NW[n].stops.length
  ·have hKj:=fnK_get (H:=H0) (n:=n) hjt
   have hput:=fnK_put (H:=H0) (n:=n) hjt
   have hkl:=fnK_len H0 n j NW[n].stops
   have hkc:=fnK_crs H0 n j NW[n].stops
   have hH0x:H0 n NW[n].stops[j]=if NW[n].stops[j].2.1=0 then 0 else min NW[n].stops[j].2.2.2.2 (longestN NW n NW[n].stops[j].1:Int):=by rw [← hH0];rfl
   have hLong:∀ K:List Stp,K.length=NW[n].stops.length→K.map (fun x=>x.1)=NW[n].stops.map (fun x=>x.1)→∀ c,Ctr Tryz.prog 107 [.ag [.ls 3 (cs.map eCrs),.ls 1 (st.map eInt),.ls 6 ((evK (fnN H0 NW n 0) n K).map eEv)],.sc (.int .i64 n),.sc (.int .i64 c)] (.sc (.int .i64 (longestN NW n c))):=fun K hK hKc c=>by
    have h:=yLong_FS ⟨cs,st,evK (fnN H0 NW n 0) n K⟩ ⟨hc1,hs1,by show (evK (fnN H0 NW n 0) n K).length≤420;rw [evK_len,fnN_len];omega,fun k hk=>evK_20 hlt2 (by omega) (fnN_20 hN20 n 0) _ (List.getElem_mem _)⟩ n c
    rw [show longestN (Pce.mk cs st (evK (fnN H0 NW n 0) n K)).evs n c=longestN NW n c from longestN_crs ((evK_crs hlt2 (by rw [hat0];exact hKc)).trans (fnN_crs H0 NW n 0)) n c] at h
    exact h
   have hLen:∀ K:List Stp,(((fnN H0 NW n 0).map eEvO).map fun r=>r.map (AV.fz 1)).set n (((eEvO NW[n]).map (AV.fz 1)).set 5 (.ls 5 (K.map eStp)))=(evK (fnN H0 NW n 0) n K).map eEv:=fun K=>by
    have:=evK_lent hlt2 K
    rw [hat0] at this
    exact this
   obtain ⟨K,hK⟩:∃ z,fnK H0 n j NW[n].stops=z:=⟨_,rfl⟩
   rw [hK] at hjl hKj hput hkl hkc ⊢
   clear hK
   obtain ⟨X,hX⟩:∃ z,NW[n].stops[j]=z:=⟨_,rfl⟩
   rw [hX] at hKj hput hH0x
   clear hX
   have hbd:0≤(longestN NW n X.1:Int)∧(longestN NW n X.1:Int)≤15:=⟨Int.natCast_nonneg _,by have:=longestN_le NW n X.1;omega⟩
   by_cases hf0:X.2.1=0
   ·have hrow0:=stpK_row hKj
    have hjK:j < K.length:=by omega
    repeat (first|refine W.gob rfl ?_|refine WL.nil ?_|refine WL.bt rfl rfl rfl zqo ?_|refine WL.e1 rfl ?_|refine WL.ixs rfl rfl zqs ?_|refine W.condT rfl ?_)
    refine (?_:WL _ _ _ _ _ _)
    refine WL.ldQ rfl rfl rfl rfl hat (by show 5 < 6;omega) ?_
    repeat (first|refine WL.vl rfl (WV.nch rfl rfl) ?_|refine W.gob rfl ?_|refine WL.nil ?_|refine WL.e1 rfl ?_|refine WL.ixs rfl rfl zqs ?_)
    refine (?_:WL _ _ _ _ _ _)
    refine WL.ldr rfl rfl hrow0 rfl rfl ?_
    repeat (first|refine WL.vl rfl (WV.nch rfl rfl) ?_|refine W.gob rfl ?_|refine WL.nil ?_|refine WL.bt rfl rfl rfl zqo ?_|refine WL.e1 rfl ?_|refine W.condT rfl ?_)
    refine (?_:WL _ _ _ _ _ _)
    refine WL.sto rfl rfl rfl rfl hrow0 (by show 4+1≤5;omega) ?_
    dsimp only [AV.cells]
    rw [Int.toNat_natCast,show (K.map eStp).set j (putL 4 [.sc (.int .i64 0)] (eStp X))=(K.set j (stH X 0)).map eStp from stpK_put X 0]
    have hrow:((K.set j (stH X 0)).map eStp)[j]?=some (eStp (stH X 0)):=stpK_row (List.getElem?_set_self hjK)
    have hLC:=hLong (K.set j (stH X 0)) (by rw [List.length_set];exact hkl) (by rw [set_crs hKj 0];exact hkc) (stH X 0).1
    have hmin:(if (longestN NW n (stH X 0).1:Int) < (0:Int) then (longestN NW n (stH X 0).1:Int) else 0)=0:=if_neg (by show ¬ (longestN NW n X.1:Int) < 0;omega)
    have hfin:((K.set j (stH X 0)).map eStp).set j (putL 4 [.sc (.int .i64 0)] (eStp (stH X 0)))=(fnK H0 n (j+1) NW[n].stops).map eStp:=by
     rw [stpK_put (stH X 0) 0,List.set_set,← hput,hH0x,if_pos hf0];rfl
    obtain ⟨K1,hK1⟩:∃ z,K.set j (stH X 0)=z:=⟨_,rfl⟩
    rw [hK1] at hrow hLC hfin ⊢
    repeat refine WL.nil ?_
    refine (?_:W _ _ _ _ _)
    refine W.of_wa zqk ?_
    refine WA.dt [false,false,false,false,false,false,false,false,false,false,false,false,false,false,false,true] [3] [3,5,6] 15 zqk zqk zqk ⟨rfl,trivial⟩ ⟨rfl,rfl,rfl,trivial⟩ ?_
    refine DTK.st rfl zqk rfl ?_
    refine DTK.st rfl zqk rfl ?_
    refine DTK.vl rfl zqk (WV.nch rfl rfl) ?_
    refine DTK.st rfl zqk rfl ?_
    refine DTK.ldr rfl zqk rfl hrow rfl rfl ?_
    refine DTK.st rfl zqk rfl ?_
    refine DTK.st rfl zqk rfl ?_
    refine DTK.st rfl zqk rfl ?_
    refine DTK.vl rfl zqk (WV.nch rfl rfl) ?_
    refine DTK.st rfl zqk rfl ?_
    refine DTK.ldr rfl zqk rfl hrow rfl rfl ?_
    refine DTK.vl rfl zqk (WV.lendX (truH _) rfl (callF Tryz.func107 rfl rfl) rfl (.cons (Lent.ag (.cons (Lent.pu rfl) (.cons (Lent.pu rfl) (.cons (Lent.rwo 1 rfl (Lent.row rfl) (eEvO_shal _) hat (by show 5 < 6;omega) (hLen _)) .nil)))) (.cons (Lent.pu rfl) (.cons (Lent.pu rfl) .nil))) truST hLC.g) ?_
    refine DTK.vl rfl zqk (mmV_as rfl hmin) ?_
    refine DTK.vl rfl zqk (WV.nch rfl rfl) ?_
    refine DTK.st rfl zqk rfl ?_
    refine DTK.sto rfl rfl rfl rfl rfl rfl rfl rfl rfl rfl rfl rfl (put_row hrow (by show 4+1≤5;omega) rfl) rfl ⟨rfl,trivial⟩ (fun h=>by cases h) ?_
    refine DTK.nil ?_
    repeat (first|refine W.gob rfl ?_|refine WL.nil ?_|refine WL.e1 rfl ?_|refine WL.ar rfl rfl z49i ?_)
    refine ⟨j+1,by omega,by omega,?_⟩
    exact (zqu (fun q=>q) (by repeat (first|exact trivial|refine ⟨⟨?_,?_,?_⟩,?_⟩|rfl|exact congrArg (fun q=>some (AO.row _ _ q)) hfin|exact congrArg (fun q=>some (AO.rwn _ _ q)) hfin)) rfl)
   ·have hrow:=stpK_row hKj
    have hLC:=hLong K hkl hkc X.1
    have hmin:(if (longestN NW n X.1:Int) < X.2.2.2.2 then (longestN NW n X.1:Int) else X.2.2.2.2)=min X.2.2.2.2 (longestN NW n X.1:Int):=by
     rw [Int.min_def];split<;>split<;>omega
    have hfin:(K.map eStp).set j (putL 4 [.sc (.int .i64 (min X.2.2.2.2 (longestN NW n X.1:Int)))] (eStp X))=(fnK H0 n (j+1) NW[n].stops).map eStp:=by
     rw [stpK_put X,← hput,hH0x,if_neg hf0]
    repeat (first|refine W.gob rfl ?_|refine WL.nil ?_|refine WL.bt rfl rfl rfl zqo ?_|refine WL.e1 rfl ?_|refine WL.ixs rfl rfl zqs ?_|refine W.condT rfl ?_)
    refine (?_:WL _ _ _ _ _ _)
    refine WL.ldQ rfl rfl rfl rfl hat (by show 5 < 6;omega) ?_
    repeat (first|refine WL.vl rfl (WV.nch rfl rfl) ?_|refine W.gob rfl ?_|refine WL.nil ?_|refine WL.e1 rfl ?_|refine WL.ixs rfl rfl zqs ?_)
    refine (?_:WL _ _ _ _ _ _)
    refine WL.ldr rfl rfl hrow rfl rfl ?_
    repeat (first|refine W.gob rfl ?_|refine WL.nil ?_|refine WL.bf rfl rfl rfl zqo ?_|refine W.condF rfl ?_)
    refine (?_:W _ _ _ _ _)
    refine W.of_wa zqk ?_
    refine WA.dt [false,false,false,false,false,false,false,false,false,false,false,false,false,false,false,true] [3] [3,5,6] 15 zqk zqk zqk ⟨rfl,trivial⟩ ⟨rfl,rfl,rfl,trivial⟩ ?_
    refine DTK.st rfl zqk rfl ?_
    refine DTK.st rfl zqk rfl ?_
    refine DTK.vl rfl zqk (WV.nch rfl rfl) ?_
    refine DTK.st rfl zqk rfl ?_
    refine DTK.ldr rfl zqk rfl hrow rfl rfl ?_
    refine DTK.st rfl zqk rfl ?_
    refine DTK.st rfl zqk rfl ?_
    refine DTK.st rfl zqk rfl ?_
    refine DTK.vl rfl zqk (WV.nch rfl rfl) ?_
    refine DTK.st rfl zqk rfl ?_
    refine DTK.ldr rfl zqk rfl hrow rfl rfl ?_
    refine DTK.vl rfl zqk (WV.lendX (truH _) rfl (callF Tryz.func107 rfl rfl) rfl (.cons (Lent.ag (.cons (Lent.pu rfl) (.cons (Lent.pu rfl) (.cons (Lent.rwo 1 rfl (Lent.row rfl) (eEvO_shal _) hat (by show 5 < 6;omega) (hLen _)) .nil)))) (.cons (Lent.pu rfl) (.cons (Lent.pu rfl) .nil))) truST hLC.g) ?_
    refine DTK.vl rfl zqk (mmV_as rfl hmin) ?_
    refine DTK.vl rfl zqk (WV.nch rfl rfl) ?_
    refine DTK.st rfl zqk rfl ?_
    refine DTK.sto rfl rfl rfl rfl rfl rfl rfl rfl rfl rfl rfl rfl (put_row hrow (by show 4+1≤5;omega) rfl) rfl ⟨rfl,trivial⟩ (fun h=>by cases h) ?_
    refine DTK.nil ?_
    repeat (first|refine W.gob rfl ?_|refine WL.nil ?_|refine WL.e1 rfl ?_|refine WL.ar rfl rfl z49i ?_)
    refine ⟨j+1,by omega,by omega,?_⟩
    exact (zqu (fun q=>q) (by repeat (first|exact trivial|refine ⟨⟨?_,?_,?_⟩,?_⟩|rfl|exact congrArg (fun q=>some (AO.row _ _ q)) hfin|exact congrArg (fun q=>some (AO.rwn _ _ q)) hfin)) rfl)
  obtain rfl:j=NW[n].stops.length:=by omega
  have hcl:((fnN H0 NW n 0).map eEvO).set n ((eEvO NW[n]).set 5 (.ow 48 5 ((fnK H0 n NW[n].stops.length NW[n].stops).map eStp)))=(fnN H0 NW (n+1) 0).map eEvO:=by
   have:=evK_rowsO hlt2 (fnK H0 n NW[n].stops.length NW[n].stops)
   rw [hat0] at this
   rw [this,evK_done hlt]
  repeat (first|refine W.gob rfl ?_|refine WL.nil ?_|refine WL.bf rfl rfl rfl zqo ?_|refine WL.e1 rfl ?_|refine WL.ar rfl rfl z49i ?_|refine W.condF rfl ?_)
  refine ⟨n+1,by omega,by omega,?_⟩
  refine Tr.trans (Tr.close_ 5 rfl rfl rfl hat (by show 5 < 6;omega) hcl) ?_
  exact (zqt id)
 obtain rfl:n=NW.length:=by omega
 rw [fnN_all] at hnl ⊢
 repeat (first|refine W.gob rfl ?_|refine WL.nil ?_|refine WL.bf rfl rfl rfl zqo ?_|refine WL.e1 rfl ?_|refine W.condF rfl ?_)
 refine (?_:WL _ _ _ _ _ _)
 refine WL.vl rfl (fnqV_of rfl) ?_
 repeat (first|refine W.gob rfl ?_|refine WL.nil ?_|refine W.condF rfl ?_)
 refine (?_:W _ _ _ _ _)
 refine W.tr (Tr.freezeW 5 1 rfl (List.all_eq_true.2 fun r hr=>List.all_eq_true.2 (eEvO_shal _ r hr)) (eEvO_rows _)) ?_
 refine W.tr (Tr.freeze 4 rfl) ?_
 refine W.of_wa zqk ?_
 refine WA.ds [false,false,false,false,true,false] [3] zqk zqk ⟨rfl,trivial⟩ ?_
 refine DSK.st rfl rfl ?_
 refine DSK.st rfl rfl ?_
 refine DSK.st rfl rfl ?_
 refine DSK.v0 rfl (zqc Tryz.func110 hLo) ?_
 refine DSK.sto rfl rfl rfl rfl rfl rfl rfl rfl rfl rfl rfl rfl rfl rfl ⟨rfl,trivial⟩ ?_
 refine DSK.st rfl rfl ?_
 refine DSK.nil ?_
 refine (?_:W _ _ _ _ _)
 exact W.ret (finN rfl rfl rfl rfl)
end
section
open Go.RowKit
theorem fretsOf_row {cs:List (Int×Int×Bool)} {c:Int} (h:1≤c∧c≤cs.length):(cs.map eCrs)[(c-1).toNat]?=some [.sc (.int .i64 (cs.getD (c.toNat-1) (0,0,false)).1),.sc (.int .i64 (fretsOf cs c)),.sc (.bool (cs.getD (c.toNat-1) (0,0,false)).2.2)]:=by
 have hk:c.toNat-1<cs.length:=by omega
 rw [show (c-1).toNat=c.toNat-1 by omega,List.getElem?_map,List.getElem?_eq_getElem hk]
 unfold fretsOf
 rw [List.getD_eq_getElem?_getD,List.getElem?_eq_getElem hk];rfl
theorem capo1_FS (p:Pce) (f:Int) (x:Stp) (hx:1≤x.1∧x.1≤p.cs.length) (hl:p.cs.length≤64) (hf:0≤f∧f≤18) (hy:0≤x.2.1∧x.2.1≤18) :
  Cto truB 0 Tryz.prog 73 [.pt 0 0 0,.pr [.ls 3 (p.cs.map eCrs),.ls 1 (p.st.map eInt),.ls 6 (p.evs.map eEv)],.pr [.sc (.int .i64 f)]] [(0,.box 48 (eStp x))] 1 (.sc (.bool (!decide (capF p.cs f x < 0))))
   [(0,.box 48 (eStp (x.1,capF p.cs f x,x.2.2)))] 1:=by
 have hrow:=fretsOf_row hx
 have hCl:(p.cs.map eCrs).length=p.cs.length:=List.length_map _
 have hE:eStp x=[.sc (.int .i64 x.1),.sc (.int .i64 x.2.1),.sc (.int .i64 x.2.2.1),.sc (.int .i64 x.2.2.2.1),.sc (.int .i64 x.2.2.2.2)]:=rfl
 rw [hE]
 have hE2:∀ z:Int,eStp (x.1,z,x.2.2)=[.sc (.int .i64 x.1),.sc (.int .i64 z),.sc (.int .i64 x.2.2.1),.sc (.int .i64 x.2.2.2.1),.sc (.int .i64 x.2.2.2.2)]:=fun _=>rfl
 rw [hE2]
 obtain ⟨CS,hCS⟩:∃ z,p.cs.map eCrs=z:=⟨_,rfl⟩
 rw [hCS] at hrow hCl ⊢
 by_cases hg:0 < fretsOf p.cs x.1
 ·rw [show capF p.cs f x=x.2.1 - f from if_pos hg]
  obtain ⟨F,hF⟩:∃ z,fretsOf p.cs x.1=z:=⟨_,rfl⟩
  rw [hF] at hrow hg
  have hb:(!decide (x.2.1 - f < 0))=decide (0≤x.2.1 - f):=by
   by_cases h:x.2.1 - f < 0
   ·rw [decide_eq_true h,decide_eq_false (by omega)];rfl
   ·rw [decide_eq_false h,decide_eq_true (by omega)];rfl
  rw [hb]
  refine Cto.intro truS Tryz.func73 rfl Tryz.ntmps73 (Nat.le_of_ble_eq_true rfl) rfl fun w0 F0 fp pg hB=>?_
  dsimp only [number,Nat.reduceAdd]
  repeat refine W.go rfl ?_
  refine (?_:W _ _ _ _ _)
  refine W.drawK zqk zqk ?_
  repeat (first|refine DK.vl rfl (WV.nch rfl rfl) ?_|refine DK.st rfl ?_|refine DK.ar rfl rfl z49i ?_)
  refine DK.idx rfl rfl zqo hrow ?_
  repeat (first|refine DK.bt rfl rfl zqo ?_|refine DK.st rfl ?_|refine DK.nil ?_)
  repeat refine W.condT rfl ?_
  refine (?_:W _ _ _ _ _)
  refine W.of_wa zqk ?_
  refine WA.dt [false,false,false,false,false,false,false,false,true] [] [0] 8 zqk zqk zqk trivial ⟨rfl,trivial⟩ ?_
  refine DTK.st rfl zqk rfl ?_
  refine DTK.vl rfl zqk (WV.nch rfl rfl) ?_
  refine DTK.st rfl zqk rfl ?_
  refine DTK.st rfl zqk rfl ?_
  refine DTK.st rfl zqk rfl ?_
  refine DTK.ar rfl zqk rfl z49i ?_
  refine DTK.vl rfl zqk (WV.nch rfl rfl) ?_
  refine DTK.st rfl zqk rfl ?_
  refine DTK.sto rfl rfl rfl rfl rfl rfl rfl rfl rfl rfl rfl rfl rfl rfl trivial (fun h=>by cases h) ?_
  refine DTK.nil ?_
  repeat (first|refine WL.vl rfl (WV.nch rfl rfl) ?_|refine W.go rfl ?_|refine WL.ev rfl ?_)
  refine (?_:W _ _ _ _ _)
  exact W.ret (finM rfl rfl rfl rfl rfl)
 ·rw [show capF p.cs f x=x.2.1 from if_neg hg]
  obtain ⟨F,hF⟩:∃ z,fretsOf p.cs x.1=z:=⟨_,rfl⟩
  rw [hF] at hrow hg
  have hb:(!decide (x.2.1 < 0))=true:=by rw [decide_eq_false (by omega)];rfl
  rw [hb]
  refine Cto.intro truS Tryz.func73 rfl Tryz.ntmps73 (Nat.le_of_ble_eq_true rfl) rfl fun w0 F0 fp pg hB=>?_
  dsimp only [number,Nat.reduceAdd]
  repeat refine W.go rfl ?_
  refine (?_:W _ _ _ _ _)
  refine W.drawK zqk zqk ?_
  repeat (first|refine DK.vl rfl (WV.nch rfl rfl) ?_|refine DK.st rfl ?_|refine DK.ar rfl rfl z49i ?_)
  refine DK.idx rfl rfl zqo hrow ?_
  repeat (first|refine DK.bf rfl rfl zqo ?_|refine DK.st rfl ?_|refine DK.nil ?_)
  repeat (first|refine WL.vl rfl (WV.nch rfl rfl) ?_|refine W.gob rfl ?_|refine WL.nil ?_|refine WL.bt rfl rfl rfl zqo ?_|refine WL.e1 rfl ?_|refine W.condF rfl ?_)
  refine (?_:W _ _ _ _ _)
  exact W.ret (finM rfl rfl rfl rfl rfl)
def capV (p:Pce)(f:Int):List AV:=[.fn 73 [.pr [.ls 3 (p.cs.map eCrs),.ls 1 (p.st.map eInt),.ls 6 (p.evs.map eEv)],.pr [.sc (.int .i64 f)]]]
theorem movC_FS (p:Pce) (f:Int) (l:List Stp) (hl:l.length≤20) (hc:p.cs.length≤64) (hf:0≤f∧f≤18) (hb:∀ k (h:k < l.length),(1≤l[k].1∧l[k].1≤p.cs.length)∧(0≤l[k].2.1∧l[k].2.1≤18)) :
  Ctr Tryz.prog 118 [.ls 5 (l.map eStp),.pr (capV p f)] (.ls 6 ((l.map (capC p.cs f).ch).map eKp)):=by
 show Ctr Tryz.prog 118 [.ls 5 (l.map eStp),.pr [.fn 73 [.pr [.ls 3 (p.cs.map eCrs),.ls 1 (p.st.map eInt),.ls 6 (p.evs.map eEv)],.pr [.sc (.int .i64 f)]]]] _
 refine zqe Tryz.func118 Tryz.ntmps118 fun w0 F0=>?_;dsimp only [St.init,number,Nat.reduceAdd]
 repeat (first|refine W.go rfl ?_|refine WL.ev rfl ?_|refine WL.len rfl rfl zql ?_)
 refine (?_:W _ _ _ _ _)
 refine W.tr (Tr.nil (t:=4) 91 6 rfl rfl) ?_
 dsimp only [St.put,St.new,St.upd,Nat.reduceAdd]
 refine (?_:W _ _ _ _ _)
 refine W.loop (fun k:Nat=>k≤l.length) (fun k=>⟨[(1,.pr [.fn 73 [.pr [.ls 3 (p.cs.map eCrs),.ls 1 (p.st.map eInt),.ls 6 (p.evs.map eEv)],.pr [.sc (.int .i64 f)]]]),(4,.sl 0),(8,.ls 5 (l.map eStp)),(9,.sc (.int .i64 l.length)),(10,.sc (.int .i64 k))],[(0,.row 91 6 (((l.take k).map (capC p.cs f).ch).map eKp))],1⟩) (fun k=>l.length - k) 0 zqo (zqt id) fun k hk=>?_
 by_cases hlt:k < l.length
 ·obtain ⟨h1,h2⟩:=hb k hlt
  have hC:=capo1_FS p f l[k] h1 hc hf h2
  have hrow:((l.take k).map (capC p.cs f).ch).map eKp++[eKp ((l[k].1,capF p.cs f l[k],l[k].2.2),decide (capF p.cs f l[k] < 0))]=((l.take (k+1)).map (capC p.cs f).ch).map eKp:=by
   rw [List.take_succ_eq_append_getElem hlt,List.map_append,List.map_append];rfl
  have hRl:(((l.take k).map (capC p.cs f).ch).map eKp).length=k:=by rw [List.length_map,List.length_map,List.length_take];omega
  obtain ⟨R,hR⟩:∃ z,((l.take k).map (capC p.cs f).ch).map eKp=z:=⟨_,rfl⟩
  rw [hR] at hrow hRl ⊢
  obtain ⟨Z,hZ⟩:∃ z,capF p.cs f l[k]=z:=⟨_,rfl⟩
  rw [hZ] at hC hrow
  obtain ⟨b,hb2⟩:∃ b,decide (Z < 0)=b:=⟨_,rfl⟩
  rw [hb2] at hC hrow
  have hbb:!(!b)=b:=by cases b<;>rfl
  cases b
  all_goals
   repeat (first|refine W.gob rfl ?_|refine WL.nil ?_|refine WL.bt rfl rfl rfl zqo ?_|refine WL.e1 rfl ?_|refine WL.idx rfl rfl zqo zqm ?_|refine W.condT rfl ?_)
   refine (?_:WL _ _ _ _ _ _)
   refine WL.cto (truH _) [1] rfl rfl (callF Tryz.func73 rfl rfl) hC rfl rfl rfl ⟨⟨rfl,rfl,rfl⟩,trivial⟩ rfl rfl rfl rfl ?_
   repeat (first|refine W.gob rfl ?_|refine WL.nil ?_|refine WL.e1 rfl ?_|refine WL.ar rfl rfl z49i ?_|refine WL.app rfl rfl rfl zqs ?_)
   exact ⟨k+1,by omega,by omega,(zqu (fun q=>bif Nat.beq q 0 then 3 else q) (by repeat (first|exact trivial|refine ⟨⟨?_,?_,?_⟩,?_⟩|rfl|exact congrArg (fun q=>some (AO.row _ _ q)) hrow)) rfl)⟩
 ·obtain rfl:k=l.length:=by omega
  rw [List.take_length]
  repeat (first|refine W.gob rfl ?_|refine WL.nil ?_|refine WL.bf rfl rfl rfl zqo ?_|refine WL.e1 rfl ?_|refine W.condF rfl ?_)
  refine (?_:W _ _ _ _ _)
  refine W.tr (Tr.freeze 0 rfl) ?_
  exact W.ret zqr
end
end Go.Proofs.YtaeelcfjkhfpkaaGreat
