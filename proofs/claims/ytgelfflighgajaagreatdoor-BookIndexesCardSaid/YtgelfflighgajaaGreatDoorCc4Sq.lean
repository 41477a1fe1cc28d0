/- The concordances of a book: Concordances of the program. -/
import Derived.Test.YtgelfflighgajaaGreatDoorIxSq
set_option maxHeartbeats 8000000
set_option maxRecDepth 100000
set_option linter.unusedVariables false
set_option linter.unusedSimpArgs false
namespace Go.Proofs.YtgelfflighgajaaGreatDoor
section
open Go.RowKit Go.WideShapes Go.ChangeShapes Go.Joins Go.Deep
theorem z6o {p:Prop} (h:p:=by omega):p:=h
theorem z6k {α:Sort _} {a b:α} (h:a = b:=by kernel_rfl):a = b:=h
theorem z6i {z:Int} (h:I64 z:=by unfold I64;omega):I64 z:=h
theorem z6s {p:Prop} (h:p:=by first|omega|(simp;done)|(simp;omega)):p:=h
section
variable {H:Type} {enc:TypeId×Value→H} {w:World} {base:Nat} {spare:Nat→Bool} {held:Bool}
theorem cellsEntry:Tryz.prog.cellsOf 95=5:=by kernel_rfl
theorem cellsString':Tryz.prog.cellsOf 9=1:=by kernel_rfl
theorem cellsSystem':Tryz.prog.cellsOf 64=1:=by kernel_rfl
theorem cellsBook:Tryz.prog.cellsOf 48=1:=by kernel_rfl
theorem cellsEntries:Tryz.prog.cellsOf 46=1:=by kernel_rfl
theorem open_ins_rp {n:Nat} {u1 u2:Value} {y:DataW H×List MemPlace} (h:DataW.trod enc Tryz.prog w base spare held n 25 [u1,u2]=some y) :
  ∃ (cs:List (Int×Int×Bool)) (st:List Int),RP (fun q=>w.cell? q) (.ls 3 (cs.map eCrs)) u1∧RP (fun q=>w.cell? q) (.ls 1 (st.map eInt)) u2∧u1.oneCell'=true∧u2.oneCell'=true:=by
 obtain ⟨zs,n3,_,_,_,hzs,hz⟩:=DataW.trod_struct Tryz.underlying25 h
 have g0:DataW.trod enc Tryz.prog w base spare held n3 22 [u1]=zs[0]?:=by simpa [cellsCourses] using hz 0 _ rfl
 have g1:DataW.trod enc Tryz.prog w base spare held n3 23 [u2]=zs[1]?:=by simpa [cellsInts] using hz 1 _ rfl
 obtain ⟨z0,hz0⟩:∃ y,zs[0]?=some y:=⟨_,List.getElem?_eq_getElem (by rw [hzs];decide)⟩
 obtain ⟨z1,hz1⟩:∃ y,zs[1]?=some y:=⟨_,List.getElem?_eq_getElem (by rw [hzs];decide)⟩
 rw [hz0] at g0;rw [hz1] at g1
 obtain ⟨A1,A2,k1,k2,cs,st,rfl,rfl,l1,l2,hI⟩:=open_ins h
 have hc1:=cap_of_trod Tryz.underlying22 g0
 have hc2:=cap_of_trod Tryz.underlying23 g1
 exact ⟨cs,st,rp_mem hI.1 hc1 (fun _=>rfl) eCrs_of,rp_mem hI.2 hc2 (fun _=>rfl) eInt_of,rfl,rfl⟩
theorem open_book_arg {r:Reach} {b0:Nat} {v:Value} {d:DataW H} {p:List MemPlace} (hv:Value.okWide Tryz.prog w r b0 48 v) (h:DataW.Trod enc Tryz.prog w base spare held 48 v d p) :
  ∃ b:List En,RP (fun q=>w.cell? q) (eBk b) v:=by
 obtain ⟨cs,rfl,hsz⟩:=okWide_struct Tryz.underlying48 hv
 obtain ⟨l⟩:=cs
 match l,hsz.trans cellsBook with
 | [c0],_ =>
  obtain ⟨fuel,hf⟩:=h
  obtain ⟨ys,n2,_,_,_,hys,hg⟩:=DataW.trod_struct Tryz.underlying48 (by simpa [Value.cells] using hf:DataW.trod enc Tryz.prog w base spare held fuel 48 [c0]=some (d,p))
  have f0:DataW.trod enc Tryz.prog w base spare held n2 46 [c0]=ys[0]?:=by simpa [cellsEntries] using hg 0 _ rfl
  obtain ⟨y0,hy0⟩:∃ y,ys[0]?=some y:=⟨_,List.getElem?_eq_getElem (by rw [hys];decide)⟩
  rw [hy0] at f0
  obtain ⟨b,hb⟩:=open_rows_rp (en:=eEn) Tryz.underlying46 cellsEntry (fun _=>rfl) (fun k cs y hy hl=>by
   match cs,hl with
   | [u0,u1,u2,u3,u4],_ =>
    obtain ⟨ys,n2,_,_,_,hys,hf⟩:=DataW.trod_struct Tryz.underlying95 hy
    have f0:DataW.trod enc Tryz.prog w base spare held n2 9 [u0]=ys[0]?:=by simpa [cellsString'] using hf 0 _ rfl
    have f1:DataW.trod enc Tryz.prog w base spare held n2 64 [u1]=ys[1]?:=by simpa [cellsString',cellsSystem'] using hf 1 _ rfl
    have f2:DataW.trod enc Tryz.prog w base spare held n2 28 [u2,u3,u4]=ys[2]?:=by simpa [cellsString',cellsSystem',cellsPiece] using hf 2 _ rfl
    have gy:∀ j,j<3→∃ y,ys[j]?=some y:=fun j hj=>⟨_,List.getElem?_eq_getElem (by rw [hys];exact hj)⟩
    obtain ⟨y0,hy0⟩:=gy 0 z6o
    obtain ⟨y1,hy1⟩:=gy 1 z6o
    obtain ⟨y2,hy2⟩:=gy 2 z6o
    rw [hy0] at f0;rw [hy1] at f1;rw [hy2] at f2
    obtain ⟨s0,e0,_⟩:=DataW.trod_string Tryz.underlying9 f0
    obtain ⟨s1,e1,_⟩:=DataW.trod_int Tryz.underlying64 f1
    simp only [List.cons.injEq,and_true] at e0 e1
    subst e0 e1
    obtain ⟨t0,rfl⟩:∃ l,s0=bs l:=by obtain ⟨xs⟩:=s0;exact ⟨_,mk_bs xs⟩
    obtain ⟨zs,n3,_,_,_,hzs,hz⟩:=DataW.trod_struct Tryz.underlying28 f2
    have q0:DataW.trod enc Tryz.prog w base spare held n3 25 [u2,u3]=zs[0]?:=by simpa [cellsInstrument] using hz 0 _ rfl
    have q1:DataW.trod enc Tryz.prog w base spare held n3 26 [u4]=zs[1]?:=by simpa [cellsEvents] using hz 1 _ rfl
    obtain ⟨z0,hz0⟩:∃ y,zs[0]?=some y:=⟨_,List.getElem?_eq_getElem (by rw [hzs];decide)⟩
    obtain ⟨z1,hz1⟩:∃ y,zs[1]?=some y:=⟨_,List.getElem?_eq_getElem (by rw [hzs];decide)⟩
    rw [hz0] at q0;rw [hz1] at q1
    obtain ⟨cs,st,r1,r2,o1,o2⟩:=open_ins_rp q0
    obtain ⟨evs,r3⟩:=open_events_rp q1
    have o3:u4.oneCell'=true:=by
     obtain ⟨A,cap,ad,u',rfl,_⟩:=r3.ls_of
     rfl
    refine ⟨⟨t0,s1,⟨cs,st,evs⟩⟩,fun j av u a b=>?_⟩
    match j with
    | 0=>cases a;cases b;exact ⟨rfl,.sc _⟩
    | 1=>cases a;cases b;exact ⟨rfl,.sc _⟩
    | 2=>cases a;cases b;exact ⟨o1,r1⟩
    | 3=>cases a;cases b;exact ⟨o2,r2⟩
    | 4=>cases a;cases b;exact ⟨o3,r3⟩
    | j+5=>simp [eEn] at a) f0
  refine ⟨b,.ag _ _ rfl fun i av u a b=>?_⟩
  match i with
  | 0=>cases a;cases b;exact hb
  | i+1=>simp at a
end
end
section
open Go.RowKit
theorem con1_FS (r:Rw) (n:Int):Ctr Tryz.prog 100 [.ag (eRw r),.pr [.sc (.int .i64 n)]] (.sc (.bool (!lng n r))):=by
 obtain ⟨a,l,hl⟩:=r
 have e:(!lng n ⟨a,l,hl⟩)=decide ((l.length:Int) < n):=by
  by_cases h:(l.length:Int) < n
  ·rw [decide_eq_true h,show lng n ⟨a,l,hl⟩=false from decide_eq_false (by show ¬ n≤(l.length:Int);omega)];rfl
  ·rw [decide_eq_false h,show lng n ⟨a,l,hl⟩=true from decide_eq_true (by show n≤(l.length:Int);omega)];rfl
 rw [e]
 show Ctr Tryz.prog 100 [.ag [.sc (.int .i64 a),.ls 1 (l.map eInt)],.pr [.sc (.int .i64 n)]] _
 refine Ctr.intro Tryz.func100 rfl Tryz.ntmps100 (Nat.le_of_ble_eq_true rfl) (bd_all rfl) fun w0 F0=>?_;dsimp only [St.init,number,Nat.reduceAdd]
 repeat (first|refine W.go rfl ?_|refine WL.ev rfl ?_|refine WL.len rfl rfl zql ?_)
 refine (?_:W _ _ _ _ _)
 exact W.ret (fin1 rfl rfl rfl rfl)
theorem idxR_FS (l:List Rw) (n:Int) (hl:l.length≤100000):Ctr Tryz.prog 157 [.ls 2 (l.map eRw),.fn 100 [.pr [.sc (.int .i64 n)]]] (.sc (.int .i64 (if dlN (lng n) l < l.length then (dlN (lng n) l:Int) else -1))):=by
 have hRl:(l.map eRw).length=l.length:=List.length_map _
 refine Ctr.intro Tryz.func157 rfl Tryz.ntmps157 (Nat.le_of_ble_eq_true rfl) (bd_all rfl) fun w0 F0=>?_;dsimp only [St.init,number,Nat.reduceAdd]
 repeat (first|refine W.go rfl ?_|refine WL.ev rfl ?_|refine WL.len rfl rfl zql ?_)
 refine (?_:W _ _ _ _ _)
 refine W.loop (fun k:Nat=>k≤l.length∧∀ i (hi:i < k) (h:i < l.length),lng n l[i]=true) (fun k=>⟨[(0,.ls 2 (l.map eRw)),(1,.fn 100 [.pr [.sc (.int .i64 n)]]),(7,.sc (.int .i64 l.length)),(8,.sc (.int .i64 k))],[],0⟩) (fun k=>l.length - k) 0 ⟨by omega,fun i hi=>by omega⟩ (zqt id) fun k hk=>?_
 obtain ⟨hk,hno⟩:=hk
 by_cases hlt:k < l.length
 ·have hat:(l.map eRw)[((k:Nat):Int).toNat]?=some (eRw l[k]):=map_at hlt
  repeat (first|refine W.gob rfl ?_|refine WL.nil ?_|refine WL.bt rfl rfl rfl z6o ?_|refine WL.e1 rfl ?_|refine WL.idx rfl rfl z6o zqm ?_|refine W.condT rfl ?_)
  refine (?_:WL _ _ _ _ _ _)
  refine WL.vl rfl (WV.callV (truH _) rfl (callF Tryz.func100 rfl rfl) rfl rfl rfl rfl rfl (con1_FS l[k] n).g) ?_
  cases hb:lng n l[k] with
  | false =>
   rw [dl_here hlt hb hno,if_pos hlt]
   repeat (first|refine W.gob rfl ?_|refine WL.nil ?_|refine WL.e1 rfl ?_|refine W.condT rfl ?_)
   refine (?_:W _ _ _ _ _)
   exact W.ret (fin1 rfl rfl rfl rfl)
  | true =>
   repeat (first|refine W.gob rfl ?_|refine WL.nil ?_|refine WL.e1 rfl ?_|refine WL.ar rfl rfl z6i ?_|refine W.condF rfl ?_)
   exact ⟨k+1,⟨by omega,fun i hi h=>by
    by_cases e:i=k
    ·subst e;exact hb
    ·exact hno i z6o h⟩,by omega,(zqt id)⟩
 ·have e:=dl_all (kp:=lng n) (l:=l) fun i h=>hno i z6o h
  rw [if_neg (by omega)]
  repeat (first|refine W.gob rfl ?_|refine WL.nil ?_|refine WL.bf rfl rfl rfl z6o ?_|refine WL.e1 rfl ?_|refine W.condF rfl ?_)
  refine (?_:W _ _ _ _ _)
  exact W.ret (fin1 rfl rfl rfl rfl)
theorem eRw_set (R:List Rw)(i:Nat)(x:Rw):(R.map eRw).set i (eRw x)=(R.set i x).map eRw:=by rw [List.map_set]
theorem dlR_G (l:List Rw) (n:Int) (hl:l.length≤100000):Cto truB 0 Tryz.prog 99 [.sl 0,.fn 100 [.pt 1 0 0]] [(0,.row 83 2 (l.map eRw)),(1,.box 3 [.sc (.int .i64 n)])] 2
  (.sl 2) [(2,.row 83 2 ((l.filter (lng n)).map eRw)),(1,.box 3 [.sc (.int .i64 n)])] 3:=by
 have hI:=idxR_FS l n hl
 have hRl:(l.map eRw).length=l.length:=List.length_map _
 refine Cto.intro truS Tryz.func99 rfl Tryz.ntmps99 (Nat.le_of_ble_eq_true rfl) rfl fun w0 F0 fp pg hB=>?_
 dsimp only [number,Nat.reduceAdd]
 by_cases h:dlN (lng n) l < l.length
 rotate_left
 ·rw [if_neg h] at hI
  have e:l.filter (lng n)=l:=dlN_all (by have:=dlN_le (kp:=lng n) l;omega)
  rw [e]
  repeat refine W.go rfl ?_
  refine (?_:WL _ _ _ _ _ _)
  refine WL.vl rfl (WV.lendV (truH _) rfl (callF Tryz.func157 rfl rfl) rfl rfl rfl rfl rfl rfl truST hI.g) ?_
  repeat (first|refine W.go rfl ?_|refine WL.ev rfl ?_|refine W.condT rfl ?_)
  refine (?_:W _ _ _ _ _)
  refine W.tr (Tr.mv (t:=4) rfl rfl) ?_
  refine W.tr (σ':=⟨[(4,.sl 2)],[(2,.row 83 2 (l.map eRw)),(1,.box 3 [.sc (.int .i64 n)])],3⟩) (zqt id) ?_
  exact W.ret (finM rfl rfl rfl rfl rfl)
 ·rw [if_pos h] at hI
  have h0:=DlI.start h
  repeat refine W.go rfl ?_
  refine (?_:WL _ _ _ _ _ _)
  refine WL.vl rfl (WV.lendV (truH _) rfl (callF Tryz.func157 rfl rfl) rfl rfl rfl rfl rfl rfl truST hI.g) ?_
  repeat (first|refine W.gob rfl ?_|refine WL.nil ?_|refine WL.bf rfl rfl rfl z6o ?_|refine WL.e1 rfl ?_|refine WL.ar rfl rfl z6i ?_|refine W.condF rfl ?_)
  refine (?_:W _ _ _ _ _)
  refine W.loop (fun s:List Rw×Nat×Nat=>DlI (lng n) l s.1 s.2.1 s.2.2) (fun s=>⟨[(0,.sl 0),(1,.fn 100 [.pt 1 0 0]),(5,.sc (.int .i64 s.2.1)),(6,.sc (.int .i64 s.2.2))],[(0,.row 83 2 (s.1.map eRw)),(1,.box 3 [.sc (.int .i64 n)])],2⟩) (fun s=>l.length - s.2.2) (l,dlN (lng n) l,dlN (lng n) l+1) h0 (zqt id) fun s hs=>?_
  obtain ⟨R,i,j⟩:=s
  have hlen:=hs.len
  have hij:=hs.ij
  dsimp only at hs hlen hij ⊢
  have hRl:(R.map eRw).length=l.length:=by rw [List.length_map];exact hlen
  by_cases hlt:j < l.length
  ·have hRj:=hs.rest j hlt (Nat.le_refl _)
   have hat:(R.map eRw)[((j:Nat):Int).toNat]?=some (eRw l[j]):=by rw [Int.toNat_natCast,List.getElem?_map,hRj];rfl
   have hkeep:=hs.keep hlt
   have hskip:=hs.skip hlt
   have hC:=con1_FS l[j] n
   obtain ⟨x,hx⟩:∃ z,l[j]=z:=⟨_,rfl⟩
   rw [hx] at hat hkeep hskip hC
   clear hI
   repeat (first|refine W.gob rfl ?_|refine WL.nil ?_|refine WL.bt rfl rfl rfl z6o ?_|refine WL.e1 rfl ?_|refine WL.len rfl rfl zql ?_|refine WL.ixs rfl rfl z6s ?_|refine W.condT rfl ?_)
   refine (?_:WL _ _ _ _ _ _)
   refine WL.lda rfl rfl hat rfl ?_
   repeat (first|refine W.gob rfl ?_|refine WL.nil ?_|refine WL.e1 rfl ?_)
   refine (?_:WL _ _ _ _ _ _)
   refine WL.vl rfl (WV.lendV (truH _) rfl (callF Tryz.func100 rfl rfl) rfl rfl rfl rfl rfl rfl truST hC.g) ?_
   cases hb:lng n x with
   | true =>
    have hil:i < R.length:=by omega
    have hati:(R.map eRw)[((i:Nat):Int).toNat]?=some (eRw R[i]):=map_at hil
    have hset:=eRw_set R i x
    repeat (first|refine W.gob rfl ?_|refine WL.nil ?_|refine WL.e1 rfl ?_|refine WL.ixs rfl rfl z6s ?_|refine W.condT rfl ?_)
    refine (?_:WL _ _ _ _ _ _)
    refine WL.sto rfl rfl rfl rfl hati (by show 0+2≤2;omega) ?_
    repeat (first|refine W.gob rfl ?_|refine WL.nil ?_|refine WL.e1 rfl ?_|refine WL.ar rfl rfl z6i ?_)
    exact ⟨(R.set i x,i+1,j+1),hkeep hb,by dsimp only;omega,(zqu (fun q=>q) (by repeat (first|exact trivial|refine ⟨⟨?_,?_,?_⟩,?_⟩|rfl|exact congrArg (fun q=>some (AO.row _ _ q)) hset)) rfl)⟩
   | false =>
    repeat (first|refine W.gob rfl ?_|refine WL.nil ?_|refine WL.e1 rfl ?_|refine WL.ar rfl rfl z6i ?_|refine W.condF rfl ?_)
    exact ⟨(R,i,j+1),hskip hb,by dsimp only;omega,(zqt id)⟩
  ·have hj:j=l.length:=by omega
   subst hj
   have hk:=hs.end_
   have hfin:((R.map eRw).take ((i:Nat):Int).toNat++List.replicate ((R.map eRw).length - ((i:Nat):Int).toNat) ([Value.int .i64 0,.slice none 0 0].map AV.sc)).take ((i:Nat):Int).toNat=(l.filter (lng n)).map eRw:=by
    rw [Int.toNat_natCast,List.take_append_of_le_length (by rw [List.length_take,hRl];omega),List.take_take,Nat.min_self,← List.map_take,hk]
   clear hI
   repeat (first|refine W.gob rfl ?_|refine WL.nil ?_|refine WL.bf rfl rfl rfl z6o ?_|refine WL.e1 rfl ?_|refine WL.len rfl rfl zql ?_|refine W.condF rfl ?_)
   refine (?_:WL _ _ _ _ _ _)
   refine WL.clrN rfl rfl rfl rfl rfl rfl rfl rfl ⟨by omega,by rw [hRl];omega⟩ ?_
   repeat (first|refine W.gob rfl ?_|refine WL.nil ?_|refine WL.e1 rfl ?_)
   refine (?_:WL _ _ _ _ _ _)
   refine WL.pre rfl rfl rfl ⟨by omega,by simp;omega⟩ ?_
   repeat (first|refine WL.nil ?_|refine WL.e1 rfl ?_)
   refine (?_:W _ _ _ _ _)
   refine W.tr (σ':=⟨[(4,.sl 2)],[(2,.row 83 2 ((l.filter (lng n)).map eRw)),(1,.box 3 [.sc (.int .i64 n)])],3⟩) (zqu (fun q=>q) (by repeat (first|exact trivial|refine ⟨⟨?_,?_,?_⟩,?_⟩|rfl|exact congrArg (fun q=>some (AO.row _ _ q)) hfin)) rfl) ?_
   exact W.ret (finM rfl rfl rfl rfl rfl)
end
section
open Go.RowKit
theorem eqInt_FS (l m:List Int) (h1:l.length≤100000) (h2:m.length≤100000):Ctr Tryz.prog 105 [.ls 1 (l.map eInt),.ls 1 (m.map eInt)] (.sc (.bool (decide (l=m)))):=by
 by_cases hl:l.length=m.length
 rotate_left
 ·rw [decide_eq_false fun e=>hl (by rw [e])]
  refine Ctr.intro Tryz.func105 rfl Tryz.ntmps105 (Nat.le_of_ble_eq_true rfl) (bd_all rfl) fun w0 F0=>?_;dsimp only [St.init,number,Nat.reduceAdd]
  repeat (first|refine W.gob rfl ?_|refine WL.nil ?_|refine WL.nt rfl rfl rfl z6o ?_|refine WL.e1 rfl ?_|refine WL.len rfl rfl zql ?_|refine W.condT rfl ?_)
  refine (?_:W _ _ _ _ _)
  exact W.ret (fin1 rfl rfl rfl rfl)
 refine Ctr.intro Tryz.func105 rfl Tryz.ntmps105 (Nat.le_of_ble_eq_true rfl) (bd_all rfl) fun w0 F0=>?_;dsimp only [St.init,number,Nat.reduceAdd]
 repeat (first|refine W.gob rfl ?_|refine WL.nil ?_|refine WL.nf rfl rfl rfl z6o ?_|refine WL.e1 rfl ?_|refine WL.len rfl rfl zql ?_|refine W.condF rfl ?_)
 refine (?_:W _ _ _ _ _)
 refine W.loop (fun k:Nat=>k≤l.length∧∀ i (hi:i < k) (h1:i < l.length) (h2:i < m.length),l[i]=m[i]) (fun k=>⟨[(0,.ls 1 (l.map eInt)),(1,.ls 1 (m.map eInt)),(12,.sc (.int .i64 l.length)),(13,.sc (.int .i64 k))],[],0⟩) (fun k=>l.length - k) 0 ⟨by omega,fun i hi=>by omega⟩ (zqt id) fun k hk=>?_
 obtain ⟨hk,hsame⟩:=hk
 by_cases hlt:k < l.length
 ·have hlt2:k < m.length:=by omega
  by_cases he:l[k]=m[k]
  ·have hd:decide (l[k]=m[k])=true:=decide_eq_true he
   repeat (first|refine W.gob rfl ?_|refine WL.nil ?_|refine WL.bt rfl rfl rfl z6o ?_|refine WL.e1 rfl ?_|refine W.condT rfl ?_)
   refine (?_:W _ _ _ _ _)
   refine W.drawK z6k z6k ?_
   repeat (first|refine DK.st rfl ?_|refine DK.idx rfl rfl z6o zqm ?_|refine DK.nil ?_)
   rw [hd]
   repeat (first|refine W.gob rfl ?_|refine WL.nil ?_|refine WL.e1 rfl ?_|refine WL.ar rfl rfl z6i ?_|refine W.condF rfl ?_)
   refine ⟨k+1,⟨by omega,fun i hi a b=>?_⟩,by omega,(zqt id)⟩
   by_cases e:i=k
   ·subst e;exact he
   ·exact hsame i z6o a b
  ·have hd:decide (l[k]=m[k])=false:=decide_eq_false he
   rw [decide_eq_false fun e=>he (by subst e;rfl)]
   repeat (first|refine W.gob rfl ?_|refine WL.nil ?_|refine WL.bt rfl rfl rfl z6o ?_|refine WL.e1 rfl ?_|refine W.condT rfl ?_)
   refine (?_:W _ _ _ _ _)
   refine W.drawK z6k z6k ?_
   repeat (first|refine DK.st rfl ?_|refine DK.idx rfl rfl z6o zqm ?_|refine DK.nil ?_)
   rw [hd]
   repeat (first|refine W.gob rfl ?_|refine WL.nil ?_|refine WL.e1 rfl ?_|refine W.condT rfl ?_)
   refine (?_:W _ _ _ _ _)
   exact W.ret (fin1 rfl rfl rfl rfl)
 ·have e:l=m:=List.ext_getElem hl fun i a b=>hsame i (by omega) a b
  rw [decide_eq_true e]
  repeat (first|refine W.gob rfl ?_|refine WL.nil ?_|refine WL.bf rfl rfl rfl z6o ?_|refine WL.e1 rfl ?_|refine W.condF rfl ?_)
  refine (?_:W _ _ _ _ _)
  exact W.ret (fin1 rfl rfl rfl rfl)
theorem con3_FS (r x:Rw):Ctr Tryz.prog 104 [.ag (eRw r),.ag (eRw x)] (.sc (.bool (decide (r.2=x.2)))):=by
 obtain ⟨a,l,hl⟩:=r
 obtain ⟨b,m,hm⟩:=x
 have hE:=eqInt_FS l m z6o z6o
 show Ctr Tryz.prog 104 [.ag [.sc (.int .i64 a),.ls 1 (l.map eInt)],.ag [.sc (.int .i64 b),.ls 1 (m.map eInt)]] (.sc (.bool (decide (l=m))))
 refine Ctr.intro Tryz.func104 rfl Tryz.ntmps104 (Nat.le_of_ble_eq_true rfl) (bd_all rfl) fun w0 F0=>?_;dsimp only [St.init,number,Nat.reduceAdd]
 repeat refine W.go rfl ?_
 refine (?_:WL _ _ _ _ _ _)
 refine WL.vl rfl (WV.call rfl (callF Tryz.func105 rfl rfl) rfl rfl hE) ?_
 repeat refine WL.ev rfl ?_
 refine (?_:W _ _ _ _ _)
 exact W.ret (fin1 rfl rfl rfl rfl)
def eGr (g:List Rw):List AV:=[.ls 2 (g.map eRw)]
def eGo (g:List Rw):List AV:=[.ow 83 2 (g.map eRw)]
theorem grp1_FS (g:List Rw) (r x:Rw) (t:List Rw) (hg:g=r::t):Ctr Tryz.prog 160 [.ls 2 (g.map eRw),.pr [.sc (.func (.func 104) #[] #[])],.pr (eRw x)] (.sc (.bool (decide (r.2=x.2)))):=by
 subst hg
 have hl:((r::t).map eRw).length=t.length+1:=by simp
 have hat:((r::t).map eRw)[((0:Nat):Int).toNat]?=some (eRw r):=rfl
 obtain ⟨GG,hGG⟩:∃ z,(r::t).map eRw=z:=⟨_,rfl⟩
 rw [hGG] at hl hat ⊢
 refine Ctr.intro Tryz.func160 rfl Tryz.ntmps160 (Nat.le_of_ble_eq_true rfl) (bd_all rfl) fun w0 F0=>?_;dsimp only [St.init,number,Nat.reduceAdd]
 repeat refine W.go rfl ?_
 refine (?_:W _ _ _ _ _)
 refine W.drawK z6k z6k ?_
 repeat refine DK.st rfl ?_
 refine DK.idx rfl rfl z6o hat ?_
 repeat refine DK.st rfl ?_
 refine DK.vl rfl (WV.callV (truH _) rfl (callF Tryz.func104 rfl rfl) rfl rfl rfl rfl rfl (con3_FS r x).g) ?_
 repeat (first|refine DK.st rfl ?_|refine DK.nil ?_)
 refine (?_:W _ _ _ _ _)
 exact W.ret (fin1 rfl rfl rfl rfl)
theorem grp2_FS (g:List Rw):Ctr Tryz.prog 162 [.ls 2 (g.map eRw)] (.sc (.bool (!two g))):=by
 have e:(!two g)=decide ((g.length:Int) < 2):=by
  by_cases h:(g.length:Int) < 2
  ·rw [decide_eq_true h,show two g=false from decide_eq_false (by omega)];rfl
  ·rw [decide_eq_false h,show two g=true from decide_eq_true (by omega)];rfl
 rw [e]
 refine Ctr.intro Tryz.func162 rfl Tryz.ntmps162 (Nat.le_of_ble_eq_true rfl) (bd_all rfl) fun w0 F0=>?_;dsimp only [St.init,number,Nat.reduceAdd]
 repeat (first|refine W.go rfl ?_|refine WL.ev rfl ?_|refine WL.len rfl rfl zql ?_)
 refine (?_:W _ _ _ _ _)
 exact W.ret (fin1 rfl rfl rfl rfl)
theorem idxG1_FS (L:List Rw) (x:Rw) (hl:L.length≤1000):Ctr Tryz.prog 159 [.ls 1 ((cnG L).map eGr),.fn 160 [.pr [.sc (.func (.func 104) #[] #[])],.pr (eRw x)]] (.sc (.int .i64 (if grI L x < (fsT L).length then (grI L x:Int) else -1))):=by
 have hGl:((cnG L).map eGr).length=(fsT L).length:=by rw [List.length_map,cnG_len]
 have hcl:=cnG_len L
 have hfl:=fsT_len L
 refine Ctr.intro Tryz.func159 rfl Tryz.ntmps159 (Nat.le_of_ble_eq_true rfl) (bd_all rfl) fun w0 F0=>?_;dsimp only [St.init,number,Nat.reduceAdd]
 repeat (first|refine W.go rfl ?_|refine WL.ev rfl ?_|refine WL.len rfl rfl zql ?_)
 refine (?_:W _ _ _ _ _)
 refine W.loop (fun k:Nat=>k≤(fsT L).length∧k≤grI L x) (fun k=>⟨[(0,.ls 1 ((cnG L).map eGr)),(1,.fn 160 [.pr [.sc (.func (.func 104) #[] #[])],.pr (eRw x)]),(7,.sc (.int .i64 (cnG L).length)),(8,.sc (.int .i64 k))],[],0⟩) (fun k=>(fsT L).length - k) 0 ⟨by omega,by omega⟩ (zqt id) fun k hk=>?_
 obtain ⟨hk,hkg⟩:=hk
 have hgl:=grI_le L x
 by_cases hlt:k < (fsT L).length
 ·have hkG:k < (cnG L).length:=by rw [cnG_len];exact hlt
  obtain ⟨t,ht⟩:=cnG_at hkG hlt
  have hat:((cnG L).map eGr)[((k:Nat):Int).toNat]?=some (eGr (cnG L)[k]):=map_at hkG
  have hC:=grp1_FS (cnG L)[k] (fsT L)[k] x t ht
  have hc:grI L x=k∨k < grI L x:=by omega
  have hd:decide ((fsT L)[k].2=x.2)=decide (grI L x=k):=by
   rcases hc with e|e
   ·have:=grI_at (L:=L) (x:=x) z6o
    rw [decide_eq_true e,decide_eq_true]
    simpa only [e] using this
   ·rw [decide_eq_false (grI_lt e hlt),decide_eq_false (by omega)]
  rw [hd] at hC
  obtain ⟨gk,hgk⟩:∃ z,(cnG L)[k]=z:=⟨_,rfl⟩
  rw [hgk] at hat hC
  have hat:((cnG L).map eGr)[((k:Nat):Int).toNat]?=some [.ls 2 (gk.map eRw)]:=hat
  obtain ⟨GG,hGG⟩:∃ z,(cnG L).map eGr=z:=⟨_,rfl⟩
  rw [hGG] at hat hGl ⊢
  rcases hc with e|e
  ·rw [decide_eq_true e] at hC
   rw [if_pos (by omega),e]
   repeat (first|refine W.gob rfl ?_|refine WL.nil ?_|refine WL.bt rfl rfl rfl z6o ?_|refine WL.e1 rfl ?_|refine W.condT rfl ?_)
   refine (?_:WL _ _ _ _ _ _)
   refine WL.idx rfl rfl z6o hat ?_
   repeat refine WL.e1 rfl ?_
   refine (?_:WL _ _ _ _ _ _)
   refine WL.vl rfl (WV.callV (truH _) rfl (callF Tryz.func160 rfl rfl) rfl rfl rfl rfl rfl hC.g) ?_
   repeat (first|refine W.gob rfl ?_|refine WL.nil ?_|refine WL.e1 rfl ?_|refine W.condT rfl ?_)
   refine (?_:W _ _ _ _ _)
   exact W.ret (fin1 rfl rfl rfl rfl)
  ·rw [decide_eq_false (by omega)] at hC
   repeat (first|refine W.gob rfl ?_|refine WL.nil ?_|refine WL.bt rfl rfl rfl z6o ?_|refine WL.e1 rfl ?_|refine W.condT rfl ?_)
   refine (?_:WL _ _ _ _ _ _)
   refine WL.idx rfl rfl z6o hat ?_
   repeat refine WL.e1 rfl ?_
   refine (?_:WL _ _ _ _ _ _)
   refine WL.vl rfl (WV.callV (truH _) rfl (callF Tryz.func160 rfl rfl) rfl rfl rfl rfl rfl hC.g) ?_
   repeat (first|refine W.gob rfl ?_|refine WL.nil ?_|refine WL.e1 rfl ?_|refine WL.ar rfl rfl z6i ?_|refine W.condF rfl ?_)
   exact ⟨k+1,⟨by omega,by omega⟩,by omega,(zqt id)⟩
 ·rw [if_neg (by omega)]
  repeat (first|refine W.gob rfl ?_|refine WL.nil ?_|refine WL.bf rfl rfl rfl z6o ?_|refine WL.e1 rfl ?_|refine W.condF rfl ?_)
  refine (?_:W _ _ _ _ _)
  exact W.ret (fin1 rfl rfl rfl rfl)
theorem idxG2_FS (G:List (List Rw)) (hl:G.length≤1000):Ctr Tryz.prog 159 [.ls 1 (G.map eGr),.sc (.func (.func 162) #[] #[])] (.sc (.int .i64 (if dlN two G < G.length then (dlN two G:Int) else -1))):=by
 have hGl:(G.map eGr).length=G.length:=List.length_map _
 refine Ctr.intro Tryz.func159 rfl Tryz.ntmps159 (Nat.le_of_ble_eq_true rfl) (bd_all rfl) fun w0 F0=>?_;dsimp only [St.init,number,Nat.reduceAdd]
 repeat (first|refine W.go rfl ?_|refine WL.ev rfl ?_|refine WL.len rfl rfl zql ?_)
 refine (?_:W _ _ _ _ _)
 refine W.loop (fun k:Nat=>k≤G.length∧∀ i (hi:i < k) (h:i < G.length),two G[i]=true) (fun k=>⟨[(0,.ls 1 (G.map eGr)),(1,.sc (.func (.func 162) #[] #[])),(7,.sc (.int .i64 G.length)),(8,.sc (.int .i64 k))],[],0⟩) (fun k=>G.length - k) 0 ⟨by omega,fun i hi=>by omega⟩ (zqt id) fun k hk=>?_
 obtain ⟨hk,hno⟩:=hk
 by_cases hlt:k < G.length
 ·have hat:(G.map eGr)[((k:Nat):Int).toNat]?=some (eGr G[k]):=map_at hlt
  have hC:=grp2_FS G[k]
  have hat:(G.map eGr)[((k:Nat):Int).toNat]?=some [.ls 2 (G[k].map eRw)]:=hat
  cases hb:two G[k] with
  | false =>
   rw [hb] at hC
   rw [dl_here hlt hb hno,if_pos hlt]
   clear hno
   repeat (first|refine W.gob rfl ?_|refine WL.nil ?_|refine WL.bt rfl rfl rfl z6o ?_|refine WL.e1 rfl ?_|refine WL.idx rfl rfl z6o zqm ?_|refine W.condT rfl ?_)
   refine (?_:WL _ _ _ _ _ _)
   refine WL.vl rfl (WV.callV (truH _) rfl (callF Tryz.func162 rfl rfl) rfl rfl rfl rfl rfl hC.g) ?_
   repeat (first|refine W.gob rfl ?_|refine WL.nil ?_|refine WL.e1 rfl ?_|refine W.condT rfl ?_)
   refine (?_:W _ _ _ _ _)
   exact W.ret (fin1 rfl rfl rfl rfl)
  | true =>
   rw [hb] at hC
   have hno2:∀ i (hi:i < k+1) (h:i < G.length),two G[i]=true:=fun i hi h=>by
    by_cases e:i=k
    ·subst e;exact hb
    ·exact hno i z6o h
   clear hno
   repeat (first|refine W.gob rfl ?_|refine WL.nil ?_|refine WL.bt rfl rfl rfl z6o ?_|refine WL.e1 rfl ?_|refine WL.idx rfl rfl z6o zqm ?_|refine W.condT rfl ?_)
   refine (?_:WL _ _ _ _ _ _)
   refine WL.vl rfl (WV.callV (truH _) rfl (callF Tryz.func162 rfl rfl) rfl rfl rfl rfl rfl hC.g) ?_
   repeat (first|refine W.gob rfl ?_|refine WL.nil ?_|refine WL.e1 rfl ?_|refine WL.ar rfl rfl z6i ?_|refine W.condF rfl ?_)
   exact ⟨k+1,⟨by omega,hno2⟩,by omega,(zqt id)⟩
 ·have e:=dl_all (kp:=two) (l:=G) fun i h=>hno i z6o h
  rw [if_neg (by omega)]
  clear hno
  repeat (first|refine W.gob rfl ?_|refine WL.nil ?_|refine WL.bf rfl rfl rfl z6o ?_|refine WL.e1 rfl ?_|refine W.condF rfl ?_)
  refine (?_:W _ _ _ _ _)
  exact W.ret (fin1 rfl rfl rfl rfl)
theorem eGr_set (R:List (List Rw))(i:Nat)(x:List Rw):(R.map eGr).set i (eGr x)=(R.set i x).map eGr:=by rw [List.map_set]
theorem dlG_G (l:List (List Rw)) (hl:l.length≤1000):Cto truB 0 Tryz.prog 161 [.sl 0,.sc (.func (.func 162) #[] #[])] [(0,.row 76 1 (l.map eGr))] 1
  (.sl 1) [(1,.row 76 1 ((l.filter two).map eGr))] 2:=by
 have hI:=idxG2_FS l hl
 have hRl:(l.map eGr).length=l.length:=List.length_map _
 refine Cto.intro truS Tryz.func161 rfl Tryz.ntmps161 (Nat.le_of_ble_eq_true rfl) rfl fun w0 F0 fp pg hB=>?_
 dsimp only [number,Nat.reduceAdd]
 by_cases h:dlN two l < l.length
 rotate_left
 ·rw [if_neg h] at hI
  have e:l.filter two=l:=dlN_all (by have:=dlN_le (kp:=two) l;omega)
  rw [e]
  repeat refine W.go rfl ?_
  refine (?_:WL _ _ _ _ _ _)
  refine WL.vl rfl (WV.lendV (truH _) rfl (callF Tryz.func159 rfl rfl) rfl rfl rfl rfl rfl rfl truST hI.g) ?_
  repeat (first|refine W.go rfl ?_|refine WL.ev rfl ?_|refine W.condT rfl ?_)
  refine (?_:W _ _ _ _ _)
  refine W.tr (Tr.mv (t:=4) rfl rfl) ?_
  refine W.tr (σ':=⟨[(4,.sl 1)],[(1,.row 76 1 (l.map eGr))],2⟩) (zqt id) ?_
  exact W.ret (finM rfl rfl rfl rfl rfl)
 ·rw [if_pos h] at hI
  have h0:=DlI.start h
  repeat refine W.go rfl ?_
  refine (?_:WL _ _ _ _ _ _)
  refine WL.vl rfl (WV.lendV (truH _) rfl (callF Tryz.func159 rfl rfl) rfl rfl rfl rfl rfl rfl truST hI.g) ?_
  repeat (first|refine W.gob rfl ?_|refine WL.nil ?_|refine WL.bf rfl rfl rfl z6o ?_|refine WL.e1 rfl ?_|refine WL.ar rfl rfl z6i ?_|refine W.condF rfl ?_)
  refine (?_:W _ _ _ _ _)
  refine W.loop (fun s:List (List Rw)×Nat×Nat=>DlI two l s.1 s.2.1 s.2.2) (fun s=>⟨[(0,.sl 0),(1,.sc (.func (.func 162) #[] #[])),(5,.sc (.int .i64 s.2.1)),(6,.sc (.int .i64 s.2.2))],[(0,.row 76 1 (s.1.map eGr))],1⟩) (fun s=>l.length - s.2.2) (l,dlN two l,dlN two l+1) h0 (zqt id) fun s hs=>?_
  obtain ⟨R,i,j⟩:=s
  have hlen:=hs.len
  have hij:=hs.ij
  dsimp only at hs hlen hij ⊢
  have hRl:(R.map eGr).length=l.length:=by rw [List.length_map];exact hlen
  by_cases hlt:j < l.length
  ·have hRj:=hs.rest j hlt (Nat.le_refl _)
   have hat:(R.map eGr)[((j:Nat):Int).toNat]?=some (eGr l[j]):=by rw [Int.toNat_natCast,List.getElem?_map,hRj];rfl
   have hkeep:=hs.keep hlt
   have hskip:=hs.skip hlt
   have hC:=grp2_FS l[j]
   obtain ⟨x,hx⟩:∃ z,l[j]=z:=⟨_,rfl⟩
   rw [hx] at hat hkeep hskip hC
   have hat:(R.map eGr)[((j:Nat):Int).toNat]?=some [.ls 2 (x.map eRw)]:=hat
   clear hI
   cases hb:two x with
   | true =>
    have hil:i < R.length:=by omega
    have hati:(R.map eGr)[((i:Nat):Int).toNat]?=some (eGr R[i]):=map_at hil
    have hset:(R.map eGr).set i [.ls 2 (x.map eRw)]=(R.set i x).map eGr:=eGr_set R i x
    rw [hb] at hC
    repeat (first|refine W.gob rfl ?_|refine WL.nil ?_|refine WL.bt rfl rfl rfl z6o ?_|refine WL.e1 rfl ?_|refine WL.len rfl rfl zql ?_|refine WL.ixs rfl rfl z6s ?_|refine W.condT rfl ?_)
    refine (?_:WL _ _ _ _ _ _)
    refine WL.ldr rfl rfl hat rfl rfl ?_
    repeat (first|refine W.gob rfl ?_|refine WL.nil ?_|refine WL.e1 rfl ?_)
    refine (?_:WL _ _ _ _ _ _)
    refine WL.vl rfl (WV.callV (truH _) rfl (callF Tryz.func162 rfl rfl) rfl rfl rfl rfl rfl hC.g) ?_
    repeat (first|refine W.gob rfl ?_|refine WL.nil ?_|refine WL.e1 rfl ?_|refine WL.ixs rfl rfl z6s ?_|refine W.condT rfl ?_)
    refine (?_:WL _ _ _ _ _ _)
    refine WL.sto rfl rfl rfl rfl hati (by show 0+1≤1;omega) ?_
    repeat (first|refine W.gob rfl ?_|refine WL.nil ?_|refine WL.e1 rfl ?_|refine WL.ar rfl rfl z6i ?_)
    exact ⟨(R.set i x,i+1,j+1),hkeep hb,by dsimp only;omega,(zqu (fun q=>q) (by repeat (first|exact trivial|refine ⟨⟨?_,?_,?_⟩,?_⟩|rfl|exact congrArg (fun q=>some (AO.row _ _ q)) hset)) rfl)⟩
   | false =>
    rw [hb] at hC
    repeat (first|refine W.gob rfl ?_|refine WL.nil ?_|refine WL.bt rfl rfl rfl z6o ?_|refine WL.e1 rfl ?_|refine WL.len rfl rfl zql ?_|refine WL.ixs rfl rfl z6s ?_|refine W.condT rfl ?_)
    refine (?_:WL _ _ _ _ _ _)
    refine WL.ldr rfl rfl hat rfl rfl ?_
    repeat (first|refine W.gob rfl ?_|refine WL.nil ?_|refine WL.e1 rfl ?_)
    refine (?_:WL _ _ _ _ _ _)
    refine WL.vl rfl (WV.callV (truH _) rfl (callF Tryz.func162 rfl rfl) rfl rfl rfl rfl rfl hC.g) ?_
    repeat (first|refine W.gob rfl ?_|refine WL.nil ?_|refine WL.e1 rfl ?_|refine WL.ar rfl rfl z6i ?_|refine W.condF rfl ?_)
    exact ⟨(R,i,j+1),hskip hb,by dsimp only;omega,(zqt id)⟩
  ·have hj:j=l.length:=by omega
   subst hj
   have hk:=hs.end_
   have hfin:((R.map eGr).take ((i:Nat):Int).toNat++List.replicate ((R.map eGr).length - ((i:Nat):Int).toNat) [AV.sc (.slice none 0 0)]).take ((i:Nat):Int).toNat=(l.filter two).map eGr:=by
    rw [Int.toNat_natCast,List.take_append_of_le_length (by rw [List.length_take,hRl];omega),List.take_take,Nat.min_self,← List.map_take,hk]
   clear hI
   repeat (first|refine W.gob rfl ?_|refine WL.nil ?_|refine WL.bf rfl rfl rfl z6o ?_|refine WL.e1 rfl ?_|refine WL.len rfl rfl zql ?_|refine W.condF rfl ?_)
   refine (?_:WL _ _ _ _ _ _)
   refine WL.clr rfl rfl rfl rfl rfl rfl rfl rfl ⟨by omega,by rw [hRl];omega⟩ ?_
   repeat (first|refine W.gob rfl ?_|refine WL.nil ?_|refine WL.e1 rfl ?_)
   refine (?_:WL _ _ _ _ _ _)
   refine WL.pre rfl rfl rfl ⟨by omega,by simp;omega⟩ ?_
   repeat (first|refine WL.nil ?_|refine WL.e1 rfl ?_)
   refine (?_:W _ _ _ _ _)
   refine W.tr (σ':=⟨[(4,.sl 1)],[(1,.row 76 1 ((l.filter two).map eGr))],2⟩) (zqu (fun q=>q) (by repeat (first|exact trivial|refine ⟨⟨?_,?_,?_⟩,?_⟩|rfl|exact congrArg (fun q=>some (AO.row _ _ q)) hfin)) rfl) ?_
   exact W.ret (finM rfl rfl rfl rfl rfl)
end
section
open Go.RowKit
theorem eGo_fz (G:List (List Rw)):((G.map eGo).map fun r=>r.map (AV.fz 1))=G.map eGr:=by
 rw [List.map_map]
 apply List.map_congr_left
 intro g _
 show [AV.ls 2 ((g.map eRw).map fun r=>r.map (AV.fz 0))]=[AV.ls 2 (g.map eRw)]
 have:(fun r:List AV=>r.map (AV.fz 0))=id:=by
  funext r
  show r.map (AV.fz 0)=r
  have e:AV.fz 0=id:=by funext av;cases av<;>rfl
  rw [e,List.map_id]
 rw [this,List.map_id]
theorem eGo_shal (G:List (List Rw)):∀ r∈G.map eGo,∀ av∈r,av.shal 1=true:=by
 intro r hr av hav
 obtain⟨g,_,rfl⟩:=List.mem_map.1 hr
 rcases List.mem_singleton.1 hav with rfl
 show ((g.map eRw).all fun r=>r.all (AV.shal 0))=true
 rw [List.all_eq_true]
 intro q hq
 obtain⟨x,_,rfl⟩:=List.mem_map.1 hq
 rfl
theorem eRw_own(g:List Rw):∀ q∈g.map eRw,∀ av∈q,av.own=false:=by
 intro q hq av hav
 obtain⟨x,_,rfl⟩:=List.mem_map.1 hq
 rcases List.mem_cons.1 hav with rfl|hav
 ·rfl
 ·rcases List.mem_singleton.1 hav with rfl
  rfl
theorem eGo_at {G:List (List Rw)} {i:Nat} (h:i<G.length):(G.map eGo)[i]?=some (eGo G[i]):=by rw [List.getElem?_map,List.getElem?_eq_getElem h];rfl
theorem eGo_set {G:List (List Rw)} {i:Nat} (l:List Rw) {l0:List Rw}:(G.map eGo).set i ((eGo l0).set 0 (.ow 83 2 (l.map eRw)))=(G.set i l).map eGo:=by rw [List.map_set];rfl
theorem groups_FS (L:List Rw) (hL:L.length≤100):Ctr Tryz.prog 103 [.ls 2 (L.map eRw),.sc (.func (.func 104) #[] #[])] (.ls 1 (((cnG L).filter two).map eGr)):=by
 have hRl:(L.map eRw).length=L.length:=List.length_map _
 have hRa:∀ k (h:k < L.length),(L.map eRw)[((k:Nat):Int).toNat]?=some (eRw L[k]):=fun k h=>map_at h
 obtain ⟨RR,hRR⟩:∃ z,L.map eRw=z:=⟨_,rfl⟩
 rw [hRR] at hRl hRa ⊢
 refine Ctr.intro Tryz.func103 rfl Tryz.ntmps103 (Nat.le_of_ble_eq_true rfl) (bd_all rfl) fun w0 F0=>?_;dsimp only [St.init,number,Nat.reduceAdd]
 repeat (first|refine W.gob rfl ?_|refine WL.nil ?_|refine WL.e1 rfl ?_|refine WL.len rfl rfl zql ?_)
 refine (?_:W _ _ _ _ _)
 first|refine W.tr (Tr.nil (t:=5) 76 1 rfl rfl) ?_|refine WL.tr (Tr.nil (t:=5) 76 1 rfl rfl) ?_
 dsimp only [St.put,St.new,St.upd,Nat.reduceAdd]
 first|refine W.tr (Tr.widen 1 rfl) ?_|refine WL.tr (Tr.widen 1 rfl) ?_
 dsimp only [St.upd]
 refine (?_:W _ _ _ _ _)
 refine W.loop (fun k:Nat=>k≤L.length) (fun k=>⟨[(3,.pt 0 0 0),(5,.sl 1),(9,.ls 2 RR),(10,.sc (.int .i64 RR.length)),(11,.sc (.int .i64 k))],[(0,.box 172 [.sc (.func (.func 104) #[] #[])]),(1,.rwn 76 1 ((cnG (L.take k)).map eGo))],2⟩) (fun k=>L.length - k) 0 (by omega) (zqu (fun q=>q) (by repeat (first|exact trivial|refine ⟨⟨?_,?_,?_⟩,?_⟩|rfl|exact congrArg (fun q=>some (AO.row _ _ q)) rfl|exact congrArg (fun q=>some (AO.rwn _ _ q)) rfl)) rfl) fun k hk=>?_
 by_cases hlt:k < L.length
 rotate_left
 ·obtain rfl:k=L.length:=by omega
  rw [List.take_length]
  have hgl:=cnG_len L
  have hfl:=fsT_len L
  have hD:=dlG_G (cnG L) z6o
  clear hRa
  repeat (first|refine W.gob rfl ?_|refine WL.nil ?_|refine WL.bf rfl rfl rfl z6o ?_|refine WL.e1 rfl ?_|refine W.condF rfl ?_)
  refine (?_:WL _ _ _ _ _ _)
  first|refine W.tr (Tr.freezeI 1 1 rfl (eGo_shal _) (eGo_fz _)) ?_|refine WL.tr (Tr.freezeI 1 1 rfl (eGo_shal _) (eGo_fz _)) ?_
  dsimp only [St.upd]
  refine (?_:WL _ _ _ _ _ _)
  refine WL.cto (truH _) [1] rfl rfl (callF Tryz.func161 rfl rfl) hD rfl rfl rfl ⟨⟨rfl,rfl,rfl⟩,trivial⟩ rfl rfl rfl rfl ?_
  repeat (first|refine WL.nil ?_|refine WL.e1 rfl ?_)
  refine (?_:W _ _ _ _ _)
  refine W.tr (Tr.freeze 2 rfl) ?_
  exact W.ret (fin1 rfl rfl rfl rfl)
 have hat:=hRa k hlt
 have htl:(L.take k).length=k:=by rw [List.length_take];omega
 have hI:=idxG1_FS (L.take k) L[k] z6o
 have hts:L.take (k+1)=L.take k++[L[k]]:=List.take_succ_eq_append_getElem hlt
 have hgl:=cnG_len (L.take k)
 have hfl:=fsT_len (L.take k)
 obtain ⟨x,hx⟩:∃ z,L[k]=z:=⟨_,rfl⟩
 rw [hx] at hat hI hts
 have hgi:=grI_le (L.take k) x
 by_cases hg:grI (L.take k) x < (fsT (L.take k)).length
 ·have hg2:grI (L.take k) x < (cnG (L.take k)).length:=by omega
  have hco:=cnG_old hg hg2
  have hgrl:((cnG (L.take k))[grI (L.take k) x]).length≤k:=by
   simp only [cnG,List.getElem_map]
   have:=grp_len (L.take k) ((fsT (L.take k))[grI (L.take k) x]'hg)
   omega
  rw [← hts] at hco
  rw [if_pos hg] at hI
  obtain ⟨i,hi⟩:∃ z,grI (L.take k) x=z:=⟨_,rfl⟩
  have hat2:=eGo_at hg2
  simp only [hi] at hI hg2 hco hgrl hat2
  obtain ⟨G,hG⟩:∃ z,cnG (L.take k)=z:=⟨_,rfl⟩
  simp only [hG] at hI hg2 hco hgrl hat2 ⊢
  have hcl:=eGo_set (G:=G) (i:=i) (G[i]++[x]) (l0:=G[i])
  rw [← hco] at hcl
  obtain ⟨g,hg0⟩:∃ z,G[i]=z:=⟨_,rfl⟩
  rw [hg0] at hgrl hat2 hcl
  have hmm:(g++[x]).map eRw=g.map eRw++[eRw x]:=by rw [List.map_append];rfl
  rw [hmm] at hcl
  have hml:(g.map eRw).length=g.length:=List.length_map _
  have hGl:(G.map eGo).length=G.length:=List.length_map _
  clear hRa hgi hgl hfl hco hi hG
  repeat (first|refine W.gob rfl ?_|refine WL.nil ?_|refine WL.bt rfl rfl rfl z6o ?_|refine W.condT rfl ?_)
  refine (?_:WL _ _ _ _ _ _)
  refine WL.idx rfl rfl z6o hat ?_
  repeat (first|refine W.gob rfl ?_|refine WL.nil ?_|refine WL.e1 rfl ?_)
  refine (?_:WL _ _ _ _ _ _)
  refine WL.vl rfl (WV.mkf rfl rfl) ?_
  refine (?_:WL _ _ _ _ _ _)
  refine WL.vl rfl (WV.lendX (truH _) rfl (callF Tryz.func159 rfl rfl) rfl (.cons (Lent.rwn 1 rfl (eGo_shal _) (eGo_fz _)) (.cons (Lent.fn rfl rfl) .nil)) truST hI.g) ?_
  repeat (first|refine W.gob rfl ?_|refine WL.nil ?_|refine WL.bf rfl rfl rfl z6o ?_|refine WL.e1 rfl ?_|refine W.condF rfl ?_)
  refine (?_:W _ _ _ _ _)
  first|refine W.tr (Tr.open_ 1 i 0 rfl hat2 rfl (eRw_own _) rfl) ?_|refine WL.tr (Tr.open_ 1 i 0 rfl hat2 rfl (eRw_own _) rfl) ?_
  dsimp only [St.upd,St.new,Nat.reduceAdd]
  refine W.of_wa z6k ?_
  refine WA.dt [false,false,false,false,false,false,false,true,true,false,true] [0,2] [0,2,1] 10 z6k z6k z6k ⟨rfl,rfl,trivial⟩ ⟨rfl,rfl,rfl,trivial⟩ ?_
  refine DTK.st rfl z6k rfl ?_
  refine DTK.st rfl z6k rfl ?_
  refine DTK.st rfl z6k rfl ?_
  refine DTK.st rfl z6k rfl ?_
  refine DTK.ixs rfl z6k rfl ⟨by omega,by omega⟩ ?_
  refine DTK.ldQ rfl z6k rfl rfl rfl hat2 (by show 0 < 1;omega) ?_
  refine DTK.st rfl z6k rfl ?_
  refine DTK.bd rfl rfl rfl ⟨rfl,rfl,trivial⟩ (fun _=>⟨rfl,rfl,rfl,trivial⟩) ?_
  refine DTK.ap rfl rfl (by show (g.map eRw).length+1≤1000000000;omega) ⟨rfl,rfl,trivial⟩ (fun _=>⟨rfl,rfl,rfl,trivial⟩) ?_
  refine DTK.ixs rfl z6k rfl ⟨by omega,by omega⟩ ?_
  refine DTK.stQ rfl rfl rfl rfl rfl rfl rfl (.inr ⟨_,rfl⟩) rfl rfl hat2 (by show 0 < 1;omega) rfl ⟨rfl,rfl,trivial⟩ (fun h=>by cases h) ?_
  refine DTK.nil ?_
  refine (?_:W _ _ _ _ _)
  refine W.tr (Tr.close_ 1 rfl rfl rfl hat2 (by show 0 < 1;omega) hcl) ?_
  dsimp only [St.upd,St.drop,rem,cond,Nat.beq]
  repeat (first|refine W.gob rfl ?_|refine WL.nil ?_|refine WL.e1 rfl ?_|refine WL.ar rfl rfl z6i ?_)
  exact ⟨k+1,by omega,by omega,(zqt id)⟩
 ·have hcn:=cnG_new hg
  rw [← hts] at hcn
  rw [if_neg hg] at hI
  obtain ⟨G,hG⟩:∃ z,cnG (L.take k)=z:=⟨_,rfl⟩
  simp only [hG] at hI hcn hgl ⊢
  have hmm:G.map eGo++[eGo [x]]=(cnG (L.take (k+1))).map eGo:=by rw [hcn,List.map_append];rfl
  have hGl:(G.map eGo).length=G.length:=List.length_map _
  clear hRa hcn hG hgi
  repeat (first|refine W.gob rfl ?_|refine WL.nil ?_|refine WL.bt rfl rfl rfl z6o ?_|refine W.condT rfl ?_)
  refine (?_:WL _ _ _ _ _ _)
  refine WL.idx rfl rfl z6o hat ?_
  repeat (first|refine W.gob rfl ?_|refine WL.nil ?_|refine WL.e1 rfl ?_)
  refine (?_:WL _ _ _ _ _ _)
  refine WL.vl rfl (WV.mkf rfl rfl) ?_
  refine (?_:WL _ _ _ _ _ _)
  refine WL.vl rfl (WV.lendX (truH _) rfl (callF Tryz.func159 rfl rfl) rfl (.cons (Lent.rwn 1 rfl (eGo_shal _) (eGo_fz _)) (.cons (Lent.fn rfl rfl) .nil)) truST hI.g) ?_
  repeat (first|refine W.gob rfl ?_|refine WL.nil ?_|refine WL.bt rfl rfl rfl z6o ?_|refine WL.e1 rfl ?_|refine W.condT rfl ?_)
  refine (?_:WL _ _ _ _ _ _)
  refine WL.bdO 0 rfl rfl rfl rfl ?_
  refine WL.tr (Tr.close_ 4 (rows2:=[eGo [x]]) rfl rfl rfl rfl (by show 0 < 1;omega) rfl) ?_
  dsimp only [St.upd,St.drop,rem,cond,Nat.beq]
  refine WL.apM rfl rfl rfl rfl (by show (G.map eGo).length+1≤1000000000;omega) ?_
  repeat (first|refine W.gob rfl ?_|refine WL.nil ?_|refine WL.e1 rfl ?_|refine WL.ar rfl rfl z6i ?_)
  exact ⟨k+1,by omega,by omega,(zqu (fun q=>bif Nat.beq q 1 then 5 else q) (by repeat (first|exact trivial|refine ⟨⟨?_,?_,?_⟩,?_⟩|rfl|exact congrArg (fun q=>some (AO.row _ _ q)) hmm|exact congrArg (fun q=>some (AO.rwn _ _ q)) hmm)) rfl)⟩
end
section
def rwL (b:List En)(n:Int)(k:Nat):List Rw:=(rwK b n k).filter (lng n)
def conL (b:List En)(n:Int):List (List Int):=if ixE b n=0 then cnc (rwL b n b.length)else []
theorem rwL_s {b:List En} {n:Int} {k:Nat} (h:k<b.length):rwL b n (k+1)=if lng n (rwE k b[k].p n)=true then rwL b n k++[rwE k b[k].p n]else rwL b n k:=by
 unfold rwL
 rw [rwK_s h,List.filter_append]
 split
 ·rename_i e;rw [List.filter_cons_of_pos e,List.filter_nil]
 ·rename_i e;rw [List.filter_cons_of_neg e,List.filter_nil,List.append_nil]
def usB (b:List En)(n:Int)(i:Nat)(x:Rw):Bool:=(rwL b n i).any (alk x)
def cnO (b:List En)(n:Int)(i:Nat):List (List Int):=(((fsT (rwL b n i)).map (grp (rwL b n b.length))).filter two).map ens
theorem us_skip {b:List En} {n:Int} {i:Nat} (h:i<b.length)(hs:usB b n i (rwE i b[i].p n)=true∨¬ lng n (rwE i b[i].p n)=true):fsT (rwL b n (i+1))=fsT (rwL b n i)∧∀ x,usB b n (i+1) x=usB b n i x:=by
 rw [usB] at hs
 unfold usB
 rw [rwL_s h]
 split
 ·rename_i hl
  rcases hs with hs|hs
  ·refine⟨fsT_old hs,fun x=>?_⟩
   rw [← fsT_any,fsT_old hs,fsT_any]
  ·exact absurd hl hs
 ·exact⟨rfl,fun x=>rfl⟩
theorem cnO_skip {b:List En} {n:Int} {i:Nat} (h:i<b.length)(hs:usB b n i (rwE i b[i].p n)=true∨¬ lng n (rwE i b[i].p n)=true):cnO b n (i+1)=cnO b n i:=by
 unfold cnO;rw [(us_skip h hs).1]
def grK (b:List En)(n:Int)(x:Rw)(i j:Nat):List Rw:=((rwK b n j).drop (i+1)).filter (alk x)
theorem grK_0 (b:List En)(n:Int)(x:Rw) {i:Nat} (h:i<b.length):grK b n x i (i+1)=[]:=by
 unfold grK
 rw [List.drop_of_length_le (by rw [rwK_len (by omega)];exact Nat.le_refl _)];rfl
theorem grK_s {b:List En} {n:Int} {x:Rw} {i j:Nat} (hi:i<j)(h:j<b.length):grK b n x i (j+1)=if (rwE j b[j].p n).2=x.2 then grK b n x i j++[rwE j b[j].p n]else grK b n x i j:=by
 unfold grK
 rw [rwK_s h,List.drop_append_of_le_length (by rw [rwK_len (by omega)];omega),List.filter_append]
 split
 ·rename_i e;rw [List.filter_cons_of_pos (by simp [alk,e]),List.filter_nil]
 ·rename_i e;rw [List.filter_cons_of_neg (by simp [alk,e]),List.filter_nil,List.append_nil]
theorem rwK_pre {b:List En} {n:Int} {i j:Nat} (h:i≤j)(hj:j≤b.length):(rwK b n j).take i=rwK b n i:=by
 apply List.ext_getElem
 ·rw [List.length_take,rwK_len hj,rwK_len (by omega)];omega
 ·intro q h1 h2
  rw [List.getElem_take]
  simp only [rwK,List.getElem_mapIdx,List.getElem_take]
theorem rwK_get {b:List En} {n:Int} {j i:Nat} (hj:j≤b.length)(h:i<j)(h2:i<(rwK b n j).length):(rwK b n j)[i]=rwE i (b[i]'(by omega)).p n:=by
 simp only [rwK,List.getElem_mapIdx,List.getElem_take]
theorem cn_new {b:List En} {n:Int} {i:Nat} (h:i<b.length) (hu:usB b n i (rwE i b[i].p n)=false) (hl:lng n (rwE i b[i].p n)=true) :
  cnO b n (i+1)=(if 1≤(grK b n (rwE i b[i].p n) i b.length).length then cnO b n i++[ens (rwE i b[i].p n::grK b n (rwE i b[i].p n) i b.length)] else cnO b n i)∧∀ x,usB b n (i+1) x=(usB b n i x|| alk x (rwE i b[i].p n)):=by
 obtain ⟨r,hr⟩:∃ z,rwE i b[i].p n=z:=⟨_,rfl⟩
 have hs:=rwL_s (b:=b) (n:=n) h
 have hK:=rwK_get (b:=b) (n:=n) (Nat.le_refl b.length) h (by rw [rwK_len (Nat.le_refl _)];exact h)
 rw [hr] at hu hl hs hK ⊢
 rw [if_pos hl] at hs
 have hgr:grp (rwL b n b.length) r=r::grK b n r i b.length:=by
  have e1:grp (rwL b n b.length) r=(rwK b n b.length).filter (alk r):=by
   unfold grp rwL
   rw [List.filter_filter]
   apply List.filter_congr
   intro y _
   by_cases e:y.2=r.2
   ·have:lng n y=lng n r:=by simp [lng,e]
    simp only [this,hl,Bool.and_true]
   ·simp [alk,e]
  have e2:rwK b n b.length=rwK b n i++r::(rwK b n b.length).drop (i+1):=by
   have:=List.take_append_drop i (rwK b n b.length)
   rw [rwK_pre (by omega) (Nat.le_refl _),List.drop_eq_getElem_cons (by rw [rwK_len (Nat.le_refl _)];exact h),hK] at this
   exact this.symm
  have e3:(rwK b n i).filter (alk r)=[]:=by
   rw [List.filter_eq_nil_iff]
   intro y hy hay
   have hay:y.2=r.2:=by simpa [alk] using hay
   unfold usB at hu
   rw [List.any_eq_false] at hu
   refine hu y (List.mem_filter.2 ⟨hy,?_⟩) (decide_eq_true hay)
   have:lng n y=lng n r:=by simp [lng,hay]
   rw [this,hl]
  rw [e1,e2,List.filter_append,e3,List.nil_append,List.filter_cons_of_pos (by simp)]
  rfl
 constructor
 ·unfold cnO
  rw [hs,fsT_new hu,List.map_append,List.filter_append,List.map_append,List.map_cons,List.map_nil,hgr]
  have hl2:(r::grK b n r i b.length).length=(grK b n r i b.length).length+1:=List.length_cons
  split
  ·rename_i hg
   have h2:two (r::grK b n r i b.length)=true:=decide_eq_true z6o
   rw [List.filter_cons_of_pos h2,List.filter_nil];rfl
  ·rename_i hg
   have h2:¬ two (r::grK b n r i b.length)=true:=fun hh=>by have:=of_decide_eq_true hh;omega
   rw [List.filter_cons_of_neg h2,List.filter_nil,List.map_nil,List.append_nil]
 ·intro x
  unfold usB
  rw [hs,any_snoc]
end
section
open Go.RowKit
theorem con2_FS (a b:Rw):Ctr Tryz.prog 101 [.ag (eRw a),.ag (eRw b)] (.sc (.int .i64 (cmN a b))):=by
 have hE:=cmpZ_FS a.1 b.1
 refine Ctr.intro Tryz.func101 rfl Tryz.ntmps101 (Nat.le_of_ble_eq_true rfl) (bd_all rfl) fun w0 F0=>?_;dsimp only [St.init,number,Nat.reduceAdd]
 repeat refine W.go rfl ?_
 refine (?_:WL _ _ _ _ _ _)
 refine WL.vl rfl (WV.call rfl (callF Tryz.func102 rfl rfl) rfl rfl hE) ?_
 repeat refine WL.ev rfl ?_
 refine (?_:W _ _ _ _ _)
 exact W.ret (fin1 rfl rfl rfl rfl)
def posR (M:List Rw)(r:Rw):Int:=((M.findIdx fun y=>decide (y.1=r.1):Nat):Int)
theorem posR_asc {M:List Rw} (h:Dis (fun r:Rw=>r.1) M):Asc (posR M) M:=by
 have hp:=List.pairwise_iff_getElem.1 h
 have key:∀ i (hi:i<M.length),posR M M[i]=i:=fun i hi=>by
  unfold posR
  congr 1
  rw [List.findIdx_eq hi]
  refine⟨decide_eq_true rfl,fun j hj=>decide_eq_false fun e=>?_⟩
  exact hp j i z6o hi hj e
 rw [Asc,List.pairwise_iff_getElem]
 intro i j hi hj hij
 rw [key i hi,key j hj];omega
theorem srtN (b:List En) (n:Int):srt cmN (posR ((srt cmR (fun r:Rw=>r.1) (rwK b n b.length)).filter (lng n))) ((srt cmR (fun r:Rw=>r.1) (rwK b n b.length)).filter (lng n))=rwL b n b.length ∧
  Asc (posR ((srt cmR (fun r:Rw=>r.1) (rwK b n b.length)).filter (lng n))) ((srt cmR (fun r:Rw=>r.1) (rwK b n b.length)).filter (lng n)):=by
 have hp:(rwL b n b.length).Perm ((srt cmR (fun r:Rw=>r.1) (rwK b n b.length)).filter (lng n)):=(List.Perm.filter (lng n) (srt_perm (rwK b n b.length))).symm
 have hd0:Dis (fun r:Rw=>r.1) (rwL b n b.length):=Asc.dis ((rwK_asc b n b.length).sublist List.filter_sublist)
 have ha:=posR_asc (hd0.perm hp.symm)
 refine ⟨(srt_uniq cmN_ok ha.dis hp ?_).symm,ha⟩
 refine ((rwK_asc b n b.length).sublist List.filter_sublist).imp fun {x y} hxy=>le_lt ?_
 have hxy:x.1 < y.1:=hxy
 unfold cmN
 have:=cmpZ_b x.1 y.1
 omega
def eIL (g:List Int):List AV:=[.ls 1 (g.map eInt)]
theorem pConc_FS (b:List En) (hB:BkOk b) (n:Int):Ctr Tryz.prog 45 [eBk b,.sc (.int .i64 n)] (.tu [.ls 1 ((conL b n).map eIL),.sc (.int .i64 (ixE b n))]):=by
 by_cases h:ixE b n=0
 rotate_left
 ·have hI:=pIndex_no b hB n h
  rw [show conL b n=[] from if_neg h]
  obtain ⟨E,hE⟩:∃ z,ixE b n=z:=⟨_,rfl⟩
  rw [hE] at h hI ⊢
  refine Ctr.intro Tryz.func45 rfl Tryz.ntmps45 (Nat.le_of_ble_eq_true rfl) (bd_all rfl) fun w0 F0=>?_;dsimp only [St.init,number,Nat.reduceAdd]
  repeat refine W.go rfl ?_
  refine (?_:WL _ _ _ _ _ _)
  refine WL.vl rfl (WV.call rfl (callF Tryz.func42 rfl rfl) rfl rfl hI) ?_
  repeat (first|refine W.gob rfl ?_|refine WL.nil ?_|refine WL.nt rfl rfl rfl z6o ?_|refine WL.e1 rfl ?_|refine W.condT rfl ?_)
  refine (?_:W _ _ _ _ _)
  refine W.tr (Tr.nilR (t:=4) 1 rfl) ?_
  exact W.ret (finN rfl rfl rfl rfl)
 have hBn:=hB.n
 have h0:bkE b=0:=Classical.byContradiction fun h0=>h0 ((ix_1 (n:=n) h0).1.symm.trans h)
 have hn:¬ (n < 1∨16 < n):=fun hn=>by have:=(ix_2 h0 hn).1;omega
 have hI:=pIndexO_FS b hB n h0 hn
 rw [show conL b n=cnc (rwL b n b.length) from if_pos h,h]
 obtain ⟨hs1,hs2⟩:=srtN b n
 have hkl:=rwK_len (b:=b) (n:=n) (Nat.le_refl _)
 have hSl:=srt_len (cm:=cmR) (en:=fun r:Rw=>r.1) (rwK b n b.length)
 have hLl:(rwL b n b.length).length≤b.length:=by
  have:=List.length_filter_le (lng n) (rwK b n b.length)
  unfold rwL;omega
 obtain ⟨S,hS⟩:∃ z,srt cmR (fun r:Rw=>r.1) (rwK b n b.length)=z:=⟨_,rfl⟩
 rw [hS] at hI hs1 hs2 hSl
 have hD:=dlR_G S n z6o
 have hFl:=List.length_filter_le (lng n) S
 obtain ⟨M,hM⟩:∃ z,S.filter (lng n)=z:=⟨_,rfl⟩
 rw [hM] at hs1 hs2 hD hFl
 have hT:=srtr_G cmN_ok (callF Tryz.func101 rfl rfl) con2_FS M z6o hs2
 rw [hs1] at hT
 obtain ⟨L,hL⟩:∃ z,rwL b n b.length=z:=⟨_,rfl⟩
 rw [hL] at hT hLl ⊢
 have hG:=groups_FS L z6o
 have hgg:∀ g∈(cnG L).filter two,g.length≤L.length:=fun g hg=>by
  obtain ⟨r,_,rfl⟩:=List.mem_map.1 (List.mem_filter.1 hg).1
  exact grp_len L r
 have hGn:((cnG L).filter two).length≤L.length:=by
  have:=List.length_filter_le two (cnG L)
  have:=cnG_len L
  have:=fsT_len L
  omega
 have hcc:cnc L=((cnG L).filter two).map ens:=rfl
 rw [hcc]
 obtain ⟨Gs,hGs⟩:∃ z,(cnG L).filter two=z:=⟨_,rfl⟩
 rw [hGs] at hG hgg hGn ⊢
 have hGl:(Gs.map eGr).length=Gs.length:=List.length_map _
 have hGa:∀ k (h:k < Gs.length),(Gs.map eGr)[((k:Nat):Int).toNat]?=some [.ls 2 (Gs[k].map eRw)]:=fun k h=>map_at h
 obtain ⟨GR,hGR⟩:∃ z,Gs.map eGr=z:=⟨_,rfl⟩
 rw [hGR] at hG hGl hGa
 refine Ctr.intro Tryz.func45 rfl Tryz.ntmps45 (Nat.le_of_ble_eq_true rfl) (bd_all rfl) fun w0 F0=>?_;dsimp only [St.init,number,Nat.reduceAdd]
 repeat refine W.go rfl ?_
 refine (?_:WL _ _ _ _ _ _)
 refine WL.cto (truH _) [] rfl rfl (callF Tryz.func42 rfl rfl) hI rfl rfl rfl trivial rfl rfl rfl rfl ?_
 repeat (first|refine W.gob rfl ?_|refine WL.nil ?_|refine WL.nf rfl rfl rfl z6o ?_|refine WL.e1 rfl ?_|refine W.condF rfl ?_)
 refine (?_:WL _ _ _ _ _ _)
 refine WL.vl rfl (WV.mkf rfl rfl) ?_
 refine (?_:WL _ _ _ _ _ _)
 refine WL.cto (truH _) [2,1] rfl rfl (callF Tryz.func99 rfl rfl) hD rfl rfl rfl ⟨⟨rfl,rfl,rfl⟩,⟨rfl,rfl,rfl⟩,trivial⟩ rfl rfl rfl rfl ?_
 repeat (first|refine W.gob rfl ?_|refine WL.nil ?_|refine WL.e1 rfl ?_)
 refine (?_:WL _ _ _ _ _ _)
 refine WL.cto (truH _) [3] rfl rfl (callF Tryz.func96 rfl rfl) hT rfl rfl rfl ⟨⟨rfl,rfl,rfl⟩,trivial⟩ rfl rfl rfl rfl ?_
 repeat (first|refine W.gob rfl ?_|refine WL.nil ?_|refine WL.e1 rfl ?_)
 refine (?_:WL _ _ _ _ _ _)
 first|refine W.tr (Tr.nil (t:=8) 23 1 rfl rfl) ?_|refine WL.tr (Tr.nil (t:=8) 23 1 rfl rfl) ?_
 dsimp only [St.put,St.new,St.upd,Nat.reduceAdd]
 first|refine W.tr (Tr.freeze 3 rfl) ?_|refine WL.tr (Tr.freeze 3 rfl) ?_
 dsimp only [St.freeze]
 refine (?_:WL _ _ _ _ _ _)
 refine WL.vl rfl (WV.call rfl (callF Tryz.func103 rfl rfl) rfl rfl hG) ?_
 repeat (first|refine W.gob rfl ?_|refine WL.nil ?_|refine WL.e1 rfl ?_|refine WL.len rfl rfl zql ?_)
 refine (?_:W _ _ _ _ _)
 refine W.loop (fun k:Nat=>k≤Gs.length) (fun k=>⟨[(8,.sl 0),(30,.ls 1 GR),(31,.sc (.int .i64 GR.length)),(32,.sc (.int .i64 k))],[(0,.row 23 1 (((Gs.take k).map ens).map eIL))],1⟩) (fun k=>Gs.length - k) 0 z6o (zqu (fun q=>bif Nat.beq q 0 then 4 else q) (by repeat (first|exact trivial|refine ⟨⟨?_,?_,?_⟩,?_⟩|rfl|exact congrArg (fun q=>some (AO.row _ _ q)) rfl)) rfl) fun k hk=>?_
 by_cases hlt:k < Gs.length
 rotate_left
 ·obtain rfl:k=Gs.length:=by omega
  rw [List.take_length]
  clear hGa hgg
  repeat (first|refine W.gob rfl ?_|refine WL.nil ?_|refine WL.bf rfl rfl rfl z6o ?_|refine WL.e1 rfl ?_|refine W.condF rfl ?_)
  refine (?_:W _ _ _ _ _)
  refine W.tr (Tr.freeze 0 rfl) ?_
  exact W.ret (finN rfl rfl rfl rfl)
 have hat:=hGa k hlt
 have hgl:=hgg _ (List.getElem_mem hlt)
 have hts:(Gs.take (k+1)).map ens=(Gs.take k).map ens++[ens Gs[k]]:=by rw [List.take_succ_eq_append_getElem hlt,List.map_append];rfl
 have hkl2:(((Gs.take k).map ens).map eIL).length=k:=by simp;omega
 obtain ⟨g,hg⟩:∃ z,Gs[k]=z:=⟨_,rfl⟩
 rw [hg] at hat hgl hts
 have hmm:((Gs.take k).map ens).map eIL++[[.ls 1 ((ens g).map eInt)]]=((Gs.take (k+1)).map ens).map eIL:=by rw [hts,List.map_append];rfl
 have hrl:(g.map eRw).length=g.length:=List.length_map _
 have hra:∀ j (h:j < g.length),(g.map eRw)[((j:Nat):Int).toNat]?=some [.sc (.int .i64 g[j].1),.ls 1 (g[j].2.map eInt)]:=fun j h=>map_at h
 obtain ⟨RG,hRG⟩:∃ z,g.map eRw=z:=⟨_,rfl⟩
 rw [hRG] at hat hrl hra
 clear hGa hgg hts
 repeat (first|refine W.gob rfl ?_|refine WL.nil ?_|refine WL.bt rfl rfl rfl z6o ?_|refine W.condT rfl ?_)
 refine (?_:WL _ _ _ _ _ _)
 refine WL.idx rfl rfl z6o hat ?_
 repeat (first|refine W.gob rfl ?_|refine WL.nil ?_|refine WL.e1 rfl ?_|refine WL.len rfl rfl zql ?_)
 refine (?_:W _ _ _ _ _)
 first|refine W.tr (Tr.nil (t:=11) 3 1 rfl rfl) ?_|refine WL.tr (Tr.nil (t:=11) 3 1 rfl rfl) ?_
 dsimp only [St.put,St.new,St.upd,Nat.reduceAdd]
 refine (?_:W _ _ _ _ _)
 refine W.loop (fun j:Nat=>j≤g.length) (fun j=>⟨[(8,.sl 0),(30,.ls 1 GR),(31,.sc (.int .i64 GR.length)),(32,.sc (.int .i64 k)),(11,.sl 1),(36,.ls 2 RG),(37,.sc (.int .i64 RG.length)),(38,.sc (.int .i64 j))],[(0,.row 23 1 (((Gs.take k).map ens).map eIL)),(1,.row 3 1 ((ens (g.take j)).map eInt))],2⟩) (fun j=>g.length - j) 0 z6o (zqu (fun q=>q) (by repeat (first|exact trivial|refine ⟨⟨?_,?_,?_⟩,?_⟩|rfl|exact congrArg (fun q=>some (AO.row _ _ q)) rfl)) rfl) fun j hj=>?_
 by_cases hjt:j < g.length
 ·have hr:=hra j hjt
  have htk:(ens (g.take j)).map eInt++[[.sc (.int .i64 g[j].1)]]=(ens (g.take (j+1))).map eInt:=by
   rw [List.take_succ_eq_append_getElem hjt]
   unfold ens
   rw [List.map_append,List.map_append];rfl
  have hjl2:(ens (g.take j)).length=j:=by unfold ens;simp;omega
  have hjl:((ens (g.take j)).map eInt).length=j:=by rw [List.length_map];exact hjl2
  clear hra
  repeat (first|refine W.gob rfl ?_|refine WL.nil ?_|refine WL.bt rfl rfl rfl z6o ?_|refine W.condT rfl ?_)
  refine (?_:WL _ _ _ _ _ _)
  refine WL.idx rfl rfl z6o hr ?_
  repeat (first|refine W.gob rfl ?_|refine WL.nil ?_|refine WL.e1 rfl ?_|refine WL.ar rfl rfl z6i ?_|refine WL.app rfl rfl rfl z6s ?_)
  exact ⟨j+1,by omega,by omega,(zqu (fun q=>bif Nat.beq q 1 then 4 else q) (by repeat (first|exact trivial|refine ⟨⟨?_,?_,?_⟩,?_⟩|rfl|exact congrArg (fun q=>some (AO.row _ _ q)) htk)) rfl)⟩
 ·obtain rfl:j=g.length:=by omega
  rw [List.take_length]
  clear hra
  repeat (first|refine W.gob rfl ?_|refine WL.nil ?_|refine WL.bf rfl rfl rfl z6o ?_|refine WL.e1 rfl ?_|refine W.condF rfl ?_)
  refine (?_:WL _ _ _ _ _ _)
  first|refine W.tr (Tr.freeze 1 rfl) ?_|refine WL.tr (Tr.freeze 1 rfl) ?_
  dsimp only [St.freeze]
  repeat (first|refine W.gob rfl ?_|refine WL.nil ?_|refine WL.e1 rfl ?_|refine WL.ar rfl rfl z6i ?_|refine WL.app rfl rfl rfl z6s ?_)
  exact ⟨k+1,by omega,by omega,(zqu (fun q=>bif Nat.beq q 0 then 3 else q) (by repeat (first|exact trivial|refine ⟨⟨?_,?_,?_⟩,?_⟩|rfl|exact congrArg (fun q=>some (AO.row _ _ q)) hmm)) rfl)⟩
end
end Go.Proofs.YtgelfflighgajaaGreatDoor
