/- The reference: Sound, the melody of a piece, how it begins; lists of numbers that are equal. -/
import Derived.Test.YtgelfflighgajaaGreatDoorIncSq
import Derived.Test.YtgelfflighgajaaGreatDoorEHSq
set_option maxHeartbeats 8000000
set_option maxRecDepth 100000
set_option linter.unusedVariables false
set_option linter.unusedSimpArgs false
namespace Go.Proofs.YtgelfflighgajaaGreatDoor
open Go.RowKit
theorem z29o {p:Prop} (h:p:=by omega):p:=h
theorem z29i {z:Int} (h:I64 z:=by unfold I64;omega):I64 z:=h
theorem rSound_FS (cs:List (Int×Int×Bool)) (st:List Int) (c f:Int) (hc:1≤c∧c≤cs.length) (hf:0≤f∧f≤st.length) (hb:(∀ k (h:k < cs.length),0≤cs[k].1∧cs[k].1≤127)∧∀ k (h:k < st.length),1≤st[k]∧st[k]≤127) (hl:cs.length≤14∧st.length≤18) :
  Ctr Tryz.prog 246 [.ag (eIns cs st),.ag [.sc (.int .i64 c),.sc (.int .i64 f)]] (.sc (.int .i64 (pitN cs st c f))):=by
 have hk:(c - 1).toNat < cs.length:=by omega
 have h1:=hb.1 _ hk
 have e0:(cs.getD (c - 1).toNat (0,0,false))=cs[(c - 1).toNat]:=by rw [List.getD_eq_getElem?_getD,List.getElem?_eq_getElem hk];rfl
 unfold pitN
 rw [e0]
 obtain ⟨x,hx⟩:∃ x,cs[(c - 1).toNat]=x:=⟨_,rfl⟩
 rw [hx] at h1 ⊢
 by_cases h:0 < f
 ·have hs:(f - 1).toNat < st.length:=by omega
  have h2:=hb.2 _ hs
  rw [if_pos h,List.getD_eq_getElem?_getD,List.getElem?_eq_getElem hs]
  simp only [Option.getD_some]
  obtain ⟨y,hy⟩:∃ y,st[(f - 1).toNat]=y:=⟨_,rfl⟩
  rw [hy] at h2 ⊢
  refine Ctr.intro Tryz.func246 rfl Tryz.ntmps246 (Nat.le_of_ble_eq_true rfl) (bd_all rfl) fun w0 F0=>?_;dsimp only [St.init,number,Nat.reduceAdd]
  repeat (first|refine W.gob rfl ?_|refine WL.nil ?_|refine WL.bt rfl rfl rfl z29o ?_|refine WL.e1 rfl ?_|refine WL.ar rfl rfl z29i ?_|refine WL.idx rfl rfl z29o zqm ?_|refine W.condT rfl ?_)
  refine (?_:WL _ _ _ _ _ _)
  rw [hx]
  repeat (first|refine W.gob rfl ?_|refine WL.nil ?_|refine WL.e1 rfl ?_|refine WL.ar rfl rfl z29i ?_)
  refine (?_:W _ _ _ _ _)
  rw [hy]
  refine (?_:W _ _ _ _ _)
  exact W.ret (fin1 rfl rfl rfl rfl)
 ·rw [if_neg h]
  refine Ctr.intro Tryz.func246 rfl Tryz.ntmps246 (Nat.le_of_ble_eq_true rfl) (bd_all rfl) fun w0 F0=>?_;dsimp only [St.init,number,Nat.reduceAdd]
  repeat (first|refine W.gob rfl ?_|refine WL.nil ?_|refine WL.bf rfl rfl rfl z29o ?_|refine WL.e1 rfl ?_|refine WL.ar rfl rfl z29i ?_|refine WL.idx rfl rfl z29o zqm ?_|refine W.condF rfl ?_)
  refine (?_:W _ _ _ _ _)
  rw [hx]
  refine (?_:W _ _ _ _ _)
  refine W.ret (fin1 rfl rfl (sc_int ?_) rfl)
  omega
theorem rSoundP_FS {p:Pce} (h0:pceE p=0) {k:Nat} {x:Stp} (hx:StpOk p k x):Ctr Tryz.prog 246 [.ag (eIns p.cs p.st),.ag [.sc (.int .i64 x.1),.sc (.int .i64 x.2.1)]] (.sc (.int .i64 (pitN p.cs p.st x.1 x.2.1))):=by
 obtain ⟨hI,_,_⟩:=pceE_zero h0
 obtain ⟨l1,l2,l3,l4,l5⟩:=insE_len hI
 have hf:=hx.fret
 have hc:=hx.crs
 have hk:(x.1-1).toNat<p.cs.length:=by omega
 have hfr:=crsE_fr l5 _ hk
 have ef:fretsOf p.cs x.1=p.cs[(x.1-1).toNat].2.1:=by
  have:=fretsOf_at hk
  rw [← this];congr 1;omega
 rw [ef] at hf
 exact rSound_FS p.cs p.st x.1 x.2.1 hc ⟨hf.1,by omega⟩ ⟨crsE_p l5,stepsBad_bd (Int.le_refl 0) l4⟩ ⟨l2,l3⟩
theorem maxP_snoc (p:Pce) {l:List Stp} {k:Nat} (h:k<l.length) (n:Int):maxP p (l.take (k+1)) n=upP (maxP p (l.take k) n) (pitN p.cs p.st l[k].1 l[k].2.1):=by
 unfold maxP
 rw [List.take_succ_eq_append_getElem h,List.foldl_append];rfl
theorem rLine_FS (p:Pce) (hO:PcOk p):Ctr Tryz.prog 229 [ePce p,.sc (.bool true)] (.tu [.ls 1 ((if pceE p=0 then melR p else []).map eInt),.sc (.int .i64 (pceE p))]):=by
 have hn3:=hO.n3
 have hC:=rCheck_FS p hO
 by_cases h0:pceE p=0
 rotate_left
 ·rw [if_neg h0]
  obtain ⟨E,hE⟩:∃ E,pceE p=E:=⟨_,rfl⟩
  rw [hE] at hC h0 ⊢
  refine Ctr.intro Tryz.func229 rfl Tryz.ntmps229 (Nat.le_of_ble_eq_true rfl) (bd_all rfl) fun w0 F0=>?_;dsimp only [St.init,number,Nat.reduceAdd]
  repeat refine W.go rfl ?_
  refine (?_:WL _ _ _ _ _ _)
  refine WL.vl rfl (WV.call rfl (callF Tryz.func28 rfl rfl) rfl rfl hC) ?_
  repeat (first|refine W.gob rfl ?_|refine WL.nil ?_|refine WL.nt rfl rfl rfl z29o ?_|refine WL.e1 rfl ?_|refine W.condT rfl ?_)
  refine (?_:W _ _ _ _ _)
  refine W.tr (Tr.nilR (t:=4) 1 rfl) ?_
  exact W.ret (finN rfl rfl rfl rfl)
 rw [if_pos h0,h0]
 rw [h0] at hC
 have hml:(melR p).length=p.evs.length:=by unfold melR;simp
 refine Ctr.intro Tryz.func229 rfl Tryz.ntmps229 (Nat.le_of_ble_eq_true rfl) (bd_all rfl) fun w0 F0=>?_;dsimp only [St.init,number,Nat.reduceAdd]
 repeat refine W.go rfl ?_
 refine (?_:WL _ _ _ _ _ _)
 refine WL.vl rfl (WV.call rfl (callF Tryz.func28 rfl rfl) rfl rfl hC) ?_
 repeat (first|refine W.go rfl ?_|refine WL.ev rfl ?_|refine W.condF rfl ?_)
 refine (?_:W _ _ _ _ _)
 refine W.tr (Tr.nil (t:=7) 3 1 rfl rfl) ?_
 dsimp only [St.put,St.new,St.upd,Nat.reduceAdd]
 refine W.loop (fun k:Nat=>k≤p.evs.length) (fun k=>⟨[(1,.sc (.bool true)),(2,.pt 0 0 0),(7,.sl 1),(8,.sc (.int .i64 k))],[(0,.box 28 (ePce p).cells),(1,.row 3 1 (((melR p).take k).map eInt))],2⟩) (fun k=>p.evs.length - k) 0 z29o (zqt id) fun k hk=>?_
 by_cases hlt:k < p.evs.length
 rotate_left
 ·obtain rfl:k=p.evs.length:=by omega
  rw [List.take_of_length_le (by omega)]
  repeat (first|refine W.gob rfl ?_|refine WL.nil ?_|refine WL.bf rfl rfl rfl z29o ?_|refine WL.e1 rfl ?_|refine WL.len rfl rfl zql ?_|refine W.condF rfl ?_)
  refine (?_:W _ _ _ _ _)
  refine W.tr (Tr.freeze 1 rfl) ?_
  exact W.ret (finN rfl rfl rfl rfl)
 have hev:=evOk_of h0 hlt
 have h20:=hO.n4 k hlt
 have htk:(melR p).take (k+1)=(melR p).take k++[maxP p p.evs[k].stops (-1)]:=by
  rw [List.take_succ_eq_append_getElem (by omega)]
  unfold melR;simp
 repeat (first|refine W.gob rfl ?_|refine WL.nil ?_|refine WL.bt rfl rfl rfl z29o ?_|refine WL.e1 rfl ?_|refine WL.len rfl rfl zql ?_|refine W.condT rfl ?_)
 refine (?_:W _ _ _ _ _)
 refine W.loop (fun q:Nat=>q≤p.evs[k].stops.length) (fun q=>⟨[(1,.sc (.bool true)),(2,.pt 0 0 0),(7,.sl 1),(8,.sc (.int .i64 k)),(9,.sc (.int .i64 (maxP p (p.evs[k].stops.take q) (-1)))),(10,.sc (.int .i64 q))],[(0,.box 28 (ePce p).cells),(1,.row 3 1 (((melR p).take k).map eInt))],2⟩) (fun q=>p.evs[k].stops.length - q) 0 z29o (zqt id) fun q hq=>?_
 by_cases hql:q < p.evs[k].stops.length
 ·have hst:=hev.stops _ (List.getElem_mem hql)
  have hS:=rSoundP_FS h0 hst
  have hsn:=maxP_snoc p hql (-1)
  repeat (first|refine W.gob rfl ?_|refine WL.nil ?_|refine WL.bt rfl rfl rfl z29o ?_|refine WL.e1 rfl ?_|refine WL.len rfl rfl zql ?_|refine WL.idx rfl rfl z29o zqm ?_|refine W.condT rfl ?_)
  refine (?_:WL _ _ _ _ _ _)
  obtain ⟨x,hx⟩:∃ x,p.evs[k].stops[q]=x:=⟨_,rfl⟩
  obtain ⟨n,hn⟩:∃ n,maxP p (p.evs[k].stops.take q) (-1)=n:=⟨_,rfl⟩
  rw [hx] at hS hsn
  rw [hn] at hsn
  simp only [hx,hn]
  obtain ⟨r,hr⟩:∃ r,pitN p.cs p.st x.1 x.2.1=r:=⟨_,rfl⟩
  rw [hr] at hS hsn
  refine WL.vl rfl (WV.call rfl (callF Tryz.func246 rfl rfl) rfl rfl hS) ?_
  unfold upP at hsn
  by_cases hup:n < 0∨n < r
  ·rw [if_pos hup] at hsn
   by_cases hup2:n < 0
   ·repeat (first|refine W.gob rfl ?_|refine WL.nil ?_|refine WL.bt rfl rfl rfl z29o ?_|refine WL.e1 rfl ?_|refine WL.opno rfl rfl rfl rfl rfl rfl rfl ?_|refine WL.ar rfl rfl z29i ?_|refine W.condT rfl ?_)
    refine ⟨q+1,by omega,by omega,?_⟩
    rw [hsn]
    exact (zqt id)
   ·have hup3:n < r:=by omega
    repeat (first|refine W.gob rfl ?_|refine WL.nil ?_|refine WL.bt rfl rfl rfl z29o ?_|refine WL.bf rfl rfl rfl z29o ?_|refine WL.e1 rfl ?_|refine WL.gyes rfl rfl rfl rfl ?_|refine WL.opno rfl rfl rfl rfl rfl rfl rfl ?_|refine WL.ar rfl rfl z29i ?_|refine W.condT rfl ?_)
    refine ⟨q+1,by omega,by omega,?_⟩
    rw [hsn]
    exact (zqt id)
  ·rw [if_neg hup] at hsn
   repeat (first|refine W.gob rfl ?_|refine WL.nil ?_|refine WL.bf rfl rfl rfl z29o ?_|refine WL.e1 rfl ?_|refine WL.gyes rfl rfl rfl rfl ?_|refine WL.opno rfl rfl rfl rfl rfl rfl rfl ?_|refine WL.ar rfl rfl z29i ?_|refine W.condF rfl ?_)
   refine ⟨q+1,by omega,by omega,?_⟩
   rw [hsn]
   exact (zqt id)
 obtain rfl:q=p.evs[k].stops.length:=by omega
 rw [List.take_length]
 repeat (first|refine W.gob rfl ?_|refine WL.nil ?_|refine WL.bf rfl rfl rfl (by omega) ?_|refine WL.e1 rfl ?_|refine WL.ar rfl rfl z29i ?_|refine WL.len rfl rfl zql ?_|refine WL.idx rfl rfl (by omega) zqm ?_|refine WL.app rfl rfl rfl (by first|omega|(simp;done)|(simp;omega)) ?_|refine W.condF rfl ?_)
 refine ⟨k+1,by omega,by omega,?_⟩
 rw [htk]
 exact (zqu (fun q=>bif Nat.beq q 1 then 3 else q) (by repeat (first|exact trivial|refine ⟨⟨?_,?_,?_⟩,?_⟩|rfl|exact congrArg (fun q=>some (AO.row _ _ q)) (by rw [List.map_append];rfl))) rfl)
theorem rMelody_FS (p:Pce) (hO:PcOk p):Ctr Tryz.prog 207 [ePce p] (.tu [.ls 1 ((if pceE p=0 then melR p else []).map eInt),.sc (.int .i64 (pceE p))]):=by
 refine Ctr.intro Tryz.func207 rfl Tryz.ntmps207 (Nat.le_of_ble_eq_true rfl) (bd_all rfl) fun w0 F0=>?_;dsimp only [St.init,number,Nat.reduceAdd]
 repeat refine W.go rfl ?_
 refine (?_:WL _ _ _ _ _ _)
 refine WL.vl rfl (WV.call rfl (callF Tryz.func229 rfl rfl) rfl rfl (rLine_FS p hO)) ?_
 repeat refine WL.ev rfl ?_
 refine (?_:W _ _ _ _ _)
 exact W.ret (finN rfl rfl rfl rfl)
theorem allF_snoc {l:List Int} {k:Nat} (h:k<l.length)(s:List Int×Int):(l.take (k+1)).foldl allF s=allF ((l.take k).foldl allF s) l[k]:=by
 rw [List.take_succ_eq_append_getElem h,List.foldl_append];rfl
theorem allF_len (l:List Int):∀ s:List Int×Int,(l.foldl allF s).1.length≤s.1.length+l.length:=by
 induction l with
 | nil=>intro s;simp
 | cons x r ih =>
  intro s
  rw [List.foldl_cons]
  have h1:=ih (allF s x)
  have h2:(allF s x).1.length≤s.1.length+1:=by
   unfold allF
   split
   ·omega
   ·split
    ·simp
    ·simp
  simp only [List.length_cons];omega
theorem allF_bd (l:List Int)(hl:∀ x∈l,-1≤x∧x≤254):∀ s:List Int×Int,-1≤s.2∧s.2≤254→-1≤(l.foldl allF s).2∧(l.foldl allF s).2≤254:=by
 induction l with
 | nil=>intro s h;exact h
 | cons x r ih =>
  intro s h
  rw [List.foldl_cons]
  refine ih (fun y hy=>hl y (by simp [hy])) _ ?_
  have:=hl x (by simp)
  unfold allF
  split
  ·exact h
  ·exact this
theorem rAll_FS (p:Pce) (hO:PcOk p) (h0:pceE p=0):Ctr Tryz.prog 156 [ePce p] (.ls 1 ((difs (sungR p)).map eInt)):=by
 have hn3:=hO.n3
 have hM:=rMelody_FS p hO
 rw [if_pos h0,h0] at hM
 have hml:(melR p).length=p.evs.length:=by unfold melR;simp
 have hbd:=mel_bd h0
 rw [← all_difs p]
 obtain ⟨L,hL⟩:∃ L,melR p=L:=⟨_,rfl⟩
 rw [hL] at hM hml hbd ⊢
 refine Ctr.intro Tryz.func156 rfl Tryz.ntmps156 (Nat.le_of_ble_eq_true rfl) (bd_all rfl) fun w0 F0=>?_;dsimp only [St.init,number,Nat.reduceAdd]
 repeat refine W.go rfl ?_
 refine (?_:WL _ _ _ _ _ _)
 refine WL.vl rfl (WV.call rfl (callF Tryz.func207 rfl rfl) rfl rfl hM) ?_
 repeat (first|refine W.go rfl ?_|refine WL.ev rfl ?_)
 refine (?_:W _ _ _ _ _)
 refine W.tr (Tr.nil (t:=5) 3 1 rfl rfl) ?_
 dsimp only [St.put,St.new,St.upd,Nat.reduceAdd]
 refine W.loop (fun k:Nat=>k≤L.length) (fun k=>⟨[(3,.ls 1 (L.map eInt)),(5,.sl 1),(6,.sc (.int .i64 ((L.take k).foldl allF ([],-1)).2)),(7,.sc (.int .i64 k))],[(1,.row 3 1 (((L.take k).foldl allF ([],-1)).1.map eInt))],2⟩) (fun k=>L.length - k) 0 z29o (zqt id) fun k hk=>?_
 have hS1:=allF_len (L.take k) ([],-1)
 have hS2:=allF_bd (L.take k) (fun x hx=>hbd x (List.mem_of_mem_take hx)) ([],-1) ⟨by decide,by decide⟩
 rw [List.length_take] at hS1
 simp only [List.length_nil] at hS1
 by_cases hlt:k < L.length
 rotate_left
 ·obtain rfl:k=L.length:=by omega
  rw [List.take_length]
  repeat (first|refine W.gob rfl ?_|refine WL.nil ?_|refine WL.bf rfl rfl rfl z29o ?_|refine WL.e1 rfl ?_|refine WL.len rfl rfl zql ?_|refine W.condF rfl ?_)
  refine (?_:W _ _ _ _ _)
  refine W.tr (Tr.freeze 1 rfl) ?_
  exact W.ret (fin1 rfl rfl rfl rfl)
 have hsn:=allF_snoc hlt ([],-1)
 have hb:=hbd _ (List.getElem_mem hlt)
 obtain ⟨s,hs⟩:∃ s,(L.take k).foldl allF ([],-1)=s:=⟨_,rfl⟩
 rw [hs] at hsn hS1 hS2 ⊢
 obtain ⟨x,hx⟩:∃ x,L[k]=x:=⟨_,rfl⟩
 rw [hx] at hsn hb
 by_cases h1:x < 0
 ·have e:allF s x=s:=if_pos h1
  rw [e] at hsn
  rw [← hx] at h1
  repeat (first|refine W.gob rfl ?_|refine WL.nil ?_|refine WL.bt rfl rfl rfl z29o ?_|refine WL.e1 rfl ?_|refine WL.ar rfl rfl z29i ?_|refine WL.len rfl rfl zql ?_|refine WL.idx rfl rfl z29o zqm ?_|refine W.condT rfl ?_)
  refine ⟨k+1,by omega,by omega,?_⟩
  rw [hsn]
  exact (zqt id)
 ·have e:allF s x=(if 0≤s.2 then s.1++[x - s.2] else s.1,x):=if_neg h1
  rw [e] at hsn
  by_cases h2:0≤s.2
  ·rw [if_pos h2] at hsn
   have h3:s.2 ≥ 0:=h2
   rw [← hx] at h1 hb
   repeat (first|refine W.gob rfl ?_|refine WL.nil ?_|refine WL.bt rfl rfl rfl (by omega) ?_|refine WL.bf rfl rfl rfl (by omega) ?_|refine WL.e1 rfl ?_|refine WL.ar rfl rfl z29i ?_|refine WL.len rfl rfl zql ?_|refine WL.idx rfl rfl (by omega) zqm ?_|refine WL.app rfl rfl rfl (by first|omega|(simp;done)|(simp;omega)) ?_|refine W.condT rfl ?_|refine W.condF rfl ?_)
   refine ⟨k+1,by omega,by omega,?_⟩
   rw [hsn]
   simp only [hx]
   exact (zqu (fun q=>bif Nat.beq q 1 then 3 else q) (by repeat (first|exact trivial|refine ⟨⟨?_,?_,?_⟩,?_⟩|rfl|exact congrArg (fun q=>some (AO.row _ _ q)) (by rw [List.map_append];rfl))) rfl)
  ·rw [if_neg h2] at hsn
   have h3:¬ s.2 ≥ 0:=h2
   rw [← hx] at h1 hb
   repeat (first|refine W.gob rfl ?_|refine WL.nil ?_|refine WL.bt rfl rfl rfl z29o ?_|refine WL.bf rfl rfl rfl z29o ?_|refine WL.e1 rfl ?_|refine WL.ar rfl rfl z29i ?_|refine WL.len rfl rfl zql ?_|refine WL.idx rfl rfl z29o zqm ?_|refine W.condT rfl ?_|refine W.condF rfl ?_)
   refine ⟨k+1,by omega,by omega,?_⟩
   rw [hsn]
   simp only [hx]
   exact (zqt id)
theorem rIncipit_FS (p:Pce) (hO:PcOk p) (n:Int):Ctr Tryz.prog 97 [ePce p,.sc (.int .i64 n)] (.tu [.ls 1 ((incL p n).map eInt),.sc (.int .i64 (incE p n))]):=by
 have hn3:=hO.n3
 have hC:=rCheck_FS p hO
 by_cases h0:pceE p=0
 rotate_left
 ·have e1:incE p n=pceE p:=if_neg h0
  have e2:incL p n=[]:=if_neg (by rw [e1];exact h0)
  rw [e2,e1]
  obtain ⟨E,hE⟩:∃ E,pceE p=E:=⟨_,rfl⟩
  rw [hE] at hC h0 ⊢
  refine Ctr.intro Tryz.func97 rfl Tryz.ntmps97 (Nat.le_of_ble_eq_true rfl) (bd_all rfl) fun w0 F0=>?_;dsimp only [St.init,number,Nat.reduceAdd]
  repeat refine W.go rfl ?_
  refine (?_:WL _ _ _ _ _ _)
  refine WL.vl rfl (WV.call rfl (callF Tryz.func28 rfl rfl) rfl rfl hC) ?_
  repeat (first|refine W.gob rfl ?_|refine WL.nil ?_|refine WL.nt rfl rfl rfl z29o ?_|refine WL.e1 rfl ?_|refine W.condT rfl ?_)
  refine (?_:W _ _ _ _ _)
  refine W.tr (Tr.nilR (t:=4) 1 rfl) ?_
  exact W.ret (finN rfl rfl rfl rfl)
 rw [h0] at hC
 have e1:incE p n=if n < 1∨16 < n then 1 else 0:=if_pos h0
 by_cases hn:n < 1∨16 < n
 ·rw [if_pos hn] at e1
  have e2:incL p n=[]:=if_neg (by rw [e1];decide)
  rw [e2,e1]
  have h2:n < 1∨(¬ n < 1∧n > 16):=by omega
  rcases h2 with h2|h2
  all_goals
   refine Ctr.intro Tryz.func97 rfl Tryz.ntmps97 (Nat.le_of_ble_eq_true rfl) (bd_all rfl) fun w0 F0=>?_;dsimp only [St.init,number,Nat.reduceAdd]
   repeat refine W.go rfl ?_
   refine (?_:WL _ _ _ _ _ _)
   refine WL.vl rfl (WV.call rfl (callF Tryz.func28 rfl rfl) rfl rfl hC) ?_
   repeat (first|refine W.gob rfl ?_|refine WL.nil ?_|refine WL.bt rfl rfl rfl z29o ?_|refine WL.bf rfl rfl rfl z29o ?_|refine WL.nf rfl rfl rfl z29o ?_|refine WL.e1 rfl ?_|refine WL.gyes rfl rfl rfl rfl ?_|refine WL.opno rfl rfl rfl rfl rfl rfl rfl ?_|refine W.condT rfl ?_|refine W.condF rfl ?_)
   refine (?_:W _ _ _ _ _)
   refine W.tr (Tr.nilR (t:=4) 1 rfl) ?_
   exact W.ret (finN rfl rfl rfl rfl)
 rw [if_neg hn] at e1
 have e2:incL p n=(difs (sungR p)).take n.toNat:=if_pos e1
 have hA:=rAll_FS p hO h0
 have hdl:=difs_length (sungR p)
 have hsl:(sungR p).length≤420:=by
  unfold sungR
  have:=List.length_filter_le (fun x:Int=>!decide (x < 0)) (melR p)
  have hml:(melR p).length=p.evs.length:=by unfold melR;simp
  omega
 rw [e2,e1]
 obtain ⟨D,hD⟩:∃ D,difs (sungR p)=D:=⟨_,rfl⟩
 rw [hD] at hA hdl ⊢
 have hmin:prt (D.map eInt) 0 (if (D.length:Int) < n then (D.length:Int) else n)=(D.take n.toNat).map eInt:=by
  unfold prt
  simp only [Int.toNat_zero,List.drop_zero,Nat.sub_zero]
  rw [← List.map_take]
  congr 1
  split
  ·rw [Int.toNat_natCast,List.take_of_length_le (Nat.le_refl _),List.take_of_length_le (by omega)]
  ·rfl
 refine Ctr.intro Tryz.func97 rfl Tryz.ntmps97 (Nat.le_of_ble_eq_true rfl) (bd_all rfl) fun w0 F0=>?_;dsimp only [St.init,number,Nat.reduceAdd]
 repeat refine W.go rfl ?_
 refine (?_:WL _ _ _ _ _ _)
 refine WL.vl rfl (WV.call rfl (callF Tryz.func28 rfl rfl) rfl rfl hC) ?_
 repeat (first|refine W.gob rfl ?_|refine WL.nil ?_|refine WL.bf rfl rfl rfl z29o ?_|refine WL.nf rfl rfl rfl z29o ?_|refine WL.e1 rfl ?_|refine WL.gyes rfl rfl rfl rfl ?_|refine W.condF rfl ?_)
 refine (?_:WL _ _ _ _ _ _)
 refine WL.vl rfl (WV.call rfl (callF Tryz.func156 rfl rfl) rfl rfl hA) ?_
 repeat (first|refine W.gob rfl ?_|refine WL.nil ?_|refine WL.e1 rfl ?_|refine WL.len rfl rfl zql ?_)
 refine (?_:WL _ _ _ _ _ _)
 refine WL.mm rfl rfl (show (if (D.length:Int) < n then (D.length:Int) else n)=(if (D.length:Int) < n then (D.length:Int) else n) from rfl) ?_
 refine (?_:WL _ _ _ _ _ _)
 refine WL.part_ rfl rfl ⟨by omega,by split<;>omega,by rw [List.length_map];split<;>omega⟩ hmin ?_
 repeat (first|refine WL.nil ?_|refine WL.e1 rfl ?_)
 refine (?_:W _ _ _ _ _)
 exact W.ret (finN rfl rfl rfl rfl)
theorem sameInts_FS (l m:List Int) (h1:l.length≤100000) (h2:m.length≤100000):Ctr Tryz.prog 44 [.ls 1 (l.map eInt),.ls 1 (m.map eInt)] (.sc (.bool (decide (l=m)))):=by
 by_cases hl:l.length=m.length
 rotate_left
 ·rw [decide_eq_false fun e=>hl (by rw [e])]
  refine Ctr.intro Tryz.func44 rfl Tryz.ntmps44 (Nat.le_of_ble_eq_true rfl) (bd_all rfl) fun w0 F0=>?_;dsimp only [St.init,number,Nat.reduceAdd]
  repeat (first|refine W.gob rfl ?_|refine WL.nil ?_|refine WL.nt rfl rfl rfl z29o ?_|refine WL.e1 rfl ?_|refine WL.len rfl rfl zql ?_|refine W.condT rfl ?_)
  refine (?_:W _ _ _ _ _)
  exact W.ret (fin1 rfl rfl rfl rfl)
 refine Ctr.intro Tryz.func44 rfl Tryz.ntmps44 (Nat.le_of_ble_eq_true rfl) (bd_all rfl) fun w0 F0=>?_;dsimp only [St.init,number,Nat.reduceAdd]
 repeat (first|refine W.gob rfl ?_|refine WL.nil ?_|refine WL.nf rfl rfl rfl z29o ?_|refine WL.e1 rfl ?_|refine WL.len rfl rfl zql ?_|refine W.condF rfl ?_)
 refine (?_:W _ _ _ _ _)
 refine W.loop (fun k:Nat=>k≤l.length∧∀ i (hi:i < k) (h1:i < l.length) (h2:i < m.length),l[i]=m[i]) (fun k=>⟨[(0,.ls 1 (l.map eInt)),(1,.ls 1 (m.map eInt)),(5,.sc (.int .i64 k))],[],0⟩) (fun k=>l.length - k) 0 ⟨by omega,fun i hi=>by omega⟩ (zqt id) fun k hk=>?_
 obtain ⟨hk,hsame⟩:=hk
 by_cases hlt:k < l.length
 ·have hlt2:k < m.length:=by omega
  by_cases he:l[k]=m[k]
  ·have hd:decide (l[k]=m[k])=true:=decide_eq_true he
   repeat (first|refine W.gob rfl ?_|refine WL.nil ?_|refine WL.bt rfl rfl rfl z29o ?_|refine WL.e1 rfl ?_|refine WL.len rfl rfl zql ?_|refine W.condT rfl ?_)
   refine (?_:W _ _ _ _ _)
   refine W.drawK (by kernel_rfl) (by kernel_rfl) ?_
   repeat (first|refine DK.st rfl ?_|refine DK.idx rfl rfl z29o zqm ?_|refine DK.nil ?_)
   rw [hd]
   repeat (first|refine W.gob rfl ?_|refine WL.nil ?_|refine WL.e1 rfl ?_|refine WL.ar rfl rfl z29i ?_|refine W.condF rfl ?_)
   refine ⟨k+1,⟨by omega,fun i hi a b=>?_⟩,by omega,(zqt id)⟩
   by_cases e:i=k
   ·subst e;exact he
   ·exact hsame i z29o a b
  ·have hd:decide (l[k]=m[k])=false:=decide_eq_false he
   rw [decide_eq_false fun e=>he (by subst e;rfl)]
   repeat (first|refine W.gob rfl ?_|refine WL.nil ?_|refine WL.bt rfl rfl rfl z29o ?_|refine WL.e1 rfl ?_|refine WL.len rfl rfl zql ?_|refine W.condT rfl ?_)
   refine (?_:W _ _ _ _ _)
   refine W.drawK (by kernel_rfl) (by kernel_rfl) ?_
   repeat (first|refine DK.st rfl ?_|refine DK.idx rfl rfl z29o zqm ?_|refine DK.nil ?_)
   rw [hd]
   repeat (first|refine W.gob rfl ?_|refine WL.nil ?_|refine WL.e1 rfl ?_|refine W.condT rfl ?_)
   refine (?_:W _ _ _ _ _)
   exact W.ret (fin1 rfl rfl rfl rfl)
 ·have e:l=m:=List.ext_getElem hl fun i a b=>hsame i (by omega) a b
  rw [decide_eq_true e]
  repeat (first|refine W.gob rfl ?_|refine WL.nil ?_|refine WL.bf rfl rfl rfl z29o ?_|refine WL.e1 rfl ?_|refine WL.len rfl rfl zql ?_|refine W.condF rfl ?_)
  refine (?_:W _ _ _ _ _)
  exact W.ret (fin1 rfl rfl rfl rfl)
end Go.Proofs.YtgelfflighgajaaGreatDoor
