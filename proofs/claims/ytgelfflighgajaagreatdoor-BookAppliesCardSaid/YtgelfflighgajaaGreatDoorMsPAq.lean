/- The measures of a piece: the plain part. -/
import Derived.Test.YtgelfflighgajaaGreatDoorNtQAq
import Derived.Test.YtgelfflighgajaaGreatDoorFSAq
set_option linter.unusedVariables false
set_option linter.unusedSimpArgs false
namespace Go.Proofs.YtgelfflighgajaaGreatDoor
open Go.RowKit
theorem rd_of_ints {w:World} {base e n cap B:Nat} {g:Nat} {l:List Int} (h:w.ownsRow base e 1 (.slice (some ⟨g,0,none⟩) n cap) n (l.map fun x=>.int .i64 x)) (hn:l.length=n) (hg:g<B):Rd w B 1 (some ⟨g,0,none⟩) (l.map intCell):=by
 intro _
 refine ⟨⟨g,0,none⟩,rfl,hg,fun k r hr j y hy=>?_⟩
 rw [List.getElem?_map] at hr
 cases hk:l[k]? with
 | none=>simp [hk] at hr
 | some x =>
  simp only [hk,Option.map_some,Option.some.injEq] at hr
  subst hr
  have hkl:=(List.getElem?_eq_some_iff.1 hk).1
  match j with
  | 0 =>
   cases hy
   have:=h.cellAt k (by omega)
   rw [List.getElem?_map,hk] at this
   have e:(⟨g,0,none⟩:Addr).add (k*1+0)=⟨g,k,none⟩:=by
    by_cases hz:k=0
    ·subst hz;rfl
    ·simp [Addr.add,hz]
   rw [e]
   simpa using this
  | j+1=>simp [intCell] at hy
theorem pOnsets_FS (p:Pce) (hO:PcOk p):Ctr Tryz.prog 111 [ePce p] (.tu [.ls 1 (if pceE p=0 then (onsL p.evs p.evs.length).map eInt else []),.sc (.int .i64 (pceE p))]):=by
 intro w F vs hF hR
 match vs,hR.1 with
 | [v],_ =>
  obtain ⟨M,rfl,hM⟩:=pc_of_rp hF (hR.2 0 _ v rfl rfl)
  by_cases h0:pceE p=0
  ·rw [if_pos h0,h0]
   refine (pOnsets_ok M p w hM hO h0).mono fun e w' ⟨v,he,hrow,hb⟩=>?_
   obtain ⟨g,cap,rfl⟩:∃ g cap,v=.slice (some ⟨g,0,none⟩) (p.evs.length+1) cap:=by
    rcases hrow.2 with⟨_,h⟩|⟨g,cap,cur,e,_⟩
    ·omega
    ·exact ⟨g,cap,e⟩
   have hlt:=hrow.lt g rfl
   have hcap:p.evs.length+1≤cap:=by
    rcases hrow.2 with⟨h,_⟩|⟨g',cap',cur,e,_,_,h,_⟩
    ·cases h
    ·cases e;exact h
   have hlen:(onsL p.evs p.evs.length).length=p.evs.length+1:=onsL_length _ _
   refine ⟨_,newF F w w',he,hb,newF_le hF,newF_fw hF hb,newF_new,.tu _ _ rfl fun i av u a b=>?_⟩
   match i with
   | 0 =>
    cases a;cases b
    have:=rp_of_rd (F:=F) (w:=w) (rd_of_ints (B:=w'.heap.size) hrow hlen hlt.2) (fun ad e=>by cases e;exact hlt.1) (c:=cap) (by omega) (e:=eInt) (fun _=>rfl) eInt_of
    rw [hlen] at this
    exact this
   | 1=>cases a;cases b;exact .sc _
   | i+2=>simp at a
  ·rw [if_neg h0]
   refine (pOnsets_bad M p w hM hO h0).mono fun e w' ⟨he,hb⟩=>?_
   refine ⟨_,newF F w w',he,hb,newF_le hF,newF_fw hF hb,newF_new,.tu _ _ rfl fun i av u a b=>?_⟩
   match i with
   | 0=>cases a;cases b;exact .ls 1 [] none 0 ⟨0,0,none⟩ (fun _ _=>undef) (by simp) (by simp) (by simp) (by simp) (by simp)
   | 1=>cases a;cases b;exact .sc _
   | i+2=>simp at a
end Go.Proofs.YtgelfflighgajaaGreatDoor
namespace Go.Proofs.YtgelfflighgajaaGreatDoor
open Go.RowKit
set_option maxHeartbeats 4000000
set_option maxRecDepth 100000
def onsR (p:Pce):List (List AV):=if pceE p=0 then (onsL p.evs p.evs.length).map eInt else []
def eSnd (p:Pce):AV:=.ag [.ls 3 (p.cs.map eCrs),.ls 1 (p.st.map eInt),.ls 6 (p.evs.map eEv),.ls 1 (onsR p)]
theorem listen_FS (p:Pce) (hO:PcOk p):Ctr Tryz.prog 208 [ePce p] (.tu [eSnd p,.sc (.int .i64 (pceE p))]):=by
 refine Ctr.intro Tryz.func208 rfl Tryz.ntmps208 (Nat.le_of_ble_eq_true rfl) (bd_all rfl) fun w0 F0=>?_;dsimp only [St.init,number,Nat.reduceAdd]
 repeat refine W.go rfl ?_
 refine (?_:WL _ _ _ _ _ _)
 dsimp only [St.put,Nat.reduceAdd]
 refine WL.vl rfl (WV.call rfl (callF Tryz.func111 rfl rfl) rfl rfl (pOnsets_FS p hO)) ?_
 repeat (first|refine W.go rfl ?_|refine WL.ev rfl ?_)
 refine (?_:W _ _ _ _ _)
 dsimp only [St.put,Nat.reduceAdd]
 exact W.ret (finN rfl rfl rfl rfl)
end Go.Proofs.YtgelfflighgajaaGreatDoor
namespace Go.Proofs.YtgelfflighgajaaGreatDoor
open Go.RowKit
set_option maxHeartbeats 4000000
set_option maxRecDepth 100000
theorem end_FS (p:Pce) (hO:PcOk p) (h0:pceE p=0):Ctr Tryz.prog 232 [eSnd p] (.sc (.int .i64 (onsAt p.evs p.evs.length))):=by
 have hn:=hO.n3
 have hl:(onsL p.evs p.evs.length).length=p.evs.length+1:=onsL_length _ _
 have he:eSnd p=.ag [.ls 3 (p.cs.map eCrs),.ls 1 (p.st.map eInt),.ls 6 (p.evs.map eEv),.ls 1 ((onsL p.evs p.evs.length).map eInt)]:=by unfold eSnd onsR;rw [if_pos h0]
 rw [he]
 refine Ctr.intro Tryz.func232 rfl Tryz.ntmps232 (Nat.le_of_ble_eq_true rfl) (bd_all rfl) fun w0 F0=>?_;dsimp only [St.init,number,Nat.reduceAdd]
 repeat (first|refine W.go rfl ?_|refine WL.ev rfl ?_|refine WL.ar rfl rfl (by unfold I64;omega) ?_|refine WL.len rfl rfl (by first|exact List.length_map _|exact List.length_replicate|rfl) ?_|refine WL.idx rfl rfl (by omega) (by first|exact map_at (by omega)|exact map_atZ (by omega) (by omega)) ?_)
 refine (?_:W _ _ _ _ _)
 dsimp only [St.put,Nat.reduceAdd]
 refine W.ret (fin1 rfl rfl (sc_int ?_) rfl)
 simp [onsL]
end Go.Proofs.YtgelfflighgajaaGreatDoor
namespace Go.Proofs.YtgelfflighgajaaGreatDoor
open Go.RowKit
set_option maxHeartbeats 4000000
set_option maxRecDepth 100000
def sndL (p:Pce):List AV:=[.ls 3 (p.cs.map eCrs),.ls 1 (p.st.map eInt),.ls 6 (p.evs.map eEv),.ls 1 ((onsL p.evs p.evs.length).map eInt)]
theorem eSnd_ok {p:Pce} (h0:pceE p=0):eSnd p=.ag (sndL p):=by unfold eSnd onsR sndL;rw [if_pos h0]
theorem stay_FS (p:Pce) (hO:PcOk p) (h0:pceE p=0) (i:Nat) (h:Int) (hh:0≤h) (hi:i+h.toNat+1≤p.evs.length) :
  Ctr Tryz.prog 233 [eSnd p,.sc (.int .i64 i),.sc (.int .i64 h)] (.sc (.int .i64 ((stayN p.evs (i+h.toNat+1):Int) - 1))):=by
 have hn:=hO.n3
 rw [eSnd_ok h0]
 unfold sndL
 obtain ⟨q,rfl⟩:∃ q:Nat,h=q:=⟨h.toNat,by omega⟩
 simp only [Int.toNat_natCast] at hi ⊢
 refine Ctr.intro Tryz.func233 rfl Tryz.ntmps233 (Nat.le_of_ble_eq_true rfl) (bd_all rfl) fun w0 F0=>?_;dsimp only [St.init,number,Nat.reduceAdd]
 repeat (first|refine W.go rfl ?_|refine WL.ev rfl ?_|refine WL.ar rfl rfl (by unfold I64;omega) ?_)
 refine (?_:W _ _ _ _ _)
 dsimp only [St.put,Nat.reduceAdd]
 refine W.loop (fun m:Nat=>i+q≤m∧m+1≤p.evs.length∧stayN p.evs (i+q+1)=stayN p.evs (m+1)) (fun m=>⟨[(3,.pt 0 0 0),(7,.sc (.int .i64 m))],[(0,.box 294 [.ls 3 (p.cs.map eCrs),.ls 1 (p.st.map eInt),.ls 6 (p.evs.map eEv),.ls 1 ((onsL p.evs p.evs.length).map eInt)])],1⟩) (fun m=>p.evs.length - m) (i+q) ⟨Nat.le_refl _,by omega,rfl⟩ (Tr.ren id (by repeat (first|exact trivial|refine ⟨⟨?_,?_⟩,?_⟩|rfl)) (by repeat (first|exact trivial|refine ⟨⟨?_,?_,?_⟩,?_⟩|rfl)) rfl) fun m hm=>?_
 obtain ⟨hm1,hm2,hm3⟩:=hm
 have ez:((m:Int)+1).toNat=m+1:=by omega
 by_cases hlt:m+1 < p.evs.length
 ·repeat (first|refine W.gob rfl ?_|refine WL.nil ?_|refine WL.bt rfl rfl rfl (by omega) ?_|refine WL.e1 rfl ?_|refine WL.gyes rfl rfl rfl rfl ?_|refine WL.ar rfl rfl (by unfold I64;omega) ?_|refine WL.len rfl rfl (by first|exact List.length_map _|exact List.length_replicate|rfl) ?_|refine WL.idx rfl rfl (by omega) (by first|exact map_at (by omega)|exact map_atZ (by omega) (by omega)) ?_)
  refine (?_:W _ _ _ _ _)
  dsimp only [St.put,Nat.reduceAdd]
  (refine W.cond rfl (fun hif=>?_) (fun hif=>?_)<;>(try simp only [decide_eq_true_eq,decide_eq_false_iff_not,Int.not_lt,Int.not_le,Bool.not_eq_true',Bool.not_eq_false'] at hif))
  ·repeat (first|refine W.go rfl ?_|refine WL.ev rfl ?_|refine WL.ar rfl rfl (by unfold I64;omega) ?_)
   dsimp only [St.put,Nat.reduceAdd]
   exact ⟨m+1,⟨by omega,by omega,by rw [hm3,stayN_tie hlt hif]⟩,by omega,(Tr.ren id (by repeat (first|exact trivial|refine ⟨⟨?_,?_⟩,?_⟩|rfl)) (by repeat (first|exact trivial|refine ⟨⟨?_,?_,?_⟩,?_⟩|rfl)) rfl)⟩
  ·rw [show ((stayN p.evs (i+q+1):Int) - 1)=m by rw [hm3,stayN_no hlt hif];omega]
   repeat refine W.go rfl ?_
   refine (?_:W _ _ _ _ _)
   dsimp only [St.put,Nat.reduceAdd]
   exact W.ret (fin1 rfl rfl rfl rfl)
 ·repeat (first|refine W.gob rfl ?_|refine WL.nil ?_|refine WL.bf rfl rfl rfl (by omega) ?_|refine WL.e1 rfl ?_|refine WL.opno rfl rfl rfl rfl rfl rfl rfl ?_|refine WL.ar rfl rfl (by unfold I64;omega) ?_|refine WL.len rfl rfl (by first|exact List.length_map _|exact List.length_replicate|rfl) ?_|refine W.condF rfl ?_)
  refine (?_:W _ _ _ _ _)
  dsimp only [St.put,Nat.reduceAdd]
  refine W.ret (fin1 rfl rfl (sc_int ?_) rfl)
  rw [hm3,stayN_end (by omega)];omega
end Go.Proofs.YtgelfflighgajaaGreatDoor
namespace Go.Proofs.YtgelfflighgajaaGreatDoor
open Go.RowKit
def bumpM (t:Int):List (Int×Int×Int)→List (Int×Int×Int)
 | []=>[]
 | [x]=>[(x.1,x.2.1+1,x.2.2+t)]
 | x::y::r=>x::bumpM t (y::r)
theorem bumpM_snoc (t:Int) (x:Int×Int×Int):∀ l,bumpM t (l++[x])=l++[(x.1,x.2.1+1,x.2.2+t)]
 | []=>rfl
 | [y]=>rfl
 | y::z::r=>by
  have:=bumpM_snoc t x (z::r)
  simp only [List.cons_append] at this ⊢
  rw [bumpM,this]
def newM (evs:List Ev) (k:Nat):Bool:=k == 0 || ((evs[k]?).map (·.bar)).getD false
def mea (evs:List Ev):Nat→List (Int×Int×Int)
 | 0=>[]
 | k+1=>bumpM (frc 0 (evs.take (k+1))) (if newM evs k then mea evs k++[((k:Int),0,0)] else mea evs k)
def mCell (x:Int×Int×Int):List Value:=[.int .i64 x.1,.int .i64 x.2.1,.int .i64 x.2.2]
def mCells (l:List (Int×Int×Int)):List Value:=l.flatMap mCell
theorem mCells_length (l:List (Int×Int×Int)):(mCells l).length=l.length*3:=by
 induction l with
 | nil=>rfl
 | cons x r ih=>simp [mCells,mCell] at ih ⊢;omega
theorem mCells_snoc (l:List (Int×Int×Int)) (x:Int×Int×Int):mCells (l++[x])=mCells l++mCell x:=by simp [mCells]
theorem mCells_set1 (l:List (Int×Int×Int)) (x:Int×Int×Int) (u:Int):(mCells (l++[x])).set (l.length*3+1) (.int .i64 u)=mCells (l++[(x.1,u,x.2.2)]):=by
 rw [mCells_snoc,mCells_snoc,List.set_append_right _ _ (by rw [mCells_length];omega),mCells_length]
 rw [show l.length*3+1-l.length*3=1 by omega];rfl
theorem mCells_set2 (l:List (Int×Int×Int)) (x:Int×Int×Int) (u:Int):(mCells (l++[x])).set (l.length*3+2) (.int .i64 u)=mCells (l++[(x.1,x.2.1,u)]):=by
 rw [mCells_snoc,mCells_snoc,List.set_append_right _ _ (by rw [mCells_length];omega),mCells_length]
 rw [show l.length*3+2-l.length*3=2 by omega];rfl
theorem mCells_at1 (l:List (Int×Int×Int)) (x:Int×Int×Int):(mCells (l++[x]))[l.length*3+1]?=some (.int .i64 x.2.1):=by
 rw [mCells_snoc,List.getElem?_append_right (by rw [mCells_length];omega),mCells_length,show l.length*3+1-l.length*3=1 by omega];rfl
theorem mCells_at2 (l:List (Int×Int×Int)) (x:Int×Int×Int):(mCells (l++[x]))[l.length*3+2]?=some (.int .i64 x.2.2):=by
 rw [mCells_snoc,List.getElem?_append_right (by rw [mCells_length];omega),mCells_length,show l.length*3+2-l.length*3=2 by omega];rfl
theorem bumpM_length (t:Int):∀ l,(bumpM t l).length=l.length
 | []=>rfl
 | [y]=>rfl
 | y::z::r=>by
  have:=bumpM_length t (z::r)
  simp only [bumpM,List.length_cons] at this ⊢
  omega
theorem mea_ne (evs:List Ev):∀ k,(if newM evs k then mea evs k++[((k:Int),0,0)] else mea evs k)≠[]
 | 0=>by simp [newM]
 | k+1=>by
  split
  ·simp
  ·intro h
   have h1:(mea evs (k+1)).length=0:=by rw [h];rfl
   unfold mea at h1
   rw [bumpM_length] at h1
   exact mea_ne evs k (List.length_eq_zero_iff.1 h1)
theorem mea_length (evs:List Ev):∀ k,(mea evs k).length≤k
 | 0=>Nat.le_refl _
 | k+1=>by
  have:=mea_length evs k
  unfold mea
  rw [bumpM_length]
  split
  ·simp;omega
  ·omega
theorem bumpM_mem {t:Int}:∀ {l:List (Int×Int×Int)} {x:Int×Int×Int},x∈bumpM t l→x∈l∨∃ y∈l,x=(y.1,y.2.1+1,y.2.2+t)
 | [],x,h=>by cases h
 | [y],x,h=>by
  rw [show bumpM t [y]=[(y.1,y.2.1+1,y.2.2+t)] from rfl,List.mem_singleton] at h
  exact .inr ⟨y,by simp,h⟩
 | y::z::r,x,h=>by
  rw [show bumpM t (y::z::r)=y::bumpM t (z::r) from rfl] at h
  rcases List.mem_cons.1 h with h|h
  ·exact .inl (by simp [h])
  ·rcases bumpM_mem h with h|⟨w,h,e⟩
   ·exact .inl (List.mem_cons_of_mem _ h)
   ·exact .inr ⟨w,List.mem_cons_of_mem _ h,e⟩
theorem mea_bd (evs:List Ev):∀ k x,x∈mea evs k→(0≤x.1∧x.1≤k)∧(0≤x.2.1∧x.2.1≤k)∧(0≤x.2.2∧x.2.2≤1000*k):=by
 intro k
 induction k with
 | zero=>intro x hx;cases hx
 | succ k ih =>
  intro x hx
  have hT:=frc_le 0 (evs.take (k+1)) ⟨by decide,by decide⟩
  have h1:∀ y,y∈(if newM evs k then mea evs k++[((k:Int),0,0)] else mea evs k)→(0≤y.1∧y.1≤k)∧(0≤y.2.1∧y.2.1≤k)∧(0≤y.2.2∧y.2.2≤1000*k):=fun y hy=>by
   split at hy
   ·rcases List.mem_append.1 hy with hy|hy
    ·exact ih y hy
    ·rw [List.mem_singleton] at hy;subst hy;simp;omega
   ·exact ih y hy
  unfold mea at hx
  rcases bumpM_mem hx with hx|⟨y,hy,rfl⟩
  ·have:=h1 x hx;omega
  ·have:=h1 y hy;simp only;omega
end Go.Proofs.YtgelfflighgajaaGreatDoor
