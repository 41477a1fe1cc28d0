/- The measures of a piece: the plain part. -/
import Derived.Test.YtgelfflighgajaaGreatDoorSndTq
import Derived.Test.YtgelfflighgajaaGreatDoorNtQTq
set_option maxHeartbeats 4000000
set_option maxRecDepth 100000
set_option linter.unusedVariables false
set_option linter.unusedSimpArgs false
namespace Go.Proofs.YtgelfflighgajaaGreatDoor
open Go.RowKit
def sndL (p:Pce):List AV:=[.ls 3 (p.cs.map eCrs),.ls 1 (p.st.map eInt),.ls 6 (p.evs.map eEv),.ls 1 ((onsL p.evs p.evs.length).map eInt)]
theorem eSnd_ok {p:Pce} (h0:pceE p=0):eSnd p=.ag (sndL p):=by unfold eSnd onsR sndL;rw [if_pos h0]
theorem stay_FS (p:Pce) (hO:PcOk p) (h0:pceE p=0) (i:Nat) (h:Int) (hh:0≤h) (hi:i+h.toNat+1≤p.evs.length) :
  Ctr Tryz.prog 233 [eSnd p,.sc (.int .i64 i),.sc (.int .i64 h)] (.sc (.int .i64 ((stayN p.evs (i+h.toNat+1):Int) - 1))):=by
 have hn:=hO.n3
 rw [eSnd_ok h0]
 unfold sndL
 obtain ⟨q,rfl⟩:∃ q:Nat,h=q:=⟨h.toNat,by omega⟩
 simp only [Int.toNat_natCast] at hi ⊢
 refine Ctr.intro Tryz.func233 rfl Tryz.ntmps233 (Nat.le_of_ble_eq_true rfl) (bd_all rfl) fun w0 F0=>?_;dsimp only [St.init,number,Nat.reduceAdd]
 repeat (first|refine W.go rfl ?_|refine WL.ev rfl ?_|refine WL.ar rfl rfl (by unfold I64;omega) ?_)
 refine (?_:W _ _ _ _ _)
 refine W.loop (fun m:Nat=>i+q≤m∧m+1≤p.evs.length∧stayN p.evs (i+q+1)=stayN p.evs (m+1)) (fun m=>⟨[(3,.pt 0 0 0),(7,.sc (.int .i64 m))],[(0,.box 294 [.ls 3 (p.cs.map eCrs),.ls 1 (p.st.map eInt),.ls 6 (p.evs.map eEv),.ls 1 ((onsL p.evs p.evs.length).map eInt)])],1⟩) (fun m=>p.evs.length - m) (i+q) ⟨Nat.le_refl _,by omega,rfl⟩ (Tr.ren id (by repeat (first|exact trivial|refine ⟨⟨?_,?_⟩,?_⟩|rfl)) (by repeat (first|exact trivial|refine ⟨⟨?_,?_,?_⟩,?_⟩|rfl)) rfl) fun m hm=>?_
 obtain ⟨hm1,hm2,hm3⟩:=hm
 have ez:((m:Int)+1).toNat=m+1:=by omega
 by_cases hlt:m+1 < p.evs.length
 ·repeat (first|refine W.gob rfl ?_|refine WL.nil ?_|refine WL.bt rfl rfl rfl (by omega) ?_|refine WL.e1 rfl ?_|refine WL.gyes rfl rfl rfl rfl ?_|refine WL.ar rfl rfl (by unfold I64;omega) ?_|refine WL.len rfl rfl (by first|exact List.length_map _|exact List.length_replicate|rfl) ?_|refine WL.idx rfl rfl (by omega) (by first|exact map_at (by omega)|exact map_atZ (by omega) (by omega)) ?_)
  refine (?_:W _ _ _ _ _)
  (refine W.cond rfl (fun hif=>?_) (fun hif=>?_)<;>(try simp only [decide_eq_true_eq,decide_eq_false_iff_not,Int.not_lt,Int.not_le,Bool.not_eq_true',Bool.not_eq_false'] at hif))
  ·repeat (first|refine W.go rfl ?_|refine WL.ev rfl ?_|refine WL.ar rfl rfl (by unfold I64;omega) ?_)
   exact ⟨m+1,⟨by omega,by omega,by rw [hm3,stayN_tie hlt hif]⟩,by omega,(Tr.ren id (by repeat (first|exact trivial|refine ⟨⟨?_,?_⟩,?_⟩|rfl)) (by repeat (first|exact trivial|refine ⟨⟨?_,?_,?_⟩,?_⟩|rfl)) rfl)⟩
  ·rw [show ((stayN p.evs (i+q+1):Int) - 1)=m by rw [hm3,stayN_no hlt hif];omega]
   repeat refine W.go rfl ?_
   refine (?_:W _ _ _ _ _)
   exact W.ret (fin1 rfl rfl rfl rfl)
 ·repeat (first|refine W.gob rfl ?_|refine WL.nil ?_|refine WL.bf rfl rfl rfl (by omega) ?_|refine WL.e1 rfl ?_|refine WL.opno rfl rfl rfl rfl rfl rfl rfl ?_|refine WL.ar rfl rfl (by unfold I64;omega) ?_|refine WL.len rfl rfl (by first|exact List.length_map _|exact List.length_replicate|rfl) ?_|refine W.condF rfl ?_)
  refine (?_:W _ _ _ _ _)
  refine W.ret (fin1 rfl rfl (sc_int ?_) rfl)
  rw [hm3,stayN_end (by omega)];omega
end Go.Proofs.YtgelfflighgajaaGreatDoor
namespace Go.Proofs.YtgelfflighgajaaGreatDoor
open Go.RowKit
def bumpM (t:Int):List (Int×Int×Int)→List (Int×Int×Int)
 | []=>[]
 | [x]=>[(x.1,x.2.1+1,x.2.2+t)]
 | x::y::r=>x::bumpM t (y::r)
theorem bumpM_snoc (t:Int)(x:Int×Int×Int):∀ l,bumpM t (l++[x])=l++[(x.1,x.2.1+1,x.2.2+t)]
 | []=>rfl
 | [y]=>rfl
 | y::z::r=>by
  have:=bumpM_snoc t x (z::r)
  simp only [List.cons_append]at this ⊢
  rw [bumpM,this]
def newM (evs:List Ev)(k:Nat):Bool:=k == 0|| ((evs[k]?).map (·.bar)).getD false
def mea (evs:List Ev):Nat→List (Int×Int×Int)
 | 0=>[]
 | k+1=>bumpM (frc 0 (evs.take (k+1))) (if newM evs k then mea evs k++[((k:Int),0,0)]else mea evs k)
def mCell(x:Int×Int×Int):List Value:=[.int .i64 x.1,.int .i64 x.2.1,.int .i64 x.2.2]
def mCells (l:List (Int×Int×Int)):List Value:=l.flatMap mCell
theorem mCells_length (l:List (Int×Int×Int)):(mCells l).length=l.length*3:=by
 induction l with
 | nil=>rfl
 | cons x r ih=>simp [mCells,mCell]at ih ⊢;omega
theorem mCells_snoc (l:List (Int×Int×Int))(x:Int×Int×Int):mCells (l++[x])=mCells l++mCell x:=by simp [mCells]
theorem mCells_set1 (l:List (Int×Int×Int)) (x:Int×Int×Int) (u:Int):(mCells (l++[x])).set (l.length*3+1) (.int .i64 u)=mCells (l++[(x.1,u,x.2.2)]):=by
 rw [mCells_snoc,mCells_snoc,List.set_append_right _ _ (by rw [mCells_length];omega),mCells_length]
 rw [show l.length*3+1-l.length*3=1 by omega];rfl
theorem mCells_set2 (l:List (Int×Int×Int)) (x:Int×Int×Int) (u:Int):(mCells (l++[x])).set (l.length*3+2) (.int .i64 u)=mCells (l++[(x.1,x.2.1,u)]):=by
 rw [mCells_snoc,mCells_snoc,List.set_append_right _ _ (by rw [mCells_length];omega),mCells_length]
 rw [show l.length*3+2-l.length*3=2 by omega];rfl
theorem mCells_at1 (l:List (Int×Int×Int))(x:Int×Int×Int):(mCells (l++[x]))[l.length*3+1]?=some (.int .i64 x.2.1):=by
 rw [mCells_snoc,List.getElem?_append_right (by rw [mCells_length];omega),mCells_length,show l.length*3+1-l.length*3=1 by omega];rfl
theorem mCells_at2 (l:List (Int×Int×Int))(x:Int×Int×Int):(mCells (l++[x]))[l.length*3+2]?=some (.int .i64 x.2.2):=by
 rw [mCells_snoc,List.getElem?_append_right (by rw [mCells_length];omega),mCells_length,show l.length*3+2-l.length*3=2 by omega];rfl
theorem bumpM_length (t:Int):∀ l,(bumpM t l).length=l.length
 | []=>rfl
 | [y]=>rfl
 | y::z::r=>by
  have:=bumpM_length t (z::r)
  simp only [bumpM,List.length_cons]at this ⊢
  omega
theorem mea_ne (evs:List Ev):∀ k,(if newM evs k then mea evs k++[((k:Int),0,0)]else mea evs k)≠[]
 | 0=>by simp [newM]
 | k+1=>by
  split
  ·simp
  ·intro h
   have h1:(mea evs (k+1)).length=0:=by rw [h];rfl
   unfold mea at h1
   rw [bumpM_length]at h1
   exact mea_ne evs k (List.length_eq_zero_iff.1 h1)
theorem mea_length(evs:List Ev):∀ k,(mea evs k).length≤k
 | 0=>Nat.le_refl _
 | k+1=>by
  have:=mea_length evs k
  unfold mea
  rw [bumpM_length]
  split
  ·simp;omega
  ·omega
theorem bumpM_mem {t:Int}:∀ {l:List (Int×Int×Int)} {x:Int×Int×Int},x∈bumpM t l→x∈l∨∃ y∈l,x=(y.1,y.2.1+1,y.2.2+t)
 | [],x,h=>by cases h
 | [y],x,h=>by
  rw [show bumpM t [y]=[(y.1,y.2.1+1,y.2.2+t)]from rfl,List.mem_singleton]at h
  exact .inr ⟨y,by simp,h⟩
 | y::z::r,x,h=>by
  rw [show bumpM t (y::z::r)=y::bumpM t (z::r)from rfl]at h
  rcases List.mem_cons.1 h with h|h
  ·exact .inl (by simp [h])
  ·rcases bumpM_mem h with h|⟨w,h,e⟩
   ·exact .inl (List.mem_cons_of_mem _ h)
   ·exact .inr ⟨w,List.mem_cons_of_mem _ h,e⟩
theorem mea_bd (evs:List Ev):∀ k x,x∈mea evs k→(0≤x.1∧x.1≤k)∧(0≤x.2.1∧x.2.1≤k)∧(0≤x.2.2∧x.2.2≤1000*k):=by
 intro k
 induction k with
 | zero=>intro x hx;cases hx
 | succ k ih =>
  intro x hx
  have hT:=frc_le 0 (evs.take (k+1)) ⟨by decide,by decide⟩
  have h1:∀ y,y∈(if newM evs k then mea evs k++[((k:Int),0,0)] else mea evs k)→(0≤y.1∧y.1≤k)∧(0≤y.2.1∧y.2.1≤k)∧(0≤y.2.2∧y.2.2≤1000*k):=fun y hy=>by
   split at hy
   ·rcases List.mem_append.1 hy with hy|hy
    ·exact ih y hy
    ·rw [List.mem_singleton] at hy;subst hy;simp;omega
   ·exact ih y hy
  unfold mea at hx
  rcases bumpM_mem hx with hx|⟨y,hy,rfl⟩
  ·have:=h1 x hx;omega
  ·have:=h1 y hy;simp only;omega
end Go.Proofs.YtgelfflighgajaaGreatDoor
