/- What a system lacks of a piece: the program, over trees. -/
import Derived.Test.YtkgnmddakiagbaaGreatDoorNtQWq
import Derived.Test.YtkgnmddakiagbaaGreatDoorESWq
import Derived.Test.YtkgnmddakiagbaaGreatDoorLk1Wq
import Derived.Test.YtkgnmddakiagbaaGreatDoorLk2Wq
import Derived.Test.YtkgnmddakiagbaaGreatDoorLk3Wq
import Derived.Test.YtkgnmddakiagbaaGreatDoorLk4Wq
set_option linter.unusedVariables false
set_option linter.unusedSimpArgs false
namespace Go.Proofs.YtkgnmddakiagbaaGreatDoor
open Go.RowKit
def upP (n q:Int):Int:=if n<0∨n<q then q else n
def maxP (p:Pce) (l:List Stp) (n:Int):Int:=l.foldl (fun n x=>upP n (pitN p.cs p.st x.1 x.2.1)) n
def melR (p:Pce):List Int:=p.evs.map fun e=>maxP p e.stops (-1)
def melS (out:List Int) (n:Nt):List Int:=out.set n.1.toNat (upP (out.getD n.1.toNat 0) n.2.2.1)
theorem melS_length (l:List Nt):∀ out,(l.foldl melS out).length=out.length:=by
 induction l with
 | nil=>intro out;rfl
 | cons n r ih=>intro out;rw [List.foldl_cons,ih];simp [melS]
theorem melS_event (p:Pce) (k:Nat):∀ (l:List Stp) (out:List Int) (v:Int),out[k]?=some v→(l.map (noteR p k)).foldl melS out=out.set k (maxP p l v):=by
 intro l
 induction l with
 | nil =>
  intro out v h
  apply List.ext_getElem?
  intro i
  rw [List.getElem?_set]
  by_cases e:k=i
  ·subst e
   have hlt:=(List.getElem?_eq_some_iff.1 h).1
   rw [List.getElem?_eq_getElem hlt] at h
   simp [maxP,hlt,Option.some.inj h]
  ·simp [e]
 | cons x r ih =>
  intro out v h
  have hlt:=(List.getElem?_eq_some_iff.1 h).1
  rw [List.map_cons,List.foldl_cons]
  have e1:melS out (noteR p k x)=out.set k (upP v (pitN p.cs p.st x.1 x.2.1)):=by
   unfold melS noteR valN
   simp [h]
  rw [e1,ih _ (upP v (pitN p.cs p.st x.1 x.2.1)) (by simp [hlt])]
  rw [List.set_set];rfl
theorem mel_notes (p:Pce):∀ m,m≤p.evs.length→(notesR p m).foldl melS (List.replicate p.evs.length (-1))=((p.evs.take m).map fun e=>maxP p e.stops (-1))++List.replicate (p.evs.length-m) (-1):=by
 intro m
 induction m with
 | zero=>intro _;simp [notesR]
 | succ m ih =>
  intro hm
  have hm':m<p.evs.length:=by omega
  have e1:notesR p (m+1)=notesR p m++p.evs[m].stops.map (noteR p m):=by
   show (match p.evs[m]? with|some e=>_|none=>_)=_
   rw [List.getElem?_eq_getElem hm']
  rw [e1,List.foldl_append,ih (by omega),melS_event p m p.evs[m].stops _ (-1) ?_]
  ·rw [List.take_succ_eq_append_getElem hm',List.map_append,List.set_append_right _ _ (by simp;omega)]
   have:m-((p.evs.take m).map fun e=>maxP p e.stops (-1)).length=0:=by simp;omega
   rw [this,show p.evs.length-m=(p.evs.length-(m+1))+1 by omega,List.replicate_succ]
   simp
  ·rw [List.getElem?_append_right (by simp;omega)]
   have:m-((p.evs.take m).map fun e=>maxP p e.stops (-1)).length=0:=by simp;omega
   rw [this,List.getElem?_replicate,if_pos (by omega)]
theorem mel_all (p:Pce):(notesR p p.evs.length).foldl melS (List.replicate p.evs.length (-1))=melR p:=by
 rw [mel_notes p _ (Nat.le_refl _)];simp [melR]
def difs:List Int→List Int
 | x::y::r=>(y-x)::difs (y::r)
 | _=>[]
theorem difs_length:∀ l,(difs l).length=l.length-1
 | []=>rfl
 | [x]=>rfl
 | x::y::r=>by
  have:=difs_length (y::r)
  simp only [difs,List.length_cons] at this ⊢
  omega
theorem difs_at:∀ (l:List Int) (i:Nat) (h:i+1<l.length),(difs l)[i]?=some (l[i+1]-l[i])
 | [],i,h=>by simp at h
 | [x],i,h=>by simp at h
 | x::y::r,0,h=>rfl
 | x::y::r,i+1,h=>by
  have:=difs_at (y::r) i (by simpa using h)
  simpa [difs] using this
theorem difs_take {l:List Int} {i:Nat} (h:i+1<l.length):(difs l).take (i+1)=(difs l).take i++[l[i+1]-l[i]]:=by
 have h1:=difs_at l i h
 have hlt:=(List.getElem?_eq_some_iff.1 h1).1
 rw [List.take_succ_eq_append_getElem hlt]
 rw [List.getElem?_eq_getElem hlt] at h1
 rw [Option.some.inj h1]
def sungR (p:Pce):List Int:=(melR p).filter fun x=>!decide (x<0)
def incR (p:Pce) (n:Int):List Int:=(difs (sungR p)).take n.toNat
end Go.Proofs.YtkgnmddakiagbaaGreatDoor
namespace Go.Proofs.YtkgnmddakiagbaaGreatDoor
open Go.RowKit
def bumpM (t:Int):List (Int×Int×Int)→List (Int×Int×Int)
 | []=>[]
 | [x]=>[(x.1,x.2.1+1,x.2.2+t)]
 | x::y::r=>x::bumpM t (y::r)
theorem bumpM_snoc (t:Int) (x:Int×Int×Int):∀ l,bumpM t (l++[x])=l++[(x.1,x.2.1+1,x.2.2+t)]
 | []=>rfl
 | [y]=>rfl
 | y::z::r=>by
  have:=bumpM_snoc t x (z::r)
  simp only [List.cons_append] at this ⊢
  rw [bumpM,this]
def newM (evs:List Ev) (k:Nat):Bool:=k == 0 || ((evs[k]?).map (·.bar)).getD false
def mea (evs:List Ev):Nat→List (Int×Int×Int)
 | 0=>[]
 | k+1=>bumpM (frc 0 (evs.take (k+1))) (if newM evs k then mea evs k++[((k:Int),0,0)] else mea evs k)
def mCell (x:Int×Int×Int):List Value:=[.int .i64 x.1,.int .i64 x.2.1,.int .i64 x.2.2]
def mCells (l:List (Int×Int×Int)):List Value:=l.flatMap mCell
theorem mCells_length (l:List (Int×Int×Int)):(mCells l).length=l.length*3:=by
 induction l with
 | nil=>rfl
 | cons x r ih=>simp [mCells,mCell] at ih ⊢;omega
theorem mCells_snoc (l:List (Int×Int×Int)) (x:Int×Int×Int):mCells (l++[x])=mCells l++mCell x:=by simp [mCells]
theorem mCells_set1 (l:List (Int×Int×Int)) (x:Int×Int×Int) (u:Int):(mCells (l++[x])).set (l.length*3+1) (.int .i64 u)=mCells (l++[(x.1,u,x.2.2)]):=by
 rw [mCells_snoc,mCells_snoc,List.set_append_right _ _ (by rw [mCells_length];omega),mCells_length]
 rw [show l.length*3+1-l.length*3=1 by omega];rfl
theorem mCells_set2 (l:List (Int×Int×Int)) (x:Int×Int×Int) (u:Int):(mCells (l++[x])).set (l.length*3+2) (.int .i64 u)=mCells (l++[(x.1,x.2.1,u)]):=by
 rw [mCells_snoc,mCells_snoc,List.set_append_right _ _ (by rw [mCells_length];omega),mCells_length]
 rw [show l.length*3+2-l.length*3=2 by omega];rfl
theorem mCells_at1 (l:List (Int×Int×Int)) (x:Int×Int×Int):(mCells (l++[x]))[l.length*3+1]?=some (.int .i64 x.2.1):=by
 rw [mCells_snoc,List.getElem?_append_right (by rw [mCells_length];omega),mCells_length,show l.length*3+1-l.length*3=1 by omega];rfl
theorem mCells_at2 (l:List (Int×Int×Int)) (x:Int×Int×Int):(mCells (l++[x]))[l.length*3+2]?=some (.int .i64 x.2.2):=by
 rw [mCells_snoc,List.getElem?_append_right (by rw [mCells_length];omega),mCells_length,show l.length*3+2-l.length*3=2 by omega];rfl
theorem bumpM_length (t:Int):∀ l,(bumpM t l).length=l.length
 | []=>rfl
 | [y]=>rfl
 | y::z::r=>by
  have:=bumpM_length t (z::r)
  simp only [bumpM,List.length_cons] at this ⊢
  omega
theorem mea_ne (evs:List Ev):∀ k,(if newM evs k then mea evs k++[((k:Int),0,0)] else mea evs k)≠[]
 | 0=>by simp [newM]
 | k+1=>by
  split
  ·simp
  ·intro h
   have h1:(mea evs (k+1)).length=0:=by rw [h];rfl
   unfold mea at h1
   rw [bumpM_length] at h1
   exact mea_ne evs k (List.length_eq_zero_iff.1 h1)
theorem mea_length (evs:List Ev):∀ k,(mea evs k).length≤k
 | 0=>Nat.le_refl _
 | k+1=>by
  have:=mea_length evs k
  unfold mea
  rw [bumpM_length]
  split
  ·simp;omega
  ·omega
theorem bumpM_mem {t:Int}:∀ {l:List (Int×Int×Int)} {x:Int×Int×Int},x∈bumpM t l→x∈l∨∃ y∈l,x=(y.1,y.2.1+1,y.2.2+t)
 | [],x,h=>by cases h
 | [y],x,h=>by
  rw [show bumpM t [y]=[(y.1,y.2.1+1,y.2.2+t)] from rfl,List.mem_singleton] at h
  exact .inr ⟨y,by simp,h⟩
 | y::z::r,x,h=>by
  rw [show bumpM t (y::z::r)=y::bumpM t (z::r) from rfl] at h
  rcases List.mem_cons.1 h with h|h
  ·exact .inl (by simp [h])
  ·rcases bumpM_mem h with h|⟨w,h,e⟩
   ·exact .inl (List.mem_cons_of_mem _ h)
   ·exact .inr ⟨w,List.mem_cons_of_mem _ h,e⟩
theorem mea_bd (evs:List Ev):∀ k x,x∈mea evs k→(0≤x.1∧x.1≤k)∧(0≤x.2.1∧x.2.1≤k)∧(0≤x.2.2∧x.2.2≤1000*k):=by
 intro k
 induction k with
 | zero=>intro x hx;cases hx
 | succ k ih =>
  intro x hx
  have hT:=frc_le 0 (evs.take (k+1)) ⟨by decide,by decide⟩
  have h1:∀ y,y∈(if newM evs k then mea evs k++[((k:Int),0,0)] else mea evs k)→(0≤y.1∧y.1≤k)∧(0≤y.2.1∧y.2.1≤k)∧(0≤y.2.2∧y.2.2≤1000*k):=fun y hy=>by
   split at hy
   ·rcases List.mem_append.1 hy with hy|hy
    ·exact ih y hy
    ·rw [List.mem_singleton] at hy;subst hy;simp;omega
   ·exact ih y hy
  unfold mea at hx
  rcases bumpM_mem hx with hx|⟨y,hy,rfl⟩
  ·have:=h1 x hx;omega
  ·have:=h1 y hy;simp only;omega
end Go.Proofs.YtkgnmddakiagbaaGreatDoor
namespace Go.Proofs.YtkgnmddakiagbaaGreatDoor
open Go.RowKit
set_option maxRecDepth 100000
set_option maxHeartbeats 4000000
theorem Tr.nilLs {C:Cx} {σ:St} {t:Tmp} (n:Nat) (h:look t σ.t=some (.sc (.slice none 0 0))):Tr C σ (σ.put t (.ls n [])):=fun G a w ok=>by
 refine ⟨G,ok.sz,ok.df,fun i av hi=>?_,ok.bel,ok.fw,ok.f0,ok.f1,ok.ob,ok.my,ok.dj,ok.dF⟩
 by_cases e:i=t
 ·subst e
  rw [show look i (σ.put i (.ls n [])).t=some (.ls n []) from look_set_same] at hi
  cases hi
  obtain ⟨h1,h2,h3⟩:=ok.tm i _ h
  refine ⟨h1,.ls _ _,?_⟩
  rw [h3.sc_eq]
  exact .pu _ _ (.ls n [] none 0 ⟨0,0,none⟩ (fun _ _=>undef) (by simp) (by simp) (fun h=>absurd h (by simp)) (fun i r j av h=>by simp at h) (fun i r j av h=>by simp at h))
 ·rw [show look i (σ.put t (.ls n [])).t=look i σ.t from look_set_other e] at hi
  exact ok.tm i av hi
theorem args_pc {F:View} {w:World} {p:Pce} {pre post:List AV} {xs ys vs:List Value} (hs:scs pre=some xs) (hs2:scs post=some ys) (hF:∀ p u,F p=some u→w.cell? p=some u)
  (hR:vs.length=(pre++ePce p::post).length∧∀ (i:Nat) av u,(pre++ePce p::post)[i]?=some av→vs[i]?=some u→RP F av u):∃ M,PcAt w w.heap.size M p∧vs=xs++pcValue M p::ys:=by
 have hG:∀ i av u,(pre++ePce p::post)[i]?=some av→vs[i]?=some u→R ⟨F,fun _=>0,fun _=>0,fun _=>undef,fun _ _=>False⟩ av u:=fun i av u a b=>.pu _ _ (hR.2 i av u a b)
 have hlen:vs.length=pre.length+(post.length+1):=by rw [hR.1];simp
 have e1:vs.take pre.length=xs:=scs_of hs (by simp;omega) fun i av u a b=>by
  have hi:i<pre.length:=(List.getElem?_eq_some_iff.1 a).1
  rw [List.getElem?_take_of_lt hi] at b
  exact hG i av u (by rw [List.getElem?_append_left hi];exact a) b
 have e2:vs.drop (pre.length+1)=ys:=scs_of hs2 (by simp;omega) fun i av u a b=>by
  rw [List.getElem?_drop] at b
  exact hG (pre.length+1+i) av u (by rw [List.getElem?_append_right (by omega),show pre.length+1+i-pre.length=i+1 by omega];exact a) b
 have hp:vs[pre.length]?=some (vs[pre.length]'(by omega)):=List.getElem?_eq_getElem (by omega)
 obtain ⟨M,eM,hM⟩:=pc_of_rp hF (hR.2 pre.length _ _ (by rw [List.getElem?_append_right (Nat.le_refl _),Nat.sub_self];rfl) hp)
 refine ⟨M,hM,?_⟩
 rw [← e1,← e2,← eM]
 conv=>lhs;rw [← List.take_append_drop pre.length vs]
 congr 1
 rw [List.drop_eq_getElem_cons (by omega)]
theorem eLk_of (x:Lck) (j:Nat) (av:AV) (h:(eLk x)[j]?=some av):∃ u,av=.sc u∧(lckCells x)[j]?=some u∧u.oneCell'=true:=by
 match j with
 | 0=>cases h;exact ⟨_,rfl,rfl,rfl⟩
 | 1=>cases h;exact ⟨_,rfl,rfl,rfl⟩
 | 2=>cases h;exact ⟨_,rfl,rfl,rfl⟩
 | j+3=>simp [eLk] at h
theorem Ctr.of_lk {P:Program} {f:FuncId} {p:Pce} {pre post:List AV} {xs ys:List Value} {l:List Lck} (hs:scs pre=some xs) (hs2:scs post=some ys)
  (h:∀ w M,PcAt w w.heap.size M p→Calls P f (xs++pcValue M p::ys).toArray w (LkPost l w)):Ctr P f (pre++ePce p::post) (.ls 3 (l.map eLk)):=by
 intro w F vs hF hR
 obtain ⟨M,hM,rfl⟩:=args_pc hs hs2 hF hR
 refine (h w M hM).mono fun e w' ⟨A,d,he,hb,hr,hA,hc⟩=>⟨_,newF F w w',he,hb,newF_le hF,newF_fw hF hb,newF_new,rp_of_rd hr hA hc (fun _=>rfl) eLk_of⟩
def sysV (s:Int):Value:=if s=1 then .iface 187 (.agg #[]) else if s=2 then .iface 191 (.agg #[]) else if s=3 then .iface 193 (.agg #[]) else if s=4 then .iface 195 (.agg #[]) else .nilIface
theorem sys_cases {s:Int} (h:1≤s∧s≤4):s=1∨s=2∨s=3∨s=4:=by omega
theorem of_FS (s:Int):Ctr Tryz.prog 44 [.sc (.int .u8 s)] (.tu [.sc (sysV s),.sc (.bool (decide (1≤s∧s≤4)))]):=by
 refine Ctr.of_sc (xs:=[.int .u8 s]) (v:=.tuple #[sysV s,.bool (decide (1≤s∧s≤4))]) rfl (fun F=>.tu _ _ rfl fun i av u a b=>?_) fun w=>?_
 ·match i with
  | 0=>cases a;cases b;exact .sc _
  | 1=>cases a;cases b;exact .sc _
  | i+2=>simp at a
 ·by_cases h:1≤s∧s≤4
  ·rcases sys_cases h with rfl|rfl|rfl|rfl
   ·exact (of_1 w).mono fun e w' ⟨he,hw⟩=>⟨he,hw ▸ Below.refl _ _⟩
   ·exact (of_2 w).mono fun e w' ⟨he,hw⟩=>⟨he,hw ▸ Below.refl _ _⟩
   ·exact (of_3 w).mono fun e w' ⟨he,hw⟩=>⟨he,hw ▸ Below.refl _ _⟩
   ·exact (of_4 w).mono fun e w' ⟨he,hw⟩=>⟨he,hw ▸ Below.refl _ _⟩
  ·have e:sysV s=.nilIface:=by
    unfold sysV
    rw [if_neg (by omega),if_neg (by omega),if_neg (by omega),if_neg (by omega)]
   rw [e,decide_eq_false h]
   exact (of_bad s w (by omega)).mono fun e w' ⟨he,hw⟩=>⟨he,hw ▸ Below.refl _ _⟩
theorem plack_FS (s:Int) (h:1≤s∧s≤4) (p:Pce) (i:Nat) (hi:i<p.evs.length) (hO:PcOk p) (hv:StopsIn p.evs[i]) :
  Ctr Tryz.prog 145 [.sc (sysV s),ePce p,.sc (.int .i64 i)] (.ls 3 ((lackE s p i p.evs[i]).map eLk)):=by
 rcases sys_cases h with rfl|rfl|rfl|rfl
 ·exact Ctr.of_lk (pre:=[.sc (sysV 1)]) (post:=[.sc (.int .i64 i)]) rfl rfl fun w M hM=>plack_1 M p i hi w hM hO hv
 ·exact Ctr.of_lk (pre:=[.sc (sysV 2)]) (post:=[.sc (.int .i64 i)]) rfl rfl fun w M hM=>plack_2 M p i hi w hM hO hv
 ·exact Ctr.of_lk (pre:=[.sc (sysV 3)]) (post:=[.sc (.int .i64 i)]) rfl rfl fun w M hM=>plack_3 M p i hi w hM hO hv
 ·exact Ctr.of_lk (pre:=[.sc (sysV 4)]) (post:=[.sc (.int .i64 i)]) rfl rfl fun w M hM=>plack_4 M p i hi w hM hO hv
theorem pCheck_FS (p:Pce) (hO:PcOk p):Ctr Tryz.prog 45 [ePce p] (.sc (.int .i64 (pceE p))) :=
 Ctr.of_pc (pre:=[]) (post:=[]) rfl rfl (fun _=>.sc _) fun w M hM=>pCheck_any M p w hM hO
def lksR (s:Int) (p:Pce):List Lck:=if (1≤s∧s≤4)∧pceE p=0 then lksTo s p p.evs.length else []
def lksE (s:Int) (p:Pce):Int:=if 1≤s∧s≤4 then pceE p else 30
theorem lks_bad {s:Int} {p:Pce} (h:¬ (1≤s∧s≤4)):lksR s p=[]∧lksE s p=30:=⟨if_neg fun x=>h x.1,if_neg h⟩
theorem lks_err {s:Int} {p:Pce} (h:1≤s∧s≤4) (h2:pceE p≠0):lksR s p=[]∧lksE s p=pceE p:=⟨if_neg fun x=>h2 x.2,if_pos h⟩
theorem lks_ok {s:Int} {p:Pce} (h:1≤s∧s≤4) (h2:pceE p=0):lksR s p=lksTo s p p.evs.length∧lksE s p=0:=⟨if_pos ⟨h,h2⟩,by rw [← h2];exact if_pos h⟩
theorem pLacks_FS (s:Int) (p:Pce) (hO:PcOk p):Ctr Tryz.prog 119 [.sc (.int .u8 s),ePce p] (.tu [.ls 3 ((lksR s p).map eLk),.sc (.int .i64 (lksE s p))]):=by
 refine Ctr.intro Tryz.func119 rfl Tryz.ntmps119 (Nat.le_of_ble_eq_true rfl) (bd_all rfl) fun w0 F0=>?_;dsimp only [St.init,number,Nat.reduceAdd]
 have hn3:=hO.n3
 repeat refine W.go rfl ?_
 refine (?_:WL _ _ _ _ _ _)
 dsimp only [St.put,Nat.reduceAdd]
 refine WL.vl rfl (WV.call rfl (callF Tryz.func44 rfl rfl) rfl rfl (of_FS s)) ?_
 repeat (first|refine W.go rfl ?_|refine WL.ev rfl ?_)
 refine (?_:W _ _ _ _ _)
 dsimp only [St.put,Nat.reduceAdd]
 (refine W.cond rfl (fun hif=>?_) (fun hif=>?_)<;>(try simp only [decide_eq_true_eq,decide_eq_false_iff_not,Int.not_lt,Int.not_le,Bool.not_eq_true',Bool.not_eq_false'] at hif))
 ·have hs:¬ (1≤s∧s≤4):=by simpa using hif
  rw [(lks_bad hs).1,(lks_bad hs).2]
  repeat refine W.go rfl ?_
  refine (?_:W _ _ _ _ _)
  refine W.tr (Tr.nilLs (t:=4) 3 rfl) ?_
  exact W.ret (fin2 rfl rfl rfl rfl rfl rfl rfl)
 have hs:1≤s∧s≤4:=by simpa using hif
 repeat refine W.go rfl ?_
 refine (?_:WL _ _ _ _ _ _)
 refine WL.vl rfl (WV.call rfl (callF Tryz.func45 rfl rfl) rfl rfl (pCheck_FS p hO)) ?_
 repeat (first|refine W.go rfl ?_|refine WL.ev rfl ?_)
 refine (?_:W _ _ _ _ _)
 dsimp only [St.put,Nat.reduceAdd]
 (refine W.cond rfl (fun hif=>?_) (fun hif=>?_)<;>(try simp only [decide_eq_true_eq,decide_eq_false_iff_not,Int.not_lt,Int.not_le,Bool.not_eq_true',Bool.not_eq_false'] at hif))
 ·have h0:pceE p≠0:=by simpa using hif
  rw [(lks_err hs h0).1,(lks_err hs h0).2]
  repeat refine W.go rfl ?_
  refine (?_:W _ _ _ _ _)
  dsimp only [St.put,Nat.reduceAdd]
  refine W.tr (Tr.nilLs (t:=4) 3 rfl) ?_
  exact W.ret (fin2 rfl rfl rfl rfl rfl rfl rfl)
 have h0:pceE p=0:=by simpa using hif
 rw [(lks_ok hs h0).1,(lks_ok hs h0).2]
 repeat (first|refine W.go rfl ?_|refine WL.ev rfl ?_|refine WL.len rfl rfl (by first|exact List.length_map _|exact List.length_replicate|rfl) ?_)
 refine (?_:W _ _ _ _ _)
 dsimp only [St.put,Nat.reduceAdd]
 refine W.tr (Tr.nil (t:=9) 262 3 rfl rfl) ?_
 refine W.loop (fun k:Nat=>k≤p.evs.length) (fun k=>⟨[(3,.pt 0 0 0),(6,.sc (sysV s)),(9,.sl 1),(25,.sc (.int .i64 p.evs.length)),(26,.sc (.int .i64 k))],[(0,.box 29 (ePce p).cells),(1,.row 262 3 ((lksTo s p k).map eLk))],2⟩) (fun k=>p.evs.length - k) 0 (by omega) (Tr.ren id (by repeat (first|exact trivial|refine ⟨⟨?_,?_⟩,?_⟩|rfl)) (by repeat (first|exact trivial|refine ⟨⟨?_,?_,?_⟩,?_⟩|rfl)) rfl) fun k hk=>?_
 repeat refine W.go rfl ?_
 refine (?_:W _ _ _ _ _)
 (refine W.cond rfl (fun hif=>?_) (fun hif=>?_)<;>(try simp only [decide_eq_true_eq,decide_eq_false_iff_not,Int.not_lt,Int.not_le,Bool.not_eq_true',Bool.not_eq_false'] at hif))
 ·have hk2:k < p.evs.length:=by omega
  have hl1:=lksTo_len s hO k hk
  have hl2:=lackE_len s p k p.evs[k] (hO.n4 k hk2)
  have hrow:(lksTo s p k).map eLk++(lackE s p k p.evs[k]).map eLk=(lksTo s p (k+1)).map eLk:=by rw [lksTo_at s p hk2,List.map_append]
  repeat refine W.go rfl ?_
  refine (?_:WL _ _ _ _ _ _)
  dsimp only [St.put,Nat.reduceAdd]
  refine WL.vl rfl (WV.call rfl (callF Tryz.func145 rfl rfl) rfl rfl (plack_FS s hs p k hk2 hO (stopsIn_of h0 k hk2))) ?_
  repeat (first|refine W.go rfl ?_|refine WL.ev rfl ?_|refine WL.ar rfl rfl (by unfold I64;omega) ?_|refine WL.app rfl rfl rfl (by first|omega|(simp;done)|(simp;omega)) ?_)
  dsimp only [St.put,Nat.reduceAdd]
  exact ⟨k+1,by omega,by omega,Tr.ren (fun q=>bif Nat.beq q 1 then 2 else q) (by repeat (first|exact trivial|refine ⟨⟨?_,?_⟩,?_⟩|rfl)) (by repeat (first|exact trivial|refine ⟨⟨?_,?_,?_⟩,?_⟩|exact congrArg (fun r=>some (AO.row _ _ r)) hrow|rfl)) rfl⟩
 ·have he:k=p.evs.length:=by omega
  subst he
  repeat refine W.go rfl ?_
  refine (?_:W _ _ _ _ _)
  dsimp only [St.put,Nat.reduceAdd]
  refine W.tr (Tr.freeze 1 rfl) ?_
  exact W.ret (fin2 rfl rfl rfl rfl rfl rfl rfl)
theorem pCan_FS (s:Int) (p:Pce) (hO:PcOk p):Ctr Tryz.prog 46 [.sc (.int .u8 s),ePce p] (.sc (.bool (lksE s p == 0 && ((lksR s p).length:Int) == 0))):=by
 refine Ctr.intro Tryz.func46 rfl Tryz.ntmps46 (Nat.le_of_ble_eq_true rfl) (bd_all rfl) fun w0 F0=>?_;dsimp only [St.init,number,Nat.reduceAdd]
 repeat refine W.go rfl ?_
 refine (?_:WL _ _ _ _ _ _)
 dsimp only [St.put,Nat.reduceAdd]
 refine WL.vl rfl (WV.call rfl (callF Tryz.func119 rfl rfl) rfl rfl (pLacks_FS s p hO)) ?_
 repeat (first|refine W.go rfl ?_|refine WL.ev rfl ?_)
 refine (?_:WL _ _ _ _ _ _)
 dsimp only [St.put,Nat.reduceAdd]
 have hl:(lksR s p).length≤27000:=by
  unfold lksR
  split
  ·exact lksTo_len s hO _ (Nat.le_refl _)
  ·simp
 refine WL.partG rfl rfl rfl rfl (fun hp=>?_) (fun hp=>?_)
 ·have e:lksE s p=0:=of_decide_eq_true hp
  repeat (first|refine WL.ev rfl ?_|refine WL.gyes rfl rfl rfl rfl ?_|refine WL.len rfl rfl (by first|exact List.length_map _|exact List.length_replicate|rfl) ?_)
  refine (?_:W _ _ _ _ _)
  dsimp only [St.put,Nat.reduceAdd]
  refine W.ret (fin1 rfl rfl (sc_bool ?_) rfl)
  rw [e];rfl
 ·have e:lksE s p≠0:=of_decide_eq_false hp
  repeat (first|refine WL.ev rfl ?_|refine WL.opno rfl rfl rfl rfl rfl rfl rfl ?_)
  refine (?_:W _ _ _ _ _)
  dsimp only [St.put,Nat.reduceAdd]
  refine W.ret (fin1 rfl rfl (sc_bool ?_) rfl)
  rw [show (lksE s p == 0)=false by simpa using e];rfl
end Go.Proofs.YtkgnmddakiagbaaGreatDoor
