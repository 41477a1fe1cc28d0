/- The melody of a piece, and how it begins: the plain part. -/
import Derived.Test.YtgelfflighgajaaGreatDoorNtQTq
set_option maxHeartbeats 8000000
set_option maxRecDepth 100000
set_option linter.unusedVariables false
set_option linter.unusedSimpArgs false
namespace Go.Proofs.YtgelfflighgajaaGreatDoor
open Go.RowKit
inductive Aln (a b:List Ev):Nat→Nat→List (Int×Int)→Prop
 | nil:Aln a b a.length b.length []
 | both (i k:Nat) (P:List (Int×Int)):i<a.length→k<b.length→Aln a b (i+1) (k+1) P→Aln a b i k (((i:Int),(k:Int))::P)
 | left (i k:Nat) (P:List (Int×Int)):i<a.length→Aln a b (i+1) k P→Aln a b i k (((i:Int),-1)::P)
 | right (i k:Nat) (P:List (Int×Int)):k<b.length→Aln a b i (k+1) P→Aln a b i k ((-1,(k:Int))::P)
theorem prs_aln {a b:List Ev}:∀ (f i k:Nat),i≤a.length→k≤b.length→a.length-i+(b.length-k)≤f→Aln a b i k (prs a b f i k)
 | 0,i,k,hi,hk,h=>by
  obtain rfl:i=a.length:=by omega
  obtain rfl:k=b.length:=by omega
  exact .nil
 | f+1,i,k,hi,hk,h=>by
  unfold prs
  by_cases h1:i<a.length∧k<b.length∧csA a b i k=dsA a b i k+csA a b (i+1) (k+1)
  ·rw [if_pos h1]
   exact .both i k _ h1.1 h1.2.1 (prs_aln f (i+1) (k+1) (by omega) (by omega) (by omega))
  ·rw [if_neg h1]
   by_cases h2:i<a.length∧csA a b i k=alA a i+csA a b (i+1) k
   ·rw [if_pos h2]
    exact .left i k _ h2.1 (prs_aln f (i+1) k (by omega) hk (by omega))
   ·rw [if_neg h2]
    by_cases h3:k<b.length
    ·rw [if_pos h3]
     exact .right i k _ h3 (prs_aln f i (k+1) hi (by omega) (by omega))
    ·rw [if_neg h3]
     obtain rfl:k=b.length:=by omega
     have hi2:i=a.length:=by
      by_cases h4:i<a.length
      ·exact absurd ⟨h4,by rw [alA_at h4];exact csA_l h4⟩ h2
      ·omega
     rw [hi2];exact .nil
theorem evG_get {l:List Ev} {k:Nat} (h:k<l.length):evG l (k:Int)=l[k]:=by
 unfold evG
 rw [Int.toNat_natCast,List.getD_eq_getElem?_getD,List.getElem?_eq_getElem h];rfl
theorem extN_self(l:List Stp):extN l l=0:=by
 unfold extN
 rw [List.length_eq_zero_iff,List.filter_eq_nil_iff]
 intro s hs
 have:hasP l s=true:=List.any_eq_true.2 ⟨s,hs,by simp [ple]⟩
 simp [this]
theorem dstE_self(e:Ev):dstE e e=0:=by
 unfold dstE
 rw [extN_self,if_pos rfl,if_pos rfl];rfl
theorem cst_self:∀ l:List Ev,cst l l=0
 | []=>rfl
 | x::r=>by
  have h1:=cst_nn (x::r) (x::r)
  have h2:=cst_self r
  have h3:=dstE_self x
  have h4:cst (x::r) (x::r)=min (min (dstE x x+cst r r) (alnE x+cst r (x::r))) (alnE x+csI x (cst r) r):=rfl
  rw [h4] at h1 ⊢
  omega
theorem csA_self(a:List Ev)(i:Nat):csA a a i i=0:=cst_self _
end Go.Proofs.YtgelfflighgajaaGreatDoor
namespace Go.Proofs.YtgelfflighgajaaGreatDoor
open Go.RowKit
def eNt (x:Nt):List AV:=[.sc (.int .i64 x.1),.sc (.int .i64 x.2.1),.sc (.int .i64 x.2.2.1),.sc (.int .i64 x.2.2.2.1),.sc (.int .i64 x.2.2.2.2)]
def eRing (r:List Int):List AV:=(List.range 15).map fun c=>.sc (.int .i64 (r.getD c 0))
theorem eRing_at {r:List Int} {c:Nat} (h:c<15):(eRing r)[c]?=some (.sc (.int .i64 (r.getD c 0))):=by
 unfold eRing
 rw [List.getElem?_map,List.getElem?_range h];rfl
theorem eRing_len(r:List Int):(eRing r).length=15:=by unfold eRing;simp
theorem eRing_set {r:List Int} {c:Nat} {v:Int} (hc:c<r.length):(eRing r).set c (.sc (.int .i64 v))=eRing (r.set c v):=by
 unfold eRing
 apply List.ext_getElem (by simp)
 intro i h1 h2
 have hi:i<15:=by simpa using h2
 rw [List.getElem_set]
 simp only [List.getElem_map,List.getElem_range,List.getD_eq_getElem?_getD,List.getElem?_set]
 by_cases e:c=i
 ·subst e;simp [hc]
 ·simp [e]
theorem eNt_set {l:List Nt} {k:Nat} {n:Nt} (t:Int)(h:l[k]?=some n):(l.map eNt).set k (putL 4 [.sc (.int .i64 t)] (eNt n))=(setTo l k t).map eNt:=by
 unfold setTo
 rw [h]
 simp only [List.map_set]
 rfl
structure NsOk(s:NS):Prop where
 len:s.ring.length=15
 rng:∀ c,0≤s.ring.getD c 0∧s.ring.getD c 0≤s.out.length
 big:s.out.length≤10000
theorem setTo_len(l:List Nt)(k:Nat)(t:Int):(setTo l k t).length=l.length:=by unfold setTo;split<;>simp
theorem stopN_ok {s:NS} (h:NsOk s)(c:Nat)(t:Int):NsOk (stopN c t s)∧(stopN c t s).out.length=s.out.length:=by
 unfold stopN
 split
 ·refine⟨⟨by simpa using h.len,fun q=>?_,by rw [setTo_len];exact h.big⟩,setTo_len _ _ _⟩
  have:=h.rng q
  simp only [setTo_len,List.getD_eq_getElem?_getD]at this ⊢
  by_cases e:c=q
  ·subst e
   by_cases hq:c<s.ring.length
   ·rw [List.getElem?_set_self hq];simp
   ·rw [List.getElem?_eq_none (by simpa using hq)];simp
  ·rw [List.getElem?_set_ne e];exact this
 ·exact⟨h,rfl⟩
theorem finMn {P:Program} {C:Cx} {σ:St} {fn:Func} {avs:List AV} {res:AV} {M':List (Nat×AO)} {nk':Nat} (h:resL P σ fn.results.toList=some avs)(hp:avs.all (fun av=>!ownB av)=true)(e:resT avs=res)(hM:σ.M=M')(hk:σ.nk=nk'):QFinM P fn C res M' nk' .normal σ :=
 ⟨.inl rfl,(finM h hp e hM hk).2⟩
theorem stop_FS (c:Nat) (t:Int) (s:NS) (hc:c < 15) (h:NsOk s) :
  Cto truB 0 Tryz.prog 230 [.sc (.int .i64 c),.sc (.int .i64 t),.pt 0 0 0,.pt 1 0 0]
   [(0,.box 328 (eRing s.ring)),(1,.box 227 [.sl 2]),(2,.row 233 5 (s.out.map eNt))] 3 (.tu [])
   [(0,.box 328 (eRing (stopN c t s).ring)),(1,.box 227 [.sl 2]),(2,.row 233 5 ((stopN c t s).out.map eNt))] 3:=by
 have hl:=eRing_len s.ring
 have hrg:=h.rng c
 have hlen:=h.len
 have hbig:=h.big
 have hat:=eRing_at (r:=s.ring) hc
 have hs0:stopN c t s=if 0 < s.ring.getD c 0 then ⟨setTo s.out (s.ring.getD c 0 - 1).toNat t,s.ring.set c 0⟩ else s:=rfl
 obtain ⟨r,hr⟩:∃ r,s.ring.getD c 0=r:=⟨_,rfl⟩
 rw [hr] at hat hrg hs0
 refine Cto.intro truS Tryz.func230 rfl Tryz.ntmps230 (Nat.le_of_ble_eq_true rfl) rfl fun w0 F0 fp pg hB=>?_
 dsimp only [number,Nat.reduceAdd]
 repeat refine W.go rfl ?_
 refine (?_:WL _ _ _ _ _ _)
 refine WL.idp rfl rfl ⟨by omega,by omega⟩ (show 0+((c:Nat):Int).toNat*1=c by simp) ?_
 refine WL.ldx rfl rfl hat rfl ?_
 repeat (first|refine W.go rfl ?_|refine WL.ev rfl ?_)
 refine (?_:W _ _ _ _ _)
 (refine W.cond rfl (fun hif=>?_) (fun hif=>?_)<;>(try simp only [decide_eq_true_eq,decide_eq_false_iff_not,Int.not_lt,Int.not_le,Bool.not_eq_true',Bool.not_eq_false'] at hif))
 ·rw [if_pos hif] at hs0
  rw [hs0]
  have hk:(r - 1).toNat < s.out.length:=by omega
  have hn:=List.getElem?_eq_getElem hk
  have hrr:(s.out.map eNt)[(r - 1).toNat]?=some (eNt s.out[(r - 1).toNat]):=by rw [List.getElem?_map,hn];rfl
  repeat (first|refine W.gob rfl ?_|refine WL.e1 rfl ?_|refine WL.ar rfl rfl (by unfold I64;omega) ?_|refine WL.ixs rfl rfl (by first|omega|(simp;done)|(simp;omega)) ?_)
  refine (?_:WL _ _ _ _ _ _)
  refine WL.sto rfl rfl rfl rfl hrr (by show 4+1≤5;omega) ?_
  repeat (first|refine W.gob rfl ?_|refine WL.nil ?_|refine WL.e1 rfl ?_)
  refine (?_:WL _ _ _ _ _ _)
  refine WL.idp rfl rfl ⟨by omega,by omega⟩ (show 0+((c:Nat):Int).toNat*1=c by simp) ?_
  refine WL.stx rfl rfl rfl rfl (by rw [hl];exact hc) ?_
  rw [eRing_set (by omega)]
  dsimp only
  refine WL.tr (σ':=⟨[],[(0,.box 328 (eRing (s.ring.set c 0))),(1,.box 227 [.sl 2]),(2,.row 233 5 ((setTo s.out (r - 1).toNat t).map eNt))],3⟩) (Tr.ren (fun q=>q) (by repeat (first|exact trivial|refine ⟨⟨?_,?_⟩,?_⟩|rfl)) (by repeat (first|exact trivial|refine ⟨⟨?_,?_,?_⟩,?_⟩|rfl|exact congrArg (fun q=>some (AO.row _ _ q)) (eNt_set t hn))) rfl) ?_
  repeat refine WL.nil ?_
  exact finMn rfl rfl rfl rfl rfl
 ·rw [if_neg (by omega)] at hs0
  rw [hs0]
  repeat refine W.go rfl ?_
  exact finMn rfl rfl rfl rfl rfl
end Go.Proofs.YtgelfflighgajaaGreatDoor
namespace Go.Proofs.YtgelfflighgajaaGreatDoor
open Go.RowKit
def upP(n q:Int):Int:=if n<0∨n<q then q else n
def maxP (p:Pce)(l:List Stp)(n:Int):Int:=l.foldl (fun n x=>upP n (pitN p.cs p.st x.1 x.2.1)) n
def melR (p:Pce):List Int:=p.evs.map fun e=>maxP p e.stops (-1)
def melS (out:List Int)(n:Nt):List Int:=out.set n.1.toNat (upP (out.getD n.1.toNat 0) n.2.2.1)
theorem melS_length(l:List Nt):∀ out,(l.foldl melS out).length=out.length:=by
 induction l with
 | nil=>intro out;rfl
 | cons n r ih=>intro out;rw [List.foldl_cons,ih];simp [melS]
theorem melS_event (p:Pce) (k:Nat):∀ (l:List Stp) (out:List Int) (v:Int),out[k]?=some v→(l.map (noteR p k)).foldl melS out=out.set k (maxP p l v):=by
 intro l
 induction l with
 | nil =>
  intro out v h
  apply List.ext_getElem?
  intro i
  rw [List.getElem?_set]
  by_cases e:k=i
  ·subst e
   have hlt:=(List.getElem?_eq_some_iff.1 h).1
   rw [List.getElem?_eq_getElem hlt]at h
   simp [maxP,hlt,Option.some.inj h]
  ·simp [e]
 | cons x r ih =>
  intro out v h
  have hlt:=(List.getElem?_eq_some_iff.1 h).1
  rw [List.map_cons,List.foldl_cons]
  have e1:melS out (noteR p k x)=out.set k (upP v (pitN p.cs p.st x.1 x.2.1)):=by
   unfold melS noteR valN
   simp [h]
  rw [e1,ih _ (upP v (pitN p.cs p.st x.1 x.2.1)) (by simp [hlt])]
  rw [List.set_set];rfl
theorem mel_notes (p:Pce):∀ m,m≤p.evs.length→(notesR p m).foldl melS (List.replicate p.evs.length (-1))=((p.evs.take m).map fun e=>maxP p e.stops (-1))++List.replicate (p.evs.length-m) (-1):=by
 intro m
 induction m with
 | zero=>intro _;simp [notesR]
 | succ m ih =>
  intro hm
  have hm':m<p.evs.length:=by omega
  have e1:notesR p (m+1)=notesR p m++p.evs[m].stops.map (noteR p m):=by
   show (match p.evs[m]? with|some e=>_|none=>_)=_
   rw [List.getElem?_eq_getElem hm']
  rw [e1,List.foldl_append,ih (by omega),melS_event p m p.evs[m].stops _ (-1) ?_]
  ·rw [List.take_succ_eq_append_getElem hm',List.map_append,List.set_append_right _ _ (by simp;omega)]
   have:m-((p.evs.take m).map fun e=>maxP p e.stops (-1)).length=0:=by simp;omega
   rw [this,show p.evs.length-m=(p.evs.length-(m+1))+1 by omega,List.replicate_succ]
   simp
  ·rw [List.getElem?_append_right (by simp;omega)]
   have:m-((p.evs.take m).map fun e=>maxP p e.stops (-1)).length=0:=by simp;omega
   rw [this,List.getElem?_replicate,if_pos (by omega)]
theorem mel_all (p:Pce):(notesR p p.evs.length).foldl melS (List.replicate p.evs.length (-1))=melR p:=by
 rw [mel_notes p _ (Nat.le_refl _)];simp [melR]
def difs:List Int→List Int
 | x::y::r=>(y-x)::difs (y::r)
 | _=>[]
theorem difs_length:∀ l,(difs l).length=l.length-1
 | []=>rfl
 | [x]=>rfl
 | x::y::r=>by
  have:=difs_length (y::r)
  simp only [difs,List.length_cons]at this ⊢
  omega
theorem difs_at:∀ (l:List Int)(i:Nat)(h:i+1<l.length),(difs l)[i]?=some (l[i+1]-l[i])
 | [],i,h=>by simp at h
 | [x],i,h=>by simp at h
 | x::y::r,0,h=>rfl
 | x::y::r,i+1,h=>by
  have:=difs_at (y::r) i (by simpa using h)
  simpa [difs] using this
theorem difs_take {l:List Int} {i:Nat} (h:i+1<l.length):(difs l).take (i+1)=(difs l).take i++[l[i+1]-l[i]]:=by
 have h1:=difs_at l i h
 have hlt:=(List.getElem?_eq_some_iff.1 h1).1
 rw [List.take_succ_eq_append_getElem hlt]
 rw [List.getElem?_eq_getElem hlt]at h1
 rw [Option.some.inj h1]
def sungR (p:Pce):List Int:=(melR p).filter fun x=>!decide (x<0)
def incR (p:Pce)(n:Int):List Int:=(difs (sungR p)).take n.toNat
end Go.Proofs.YtgelfflighgajaaGreatDoor
