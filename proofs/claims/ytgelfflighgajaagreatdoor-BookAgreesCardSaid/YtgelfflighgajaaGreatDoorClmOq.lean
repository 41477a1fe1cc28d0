/- notation.Column, without its law. -/
import Derived.Test.YtgelfflighgajaaGreatDoorREeOq
import Derived.Test.YtgelfflighgajaaGreatDoorPlVOq
import Derived.Test.YtgelfflighgajaaGreatDoorEqEOq
import Derived.Test.YtgelfflighgajaaGreatDoorCoBOq
set_option maxHeartbeats 8000000
set_option maxRecDepth 100000
set_option linter.unusedVariables false
set_option linter.unusedSimpArgs false
namespace Go.Proofs.YtgelfflighgajaaGreatDoor
section
open Go.RowKit
def hd2(s i:Int)(e:Ev):List Lck:=if s=4∧e.val=0 then [(i,0,6)]else []
end
section
open Go.RowKit
structure En where
 t:List UInt8
 s:Int
 p:Pce
structure BkOk(b:List En):Prop where
 n:b.length≤70
 p:∀ k(h:k<b.length),PcOk b[k].p
 t:∀ k(h:k<b.length),b[k].t.length≤1000
end
section
open Go.RowKit
def ev0:Ev:=⟨false,0,false,false,false,[]⟩
def evG(l:List Ev)(z:Int):Ev:=l.getD z.toNat ev0
theorem prs_len' {a b:List Ev}:∀ (f i k:Nat),(prs a b f i k).length≤f
 | 0,i,k=>by simp [prs]
 | f+1,i,k=>by
  have h1:=prs_len' (a:=a) (b:=b) f (i+1) (k+1)
  have h2:=prs_len' (a:=a) (b:=b) f (i+1) k
  have h3:=prs_len' (a:=a) (b:=b) f i (k+1)
  unfold prs
  split
  ·simp only [List.length_cons];omega
  ·split
   ·simp only [List.length_cons];omega
   ·split
    ·simp only [List.length_cons];omega
    ·simp
end
section
open Go.RowKit
inductive Aln (a b:List Ev):Nat→Nat→List (Int×Int)→Prop
 | nil:Aln a b a.length b.length []
 | both (i k:Nat) (P:List (Int×Int)):i<a.length→k<b.length→Aln a b (i+1) (k+1) P→Aln a b i k (((i:Int),(k:Int))::P)
 | left (i k:Nat) (P:List (Int×Int)):i<a.length→Aln a b (i+1) k P→Aln a b i k (((i:Int),-1)::P)
 | right (i k:Nat) (P:List (Int×Int)):k<b.length→Aln a b i (k+1) P→Aln a b i k ((-1,(k:Int))::P)
theorem prs_aln {a b:List Ev}:∀ (f i k:Nat),i≤a.length→k≤b.length→a.length-i+(b.length-k)≤f→Aln a b i k (prs a b f i k)
 | 0,i,k,hi,hk,h=>by
  obtain rfl:i=a.length:=by omega
  obtain rfl:k=b.length:=by omega
  exact .nil
 | f+1,i,k,hi,hk,h=>by
  unfold prs
  by_cases h1:i<a.length∧k<b.length∧csA a b i k=dsA a b i k+csA a b (i+1) (k+1)
  ·rw [if_pos h1]
   exact .both i k _ h1.1 h1.2.1 (prs_aln f (i+1) (k+1) zqo zqo zqo)
  ·rw [if_neg h1]
   by_cases h2:i<a.length∧csA a b i k=alA a i+csA a b (i+1) k
   ·rw [if_pos h2]
    exact .left i k _ h2.1 (prs_aln f (i+1) k zqo hk zqo)
   ·rw [if_neg h2]
    by_cases h3:k<b.length
    ·rw [if_pos h3]
     exact .right i k _ h3 (prs_aln f i (k+1) hi zqo zqo)
    ·rw [if_neg h3]
     obtain rfl:k=b.length:=by omega
     have hi2:i=a.length:=by
      by_cases h4:i<a.length
      ·exact absurd ⟨h4,by rw [alA_at h4];exact csA_l h4⟩ h2
      ·omega
     rw [hi2];exact .nil
theorem evG_get {l:List Ev} {k:Nat} (h:k<l.length):evG l (k:Int)=l[k]:=by
 unfold evG
 rw [Int.toNat_natCast,List.getD_eq_getElem?_getD,List.getElem?_eq_getElem h];rfl
end
section
open Go.RowKit
theorem pcOk_of2 {p:Pce} (h:bigB p=false):PcOk p:=by
 unfold bigB at h
 simp only [Bool.or_eq_false_iff,decide_eq_false_iff_not,List.any_eq_false]at h
 obtain⟨h1,h2,h3,h4⟩:=h
 refine⟨by omega,by omega,by omega,fun k hk=>?_⟩
 have:=h4 _ (List.getElem_mem hk)
 simp at this
 exact this
theorem big_FS (p:Pce):Ctr Tryz.prog 49 [ePce p] (.sc (.bool (bigB p))) :=
 Ctr.of_pc (pre:=[]) (post:=[]) rfl rfl (fun _=>.sc _) fun w M hM=>big_any M p w hM
end
section
open Go.RowKit
def snmT(s:Int):List UInt8:=if s=1 then [102,114,101,110,99,104]else if s=2 then [105,116,97,108,105,97,110]else if s=3 then [115,112,97,110,105,115,104]else [103,101,114,109,97,110]
def nameF(s:Int):FuncId:=if s=1 then 277 else if s=2 then 287 else if s=3 then 295 else 302
theorem name_FS (s:Int) (hs:1≤s∧s≤4):Ctr Tryz.prog (nameF s) [.ag []] (.sc (.string (bs (snmT s)))):=by
 rcases sys_cases hs with rfl|rfl|rfl|rfl
 ·show Ctr Tryz.prog 277 _ _
  refine zqe Tryz.func277 Tryz.ntmps277 fun w0 F0=>?_;dsimp only [St.init,number,Nat.reduceAdd]
  repeat refine W.go rfl ?_
  refine (?_:W _ _ _ _ _)
  exact W.ret zqr
 ·show Ctr Tryz.prog 287 _ _
  refine zqe Tryz.func287 Tryz.ntmps287 fun w0 F0=>?_;dsimp only [St.init,number,Nat.reduceAdd]
  repeat refine W.go rfl ?_
  refine (?_:W _ _ _ _ _)
  exact W.ret zqr
 ·show Ctr Tryz.prog 295 _ _
  refine zqe Tryz.func295 Tryz.ntmps295 fun w0 F0=>?_;dsimp only [St.init,number,Nat.reduceAdd]
  repeat refine W.go rfl ?_
  refine (?_:W _ _ _ _ _)
  exact W.ret zqr
 ·show Ctr Tryz.prog 302 _ _
  refine zqe Tryz.func302 Tryz.ntmps302 fun w0 F0=>?_;dsimp only [St.init,number,Nat.reduceAdd]
  repeat refine W.go rfl ?_
  refine (?_:W _ _ _ _ _)
  exact W.ret zqr
theorem colS_len {s:Int} (hs:1≤s∧s≤4) {p:Pce} (hO:PcOk p) (h0:pceE p=0) (i:Nat) (hi:i<p.evs.length):(colS s p i p.evs[i]).length≤1000000 :=
 (joinW_bd s hs p i p.evs[i] (evE_zero ((pceE_zero h0).2.2 i hi)).1 (stopsIn_of h0 i hi) (hO.n4 i hi)).2
theorem lksTo_none {s:Int} {p:Pce}:∀ k,k≤p.evs.length→lksTo s p k=[]→∀ i (h:i<k)(h2:i<p.evs.length),lackE s p i p.evs[i]=[]
 | 0,_,_,i,h,_=>by omega
 | k+1,hk,hn,i,h,h2=>by
  rw [lksTo_at s p (by omega:k<p.evs.length)] at hn
  have:=List.append_eq_nil_iff.1 hn
  by_cases e:i=k
  ·subst e;exact this.2
  ·exact lksTo_none k zqo this.1 i zqo h2
end
section
open Go.RowKit
def colX(s:Int)(p:Pce)(z:Int):Int :=
 if ¬ (1≤s∧s≤4)then 30 else if pceE p≠0 then pceE p else if z<0 then 1 else
  match p.evs[z.toNat]? with
  | some e=>if lackE s p z e=[]then 0 else 31
  | none=>1
def colT(s:Int)(p:Pce)(z:Int):List UInt8 :=
 if colX s p z=0 then
  match p.evs[z.toNat]? with
  | some e=>colS s p z e
  | none=>[]
 else []
section
variable {s:Int} {p:Pce} {z:Int}
theorem colX_sys(h:¬ (1≤s∧s≤4)):colX s p z=30∧colT s p z=[]:=by
 have:colX s p z=30:=if_pos h
 exact⟨this,by unfold colT;rw [this];rfl⟩
theorem colX_pce (h:1≤s∧s≤4)(h1:pceE p≠0):colX s p z=pceE p∧colT s p z=[]:=by
 have:colX s p z=pceE p:=by unfold colX;rw [if_neg (fun k=>k h),if_pos h1]
 exact⟨this,by unfold colT;rw [this,if_neg h1]⟩
theorem colX_arg (h:1≤s∧s≤4)(h1:¬ pceE p≠0)(h2:z<0∨(p.evs.length:Int)≤z):colX s p z=1∧colT s p z=[]:=by
 have:colX s p z=1:=by
  unfold colX
  rw [if_neg (fun k=>k h),if_neg h1]
  by_cases h3:z<0
  ·rw [if_pos h3]
  ·rw [if_neg h3,List.getElem?_eq_none (by omega)]
 exact⟨this,by unfold colT;rw [this];rfl⟩
theorem colX_no {i:Nat} (h:1≤s∧s≤4)(h1:¬ pceE p≠0)(h2:i<p.evs.length)(h3:¬ lackE s p i p.evs[i]=[]):colX s p i=31∧colT s p i=[]:=by
 have:colX s p i=31:=by
  unfold colX
  rw [if_neg (fun k=>k h),if_neg h1,if_neg (by omega),Int.toNat_natCast,List.getElem?_eq_getElem h2]
  exact if_neg h3
 exact⟨this,by unfold colT;rw [this];rfl⟩
theorem colX_ok {i:Nat} (h:1≤s∧s≤4)(h1:¬ pceE p≠0)(h2:i<p.evs.length)(h3:lackE s p i p.evs[i]=[]):colX s p i=0∧colT s p i=colS s p i p.evs[i]:=by
 have:colX s p i=0:=by
  unfold colX
  rw [if_neg (fun k=>k h),if_neg h1,if_neg (by omega),Int.toNat_natCast,List.getElem?_eq_getElem h2]
  exact if_pos h3
 exact⟨this,by unfold colT;rw [this,if_pos rfl,Int.toNat_natCast,List.getElem?_eq_getElem h2]⟩
end
theorem pColumn_FS (s:Int) (p:Pce) (hO:PcOk p) (z:Int):Ctr Tryz.prog 115 [.sc (.int .u8 s),ePce p,.sc (.int .i64 z)] (.tu [.sc (.string (bs (colT s p z))),.sc (.int .i64 (colX s p z))]):=by
 have hn3:=hO.n3
 refine zqe Tryz.func115 Tryz.ntmps115 fun w0 F0=>?_;dsimp only [St.init,number,Nat.reduceAdd]
 repeat refine W.go rfl ?_
 refine (?_:WL _ _ _ _ _ _)
 refine WL.vl rfl (WV.call rfl (callF Tryz.func122 rfl rfl) rfl rfl (of_FS s)) ?_
 repeat (first|refine W.go rfl ?_|refine WL.ev rfl ?_)
 refine (?_:W _ _ _ _ _)
 (refine W.cond rfl (fun hif=>?_) (fun hif=>?_)<;>(try simp only [decide_eq_true_eq,decide_eq_false_iff_not,Int.not_lt,Int.not_le,Bool.not_eq_true',Bool.not_eq_false'] at hif))
 ·have hs:¬ (1≤s∧s≤4):=by simpa using hif
  rw [(colX_sys hs).1,(colX_sys hs).2]
  repeat refine W.go rfl ?_
  refine (?_:W _ _ _ _ _)
  exact W.ret (fin2 rfl rfl rfl rfl rfl rfl rfl)
 have hs:1≤s∧s≤4:=by simpa using hif
 repeat refine W.go rfl ?_
 refine (?_:WL _ _ _ _ _ _)
 refine WL.vl rfl (WV.call rfl (callF Tryz.func52 rfl rfl) rfl rfl (pCheck_FS p hO)) ?_
 repeat (first|refine W.go rfl ?_|refine WL.ev rfl ?_)
 refine (?_:W _ _ _ _ _)
 (refine W.cond rfl (fun hif=>?_) (fun hif=>?_)<;>(try simp only [decide_eq_true_eq,decide_eq_false_iff_not,Int.not_lt,Int.not_le,Bool.not_eq_true',Bool.not_eq_false'] at hif))
 ·have h0:pceE p≠0:=by simpa using hif
  rw [(colX_pce hs h0).1,(colX_pce hs h0).2]
  repeat refine W.go rfl ?_
  refine (?_:W _ _ _ _ _)
  exact W.ret (fin2 rfl rfl rfl rfl rfl rfl rfl)
 have h0:pceE p=0:=by simpa using hif
 by_cases hz:z < 0∨(p.evs.length:Int)≤z
 ·rw [(colX_arg hs (fun h=>h h0) hz).1,(colX_arg hs (fun h=>h h0) hz).2]
  by_cases hz0:z < 0
  ·repeat (first|refine W.gob rfl ?_|refine WL.nil ?_|refine WL.bt rfl rfl rfl zqo ?_|refine WL.e1 rfl ?_|refine WL.opno rfl rfl rfl rfl rfl rfl rfl ?_|refine W.condT rfl ?_)
   refine (?_:W _ _ _ _ _)
   exact W.ret (fin2 rfl rfl rfl rfl rfl rfl rfl)
  ·repeat (first|refine W.gob rfl ?_|refine WL.nil ?_|refine WL.bt rfl rfl rfl zqo ?_|refine WL.bf rfl rfl rfl zqo ?_|refine WL.e1 rfl ?_|refine WL.gyes rfl rfl rfl rfl ?_|refine WL.len rfl rfl zql ?_|refine W.condT rfl ?_)
   refine (?_:W _ _ _ _ _)
   exact W.ret (fin2 rfl rfl rfl rfl rfl rfl rfl)
 obtain ⟨i,rfl⟩:=Int.eq_ofNat_of_zero_le (show 0≤z by omega)
 have hi:i < p.evs.length:=by omega
 have hll:=lackE_len s p i p.evs[i] (hO.n4 i hi)
 repeat (first|refine W.gob rfl ?_|refine WL.nil ?_|refine WL.bf rfl rfl rfl zqo ?_|refine WL.e1 rfl ?_|refine WL.gyes rfl rfl rfl rfl ?_|refine WL.len rfl rfl zql ?_|refine W.condF rfl ?_)
 refine (?_:WL _ _ _ _ _ _)
 refine WL.vl rfl (WV.call rfl (callF Tryz.func175 rfl rfl) rfl rfl (plack_FS s hs p i hi hO (stopsIn_of h0 i hi))) ?_
 by_cases hk:lackE s p i p.evs[i]=[]
 ·rw [(colX_ok hs (fun h=>h h0) hi hk).1,(colX_ok hs (fun h=>h h0) hi hk).2,hk]
  repeat (first|refine W.gob rfl ?_|refine WL.nil ?_|refine WL.e1 rfl ?_|refine WL.len rfl rfl zql ?_|refine W.condF rfl ?_)
  refine (?_:WL _ _ _ _ _ _)
  refine WL.vl rfl (WV.call rfl (callF Tryz.func124 rfl rfl) rfl rfl (column_FS s hs p i hi hO h0)) ?_
  repeat (first|refine WL.nil ?_|refine WL.e1 rfl ?_)
  refine (?_:W _ _ _ _ _)
  exact W.ret (fin2 rfl rfl rfl rfl rfl rfl rfl)
 ·rw [(colX_no hs (fun h=>h h0) hi hk).1,(colX_no hs (fun h=>h h0) hi hk).2]
  have hpos:0 < (lackE s p i p.evs[i]).length:=List.length_pos_iff.2 hk
  repeat (first|refine W.gob rfl ?_|refine WL.nil ?_|refine WL.bt rfl rfl rfl zqo ?_|refine WL.e1 rfl ?_|refine WL.len rfl rfl zql ?_|refine W.condT rfl ?_)
  refine (?_:W _ _ _ _ _)
  exact W.ret (fin2 rfl rfl rfl rfl rfl rfl rfl)
end
end Go.Proofs.YtgelfflighgajaaGreatDoor
