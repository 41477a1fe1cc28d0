/- notation.Column, without its law. -/
import Derived.Test.YthohlofpphjofaaGreatDoorGZGq
set_option maxHeartbeats 4000000
set_option maxRecDepth 100000
set_option linter.unusedVariables false
set_option linter.unusedSimpArgs false
namespace Go.Proofs.YthohlofpphjofaaGreatDoor
theorem MV {p:Prop}(h:p:=by
 refine BJ ?_
 exact oO):p:=h
theorem MQ {p:Prop}(h:p:=by
 refine ak1 ?_
 exact oO):p:=h
theorem UM {p:Prop}(h:p:=by
 exact⟨this,by unfold JG;rw [this];rfl⟩):p:=h
theorem afr {p:Prop}(h:p:=by
 have:(jB s p).length≠0:=fun h=>hl (kU h)
 simp;omega):p:=h
section
open Go.RowKit
def La(s:Int):List UInt8:=if s=1 then [102,114,101,110,99,104]else if s=2 then [105,116,97,108,105,97,110]else if s=3 then [115,112,97,110,105,115,104]else [103,101,114,109,97,110]
def aa1(s:Int):FuncId:=if s=1 then 318 else if s=2 then 333 else if s=3 then 341 else 348
theorem Ee(s:Int):(La s).length≤7:=by unfold La;split<;>(try split)<;>(try split)<;>simp
theorem VH (s:Int) (hs:1≤s∧s≤4):Ctr Tryz.prog (aa1 s) [.ag []] (.sc (.string (bs (La s)))):=by
 rcases bI hs with rfl|rfl|rfl|rfl
 ·show Ctr Tryz.prog 318 _ _
  refine jc Tryz.func318 Tryz.ntmps318 fun w0 F0=>?_;dsimp only [St.init,number,Nat.reduceAdd]
  exact wE
 ·show Ctr Tryz.prog 333 _ _
  refine jc Tryz.func333 Tryz.ntmps333 fun w0 F0=>?_;dsimp only [St.init,number,Nat.reduceAdd]
  exact wE
 ·show Ctr Tryz.prog 341 _ _
  refine jc Tryz.func341 Tryz.ntmps341 fun w0 F0=>?_;dsimp only [St.init,number,Nat.reduceAdd]
  exact wE
 ·show Ctr Tryz.prog 348 _ _
  refine jc Tryz.func348 Tryz.ntmps348 fun w0 F0=>?_;dsimp only [St.init,number,Nat.reduceAdd]
  exact wE
def hdW(s:Int)(p:aN):List UInt8:=[116,97,98,108,97,116,117,114,101,32]++La s++[10]++fmA p.cs p.st++[10]
def afP(s:Int)(p:aN)(i:Nat):List UInt8:=(match p.evs[i]? with
 | some e=>colS s p i e
 | none=>[])++[10]
def qj(s:Int)(p:aN):Nat→List UInt8
 | 0=>[]
 | k+1=>qj s p k++afP s p k
def ZX(s:Int)(p:aN):Int:=if tq s p≠0 then tq s p else if jB s p=[]then 0 else 31
def MZ(s:Int)(p:aN):List UInt8:=if ZX s p=0 then hdW s p++qj s p p.evs.length else []
theorem JF {s:Int} {p:aN} {i:Nat} (h:i<p.evs.length):afP s p i=colS s p i p.evs[i]++[10]:=by unfold afP;rw [aB h]
theorem Ce {s:Int} (hs:1≤s∧s≤4) {p:aN} (hO:fH p) (h0:aO p=0) (i:Nat) (hi:i<p.evs.length):(colS s p i p.evs[i]).length≤1000000 :=
 (NW s hs p i p.evs[i] (tK ((fK h0).2.2 i hi)).1 (oh h0 i hi) (hO.n4 i hi)).2
theorem y7 {s:Int} (hs:1≤s∧s≤4) {p:aN} (hO:fH p)(h0:aO p=0):∀ k,k≤p.evs.length→(qj s p k).length≤1000001*k
 | 0,_=>by simp [qj]
 | k+1,h=>by
  have h1:=y7 hs hO h0 k aj
  have h2:=Ce hs hO h0 k aj
  unfold qj
  rw [JF (by omega)]
  exact Jv
theorem JW (cs:List (Int×Int×Bool))(st:List Int):(fmA cs st).length≤1200:=by
 unfold fmA
 split
 ·rename_i h
  have h1:=GU h cs.length
  have h2:=IL h st.length
  rw [fE]at h1 h2
  unfold Gf
  exact Jv
 ·simp
theorem nP {s:Int} {p:aN}:∀ k,k≤p.evs.length→oU s p k=[]→∀ i (h:i<k)(h2:i<p.evs.length),jO s p i p.evs[i]=[]
 | 0,_,_,i,h,_=>by omega
 | k+1,hk,hn,i,h,h2=>by
  rw [xY s p (by omega:k<p.evs.length)] at hn
  have:=List.append_eq_nil_iff.1 hn
  by_cases e:i=k
  ·subst e;exact this.2
  ·exact nP k aj this.1 i aj h2
theorem Lp {s:Int} {p:aN} (h:tq s p≠0):ZX s p=tq s p∧MZ s p=[]:=by
 have:ZX s p=tq s p:=if_pos h
 exact⟨this,by unfold MZ;rw [this,if_neg h]⟩
theorem ah7 {s:Int} {p:aN} (h:tq s p=0)(h2:jB s p≠[]):ZX s p=31∧MZ s p=[]:=by
 have:ZX s p=31:=by unfold ZX;rw [if_neg (fun k=>k h),if_neg h2]
 exact⟨this,by unfold MZ;rw [this];rfl⟩
theorem Qe {s:Int} {p:aN} (h:tq s p=0)(h2:jB s p=[]):ZX s p=0∧MZ s p=hdW s p++qj s p p.evs.length:=by
 have:ZX s p=0:=by unfold ZX;rw [if_neg (fun k=>k h),if_pos h2]
 exact⟨this,by unfold MZ;rw [this];rfl⟩
theorem abS (s:Int) (p:aN) (hO:fH p):Ctg qc Tryz.prog 14 [.sc (.int .u8 s),eF p] (.tu [.sc (.string (bs (MZ s p))),.sc (.int .i64 (ZX s p))]):=by
 have hn3:=hO.n3
 refine Ctg.intro jq Tryz.func14 rfl Tryz.ntmps14 (aP rfl) (aT rfl) fun w0 F0 hB=>?_;dsimp only [St.init,number,Nat.reduceAdd]
 refine aoo ?_
 refine WL.vl rfl (WV.call rfl (callF Tryz.func50 rfl rfl) rfl rfl (Ag s)) ?_
 by_cases hs:1≤s∧s≤4
 rotate_left
 ·have hE:=(BO (p:=p) hs).2
  rw [(Lp (by omega)).1,(Lp (by omega)).2,hE,dW hs]
  exact MV
 rw [fQ hs]
 refine BJ ?_
 refine WL.vl rfl (WV.call rfl (callF Tryz.func51 rfl rfl) rfl rfl (uZ p hO)) ?_
 by_cases h0:aO p=0
 rotate_left
 ·have hE:=(BP hs h0).2
  rw [(Lp (by omega)).1,(Lp (by omega)).2,hE]
  exact MV
 have hE:=(mQ hs h0).2
 have hR:=(mQ hs h0).1
 have hc:=BQ s p hO
 rw [hE] at hc
 rw [h0]
 refine BJ ?_
 by_cases hl:jB s p=[]
 rotate_left
 ·rw [(ah7 hE hl).1,(ah7 hE hl).2]
  have hb:((0:Int) == 0 && ((jB s p).length:Int) == 0)=false:=by
   exact afr
  rw [hb] at hc
  refine WL.vl rfl (bU Tryz.func19 hc) ?_
  exact MV
 rw [(Qe hE hl).1,(Qe hE hl).2]
 have hb:((0:Int) == 0 && ((jB s p).length:Int) == 0)=true:=by rw [hl];rfl
 rw [hb] at hc
 refine WL.vl rfl (bU Tryz.func19 hc) ?_
 refine BJ ?_
 have hF:=YT p.cs p.st
 have hins:gB p.cs p.st=0:=(fK h0).1
 rw [hins] at hF
 refine WL.vl rfl (WV.callG hB rfl (callF Tryz.func52 rfl rfl) rfl rfl hF) ?_
 refine BJ ?_
 first|refine W.tr (Tr.bld 1 5 rfl) ?_|refine WL.tr (Tr.bld 1 5 rfl) ?_
 dsimp only [St.upd]
 have hsl:=Ee s
 have hfl:=JW p.cs p.st
 have hhd:hdW s p=[116,97,98,108,97,116,117,114,101,32]++La s++[10]++fmA p.cs p.st++[10]:=rfl
 obtain ⟨sn,hsn⟩:∃ z,La s=z:=⟨_,rfl⟩
 obtain ⟨fm,hfm⟩:∃ z,fmA p.cs p.st=z:=⟨_,rfl⟩
 have hnm:=VH s hs
 rw [hsn] at hsl hhd hnm
 rw [hfm] at hfl hhd ⊢
 have hd1:([116,97,98,108,97,116,117,114,101,32]++sn).length≤17:=by simp only [bJ,bW,iC];omega
 have hd2:([116,97,98,108,97,116,117,114,101,32]++sn++[10]).length≤18:=by simp only [bJ,bW,iC];omega
 have hd3:([116,97,98,108,97,116,117,114,101,32]++sn++[10]++fm).length≤1218:=by simp only [bJ,bW,iC];omega
 have hd4:([116,97,98,108,97,116,117,114,101,32]++sn++[10]++fm++[10]).length≤1219:=by simp only [bJ,bW,iC];omega
 refine BJ ?_
 refine WL.vl rfl (WV.sys hs aa1 rfl rfl (fun vs w=>by kernel_rfl) (fun vs w=>by kernel_rfl) (fun vs w=>by kernel_rfl) (fun vs w=>by kernel_rfl) rfl rfl hnm) ?_
 refine BJ ?_
 rw [← hhd] at hd4 ⊢
 obtain ⟨hd,alX⟩:∃ z,hdW s p=z:=⟨_,rfl⟩
 rw [alX] at hd4 ⊢
 refine WL.bw rfl rfl rfl (callF Tryz.func53 rfl rfl) kJ (by simp only [iC];omega) (Qg _) ?_
 refine BJ ?_
 have hbl:=y7 hs hO h0
 have hnil:∀ i (h:i < p.evs.length),jO s p i p.evs[i]=[]:=fun i h=>nP p.evs.length (Nat.le_refl _) (by rw [← hR];exact hl) i h h
 refine W.loop (fun k:Nat=>k≤p.evs.length) (fun k=>⟨[(0,.sc (.int .u8 s)),(3,.pt 0 0 0),(6,.sc (aU s)),(11,.pt 1 0 0),(48,.sc (.int .i64 p.evs.length)),(49,.sc (.int .i64 k))],[(0,.box 30 (eF p).cells),(1,.bld 103 5 (hd++qj s p k))],2⟩) (fun k=>p.evs.length - k) 0 aj (mP (fun q=>q) (by repeat (first|exact trivial|refine ⟨⟨?_,?_,?_⟩,?_⟩|rfl|exact congrArg (fun q=>some (AO.row _ _ q)) (mG _).symm|exact congrArg (fun q=>some (AO.bld _ _ q)) (mG _).symm)) rfl) fun k hk=>?_
 have hbk:=hbl k hk
 by_cases hk2:k < p.evs.length
 ·have hcl:=Ce hs hO h0 k hk2
  have hrow:hd++qj s p k++(colS s p k p.evs[k]++[10])=hd++qj s p (k+1):=by
   rw [lD,← JF hk2];rfl
  have zk:=GR s hs p k hk2 hO h0
  obtain ⟨co,hco⟩:∃ z,colS s p k p.evs[k]=z:=⟨_,rfl⟩
  rw [hco] at hcl hrow zk
  have hln:(hd++qj s p k).length≤500000000:=by rw [bJ];omega
  have hcn:(co++[10]).length≤1000001:=by rw [bJ];simp only [bW,iC];omega
  refine BJ ?_
  refine WL.vl rfl (bU Tryz.func54 zk) ?_
  refine BJ ?_
  refine WL.bw rfl rfl rfl (callF Tryz.func53 rfl rfl) kJ aj hrow ?_
  refine BJ ?_
  exact U0
 have hke:k=p.evs.length:=by omega
 rw [hke]
 have hne:hd++qj s p p.evs.length≠[]:=by
  rw [← alX,hhd];simp
 refine BJ ?_
 refine WL.bs rfl rfl rfl (callF Tryz.func55 rfl rfl) uU hne ?_
 exact MV
def vF(s:Int)(p:aN)(z:Int):Int :=
 if ¬ (1≤s∧s≤4)then 30 else if aO p≠0 then aO p else if z<0 then 1 else
  match p.evs[z.toNat]? with
  | some e=>if jO s p z e=[]then 0 else 31
  | none=>1
def JG(s:Int)(p:aN)(z:Int):List UInt8 :=
 if vF s p z=0 then
  match p.evs[z.toNat]? with
  | some e=>colS s p z e
  | none=>[]
 else []
section
variable {s:Int} {p:aN} {z:Int}
theorem Ns(h:¬ (1≤s∧s≤4)):vF s p z=30∧JG s p z=[]:=by
 have:vF s p z=30:=if_pos h
 exact UM
theorem Nr (h:1≤s∧s≤4)(h1:aO p≠0):vF s p z=aO p∧JG s p z=[]:=by
 have:vF s p z=aO p:=by unfold vF;rw [if_neg (fun k=>k h),if_pos h1]
 exact⟨this,by unfold JG;rw [this,if_neg h1]⟩
theorem Nq (h:1≤s∧s≤4)(h1:¬ aO p≠0)(h2:z<0∨(p.evs.length:Int)≤z):vF s p z=1∧JG s p z=[]:=by
 have:vF s p z=1:=by
  unfold vF
  rw [if_neg (fun k=>k h),if_neg h1]
  by_cases h3:z<0
  ·rw [if_pos h3]
  ·rw [if_neg h3,TY (by omega)]
 exact UM
theorem U9 {i:Nat} (h:1≤s∧s≤4)(h1:¬ aO p≠0)(h2:i<p.evs.length)(h3:¬ jO s p i p.evs[i]=[]):vF s p i=31∧JG s p i=[]:=by
 have:vF s p i=31:=by
  unfold vF
  rw [if_neg (fun k=>k h),if_neg h1,if_neg (by omega),dB,aB h2]
  exact if_neg h3
 exact UM
theorem JI {i:Nat} (h:1≤s∧s≤4)(h1:¬ aO p≠0)(h2:i<p.evs.length)(h3:jO s p i p.evs[i]=[]):vF s p i=0∧JG s p i=colS s p i p.evs[i]:=by
 have:vF s p i=0:=by
  unfold vF
  rw [if_neg (fun k=>k h),if_neg h1,if_neg (by omega),dB,aB h2]
  exact if_pos h3
 exact⟨this,by unfold JG;rw [this,if_pos rfl,dB,aB h2]⟩
end
theorem SE (s:Int) (p:aN) (hO:fH p) (z:Int):Ctr Tryz.prog 118 [.sc (.int .u8 s),eF p,.sc (.int .i64 z)] (.tu [.sc (.string (bs (JG s p z))),.sc (.int .i64 (vF s p z))]):=by
 have hn3:=hO.n3
 refine jc Tryz.func118 Tryz.ntmps118 fun w0 F0=>?_;dsimp only [St.init,number,Nat.reduceAdd]
 refine ZL ?_
 refine WL.vl rfl (WV.call rfl (callF Tryz.func50 rfl rfl) rfl rfl (Ag s)) ?_
 refine ZL ?_
 (refine W.cond rfl (fun hif=>?_) (fun hif=>?_)<;>(try simp only [bD,bK,dM,dN,dn,dO] at hif))
 ·have hs:¬ (1≤s∧s≤4):=by simpa using hif
  rw [(Ns hs).1,(Ns hs).2]
  refine ZL ?_
  exact oO
 have hs:1≤s∧s≤4:=by simpa using hif
 refine ZL ?_
 refine WL.vl rfl (WV.call rfl (callF Tryz.func51 rfl rfl) rfl rfl (uZ p hO)) ?_
 refine ZL ?_
 (refine W.cond rfl (fun hif=>?_) (fun hif=>?_)<;>(try simp only [bD,bK,dM,dN,dn,dO] at hif))
 ·have h0:aO p≠0:=by simpa using hif
  rw [(Nr hs h0).1,(Nr hs h0).2]
  refine ZL ?_
  exact oO
 have h0:aO p=0:=by simpa using hif
 by_cases hz:z < 0∨(p.evs.length:Int)≤z
 ·rw [(Nq hs (fun h=>h h0) hz).1,(Nq hs (fun h=>h h0) hz).2]
  by_cases hz0:z < 0
  ·exact MQ
  ·exact MQ
 obtain ⟨i,rfl⟩:=dP (show 0≤z by omega)
 have hi:i < p.evs.length:=by omega
 have hll:=zo s p i p.evs[i] (hO.n4 i hi)
 refine ak1 ?_
 refine WL.vl rfl (WV.call rfl (callF Tryz.func114 rfl rfl) rfl rfl (Pz s hs p i hi hO (oh h0 i hi))) ?_
 by_cases hk:jO s p i p.evs[i]=[]
 ·rw [(JI hs (fun h=>h h0) hi hk).1,(JI hs (fun h=>h h0) hi hk).2,hk]
  refine ak1 ?_
  refine WL.vl rfl (WV.call rfl (callF Tryz.func54 rfl rfl) rfl rfl (GR s hs p i hi hO h0)) ?_
  exact MQ
 ·rw [(U9 hs (fun h=>h h0) hi hk).1,(U9 hs (fun h=>h h0) hi hk).2]
  have hpos:0 < (jO s p i p.evs[i]).length:=List.length_pos_iff.2 hk
  exact MQ
end
end Go.Proofs.YthohlofpphjofaaGreatDoor
