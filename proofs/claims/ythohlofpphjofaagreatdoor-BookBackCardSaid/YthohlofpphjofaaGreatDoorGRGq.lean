/- A walk that knows values as trees: an interface compared with nil, a difference of bytes, a call with several answers. -/
import Derived.Test.YthohlofpphjofaaGreatDoorK2Gq
import Derived.Test.YthohlofpphjofaaGreatDoorNr4Gq
import Derived.Test.YthohlofpphjofaaGreatDoorInjGq
import Derived.Lib.ByteType
set_option maxHeartbeats 4000000
set_option maxRecDepth 100000
set_option linter.unusedVariables false
set_option linter.unusedSimpArgs false
namespace Go.Proofs.YthohlofpphjofaaGreatDoor
theorem BK {p:Prop}(h:p:=by repeat (first|exact trivial|refine ⟨⟨?_,?_,?_⟩,?_⟩|rfl|exact congrArg (fun q=>some (AO.row _ _ q)) (by first|rfl|(simp;done)|(simp [eInt];done)|(simp [uV];done)))):p:=h
section
variable {p:Prop}
theorem aeJ(h:p:=by
 by_cases hr:0≤12*(o+1)+b+al∧12*(o+1)+b+al≤127
 ·have hok:gX l al o=true:=by rw [hin,hv];simpa using hr
  rw [hR hok,(mW hok).2]
  refine Ut ?_
  exact oO
 ·exact amU):p:=h
theorem aem(h:p:=by
 rename_i h;obtain⟨a,b⟩:=yA h;exact⟨1,by omega,rfl,a,b⟩):p:=h
theorem ael(h:p:=by
 rename_i h;obtain⟨a,b⟩:=yA h;exact⟨2,by omega,rfl,a,b⟩):p:=h
theorem aek(h:p:=by
 rename_i h;obtain⟨a,b⟩:=yA h;exact⟨3,by omega,rfl,a,b⟩):p:=h
theorem UJ(h:p:=by
 have:=CO hk
 rw [← this];congr 1;omega):p:=h
theorem Xe(h:p:=by
 refine iQ ?_
 exact ⟨k+1,by omega,by omega,(zqt id)⟩):p:=h
theorem ai3(h:p:=by
 have hno:=Zl (l:=l) (al:=al) (o:=o) (by unfold qH;omega)
 rw [(pY hno).1,(pY hno).2]
 rcases hc with h|h|h|h|h|h
 all_goals
  refine Ut ?_
  exact W.ret (fin2 rfl rfl rfl rfl rfl rfl rfl)):p:=h
theorem amU(h:p:=by
 have hok:gX l al o=false:=by rw [hin,hv];simpa using hr
 rw [(pY hok).1,(pY hok).2]
 have hr2:(12*(o+1)+b+al < 0)∨(¬ 12*(o+1)+b+al < 0∧127 < 12*(o+1)+b+al):=by omega
 rcases hr2 with h|h
 all_goals
  refine Ut ?_
  exact W.ret (fin2 rfl rfl rfl rfl rfl rfl rfl)):p:=h
theorem dY(h:p:=by
 exact W.ret (finN rfl rfl rfl rfl)):p:=h
theorem oO(h:p:=by
 exact W.ret (fin2 rfl rfl rfl rfl rfl rfl rfl)):p:=h
end
theorem Qq {p q:Prop}(k:q)(h:aS q→p:=by
 intro hq
 repeat (first|refine DK.ff rfl FH ?_|refine DK.st rfl ?_|refine DK.idx rfl rfl (by omega) zqm ?_|refine DK.nil ?_)
 exact hq.k):p:=h ⟨k⟩
theorem jw {p q:Prop}(k:q)(h:aS q→p:=by
 intro hq
 dsimp only [number,Nat.reduceAdd]
 exact hq.k):p:=h ⟨k⟩
theorem iT {p q:Prop}(k:q)(h:aS q→p:=by
 intro hq
 refine W.drawK aK aK ?_
 exact hq.k):p:=h ⟨k⟩
section
open Go.RowKit
abbrev MW:=Int×Int×Int
def aaT(x:MW):List Value:=[.int .i64 x.1,.int .i64 x.2.1,.int .i64 x.2.2]
def aln (w:World)(B0 b:Nat)(l:List MW):Prop :=
 ∃ Q d,Blk w b 56 #[.slice Q l.length d]∧w.ownsRow B0 136 3 (.slice Q l.length d) l.length (l.map aaT).flatten
def kH(ok:Bool)(i c what:Int):List MW:=if ok then []else [(i,c,what)]
def pR(s n:Int):Bool:=if s=3 then n != 8 else if s=4 then n == 8 else true
def gI (s i:Int)(L:Int→Nat)(x:Stp):List MW :=
 if Gv s x.1 x.2.1=false then [(i,x.1,1)] else kH (okR s x.2.2.1) i x.1 2++(kH (yt s x.2.2.2.1) i x.1 3++kH (qY s x.2.2.2.2 (L x.1)) i x.1 4)
def aaS (s i:Int)(e:Ev):List MW :=
 (if e.val=0 then kH (pR s 6) i 0 6 else [])++((if e.three=true then kH (pR s 5) i 0 5 else [])++(if e.tie=true then kH (pR s 7) i 0 7 else if e.stops.length=0 then kH (pR s 8) i 0 8 else []))
def jO (s:Int)(p:aN)(i:Int)(e:Ev):List MW:=aaS s i e++e.stops.flatMap (gI s i fun c=>ah p.evs i c)
theorem kN(ok:Bool)(i c what:Int):(kH ok i c what).length≤1:=by unfold kH;split<;>simp
theorem J4 (s i:Int)(L:Int→Nat)(x:Stp):(gI s i L x).length≤3:=by
 unfold gI
 split
 ·simp
 ·have a:=kN (okR s x.2.2.1) i x.1 2
  have b:=kN (yt s x.2.2.2.1) i x.1 3
  have c:=kN (qY s x.2.2.2.2 (L x.1)) i x.1 4
  exact UU
theorem CB (s i:Int)(L:Int→Nat):∀ l:List Stp,(l.flatMap (gI s i L)).length≤3*l.length:=by
 intro l
 induction l with
 | nil=>simp
 | cons x r ih=>have:=J4 s i L x;simp only [LW,bJ,bW];omega
theorem XD (s i:Int)(L:Int→Nat)(l:List Stp)(k:Nat)(h:k<l.length):(l.take (k+1)).flatMap (gI s i L)=(l.take k).flatMap (gI s i L)++gI s i L l[k]:=by
 rw [gq h,Jd];simp
structure ao7 (w:World) (P E:Array Value) (i:Int) (l:List MW) (wx:World):Prop where
 bel:Below w.heap.size w wx
 bp:Blk wx w.heap.size 30 P
 bi:Blk wx (w.heap.size+1) 3 #[.int .i64 i]
 be:Blk wx (w.heap.size+3) 90 E
 say:aln wx (w.heap.size+3) (w.heap.size+2) l
def BL(e:Ev):Prop :=
 ∀ k(h:k<e.stops.length),(1≤e.stops[k].1∧e.stops[k].1≤14)∧(0≤e.stops[k].2.1∧e.stops[k].2.1≤18)∧(0≤e.stops[k].2.2.1∧e.stops[k].2.2.1≤3)∧(0≤e.stops[k].2.2.2.1∧e.stops[k].2.2.2.1≤4)∧(0≤e.stops[k].2.2.2.2∧e.stops[k].2.2.2.2≤15)
def Yc (s i v:Int):List MW:=if v=0 then kH (pR s 6) i 0 6 else []
def Yd (s i:Int)(t:Bool):List MW:=if t=true then kH (pR s 5) i 0 5 else []
def Qz (s i:Int)(t:Bool)(n:Nat):List MW:=if t=true then kH (pR s 7) i 0 7 else if n=0 then kH (pR s 8) i 0 8 else []
theorem VB(s i v:Int):(Yc s i v).length≤1:=by unfold Yc;split;exact kN _ _ _ _;simp
theorem VD(s i:Int)(t:Bool):(Yd s i t).length≤1:=by unfold Yd;split;exact kN _ _ _ _;simp
theorem VE(s i:Int)(t:Bool)(n:Nat):(Qz s i t n).length≤1:=by
 unfold Qz;split
 ·exact kN _ _ _ _
 ·split;exact kN _ _ _ _;simp
theorem xW (s:Int)(p:aN)(i:Int)(e:Ev):jO s p i e=(Yc s i e.val++(Yd s i e.three++Qz s i e.tie e.stops.length))++e.stops.flatMap (gI s i fun c=>ah p.evs i c):=rfl
theorem BN {st:List Int}:∀ {cs:List (Int×Int×Bool)},tH st cs=0→∀ k (h:k<cs.length),0≤cs[k].2.1∧cs[k].2.1≤st.length:=by
 intro cs
 induction cs<;>grind[tH]
theorem P7 {p:aN} {i last:Int} {s:Stp} (hI:gB p.cs p.st=0)(h:gY p i s last=0) :
  (1≤s.1∧s.1≤14)∧(0≤s.2.1∧s.2.1≤18)∧(0≤s.2.2.1∧s.2.2.1≤3)∧(0≤s.2.2.2.1∧s.2.2.2.1≤4)∧(0≤s.2.2.2.2∧s.2.2.2.2≤15):=by
 obtain⟨l1,l2,l3,_,l5⟩:=jK hI
 unfold gY at h
 by_cases h1:s.1<1∨(p.cs.length:Int)<s.1
 ·omega
 ·rw [if_neg h1]at h
  by_cases h2:s.2.1<0∨dS p.cs s.1<s.2.1
  ·omega
  ·rw [if_neg h2]at h
   by_cases h3:s.1≤last
   ·omega
   ·rw [if_neg h3]at h
    by_cases h4:(s.2.2.1<0∨3<s.2.2.1)∨(s.2.2.2.1<0∨4<s.2.2.2.1)
    ·omega
    ·rw [if_neg h4]at h
     by_cases h5:(s.2.2.2.2<0∨(ah p.evs i s.1:Int)<s.2.2.2.2)∨(0<s.2.2.2.2∧s.2.1=0)
     ·omega
     ·have hL:=tX p.evs i s.1
      have hk:s.1.toNat-1<p.cs.length:=by omega
      have hf:dS p.cs s.1=p.cs[s.1.toNat-1].2.1:=by
       exact UJ
      have:=BN l5 _ hk
      omega
theorem Zw {p:aN} {i:Int} (hI:gB p.cs p.st=0):∀ {l:List Stp} {last:Int},iW p i last l=0→∀ k (h:k<l.length),∃ la,gY p i l[k] la=0:=by
 intro l
 induction l with
 | nil=>simp
 | cons x r ih =>
  intro last h k hk
  unfold iW at h
  by_cases h1:gY p i x last≠0
  ·omega
  ·rw [if_neg h1] at h
   cases k with
   | zero=>grind
   | succ k=>simpa using ih h k sW
theorem af5 {p:aN}:∀ {l:List Ev} {n:Nat},Bv p n l=0→∀ k (h:k<l.length),MX p ((n+k:Nat):Int) l[k]=0:=by
 intro l
 induction l with
 | nil=>simp
 | cons x r ih =>
  intro n h k hk
  unfold Bv at h
  by_cases h1:MX p n x≠0
  ·omega
  ·rw [if_neg h1] at h
   cases k with
   | zero=>simpa using h1
   | succ k =>
    have:=ih h k sW
    grind
theorem fK {p:aN} (h:aO p=0):gB p.cs p.st=0∧p.evs.length≤400∧∀ k(hk:k<p.evs.length),MX p k p.evs[k]=0:=by
 unfold aO at h
 by_cases h1:gB p.cs p.st≠0
 ·omega
 ·rw [if_neg h1]at h
  by_cases h2:400<p.evs.length
  ·omega
  ·rw [if_neg h2]at h
   refine⟨by simpa using h1,by omega,fun k hk=>?_⟩
   have:=af5 h k hk
   exact jy
theorem tK {p:aN} {i:Int} {e:Ev} (h:MX p i e=0):jo e.val e.dot e.three=true∧¬ (i=0∧e.val=0)∧¬ (e.tie=true∧(0<e.stops.length∨i=0))∧iW p i 0 e.stops=0:=by
 grind[MX]
theorem oh {p:aN} (h:aO p=0)(k:Nat)(hk:k<p.evs.length):BL p.evs[k]:=by
 obtain⟨h1,h2,h3⟩:=fK h
 intro j hj
 obtain⟨la,hla⟩:=Zw h1 (tK (h3 k hk)).2.2.2 j hj
 exact P7 h1 hla
def oU(s:Int)(p:aN):Nat→List MW
 | 0=>[]
 | k+1=>oU s p k++(match p.evs[k]? with|some e=>jO s p k e|none=>[])
theorem xY (s:Int)(p:aN) {k:Nat} (h:k<p.evs.length):oU s p (k+1)=oU s p k++jO s p k p.evs[k]:=by
 simp_all[oU]
theorem zo(s:Int)(p:aN)(i:Int)(e:Ev)(h:e.stops.length≤20):(jO s p i e).length≤63:=by
 grind[xW,VB,VD,VE,CB]
theorem Ht (s:Int) {p:aN} (hO:fH p):∀ k,k≤p.evs.length→(oU s p k).length≤27000:=by
 have hn:=hO.n3
 have:∀ k,k≤p.evs.length→(oU s p k).length≤63*k:=by
  intro k
  induction k with
  | zero=>intro _;simp [oU]
  | succ k ih =>
   intro hk
   rw [xY s p (by omega),bJ]
   have:=ih aj
   have:=zo s p k p.evs[k] (hO.n4 k aj)
   omega
 grind
def uV (x:MW):List AV:=[.sc (.int .i64 x.1),.sc (.int .i64 x.2.1),.sc (.int .i64 x.2.2)]
theorem afY (x y:Int) (b:Bool) (w:World):(Op.equalIn 10000 117 (.agg #[.int .i64 x,.int .i64 y,.bool b]) (.agg #[.int .i64 x,.int .i64 y,.bool b])).run Tryz.prog w=.ok true w:=by
 rw [run_equalIn_agg w 9999 _ _ _ aK aK]
 refine Eq.trans (congrArg (fun fs=>Sem.run _ (Op.eqFields 9999 _ _ fs) w) (rfl:(Tryz.prog.fieldsOf 117).toList=[_,_,_])) ?_
 simp [go_sem]
theorem aar (x:Int) (a b:Bool) (w:World):(Op.equalIn 10000 87 (.agg #[.int .i64 x,.bool a,.bool b]) (.agg #[.int .i64 x,.bool a,.bool b])).run Tryz.prog w=.ok true w:=by
 rw [run_equalIn_agg w 9999 _ _ _ aK aK]
 refine Eq.trans (congrArg (fun fs=>Sem.run _ (Op.eqFields 9999 _ _ fs) w) (rfl:(Tryz.prog.fieldsOf 87).toList=[_,_,_])) ?_
 simp [go_sem]
theorem afZ (x y z u v:Int) (w:World):(Op.equalIn 10000 69 (.agg #[.int .i64 x,.int .i64 y,.int .i64 z,.int .i64 u,.int .i64 v]) (.agg #[.int .i64 x,.int .i64 y,.int .i64 z,.int .i64 u,.int .i64 v])).run Tryz.prog w=.ok true w:=by
 rw [run_equalIn_agg w 9999 _ _ _ aK aK]
 refine Eq.trans (congrArg (fun fs=>Sem.run _ (Op.eqFields 9999 _ _ fs) w) (rfl:(Tryz.prog.fieldsOf 69).toList=[_,_,_,_,_])) ?_
 simp [go_sem]
theorem Tz (cs:List (Int×Int×Bool)) (st:List Int) (h1:cs.length≤64) (h2:st.length≤64):Ctr Tryz.prog 48 [.ag (oJ cs st),.ag (oJ cs st)] (.sc (.bool true)):=by
 refine jc Tryz.func48 Tryz.ntmps48 fun w0 F0=>?_;dsimp only [St.init,number,Nat.reduceAdd]
 refine iQ ?_
 refine WL.partG rfl rfl rfl rfl (fun hp=>absurd hp (by simp)) (fun hp=>?_)
 refine iQ ?_
 (refine W.cond rfl (fun hif=>?_) (fun hif=>?_)<;>(try simp only [bD,bK,dM,dN,dn,dO] at hif))
 ·exact absurd hif (by simp)
 refine iQ ?_
 refine W.loop (fun k:Nat=>k≤cs.length) (fun k=>⟨[(2,.pt 0 0 0),(3,.pt 1 0 0),(5,.sc (.int .i64 k))],[(0,.box 27 (oJ cs st)),(1,.box 27 (oJ cs st))],2⟩) (fun k=>cs.length - k) 0 aj (zqt id) fun k hk=>?_
 refine iQ ?_
 (refine W.cond rfl (fun hif=>?_) (fun hif=>?_)<;>(try simp only [bD,bK,dM,dN,dn,dO] at hif))
 ·have hk2:k < cs.length:=by omega
  refine iQ ?_
  refine iT ?_
  refine Qq ?_
  refine DK.vl rfl (WV.ane (b:=true) rfl rfl rfl rfl rfl aK (fun w=>afY _ _ _ w)) ?_
  refine Qq ?_
  exact Xe
 refine iQ ?_
 refine W.loop (fun k:Nat=>k≤st.length) (fun k=>⟨[(2,.pt 0 0 0),(3,.pt 1 0 0),(6,.sc (.int .i64 k))],[(0,.box 27 (oJ cs st)),(1,.box 27 (oJ cs st))],2⟩) (fun k=>st.length - k) 0 aj (zqt id) fun k hk=>?_
 refine iQ ?_
 (refine W.cond rfl (fun hif=>?_) (fun hif=>?_)<;>(try simp only [bD,bK,dM,dN,dn,dO] at hif))
 ·have hk2:k < st.length:=by omega
  refine iQ ?_
  refine iT ?_
  refine Qq ?_
  exact Xe
 refine iQ ?_
 exact W.ret vJ
theorem Zd (e:Ev) (h:e.stops.length≤64):Ctr Tryz.prog 49 [.ag (iq e),.ag (iq e)] (.sc (.bool true)):=by
 refine jc Tryz.func49 Tryz.ntmps49 fun w0 F0=>?_;dsimp only [St.init,number,Nat.reduceAdd]
 refine iQ ?_
 refine WL.partG rfl rfl rfl rfl (fun hp=>absurd hp (by simp)) (fun hp=>?_)
 refine iQ ?_
 refine WL.vl rfl (WV.ane (b:=true) rfl rfl rfl rfl rfl aK (fun w=>aar _ _ _ w)) ?_
 refine iQ ?_
 refine WL.partG rfl rfl rfl rfl (fun hp=>absurd hp (by simp)) (fun hp=>?_)
 refine iQ ?_
 (refine W.cond rfl (fun hif=>?_) (fun hif=>?_)<;>(try simp only [bD,bK,dM,dN,dn,dO] at hif))
 ·exact absurd hif (by simp)
 refine iQ ?_
 refine W.loop (fun k:Nat=>k≤e.stops.length) (fun k=>⟨[(2,.pt 0 0 0),(3,.pt 1 0 0),(5,.sc (.int .i64 k))],[(0,.box 90 (iq e)),(1,.box 90 (iq e))],2⟩) (fun k=>e.stops.length - k) 0 aj (zqt id) fun k hk=>?_
 refine iQ ?_
 (refine W.cond rfl (fun hif=>?_) (fun hif=>?_)<;>(try simp only [bD,bK,dM,dN,dn,dO] at hif))
 ·have hk2:k < e.stops.length:=by omega
  refine iQ ?_
  refine iT ?_
  repeat (first|refine DK.st rfl ?_|refine DK.idx rfl rfl aj zqm ?_|refine DK.nil ?_)
  refine DK.vl rfl (WV.ane (b:=true) rfl rfl rfl rfl rfl aK (fun w=>afZ _ _ _ _ _ w)) ?_
  repeat (first|refine DK.st rfl ?_|refine DK.idx rfl rfl aj zqm ?_|refine DK.nil ?_)
  exact Xe
 refine iQ ?_
 exact W.ret vJ
theorem ahh (p:aN) (hO:fH p):Ctr Tryz.prog 13 [eF p,eF p] (.sc (.bool true)):=by
 refine jc Tryz.func13 Tryz.ntmps13 fun w0 F0=>?_;dsimp only [St.init,number,Nat.reduceAdd]
 have hn3:=hO.n3
 refine iQ ?_
 refine WL.opv rfl rfl rfl (WV.call rfl (callF Tryz.func48 rfl rfl) rfl rfl (Tz p.cs p.st hO.n1 hO.n2)) ?_
 refine iQ ?_
 refine iQ ?_
 (refine W.cond rfl (fun hif=>?_) (fun hif=>?_)<;>(try simp only [bD,bK,dM,dN,dn,dO] at hif))
 ·exact absurd hif (by simp)
 refine iQ ?_
 refine W.loop (fun k:Nat=>k≤p.evs.length) (fun k=>⟨[(2,.pt 0 0 0),(3,.pt 1 0 0),(5,.sc (.int .i64 k))],[(0,.box 30 [.ls 3 (p.cs.map aW),.ls 1 (p.st.map eInt),.ls 6 (p.evs.map iq)]),(1,.box 30 [.ls 3 (p.cs.map aW),.ls 1 (p.st.map eInt),.ls 6 (p.evs.map iq)])],2⟩) (fun k=>p.evs.length - k) 0 aj (zqt id) fun k hk=>?_
 refine iQ ?_
 (refine W.cond rfl (fun hif=>?_) (fun hif=>?_)<;>(try simp only [bD,bK,dM,dN,dn,dO] at hif))
 ·have hk2:k < p.evs.length:=by omega
  have h20:=hO.n4 k hk2
  refine iQ ?_
  refine iT ?_
  refine Qq ?_
  refine DK.vl rfl (WV.call rfl (callF Tryz.func49 rfl rfl) rfl rfl (Zd _ aj)) ?_
  refine Qq ?_
  exact Xe
 refine iQ ?_
 exact W.ret vJ
def nY(ok:Bool)(sg t:List UInt8):Bool:=ok && sg.isPrefixOf t
def yx (s:Int) (t:List UInt8):Int×List UInt8 :=
 if nY (okR s 3) (rR s 3) t then (3,t.drop (rR s 3).length) else if nY (okR s 2) (rR s 2) t then (2,t.drop (rR s 2).length) else if nY (okR s 1) (rR s 1) t then (1,t.drop (rR s 1).length) else (0,t)
def Gy (s:Int) (t:List UInt8):Int×List UInt8 :=
 if nY (yt s 4) (rG s 4) t then (4,t.drop (rG s 4).length) else if nY (yt s 3) (rG s 3) t then (3,t.drop (rG s 3).length) else if nY (yt s 2) (rG s 2) t then (2,t.drop (rG s 2).length) else if nY (yt s 1) (rG s 1) t then (1,t.drop (rG s 1).length) else (0,t)
def vI (s:Int)(fp:Bool)(t:List UInt8):Option Int :=
 if t=[]then some 0 else
 match (List.range 15).find? fun n=>fp && (decide (s=1) && (t == 95::jX (n+1)))with
 | some n=>some ((n:Int)+1)
 | none=>if (fp && decide (s=2∨s=4) && (t == [42]))=true then some (-1)else none
def qG (s:Int)(fp:Bool)(t:List UInt8):Option (Int×Int×Int):=(vI s fp (Gy s (yx s t).2).2).map fun h=>((yx s t).1,(Gy s (yx s t).2).1,h)
def jV(s:Int)(h:Nat):Int:=if h=0 then 0 else if s=1 then(h:Int)else -1
theorem akP:((List.range 4).all fun s=>(List.range 4).all fun r=>(List.range 5).all fun g=>(List.range 16).all fun h=>[true,false].all fun fp =>
  !(okR ((s:Int)+1) r && yt ((s:Int)+1) g && qY ((s:Int)+1) h 15 && (fp|| h == 0))||
  qG ((s:Int)+1) fp (rR ((s:Int)+1) r++rG ((s:Int)+1) g++pH ((s:Int)+1) h 15) == some ((r:Int),(g:Int),jV ((s:Int)+1) h))=true:=by decide +kernel
theorem ahe {s:Int} {r g h:Nat} {fp:Bool} (hs:1≤s∧s≤4)(hr:r≤3)(hg:g≤4)(hh:h≤15)(h1:okR s r=true)(h2:yt s g=true)(h3:qY s h 15=true)(hf:0<h→fp=true) :
  qG s fp (rR s r++rG s g++pH s h 15)=some ((r:Int),(g:Int),jV s h):=by
 obtain⟨k,hk⟩:=dP (show 0≤s-1 by omega)
 obtain rfl:s=(k:Int)+1:=by omega
 have h0:=List.all_eq_true.1 (List.all_eq_true.1 (List.all_eq_true.1 (List.all_eq_true.1 (List.all_eq_true.1 akP k (List.mem_range.2 (by omega))) r (List.mem_range.2 (by omega))) g (List.mem_range.2 (by omega))) h (List.mem_range.2 (by omega))) fp (by cases fp<;>simp)
 grind
theorem yA {ok:Bool} {sg t:List UInt8} (h:nY ok sg t=true):ok=true∧t=sg++t.drop sg.length:=by
 unfold nY at h
 simp only [dw,List.isPrefixOf_iff_prefix]at h
 obtain⟨h1,u,hu⟩:=h
 grind
theorem ahd(s:Int)(t:List UInt8):∃ r:Nat,r≤3∧(yx s t).1=(r:Int)∧okR s r=true∧t=rR s r++(yx s t).2:=by
 unfold yx
 split
 ·exact aek
 ·split
  ·exact ael
  ·split
   ·exact aem
   ·exact⟨0,by omega,rfl,by simp [okR],by simp [rR]⟩
theorem ahb(s:Int)(t:List UInt8):∃ g:Nat,g≤4∧(Gy s t).1=(g:Int)∧yt s g=true∧t=rG s g++(Gy s t).2:=by
 unfold Gy
 split
 ·rename_i h;obtain⟨a,b⟩:=yA h;exact⟨4,by omega,rfl,a,b⟩
 ·split
  ·exact aek
  ·split
   ·exact ael
   ·split
    ·exact aem
    ·exact⟨0,by omega,rfl,by simp [yt],by simp [rG]⟩
theorem ahc {s:Int} {fp:Bool} {t:List UInt8} {x:Int} (hs:1≤s∧s≤4)(h:vI s fp t=some x):∃ n:Nat,n≤15∧qY s n 15=true∧(0<n→fp=true)∧t=pH s n 15∧x=jV s n:=by
 unfold vI at h
 split at h
 ·rename_i e
  cases h
  exact⟨0,by omega,by simp [qY],fun k=>absurd k (by omega),by simp [e,pH],rfl⟩
 ·split at h
  ·rename_i n hn
   have h1:=List.find?_some hn
   grind[qY,rH,pH,jV]
  ·split at h
   ·rename_i h1
    cases h
    simp only [dw,bD,Je]at h1
    obtain⟨⟨a,b⟩,c⟩:=h1
    refine⟨15,by omega,?_,fun _=>a,?_,?_⟩
    ·rcases b with rfl|rfl<;>decide
    ·rcases b with rfl|rfl<;>exact c
    ·rcases b with rfl|rfl<;>rfl
   ·cases h
theorem amo {s:Int} {fp:Bool} {t:List UInt8} {x:Int×Int×Int} (hs:1≤s∧s≤4)(h:qG s fp t=some x) :
  ∃ r g n:Nat,r≤3∧g≤4∧n≤15∧okR s r=true∧yt s g=true∧qY s n 15=true∧(0<n→fp=true)∧t=rR s r++rG s g++pH s n 15∧x=((r:Int),(g:Int),jV s n):=by
 unfold qG at h
 obtain⟨y,hy,rfl⟩:=Option.map_eq_some_iff.1 h
 obtain⟨r,r1,r2,r3,r4⟩:=ahd s t
 obtain⟨g,g1,g2,g3,g4⟩:=ahb s (yx s t).2
 grind[ahc]
theorem Px {p:aN} (h:QB p=false):fH p:=by
 unfold QB at h
 simp only [AB,bK,List.any_eq_false]at h
 obtain⟨h1,h2,h3,h4⟩:=h
 refine⟨by omega,by omega,by omega,fun k hk=>?_⟩
 have:=h4 _ (fA hk)
 simp at this
 exact this
theorem ajp (p:aN):Ctr Tryz.prog 17 [eF p] (.sc (.bool (QB p))) :=
 Ctr.V3 (pre:=[]) (post:=[]) rfl rfl (fun _=>.sc _) fun w M hM=>afI M p w hM
section
variable {B:World→View→Prop} {gl:Nat} {P:Program} {C:Cx} {ops:Array Oper} {rest:List Oper} {σ:St} {o:Oper} {d:Tmp} {Q:Exit→St→Prop}
def apQ (P:Program)(σ:St):Op→Option Bool
 | .binOp .neq T x (.const .nilIface) _ =>
  match P.underlying T,σ.ev x with
  | some (.interface _),some (.sc .nilIface)=>some false
  | some (.interface _),some (.sc (.iface _ _))=>some true
  | _,_=>none
 | _=>none
def akS (σ:St):Op→Option (Int×Int)
 | .binOp .sub _ x y _ =>
  match σ.ev x,σ.ev y with
  | some (.sc (.int .u8 m)),some (.sc (.int .u8 n))=>some (m,n)
  | _,_=>none
 | _=>none
theorem ahk {m n:Int} (h:akS σ o.op=some (m,n))(hb:0≤m-n∧m-n≤255):WV P C o σ (.sc (.int .u8 (m-n))):=by
 unfold akS at h
 split at h
 ·rename_i T x y Ty ho
  split at h
  ·rename_i m n hx hy
   cases h
   have e:IntKind.u8.wrap (m-n)=m-n:=by
    have e:(m-n) % 256=m-n:=Int.emod_eq_of_lt hb.1 aj
    simp [IntKind.wrap,IntKind.bits,IntKind.signed,e]
   exact WV.sc fun G a w ok=>by unfold execOp;simp [ho,ok.evs hx,ok.evs hy,eqGuard,binOp,Op.intArith,e]
  ·cases h
 ·cases h
theorem WL.sb8 {m n:Int} (hd:dstB C.N o=some d)(h:akS σ o.op=some (m,n))(hb:0≤m-n∧m-n≤255)(k:WL P C ops rest (σ.put d (.sc (.int .u8 (m-n)))) Q):WL P C ops (o::rest) σ Q:=WL.vl hd (ahk h hb) k
end
end
end Go.Proofs.YthohlofpphjofaaGreatDoor
