/- piece.Onsets as a contract over trees. -/
import Derived.Test.YthehkchjdkdbiaaGreatDoorYIKq
import Derived.Test.YthehkchjdkdbiaaGreatDoorYHKq
import Derived.Test.YthehkchjdkdbiaaGreatDoorOnsKq
import Derived.Test.YthehkchjdkdbiaaGreatDoorNrRKq
set_option maxHeartbeats 8000000
set_option maxRecDepth 100000
set_option linter.unusedVariables false
set_option linter.unusedSimpArgs false
namespace Go.Proofs.YthehkchjdkdbiaaGreatDoor
theorem ako {p:Prop}(h:p:=by
 rw [if_neg (fun q=>by rw [hh.2.2.1 q.1] at q;cases q.2),if_neg (fun q=>by rw [hh.2.2.2 q.1 h0] at q;cases q.2)]):p:=h
section
open Go.RowKit
def p04:aS:=⟨[(60,3,false),(55,3,false)],[1,2,3],[⟨false,4,false,false,false,[(1,3,2,0,0),(2,0,0,0,0)]⟩]⟩
theorem ah9:jm p04:=by
 refine⟨by decide,by decide,by decide,fun k hk=>?_⟩
 have h1:p04.evs.length=1:=rfl
 have h0:k=0:=by omega
 subst h0
 exact bU rfl
theorem aiH:jJ 2 p04=0∧wL 2 p04=[(0,1,2)]∧(dX 2 p04).evs.length=1:=by decide +kernel
theorem af7:X9 p04 1=0∧amF p04 1=[(0,2,1)]∧(Ya p04 1).evs.length=1:=by decide +kernel
theorem abg (x a c y b d:Int) (w:World):(Op.equalIn 10000 122 (.agg #[.int .i64 x,.int .i64 a,.int .i64 c]) (.agg #[.int .i64 y,.int .i64 b,.int .i64 d])).run Tryz.prog w=.ok (x == y && (a == b && c == d)) w:=by
 rw [run_equalIn_agg w 9999 _ _ _ bD bD]
 refine Eq.trans (congrArg (fun fs=>Sem.run _ (Op.eqFields 9999 _ _ fs) w) (rfl:(Tryz.prog.fieldsOf 122).toList=[_,_,_])) ?_
 by_cases h1:x=y
 ·subst h1
  by_cases h2:a=b
  ·subst h2
   by_cases h3:c=d
   ·subst h3;simp [go_sem]
   ·simp [go_sem,h3]
  ·simp [go_sem,h2]
 ·simp [go_sem,h1]
theorem aal:aU Tryz.prog 21 [] (.sc (.bool true)):=by
 have hR:=KG 2 p04 ah9
 have hC:=aib p04 ah9 1
 rw [aiH.1,aiH.2.1] at hR
 rw [af7.1,af7.2.1] at hC
 obtain ⟨⟨cs1,st1,ev1⟩,hP1⟩:∃ z,dX 2 p04=z:=⟨_,rfl⟩
 obtain ⟨⟨cs2,st2,ev2⟩,hP2⟩:∃ z,Ya p04 1=z:=⟨_,rfl⟩
 have l1:(ev1.map dI).length=1:=by rw [aH];have:=aiH.2.2;rw [hP1] at this;exact this
 have l2:(ev2.map dI).length=1:=by rw [aH];have:=af7.2.2;rw [hP2] at this;exact this
 rw [hP1] at hR
 rw [hP2] at hC
 have hR:aU Tryz.prog 64 [.sc (.int .u8 2),bK p04] (.tu [.ag [.ls 3 (cs1.map aF),.ls 1 (st1.map eInt),.ls 6 (ev1.map dI)],.ls 3 [[.sc (.int .i64 0),.sc (.int .i64 1),.sc (.int .i64 2)]],.sc (.int .i64 0)]):=hR
 have hC:aU Tryz.prog 65 [bK p04,.sc (.int .i64 1)] (.tu [.ag [.ls 3 (cs2.map aF),.ls 1 (st2.map eInt),.ls 6 (ev2.map dI)],.ls 3 [[.sc (.int .i64 0),.sc (.int .i64 2),.sc (.int .i64 1)]],.sc (.int .i64 0)]):=hC
 obtain ⟨E1,hE1⟩:∃ z,ev1.map dI=z:=⟨_,rfl⟩
 obtain ⟨E2,hE2⟩:∃ z,ev2.map dI=z:=⟨_,rfl⟩
 rw [hE1] at hR l1
 rw [hE2] at hC l2
 refine jl Tryz.func21 Tryz.ntmps21 fun w0 F0=>?_;dsimp only [St.init,number,Nat.reduceAdd]
 refine ajv ?_
 refine WL.tr (Tr.freeze 0 rfl) ?_
 refine WL.tr (Tr.freeze 1 rfl) ?_
 refine WL.tr (Tr.freeze 3 rfl) ?_
 refine ajv ?_
 refine WL.tr (Tr.freeze 4 rfl) ?_
 refine WL.vl rfl (bZ Tryz.func64 hR) ?_
 refine ajv ?_
 refine WL.vl rfl (bZ Tryz.func65 hC) ?_
 refine Xw ?_
 refine WL.idx rfl rfl (yD 0) rfl ?_
 refine Xw ?_
 refine WL.vl rfl (WV.aeq rfl rfl rfl rfl rfl bD (fun w=>abg _ _ _ _ _ _ w)) ?_
 refine Xw ?_
 refine WL.idx rfl rfl (yD 0) rfl ?_
 refine Xw ?_
 refine WL.vl rfl (WV.aeq rfl rfl rfl rfl rfl bD (fun w=>abg _ _ _ _ _ _ w)) ?_
 refine Xw ?_
 exact W.ret vS
theorem Vr {C:Cg} {H:Nat→Stp→Int} {evs:List Ev}:∀ n,n≤evs.length→NK C H evs n=[]→∀ k (hk:k<evs.length),k<n→lsE C H k evs[k]=[]
 | 0,_,_,k,hk,h=>absurd h (Ic _)
 | n+1,hn,h,k,hk,hkn=>by
  rw [Ry (show n<evs.length by omega),F6] at h
  by_cases e:k=n
  ·subst e;exact h.2
  ·exact Vr n au h.1 k hk au
theorem WH {s:Int} {p:aS} (h:jJ s p=0)(hl:wL s p=[]):(dX s p).evs=dn s p:=by
 rw [show wL s p=_ from if_pos h] at hl
 have hE:=Vr _ (bJ _) hl
 apply fZ (by rw [tq h,dA];unfold bC;rw [fM])
 intro k h1 h2
 obtain⟨hk2,e1⟩:=Sz h h1
 have hk:=hE k h2 h2
 rw [e1]
 generalize (dn s p)[k]=e at hk
 unfold lsE at hk
 rw [F6,MG] at hk
 obtain⟨ha,hb⟩:=hk
 have hx:∀ x∈e.stops,(aB s).mv x=some x∧zH s (bC s p) k x=x.2.2.2.2:=fun x hx=>by
  have hq:=hb x hx
  unfold lsS at hq
  cases hm:(aB s).mv x with
  | none=>rw [hm] at hq;cases hq
  | some y =>
   rw [hm] at hq
   dsimp only at hq
   rw [F6] at hq
   obtain⟨q1,q2⟩:=hq
   obtain⟨hp,rfl⟩:=D9 hm
   have q1:((if okR s x.2.2.1=true then [] else [2])++(if sZ s x.2.2.2.1=true then [] else [3]):List Int).map (fun w=>((k:Int),x.1,w))=[]:=q1
   rw [List.map_eq_nil_iff,F6] at q1
   have r1:okR s x.2.2.1=true:=by
    cases hr:okR s x.2.2.1 with
    | true=>rfl
    | false=>rw [hr] at q1;cases q1.1
   have r2:sZ s x.2.2.2.1=true:=by
    cases hr:sZ s x.2.2.2.1 with
    | true=>rfl
    | false=>rw [hr] at q1;cases q1.2
   have e2:=apO r1 r2
   rw [e2] at q2 ⊢
   refine⟨rfl,?_⟩
   by_cases e3:zH s (bC s p) k x=x.2.2.2.2
   ·exact e3
   ·rw [if_neg e3] at q2;cases q2
 have hn:=RX (C:=aB s) fun x hh=>(hx x hh).1
 have ht:VQ (aB s) k e=e.tie:=by
  unfold VQ
  rw [hn]
  by_cases h0:e.stops.length=0
  ·rw [if_pos h0]
   unfold lsH at ha
   have hv:AZ (aB s) k e=0:=by
    by_cases e3:AZ (aB s) k e=0
    ·exact e3
    ·rw [if_neg e3] at ha;cases ha
   unfold AZ at hv
   rw [if_pos h0] at hv
   cases h5:e.tie<;>cases h6:(aB s).tie k e
   ·rfl
   ·rw [h5,h6] at hv;simp at hv
   ·rw [h5,h6] at hv;simp at hv
   ·rfl
  ·rw [if_neg h0,if_neg h0]
 unfold JB yQ
 rw [hn,ht]
 have:e.stops.map (fun y=>qF y (zH s (bC s p) k y))=e.stops:=by
  refine (qK fun x hh=>?_).trans (MQ _)
  rw [(hx x hh).2];rfl
 rw [this]
theorem WG {s:Int} {p:aS} (hO:jm p):jm (dX s p):=by
 unfold dX
 split
 ·refine ⟨hO.n1,hO.n2,?_,fun k hk=>?_⟩
  ·show (jo _ _).length≤420
   rw [dA]
   unfold bC
   rw [fM,Ea]
   exact hO.n3
  ·have hk2:k<(bC s p).length:=by
    have hk:k<(jo (zH s (bC s p)) (bC s p)).length:=hk
    rw [dA] at hk;exact hk
   have hk3:k<(dn s p).length:=by unfold bC at hk2;rw [fM] at hk2;exact hk2
   have e1:(jo (zH s (bC s p)) (bC s p))[k]'hk=JB (zH s (bC s p)) k (yQ (aB s) k (dn s p)[k]):=by
    rw [nT hk2]
    congr 1
    exact mP hk3
   show ((jo (zH s (bC s p)) (bC s p))[k]'hk).stops.length≤20
   rw [e1]
   show ((l9 (aB s) (dn s p)[k].stops).map _).length≤20
   rw [aH]
   have:=xM (aB s) (dn s p)[k].stops
   have:=acr (s:=s) hO _ (dS hk3)
   omega
 ·exact ⟨by decide,by decide,by decide,fun k hk=>by cases hk⟩
theorem SI {p:aS} (h0:aV p=0):∀ k,k≤p.evs.length→Dl (rF p.evs k).1 (rF p.evs k).2.1 (rF p.evs k).2.2=JD 0 (p.evs.take k)
 | 0,_=>by simp [rF,JD,Dl]
 | k+1,h=>by
  have hk:k<p.evs.length:=by omega
  have ih:=SI h0 k au
  have hok:=(ji h0 hk).sg
  have e1:rF p.evs (k+1)=if p.evs[k].val=0 then rF p.evs k else (p.evs[k].val,p.evs[k].dot,p.evs[k].three):=by
   show (match p.evs[k]? with|some e=>_|none=>_)=_
   rw [aI hk]
  rw [UU hk,e1]
  by_cases hv:p.evs[k].val=0
  ·have hz:Dl p.evs[k].val p.evs[k].dot p.evs[k].three=0:=if_pos (.inl au)
   rw [if_pos hv,hz,if_neg (by omega)]
   exact ih
  ·rw [if_neg hv]
   have hpos:0<Dl p.evs[k].val p.evs[k].dot p.evs[k].three:=by
    unfold gZ at hok
    simp only [qI,aW,qH,gu,iy]at hok
    rcases hok with h|h
    ·exact absurd h.1.1 hv
    ·exact SV _ _ _ h.1 h.2
   rw [if_pos hpos]
def sg3(e:Ev):Int×Bool×Bool:=(e.val,e.dot,e.three)
theorem agE:∀ {l m:List Ev} (t:Int),l.map sg3=m.map sg3→JD t l=JD t m
 | [],[],_,_=>rfl
 | [],y::m,_,h=>by simp at h
 | x::l,[],_,h=>by simp at h
 | x::l,y::m,t,h=>by
  rw [wR,wR]at h
  obtain⟨h1,h2⟩:=List.cons.inj h
  unfold sg3 at h1
  obtain⟨a,b⟩:=Prod.mk.inj h1
  obtain⟨b,c⟩:=Prod.mk.inj b
  unfold JD
  rw [a,b,c]
  exact agE _ h2
theorem acu {s:Int} {p:aS} (h:jJ s p=0):(dX s p).evs.length=p.evs.length:=by
 rw [tq h,dA];unfold bC;rw [fM,Ea]
theorem aos {s:Int} {p:aS} (h:jJ s p=0) {k:Nat} (hk:k < p.evs.length):JD 0 ((dX s p).evs.take (k+1))=JD 0 (p.evs.take (k+1)):=by
 obtain ⟨hs,h0,_⟩:=KQ h
 have hl:=acu h
 by_cases h4:s=4
 ·have hk1:k < (dX s p).evs.length:=by omega
  rw [← SI h0 (k+1) (by omega),← SI (PW h) (k+1) (by omega),FU hk1]
  obtain ⟨hk2,e1⟩:=Sz h hk1
  have hq:=(ZL h h4 _ (dS hk2)).1
  have e2:(dn s p)[k]=Om p.evs[k] (rF p.evs (k+1)):=by
   have e:(dn s p)[k]?=some (Om p.evs[k] (rF p.evs (k+1))):=by
    rw [show dn s p=Aw p from if_pos h4,aI (by rw [mY];exact hk)]
    exact congrArg some (Am (evs:=p.evs) hk (bJ _))
   rw [aI hk2] at e
   exact Option.some.inj e
  rw [e1]
  have key:∀ Y:Ev,Y.val=(dn s p)[k].val→Y.dot=(dn s p)[k].dot→Y.three=(dn s p)[k].three→Dl (if Y.val=0 then rF (dX s p).evs k else (Y.val,Y.dot,Y.three)).1 (if Y.val=0 then rF (dX s p).evs k else (Y.val,Y.dot,Y.three)).2.1 (if Y.val=0 then rF (dX s p).evs k else (Y.val,Y.dot,Y.three)).2.2=Dl (rF p.evs (k+1)).1 (rF p.evs (k+1)).2.1 (rF p.evs (k+1)).2.2:=by
   intro Y h1 h2 h3
   rw [if_neg (by rw [h1];exact hq)]
   show Dl Y.val Y.dot Y.three=_
   rw [h1,h2,h3,e2];rfl
  exact key _ rfl rfl rfl
 ·refine agE 0 ?_
  rw [List.map_take,List.map_take]
  congr 1
  apply fZ (by rw [aH,aH,hl])
  intro i h1 h2
  have hi:i < (dX s p).evs.length:=by simpa using h1
  have hi2:i < p.evs.length:=by simpa using h2
  obtain ⟨hk2,e1⟩:=Sz h hi
  rw [iZ,iZ,e1]
  have e2:(dn s p)[i]=p.evs[i]:=by
   have:(dn s p)[i]?=p.evs[i]?:=by rw [show dn s p=p.evs from if_neg h4]
   rw [aI hk2,aI hi2] at this
   exact Ns
  rw [e2];rfl
theorem aou {s:Int} {p:aS} (h:jJ s p=0):uw (dX s p).evs (dX s p).evs.length=uw p.evs p.evs.length:=by
 have key:∀ k,k≤p.evs.length→qB (dX s p).evs k=qB p.evs k:=by
  intro k
  induction k with
  | zero=>intro _;rfl
  | succ k ih =>
   intro hk
   unfold qB
   rw [ih (by omega),aos h (by omega)]
 unfold uw
 rw [acu h]
 exact qK fun k hk=>key k (by have:=List.mem_range.1 hk;omega)
section
variable {s:Int} {p:aS}
theorem zA (h:Jl s p) {k:Nat} (hk:k<p.evs.length):(p.evs[k].val=0→aO s 6=true)∧(p.evs[k].three=true→aO s 5=true)∧(p.evs[k].tie=true→aO s 7=true)∧(p.evs[k].tie=false→p.evs[k].stops.length=0→aO s 8=true):=by
 have hl:=h.l k hk
 rw [vZ]at hl
 have h1:=(List.append_eq_nil_iff.1 hl).1
 obtain⟨k1,k2⟩:=List.append_eq_nil_iff.1 h1
 obtain⟨k2,k3⟩:=List.append_eq_nil_iff.1 k2
 refine⟨fun q=>?_,fun q=>?_,fun q=>?_,fun q q2=>?_⟩
 ·unfold X0 at k1;rw [if_pos q]at k1;exact GY k1
 ·unfold X3 at k2;rw [if_pos q]at k2;exact GY k2
 ·unfold Rw at k3;rw [if_pos q]at k3;exact GY k3
 ·unfold Rw at k3;rw [if_neg (by rw [q];decide),if_pos q2]at k3;exact GY k3
theorem FT (h:Jl s p) {k:Nat} (hk:k<p.evs.length):∀ x∈p.evs[k].stops,(aB s).mv x=some x∧zH s p.evs k x=x.2.2.2.2∧okR s x.2.2.1=true∧sZ s x.2.2.2.1=true:=fun x hx=>by
 obtain⟨hx1,_⟩:=(sW h hk).1 x hx
 have hok:=hx1.k
 unfold stK dK at hok
 simp only [aW]at hok
 refine⟨?_,?_,hok.1.1.2,hok.1.2⟩
 ·rw [aiI hok.1.1.1,apO hok.1.1.2 hok.1.2]
 ·have hf:pF p.evs k x=x.2.2.2.2:=by
   unfold pF
   have hh:=hx1.h
   by_cases f0:x.2.1=0
   ·rw [if_pos f0]
    by_cases h0:0<x.2.2.2.2
    ·exact absurd f0 (hx1.z h0)
    ·omega
   ·rw [if_neg f0];omega
  unfold zH
  rw [hf,if_pos hok.2]
theorem aiW(h:Jl s p):dn s p=p.evs:=by
 unfold dn
 by_cases h4:s=4
 ·rw [if_pos h4]
  refine atu fun e he q=>?_
  obtain⟨k,hk,rfl⟩:=eu he
  have:=(zA h hk).1 q
  subst h4
  cases this
 ·rw [if_neg h4]
theorem acB (h:Jl s p):jJ s p=0:=by
 unfold jJ
 rw [if_neg (fun q=>q h.y),if_neg (fun q=>q h.e),if_neg (fun q=>?_),if_neg (fun q=>?_)]
 ·obtain⟨q1,q2⟩:=q
  subst q1
  cases hv:p.evs with
  | nil=>rw [hv] at q2;cases q2
  | cons e r =>
   have hk:0<p.evs.length:=by rw [hv];simp
   have he:p.evs[0]=e:=by simp [hv]
   rw [hv] at q2
   have hn:=iY (show decide ((l9 (aB 3) e.stops).length=0)=true from q2)
   have hst:=FT h hk
   rw [he] at hst
   rw [RX fun x hx=>(hst x hx).1] at hn
   have hh:=zA h hk
   rw [he] at hh
   have ht:e.tie=false:=by
    cases ht:e.tie with
    | false=>rfl
    | true =>
     have:=((ji h.e hk).tie (by rw [he];exact ht)).2
     omega
   have:=hh.2.2.2 ht hn
   cases this
 ·obtain⟨q1,q2⟩:=q
  subst q1
  unfold vM at q2
  obtain⟨e,he,ht⟩:=List.any_eq_true.1 q2
  obtain⟨k,hk,rfl⟩:=eu he
  have:=(zA h hk).2.1 ht
  cases this
theorem awE (h:Jl s p):bC s p=p.evs:=by
 unfold bC
 rw [aiW h]
 apply fZ (fM _ _)
 intro k h1 h2
 rw [mP h2]
 have hst:=FT h h2
 have hh:=zA h h2
 have hn:=RX (C:=aB s) fun x hx=>(hst x hx).1
 have ht:VQ (aB s) k p.evs[k]=p.evs[k].tie:=by
  unfold VQ
  rw [hn]
  by_cases h0:p.evs[k].stops.length=0
  ·rw [if_pos h0]
   show (if p.evs[k].tie=true∧aO s 7=false then false else if p.evs[k].tie=false∧aO s 8=false then true else p.evs[k].tie)=_
   exact ako
  ·rw [if_neg h0,if_neg h0]
 unfold yQ
 rw [hn,ht]
theorem aiV (h:Jl s p):wL s p=[]:=by
 rw [show wL s p=_ from if_pos (acB h),awE h,aiW h]
 have:∀ n,n≤p.evs.length→NK (aB s) (zH s p.evs) p.evs n=[]:=by
  intro n
  induction n with
  | zero=>intro _;rfl
  | succ n ih =>
   intro hn
   have hk:n<p.evs.length:=by omega
   rw [Ry hk,ih (by omega),ug]
   have hst:=FT h hk
   have hh:=zA h hk
   unfold lsE
   rw [F6,MG]
   refine ⟨?_,fun x hx=>?_⟩
   ·unfold lsH
    have h0:AZ (aB s) n p.evs[n]=0:=by
     unfold AZ
     by_cases h0:p.evs[n].stops.length=0
     ·rw [if_pos h0]
      have ht:(aB s).tie n p.evs[n]=p.evs[n].tie:=by
       show (if p.evs[n].tie=true∧aO s 7=false then false else if p.evs[n].tie=false∧aO s 8=false then true else p.evs[n].tie)=_
       exact ako
      rw [ht]
      cases p.evs[n].tie<;>rfl
     ·rw [if_neg h0]
    rw [if_pos h0]
   ·obtain ⟨m1,m2,m3,m4⟩:=hst x hx
    unfold lsS
    rw [m1]
    dsimp only
    have e:(aB s).ml ((aB s).ch x).1=[]:=by
     show (if okR s x.2.2.1=true then [] else [2])++(if sZ s x.2.2.2.1=true then [] else [3])=([]:List Int)
     rw [if_pos m3,if_pos m4];rfl
    rw [e,m2,if_pos rfl];rfl
 exact this _ (bJ _)
theorem awF (h:Jl s p):dX s p=p:=by
 have e:=WH (acB h) (aiV h)
 rw [aiW h]at e
 have e2:dX s p=⟨p.cs,p.st,(dX s p).evs⟩:=by rw [show dX s p=_ from if_pos (acB h)]
 rw [e2,e]
end
theorem Yb {a b:Int} {p:aS} (h:Jl a p)(hx:jJ b p=0)(hl:wL b p=[]):Jl a (dX b p)∧(dX b p).cs=p.cs∧(dX b p).st=p.st∧(dX b p).evs.map jf=p.evs.map jf:=by
 have e:=WH hx hl
 have e2:dX b p =⟨p.cs,p.st,(dX b p).evs⟩:=by rw [show dX b p=_ from if_pos hx]
 rw [e] at e2
 by_cases h4:b=4
 rotate_left
 ·have hq:dn b p=p.evs:=if_neg h4
  rw [hq] at e2
  rw [e2]
  exact⟨h,rfl,rfl,rfl⟩
 ·have hq:dn b p=Aw p:=if_pos h4
  have h44:=ZL hx h4
  rw [hq] at e2 h44
  rw [e2]
  have hst:=PO p
  refine⟨⟨acf h.e,h.y,fun k hk=>?_⟩,rfl,rfl,hst⟩
  have hk:k<(Aw p).length:=hk
  have hkp:k<p.evs.length:=by rw [mY] at hk;exact hk
  have hs1:jf (Aw p)[k]=jf p.evs[k]:=by
   have:=congrArg (fun l=>l[k]?) hst
   simp only [bT,aI hk,aI hkp,oM] at this
   exact Ns
  obtain⟨s1,s2⟩:=Prod.mk.inj (show ((Aw p)[k].stops,(Aw p)[k].tie)=(p.evs[k].stops,p.evs[k].tie) from hs1)
  obtain⟨v1,v2⟩:=h44 _ (dS hk)
  have hl:=h.l k hkp
  rw [vZ] at hl ⊢
  obtain⟨g1,g2⟩:=List.append_eq_nil_iff.1 hl
  obtain⟨g3,g4⟩:=List.append_eq_nil_iff.1 g1
  obtain⟨g4,g5⟩:=List.append_eq_nil_iff.1 g4
  show (X0 a k (Aw p)[k].val++(X3 a k (Aw p)[k].three++Rw a k (Aw p)[k].tie (Aw p)[k].stops.length))++(Aw p)[k].stops.flatMap (fH a k fun c=>ah (Aw p) k c)=[]
  rw [s1,s2]
  have hlo:(fun c=>ah (Aw p) k c)=fun c=>ah p.evs k c:=by
   funext c
   exact y5 hst k c
  rw [hlo,g2,g5,nI]
  unfold X0 X3
  rw [if_neg v1,if_neg (by rw [v2];decide)]
  rfl
theorem Wp (M:PM)(p:aS)(w:World)(hP:uZ w w.heap.size M p)(hO:jm p)(h0:aV p≠0):Calls Tryz.prog 70 #[iD M p] w (eG (.tuple #[.slice none 0 0,.int .i64 (aV p)]) w):=by
 have hC:=fun (w':World)(hb:Below w.heap.size w w')=>CO M p w' (hP.after hb) hO
 obtain⟨E,hE⟩:∃ E,aV p=E:=⟨_,rfl⟩
 rw [hE] at hC h0 ⊢
 obtain⟨A1,A2,A3,c1,c2,c3⟩:=M
 unfold iD at *
 simp only at *
 have HC:=Lib.hid hC
 have e1:(E == 0)=false:=by simpa using h0
 have e2:(E != 0)=true:=by simpa using h0
 clear hC hP hO h0 hE
 go_enter Tryz.func70,Tryz.ntmps70
 go_wp2_with (go_at_call 51;refine (HC.out _ jT).mono ?_;rintro e' w1⟨rfl,hb1⟩;have k1:=(nN.new _ _ _).after hb1;have l1:w.heap.size < w1.heap.size:=k1.lt;clear k1)
 exact uY
theorem ZK {w:World} {base e n cap B:Nat} {g:Nat} {l:List Int} (h:w.ownsRow base e 1 (.slice (some ⟨g,0,none⟩) n cap) n (l.map fun x=>.int .i64 x)) (hn:l.length=n) (hg:g<B):Rd w B 1 (some ⟨g,0,none⟩) (l.map jy):=by
 intro _
 refine ⟨⟨g,0,none⟩,rfl,hg,fun k r hr j y hy=>?_⟩
 rw [bT] at hr
 cases hk:l[k]? with
 | none=>simp [hk] at hr
 | some x =>
  simp only [hk,oM,Option.some.injEq] at hr
  subst hr
  have hkl:=(List.getElem?_eq_some_iff.1 hk).1
  match j with
  | 0 =>
   cases hy
   have:=h.cellAt k au
   rw [bT,hk] at this
   have e:(⟨g,0,none⟩:Addr).add (k*1+0)=⟨g,k,none⟩:=by
    by_cases hz:k=0
    ·subst hz;rfl
    ·simp [Addr.add,hz]
   rw [e]
   exact ng
  | j+1=>simp [jy] at hy
theorem KF (p:aS) (hO:jm p):aU Tryz.prog 70 [bK p] (.tu [.ls 1 (if aV p=0 then (uw p.evs p.evs.length).map eInt else []),.sc (.int .i64 (aV p))]):=by
 intro w F vs hF hR
 match vs,hR.1 with
 | [v],_ =>
  obtain ⟨M,rfl,hM⟩:=Wv hF (hR.2 0 _ v rfl rfl)
  by_cases h0:aV p=0
  ·rw [if_pos h0,h0]
   refine (Zw M p w hM hO h0).mono fun e w' ⟨v,he,hrow,hb⟩=>?_
   obtain ⟨g,cap,rfl⟩:∃ g cap,v=.slice (some ⟨g,0,none⟩) (p.evs.length+1) cap:=by
    rcases hrow.2 with⟨_,h⟩|⟨g,cap,cur,e,_⟩
    ·omega
    ·exact ⟨g,cap,e⟩
   have hlt:=hrow.lt g rfl
   have hcap:p.evs.length+1≤cap:=by
    rcases hrow.2 with⟨h,_⟩|⟨g',cap',cur,e,_,_,h,_⟩
    ·cases h
    ·cases e;exact h
   have hlen:(uw p.evs p.evs.length).length=p.evs.length+1:=He _ _
   refine ⟨_,newF F w w',he,hb,I5 hF,I4 hF hb,DN,.tu _ _ rfl fun i av u a b=>?_⟩
   match i with
   | 0 =>
    cases a;cases b
    have:=La (F:=F) (w:=w) (ZK (B:=w'.heap.size) hrow hlen hlt.2) (fun ad e=>by cases e;exact hlt.1) (c:=cap) au (e:=eInt) (fun _=>rfl) Q5
    rw [hlen] at this
    exact this
   | 1=>cases a;cases b;exact .sc _
   | i+2=>simp at a
  ·rw [if_neg h0]
   refine (Wp M p w hM hO h0).mono fun e w' ⟨he,hb⟩=>?_
   refine ⟨_,newF F w w',he,hb,I5 hF,I4 hF hb,DN,.tu _ _ rfl fun i av u a b=>?_⟩
   match i with
   | 0=>cases a;cases b;exact .ls 1 [] none 0 ⟨0,0,none⟩ (fun _ _=>undef) (by simp) (by simp) (by simp) (by simp) (by simp)
   | 1=>cases a;cases b;exact .sc _
   | i+2=>simp at a
end
end Go.Proofs.YthehkchjdkdbiaaGreatDoor
