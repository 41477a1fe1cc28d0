/- The reader of the program: Read. (RWN.) -/
import Derived.Test.YthohlofpphjofaaGreatDoorGbGq
import Derived.Test.YthohlofpphjofaaGreatDoorNrHGq
import Derived.Test.YthohlofpphjofaaGreatDoorNrKGq
set_option maxHeartbeats 16000000
set_option maxRecDepth 100000
set_option linter.unusedVariables false
set_option linter.unusedSimpArgs false
namespace Go.Proofs.YthohlofpphjofaaGreatDoor
open Go.RowKit
theorem aee {p:Prop}(h:p:=by
 refine lI ?_
 refine (?_:_=_∧Tr _ _ _)
 exact ⟨rfl,(zqt id)⟩):p:=h
theorem ad1 {p:Prop}(h:p:=by
 refine lI ?_
 refine (?_:Tr _ _ _)
 refine amO ?_
 exact (zqt id)):p:=h
theorem adO {p:Prop}(h:p:=by
 rw [rY,Lib.count_one]
 have:=List.count_le_length (a:=(10:UInt8)) (l:=t)
 omega):p:=h
theorem Qx {p:Prop}(h:p:=by
 unfold Gn V7
 exact ⟨rfl,(zqt id)⟩):p:=h
theorem amO {p q:Prop}(k:q)(h:aS q→p:=by
 intro hq
 refine Tr.trans (Tr.nilC 4 2 3 rfl rfl rfl) ?_
 refine Tr.trans (Tr.nilC 4 3 1 rfl rfl rfl) ?_
 refine Tr.trans (Tr.nilBox 90 6 (k:=4) (j:=4) rfl rfl rfl rfl) ?_
 refine Tr.trans (Tr.nilBox 153 1 (k:=4) (j:=5) rfl rfl rfl rfl) ?_
 refine Tr.trans (Tr.widen 5 rfl) ?_
 exact hq.k):p:=h ⟨k⟩
theorem ahE {p q:Prop}(k:q)(h:aS q→p:=by
 intro hq
 refine lI ?_
 refine W.drawK aK aK ?_
 repeat (first|refine DK.vl rfl (WV.nch rfl rfl) ?_|refine DK.bt rfl rfl aj ?_|refine DK.bf rfl rfl aj ?_|refine DK.st rfl ?_|refine DK.len rfl rfl rfl ?_|refine DK.nil ?_)
 refine lI ?_
 exact hq.k):p:=h ⟨k⟩
theorem WV.cv {P:Program} {C:Cx} {σ:St} {o:Oper} {x:Operand} {v r:Value} {res:AV} (hx:σ.ev x=some (.sc v))(hp:plT res=some r)(h:∀ (a:Act) w,a.eval x=v→(execOp a.eval o).run P w=.ok (.value r) w):WV P C o σ res :=
 WV.val (fun G a w ok=>(D6 (F:=G.F) hp).bd _) fun G a w ok=>⟨r,h a w (ok.evr hx).2.sc_eq,.pu _ _ (D6 hp)⟩
def RU:List AV:=[.pt 0 0 0,.pt 1 0 0,.pt 2 0 0,.pt 3 0 0]
def V7:List (Nat×AO):=[(0,.box 23 [.sc (.int .u8 0)]),(1,.box 30 [.sc (.slice none 0 0),.sc (.slice none 0 0),.sc (.slice none 0 0)]),(2,.box 3 [.sc (.int .i64 0)]),(3,.box 31 [.sc (.int .i64 0)])]
def ZT (r:BZ):List (Nat×AO):=[(0,.box 23 [.sc (.int .u8 r.1)]),(1,.box 30 [.ls 3 (r.2.1.cs.map aW),.ls 1 (r.2.1.st.map eInt),.ls 6 (r.2.1.evs.map iq)]),(2,.box 3 [.sc (.int .i64 r.2.2.1)]),(3,.box 31 [.sc (.int .i64 r.2.2.2)])]
theorem akL (r:BZ):CtoD Tryz.prog 37 RU (ZT r) 4 .returning .returning (ZT r):=by
 refine CtoD.intro (rv:=.nilIface) (d:=7) (res:=.tu []) Tryz.func37 rfl Tryz.ntmps37 (aP rfl) rfl rfl rfl rfl (fun a w=>by kernel_rfl) (fun c₀ cs h=>.inr ⟨by simp [recoverD,h],rfl,rfl⟩) fun w0 F0 fp pg=>?_
 unfold RU ZT
 refine jw ?_
 refine aik ?_
 refine WL.vl rfl (WV.cv (x:=.tmp 7) (r:=.bool true) (res:=.sc (.bool true)) rfl rfl fun a w e=>by unfold execOp;simp only [e];kernel_rfl) ?_
 refine aik ?_
 refine (?_:QFinM _ _ _ _ _ _ .normal _)
 exact rF (σ':=⟨[],ZT r,4⟩) (zqt id) (rE rfl rfl rfl rfl rfl)
theorem akK (n e:Int):CtoD Tryz.prog 37 RU V7 4 (.panicking (pch (cZ n e))) (.panicking [{ v:=cZ n e,recovered:=true }]) (ZT (fV n e)):=by
 refine CtoD.intro (rv:=cZ n e) (d:=7) (res:=.tu []) Tryz.func37 rfl Tryz.ntmps37 (aP rfl) rfl rfl rfl rfl (fun a w=>by kernel_rfl) (fun c₀ cs h=>.inl (by simp [recoverD,h,pch])) fun w0 F0 fp pg=>?_
 unfold RU V7 cZ
 refine jw ?_
 refine WH ?_
 refine WL.vl rfl (WV.cv (x:=.tmp 7) (r:=.bool false) (res:=.sc (.bool false)) rfl rfl fun a w e=>by unfold execOp;simp only [e];kernel_rfl) ?_
 refine WH ?_
 refine WL.vl rfl (WV.cv (x:=.tmp 7) (r:=.tuple #[.agg #[.int .i64 n,.int .i64 e],.bool true]) (res:=.tu [.ag [.sc (.int .i64 n),.sc (.int .i64 e)],.sc (.bool true)]) rfl rfl fun a w e=>by unfold execOp;simp only [e];kernel_rfl) ?_
 refine WH ?_
 refine W.drawT 8 aK aK aK ?_
 refine WA.dt [false,false,false,false,false,true,true,true] [4] [4] 7 aK aK aK ⟨rfl,trivial⟩ ⟨rfl,trivial⟩ ?_
 refine gQ ?_
 refine qW ?_
 refine DTK.sto rfl rfl rfl rfl rfl rfl rfl rfl rfl rfl rfl rfl rfl rfl ⟨rfl,trivial⟩ (fun _=>⟨rfl,trivial⟩) ?_
 refine DTK.sto rfl rfl rfl rfl rfl rfl rfl rfl rfl rfl rfl rfl rfl rfl ⟨rfl,trivial⟩ (fun _=>⟨rfl,trivial⟩) ?_
 refine DTK.sto rfl rfl rfl rfl rfl rfl rfl rfl rfl rfl rfl rfl rfl rfl ⟨rfl,trivial⟩ (fun h=>by cases h) ?_
 refine DTK.nil ?_
 refine ⟨rfl,?_⟩
 refine (?_:WL _ _ _ _ _ _)
 refine WH ?_
 refine (?_:QFinM _ _ _ _ _ _ .normal _)
 refine rF (σ':=⟨[],ZT (fV n e),4⟩) ?_ (rE rfl rfl rfl rfl rfl)
 refine Tr.trans (Tr.nilC 1 0 3 rfl rfl rfl) ?_
 refine Tr.trans (Tr.nilC 1 1 1 rfl rfl rfl) ?_
 refine Tr.trans (Tr.nilC 1 2 6 rfl rfl rfl) ?_
 exact (zqt id)
def V8 (P:Program)(σ:St):ResultVar→Option AV
 | .tmp t=>resV P σ (.tmp t)
 | .cell t T =>
  match look t σ.t with
  | some (.pt k 0 0) =>
   match look k σ.M,aggB P T with
   | some (.box _ [av]),some false=>some av
   | _,_=>resV P σ (.cell t T)
  | _=>none
def DY (P:Program)(σ:St):List ResultVar→Option (List AV)
 | []=>some []
 | r::l =>
  match V8 P σ r,DY P σ l with
  | some a,some b=>some (a::b)
  | _,_=>none
section
variable {P:Program} {C:Cx} {σ:St} {G:Gh} {a:Act} {w:World}
theorem ace (ok:Ok C σ G a w) {r:ResultVar} {av:AV} (h:V8 P σ r=some av) (hp:av.pu2=true):∃ v,(resOne a.tmps r).run P w=.ok v w∧RP G.F av v:=by
 cases r with
 | tmp t=>exact resV_of ok h hp
 | cell t T =>
  unfold V8 at h
  dsimp only at h
  split at h
  ·rename_i k ht
   split at h
   ·rename_i T' av' hk hT
    cases h
    obtain ⟨p,ep,h1,h2,h3⟩:=(ok.tm t _ ht).2.2.pt_of
    have ho:av.own=false:=by cases av<;>first|rfl|cases hp
    obtain ⟨u,hu,hr,_⟩:=ok.cell (i:=0) (j:=0) (l:=[av]) hk rfl (show ([av]:List AV)[0]?=some av from rfl) h1 h2 h3 ho
    refine ⟨u,?_,(pu2_bd hp 0).rp hr⟩
    have hu:w.cell? p=some u:=hu
    unfold resOne
    simp [ep,asAddr,loadVar,run_aggB hT,hu]
   ·exact resV_of ok h hp
  ·cases h
theorem PI (ok:Ok C σ G a w):∀ {l:List ResultVar} {avs:List AV},DY P σ l=some avs→avs.all AV.pu2=true→∃ vs:List Value,(l.mapM (resOne a.tmps)).run P w=.ok vs w∧vs.length=avs.length∧∀ (i:Nat)av u,avs[i]?=some av→vs[i]?=some u→RP G.F av u
 | [],avs,h,_=>by cases h;exact ⟨[],rfl,rfl,fun i av u x=>by simp at x⟩
 | r::l,avs,h,hp=>by
  cases h1:V8 P σ r with
  | none=>simp only [DY,h1]at h;cases h
  | some x =>
  cases h2:DY P σ l with
  | none=>simp only [DY,h1,h2]at h;cases h
  | some y =>
   simp only [DY,h1,h2,Option.some.injEq]at h
   subst h
   simp only [List.all_cons,dw]at hp
   obtain ⟨v,e1,e2⟩:=ace ok h1 hp.1
   obtain ⟨vs,f1,f2,f3⟩:=PI ok h2 hp.2
   exact ai0
theorem alv {fn:Func} {avs:List AV} {res:AV} (h:DY P σ fn.results.toList=some avs)(hp:avs.all AV.pu2=true)(hl:Nat.beq avs.length 1=false)(e:.tu avs=res):Fin P fn C σ res:=by
 intro G a w ok
 subst e
 obtain⟨vs,e1,e2,e3⟩:=PI ok h hp
 exact aiN
end
def yU (F:List (List UInt8))(tl:List UInt8):List (List UInt8):=if tl=[]then F else F++[tl]
theorem ag6 (F:List (List UInt8))(tl:List UInt8):(yU F tl).length=F.length+(if tl=[]then 0 else 1):=by unfold yU;split<;>simp
theorem KQ (F:List (List UInt8)) (tl:List UInt8) (k:Nat):je (yU F tl) (decide (tl=[])) k=decide (k<F.length):=by
 unfold je yU
 by_cases e:tl=[]
 ·rw [if_pos e,fQ e];simp
 ·rw [if_neg e,dW e,Fe];simp;omega
theorem KO (F:List (List UInt8))(tl:List UInt8) {k:Nat} (h:k<F.length):(yU F tl).getD k []=F[k]:=by
 unfold yU
 split
 ·rw [dI,aB h];rfl
 ·rw [dI,sS h,aB h];rfl
theorem YF {l:List UInt8} {s:Int} (h:iV l=some s):1≤s∧s≤4:=by
 unfold iV at h
 split at h
 ·split at h
  ·cases h;decide
  ·split at h
   ·cases h;decide
   ·split at h
    ·cases h;decide
    ·split at h
     ·cases h;decide
     ·cases h
 ·cases h
theorem Ot (F:List (List UInt8)) (tl:List UInt8) :
  (∃ n e,tY (yU F tl) (decide (tl=[]))=.er (cZ n e)∧kQ tl F=fV n e) ∨
  (∃ s l0 l1 F2,F=l0::l1::F2∧1≤s∧s≤4∧(aA l1).2=0∧tY (yU F tl) (decide (tl=[]))=.ok (.tu []) [(0,dX (.int .u8 s) (aU s) ((aA l1).1.1.map aW) ((aA l1).1.2.map eInt) 2 ((yU F tl).map bg) (decide (tl=[])))] 4 ∧
   kQ tl F=if 400<F2.length+(if tl=[] then 0 else 1) then fV 403 2 else jG s (aA l1).1.1 (aA l1).1.2 tl F2):=by
 have h0:=KQ F tl 0
 have h1:=KQ F tl 1
 cases F with
 | nil=>exact .inl ⟨1,4,by unfold tY;rw [h0,if_pos (by simp)],rfl⟩
 | cons l0 F1 =>
  have g0:=KO (l0::F1) tl (k:=0) (by simp)
  cases hs:iV l0 with
  | none=>exact .inl ⟨1,4,by unfold tY;rw [h0,if_neg (by simp),g0];show (match iV l0 with|none=>UR.er (cZ 1 4)|some s=>_)=_;rw [hs],by unfold kQ;dsimp only;rw [hs]⟩
  | some s =>
   have hb:=YF hs
   have e1:kQ tl (l0::F1)=pU s tl F1:=by unfold kQ;dsimp only;rw [hs]
   have e2:tY (yU (l0::F1) tl) (decide (tl=[]))=if je (yU (l0::F1) tl) (decide (tl=[])) 1=false then .er (cZ 2 4) else
     if (aA ((yU (l0::F1) tl).getD 1 [])).2≠0 then .er (cZ 2 (aA ((yU (l0::F1) tl).getD 1 [])).2) else
     .ok (.tu []) [(0,dX (.int .u8 s) (aU s) ((aA ((yU (l0::F1) tl).getD 1 [])).1.1.map aW) ((aA ((yU (l0::F1) tl).getD 1 [])).1.2.map eInt) 2 ((yU (l0::F1) tl).map bg) (decide (tl=[])))] 4:=by
    conv=>lhs;unfold tY
    rw [h0,if_neg (by simp),g0]
    show (match iV l0 with|none=>_|some s=>_)=_
    rw [hs]
   rw [e1,e2,h1]
   cases F1 with
   | nil=>exact .inl ⟨2,4,if_pos (by simp),rfl⟩
   | cons l1 F2 =>
    rw [if_neg (by simp),KO (l0::l1::F2) tl (k:=1) (by simp)]
    show (∃ n e,(if (aA l1).2≠0 then _ else _)=UR.er (cZ n e)∧_)∨_
    by_cases hi:(aA l1).2≠0
    ·exact .inl ⟨2,(aA l1).2,if_pos hi,by unfold pU;dsimp only;rw [if_pos hi]⟩
    ·exact .inr ⟨s,l0,l1,F2,rfl,hb.1,hb.2,Decidable.not_not.1 hi,if_neg hi,by unfold pU;dsimp only;rw [if_neg hi]⟩
theorem Yt {s:Int} {cs:List Crs} {st:List Int} {tl:List UInt8} {L:List (List UInt8)} (hs:1≤s):(jG s cs st tl L).1=0→jG s cs st tl L=fV (jG s cs st tl L).2.2.1 (jG s cs st tl L).2.2.2:=by
 unfold jG
 split
 ·intro _;rfl
 ·split
  ·intro _;rfl
  ·split
   ·intro _;rfl
   ·intro h;have h:s=0:=h;omega
theorem Dt {t:List UInt8} (h:(au t).1=0):au t=fV (au t).2.2.1 (au t).2.2.2:=by
 unfold au at h ⊢
 obtain⟨⟨F,tl⟩,hF⟩:∃ z,aI 10 t=z:=⟨_,rfl⟩
 rw [hF]at h ⊢
 dsimp only at h ⊢
 rcases Ot F tl with⟨n,e,_,e2⟩|⟨s,l0,l1,F2,_,h1,_,_,_,e2⟩
 ·rw [e2];rfl
 ·rw [e2]at h ⊢
  by_cases c:400<F2.length+(if tl=[]then 0 else 1)
  ·rw [if_pos c];rfl
  ·rw [if_neg c]at h ⊢;exact Yt h1 h
theorem Yw {l:List UInt8} (h:(aA l).2=0):gB (aA l).1.1 (aA l).1.2=0:=by
 unfold aA at h ⊢
 split at h
 ·rename_i c;exact absurd h c
 ·rename_i c
  split at h
  ·rename_i c2;exact absurd h c2
  ·rename_i c2
   rw [if_neg c,if_neg c2]
   exact Decidable.not_not.1 c2
theorem Yn {s:Int} {cs:List Crs} {st:List Int} {ln:Int} {T:List (List AV)} {cl:Bool} {E:List NC} {t:List UInt8} (h:eX s cs E.length t≠0):Kw s cs st ln T cl E (eY s (aG s cs) t)=.er (cZ ln (eX s cs E.length t)):=by
 unfold eX at h ⊢
 cases hf:eY s (aG s cs) t with
 | none=>rfl
 | some x =>
  rw [hf] at h
  dsimp only at h
  exact if_pos h
theorem Yo {s:Int} {cs:List Crs} {st:List Int} {ln:Int} {T:List (List AV)} {cl:Bool} {E:List NC} {t:List UInt8} (h:eX s cs E.length t=0):Kw s cs st ln T cl E (eY s (aG s cs) t) =
  .ok (.tu []) [(0,.box 78 [.sc (.int .u8 s),.sc (aU s),.ls 3 (cs.map aW),.ls 1 (st.map eInt),.sl 3,.sl 4,.sc (.int .i64 ln),.ls 1 T,.sc (.bool cl)]),(3,.rwn 90 6 (((E++[aX s cs t]).map dJ).map jA)),(4,.row 153 1 ((E++[aX s cs t]).map (pK s)))] 5:=by
 unfold eX at h
 unfold aX
 cases hf:eY s (aG s cs) t with
 | none=>rw [hf] at h;cases h
 | some x =>
  rw [hf] at h
  dsimp only at h
  exact if_neg (fun g=>g h)
theorem Ac {s:Int} {n:Nat} {bar:Bool} {W:List (List UInt8)} {x:NC} (h:kR s n bar W=some x):x.l.length≤14:=by
 unfold kR at h
 split at h
 ·obtain⟨y,_,hy⟩:=Option.bind_eq_some_iff.1 h
  exact (Dk hy).2.2.2.2
 ·cases h
theorem Yy (s:Int)(cs:List Crs)(t:List UInt8):(aX s cs t).l.length≤14:=by
 unfold aX
 cases h:eY s (aG s cs) t with
 | none=>simp
 | some x =>
  unfold eY at h
  split at h
  ·split at h
   ·exact Ac h
   ·exact Ac h
  ·cases h
def rdU (r:BZ):FrameMode:=if r.1=0 then .panicking (pch (cZ r.2.2.1 r.2.2.2))else .returning
def rdV(r:BZ):FrameMode:=if r.1=0 then .panicking [{ v:=cZ r.2.2.1 r.2.2.2,recovered:=true }]else .returning
def rdM (r:BZ):List (Nat×AO):=if r.1=0 then V7 else ZT r
def Gn:List (Nat×AV):=[(2,.pt 0 0 0),(3,.pt 1 0 0),(4,.pt 2 0 0),(5,.pt 3 0 0)]
def rdR (r:BZ):AV:=.tu [.sc (.int .u8 r.1),.ag [.ls 3 (r.2.1.cs.map aW),.ls 1 (r.2.1.st.map eInt),.ls 6 (r.2.1.evs.map iq)],.sc (.int .i64 r.2.2.1),.sc (.int .i64 r.2.2.2)]
theorem rdD (t:List UInt8):CtoD Tryz.prog 37 RU (rdM (au t)) 4 (rdU (au t)) (rdV (au t)) (ZT (au t)):=by
 have hn:=Dt (t:=t)
 obtain ⟨r,hr⟩:∃ z,au t=z:=⟨_,rfl⟩
 rw [hr] at hn ⊢
 unfold rdM rdU rdV
 by_cases h:r.1=0
 ·rw [if_pos h,if_pos h,if_pos h]
  have e:=hn h
  have:=akK r.2.2.1 r.2.2.2
  rw [← e] at this
  exact this
 ·rw [if_neg h,if_neg h,if_neg h]
  exact akL r
theorem akM (t:List UInt8) (ht:t.length≤65536):Ctg jQ Tryz.prog 11 [.sc (.string (bs t))] (rdR (au t)):=by
 have hW:=yH 10 t aj
 have hwb:=nJ 10 t
 have hwl:(aV 10 t).length≤65537:=by
  exact adO
 have hD:=rdD t
 refine Ctg.introD (σ0:=⟨[(0,.sc (.string (bs t))),(2,.pt 0 0 0),(3,.pt 1 0 0),(4,.pt 2 0 0),(5,.pt 3 0 0)],V7,4⟩) (σ1:=⟨[(0,.sc (.string (bs t))),(2,.pt 0 0 0),(3,.pt 1 0 0),(4,.pt 2 0 0),(5,.pt 3 0 0)],V7,4⟩) (T:=Gn) (caps:=RU) iG Tryz.func11 rfl Tryz.ntmps11 (aP rfl) (aT rfl)
  rfl rfl rfl rfl rfl rfl rfl rfl rfl rfl (callF Tryz.func37 rfl rfl) (fun w0 F0 hB=>?_) (fun w0 F0 hB=>?_) (fun w0 F0 pg ds hB=>?_) hD ?_ (fun C=>?_)
 ·unfold V7
  dsimp only [St.init,number,Nat.reduceAdd]
  exact aee
 ·unfold V7
  exact aee
 rotate_left
 ·unfold rdV;split<;>rfl
 ·unfold ZT Gn rdR
  exact alv rfl rfl rfl rfl
 have hR:au t=kQ (aI 10 t).2 (aI 10 t).1:=rfl
 obtain ⟨R,hRe⟩:∃ z,au t=z:=⟨_,rfl⟩
 rw [hRe] at hR ⊢
 clear hRe hD
 unfold aV at hW hwb hwl
 obtain ⟨⟨F,tl⟩,hF⟩:∃ z,aI 10 t=z:=⟨_,rfl⟩
 rw [hF] at hW hwb hwl hR
 dsimp only at hW hwb hwl hR
 have hhd:=Ot F tl
 have hnx:=KQ F tl
 have hgt:=fun k=>KO F tl (k:=k)
 have hLl:=ag6 F tl
 have hLb:∀ w∈yU F tl,w.length≤65536:=fun w hw=>by
  have:w∈F++[tl]:=by
   unfold yU at hw;split at hw
   ·exact EH _ hw
   ·exact hw
  have:=hwb w this;omega
 have hLn:(yU F tl).length≤65537:=by rw [hLl];simp at hwl;split<;>omega
 have hhead:=ajT (yU F tl) (decide (tl=[])) aj (fun w hw=>by have:=hLb w hw;omega)
 have hFl:F.length≤65536:=by simp at hwl;omega
 have hml:((F++[tl]).map bg).length=F.length+1:=by simp
 have ajR:((F++[tl]).map bg)[((F.length:Int)+1 - 1).toNat]?=some (bg tl):=by
  rw [show ((F.length:Int)+1 - 1).toNat=F.length by omega,bC,qL (Nat.le_refl _)];simp
 obtain ⟨W0,hW0⟩:∃ z,(F++[tl]).map bg=z:=⟨_,rfl⟩
 rw [hW0] at hW hml ajR
 obtain ⟨LT,Vp⟩:∃ z,(yU F tl).map bg=z:=⟨_,rfl⟩
 have anu:LT.length=(yU F tl).length:=by rw [← Vp];exact dH _
 unfold RU V7
 dsimp only [St.put]
 refine lI ?_
 refine WL.vl rfl (WV.callG hB rfl (callF Tryz.func38 rfl rfl) rfl rfl hW) ?_
 refine lI ?_
 refine WL.idx rfl rfl (by omega) (by rw [hml,Jh];exact ajR) ?_
 refine lI ?_
 refine W.meet ⟨[(2,.pt 0 0 0),(3,.pt 1 0 0),(4,.pt 2 0 0),(5,.pt 3 0 0),(6,.pt 4 0 0)],[(0,.box 23 [.sc (.int .u8 0)]),(1,.box 30 [.sc (.slice none 0 0),.sc (.slice none 0 0),.sc (.slice none 0 0)]),(2,.box 3 [.sc (.int .i64 0)]),(3,.box 31 [.sc (.int .i64 0)]),
  (4,.box 78 [.sc (.int .u8 0),.sc .nilIface,.ls 3 [],.ls 1 [],.sl 5,.sl 6,.sc (.int .i64 0),.ls 1 LT,.sc (.bool (decide (tl=[])))]),(5,.rwn 90 6 []),(6,.row 153 1 [])],7⟩ ?_ ?_
 ·by_cases htl:tl=[]
  ·have hb:(tl == ([]:List UInt8))=true:=by rw [htl];rfl
   have hpr:prt W0 0 ((W0.length:Int) - 1)=LT:=by
    rw [hml,Jh,← hW0,← Vp]
    unfold prt yU
    rw [if_pos htl,show ((F.length:Int)+((1:Nat):Int) - 1).toNat=F.length by omega]
    simp
   rw [fQ htl]
   rw [hb]
   refine lI ?_
   refine WL.part_ rfl rfl ⟨by omega,by omega,by omega⟩ hpr ?_
   exact ad1
  ·have hb:(tl == ([]:List UInt8))=false:=by simpa using htl
   have hpr:W0=LT:=by
    rw [← hW0,← Vp]
    unfold yU
    rw [if_neg htl]
   rw [dW htl]
   rw [hb,hpr]
   exact ad1
 clear hW hwb hwl hml ajR hW0
 unfold dX at hhd
 rcases hhd with ⟨n,e,h1,h2⟩|⟨s,l0,l1,F2,hFe,hs1,hs4,hin,h1,h2⟩
 ·rw [h2] at hR
  rw [h1] at hhead
  have hF2:Ctp jQ sZ Tryz.prog _ _ _ _ _:=(hhead.er_ rfl).frame (X:=[(1,.rwn 90 6 []),(2,.row 153 1 [])])
  rw [Vp] at hF2
  subst hR
  refine lI ?_
  refine WL.ctp hB [4,5,6] rfl rfl (callF Tryz.func39 rfl rfl) hF2 rfl rfl rfl ⟨⟨rfl,rfl,rfl⟩,⟨rfl,rfl,rfl⟩,⟨rfl,rfl,rfl⟩,trivial⟩ ?_
  show mdOf (.panic (pch (cZ n e)))=some (rdU (fV n e))∧Tr _ _ ⟨Gn,V7,4⟩
  exact Qx
 have hs:1≤s∧s≤4:=⟨hs1,hs4⟩
 rw [h1] at hhead
 have hF2:Cto jQ sZ Tryz.prog _ _ _ _ _ _ _:=(hhead.ok_ rfl).fr2 (a:=.rwn 90 6 []) (b:=.row 153 1 [])
 rw [Vp] at hF2
 rw [h2] at hR
 have hI:=Yw hin
 obtain ⟨⟨⟨cs,st⟩,e0⟩,hnI⟩:∃ z,aA l1=z:=⟨_,rfl⟩
 rw [hnI] at hR hI hF2
 dsimp only at hR hI hF2
 obtain ⟨hc1,alS,aoQ,_,hcr⟩:=jK hI
 have hcb:∀ c∈cs,0≤c.2.1∧c.2.1≤1000:=fun c hc=>by
  obtain ⟨k,hk,e⟩:=fZ hc
  have:=BN hcr k hk
  rw [e] at this;omega
 clear hhead h1 h2 hin
 refine lI ?_
 refine WL.cto hB [4,5,6] rfl rfl (callF Tryz.func39 rfl rfl) hF2 rfl rfl rfl ⟨⟨rfl,rfl,rfl⟩,⟨rfl,rfl,rfl⟩,⟨rfl,rfl,rfl⟩,trivial⟩ rfl rfl rfl rfl ?_
 refine lI ?_
 have ant:F.length=F2.length+2:=by rw [hFe];rfl
 have alz:LT.length=F2.length+2+(if tl=[] then 0 else 1):=by rw [anu,hLl,ant]
 by_cases hbig:400 < F2.length+(if tl=[] then 0 else 1)
 ·rw [if_pos hbig] at hR
  subst hR
  rw [fQ (show (402:Int) < (LT.length:Int) by omega)]
  refine lI ?_
  refine WL.ctp (truH _) [4,5,6] rfl rfl (callF Tryz.func40 rfl rfl) (aas _ _ _ _ _ _ _ _) rfl rfl rfl ⟨⟨rfl,rfl,rfl⟩,trivial⟩ ?_
  show mdOf (.panic (pch (cZ (403) (2))))=some (rdU (fV (403) (2)))∧Tr _ _ ⟨Gn,V7,4⟩
  exact Qx
 rw [if_neg hbig] at hR
 rw [dW (show ¬ (402:Int) < (LT.length:Int) by omega)]
 have apg:F2.length≤400:=by omega
 refine lI ?_
 refine W.loop (fun k:Nat=>k≤F2.length∧∀ j (h:j < F2.length),j < k→eX s cs j F2[j]=0) (fun k=>⟨[(2,.pt 0 0 0),(3,.pt 1 0 0),(4,.pt 2 0 0),(5,.pt 3 0 0),(6,.pt 4 0 0)],
  [(0,.box 23 [.sc (.int .u8 0)]),(1,.box 30 [.sc (.slice none 0 0),.sc (.slice none 0 0),.sc (.slice none 0 0)]),(2,.box 3 [.sc (.int .i64 0)]),(3,.box 31 [.sc (.int .i64 0)]),(4,.box 78 [.sc (.int .u8 s),.sc (aU s),.ls 3 (cs.map aW),.ls 1 (st.map eInt),.sl 5,.sl 6,.sc (.int .i64 ((k:Int)+2)),.ls 1 LT,.sc (.bool (decide (tl=[])))]),(5,.rwn 90 6 ((((F2.take k).map (aX s cs)).map dJ).map jA)),(6,.row 153 1 (((F2.take k).map (aX s cs)).map (pK s)))],8⟩) (fun k=>F2.length+1 - k) 0 ⟨by omega,fun j hj h=>absurd h (by omega)⟩ (zqt id) fun k hk=>?_
 obtain ⟨hk,hall⟩:=hk
 have hEl:((F2.take k).map (aX s cs)).length=k:=by rw [dH,jR];omega
 by_cases hlt:k+2 < LT.length
 ·have hnk:=Rn (.int .u8 s) (aU s) (cs.map aW) (st.map eInt) (yU F tl) (decide (tl=[])) (k+2) aj aj
  rw [hnx (k+2),Vp,show ((k+2:Nat):Int)=(k:Int)+2 by omega] at hnk
  by_cases hkf:k < F2.length
  ·rw [fQ (show k+2 < F.length by omega),if_pos rfl] at hnk
   have hg:(yU F tl).getD (k+2) []=F2[k]:=by
    rw [hgt (k+2) (by omega)];subst hFe;rfl
   rw [hg] at hnk
   have hco:=aag s hs cs st ((k:Int)+2+1) LT (decide (tl=[])) ((F2.take k).map (aX s cs)) F2[k] (by
    have:F2[k]∈F:=by rw [hFe];simp
    have:F2[k]∈yU F tl:=by unfold yU;split<;>simp [this]
    have:=hLb _ this;omega) aj hcb aj
   have hbad:=fun h=>H7 (s:=s) (cs:=cs) (L:=F2) (k:=0) (j:=k) hkf (fun i hi hik=>by rw [mJ];exact hall i hi hik) h
   rw [mJ] at hbad
   have hEo:=Yn (s:=s) (cs:=cs) (st:=st) (ln:=(k:Int)+2+1) (T:=LT) (cl:=decide (tl=[])) (E:=(F2.take k).map (aX s cs)) (t:=F2[k])
   have hEk:=Yo (s:=s) (cs:=cs) (st:=st) (ln:=(k:Int)+2+1) (T:=LT) (cl:=decide (tl=[])) (E:=(F2.take k).map (aX s cs)) (t:=F2[k])
   rw [hEl] at hEo hEk
   have htk:(F2.take k).map (aX s cs)++[aX s cs F2[k]]=(F2.take (k+1)).map (aX s cs):=by
    rw [gq hkf,gK];rfl
   rw [htk] at hEk
   obtain ⟨EV,hEV⟩:∃ z,(((F2.take k).map (aX s cs)).map dJ).map jA=z:=⟨_,rfl⟩
   obtain ⟨NT,hNT⟩:∃ z,((F2.take k).map (aX s cs)).map (pK s)=z:=⟨_,rfl⟩
   rw [hEV,hNT] at hco ⊢
   obtain ⟨EV1,aly⟩:∃ z,(((F2.take (k+1)).map (aX s cs)).map dJ).map jA=z:=⟨_,rfl⟩
   obtain ⟨NT1,alC⟩:∃ z,((F2.take (k+1)).map (aX s cs)).map (pK s)=z:=⟨_,rfl⟩
   rw [aly,alC] at hEk
   have hF1:Cto truB 0 Tryz.prog _ _ _ _ _ _ _:=(hnk.ok_ rfl).fr2 (a:=.rwn 90 6 EV) (b:=.row 153 1 NT)
   unfold dX at hF1 hco
   by_cases he:eX s cs k F2[k]=0
   ·have hF3:Cto jQ sZ Tryz.prog _ _ _ _ _ _ _:=hco.ok_ (hEk he)
    have hnx2:∀ j (hj:j < F2.length),j < k+1→eX s cs j F2[j]=0:=fun j hj hjk=>by
     by_cases e:j=k
     ·subst e;exact he
     ·exact hall j hj aj
    clear hall hnk hco hEo hEk hbad
    refine ahE ?_
    refine WL.cto (truH _) [4,5,6] rfl rfl (callF Tryz.func42 rfl rfl) hF1 rfl rfl rfl ⟨⟨rfl,rfl,rfl⟩,⟨rfl,rfl,rfl⟩,⟨rfl,rfl,rfl⟩,trivial⟩ rfl rfl rfl rfl ?_
    refine lI ?_
    refine WL.cto hB [4,5,6] rfl rfl (callF Tryz.func41 rfl rfl) hF3 rfl rfl rfl ⟨⟨rfl,rfl,rfl⟩,⟨rfl,rfl,rfl⟩,⟨rfl,rfl,rfl⟩,trivial⟩ rfl rfl rfl rfl ?_
    refine lI ?_
    refine ⟨k+1,⟨by omega,hnx2⟩,by omega,?_⟩
    rw [aly,alC,show ((k+1:Nat):Int)+2=(k:Int)+2+1 by omega]
    exact (mP (fun q=>bif Nat.beq q 5 then 8 else bif Nat.beq q 6 then 9 else q) amJ rfl)
   ·have hF3:Ctp jQ sZ Tryz.prog _ _ _ _ _:=hco.er_ (hEo he)
    have hRb:R=fV ((k:Int)+2+1) (eX s cs k F2[k]):=by
     rw [hR];unfold jG;rw [hbad he]
     show fV ((k:Int)+3) _=_
     rw [show (k:Int)+3=(k:Int)+2+1 by omega]
    subst hRb
    clear hall hnk hco hEo hEk hbad hR
    obtain ⟨ER,hER⟩:∃ z,eX s cs k F2[k]=z:=⟨_,rfl⟩
    rw [hER] at hF3 ⊢
    refine ahE ?_
    refine WL.cto (truH _) [4,5,6] rfl rfl (callF Tryz.func42 rfl rfl) hF1 rfl rfl rfl ⟨⟨rfl,rfl,rfl⟩,⟨rfl,rfl,rfl⟩,⟨rfl,rfl,rfl⟩,trivial⟩ rfl rfl rfl rfl ?_
    refine lI ?_
    refine WL.ctp hB [4,5,6] rfl rfl (callF Tryz.func41 rfl rfl) hF3 rfl rfl rfl ⟨⟨rfl,rfl,rfl⟩,⟨rfl,rfl,rfl⟩,⟨rfl,rfl,rfl⟩,trivial⟩ ?_
    show mdOf (.panic (pch (cZ ((k:Int)+2+1) (ER))))=some (rdU (fV ((k:Int)+2+1) (ER)))∧Tr _ _ ⟨Gn,V7,4⟩
    exact Qx
  ·obtain rfl:k=F2.length:=by omega
   have htl:tl≠[]:=by intro e;rw [if_pos e] at alz;omega
   rw [dW (show ¬ F2.length+2 < F.length by omega),if_neg (by decide)] at hnk
   have hF1:Ctp truB 0 Tryz.prog _ _ _ _ _:=hnk.er_ rfl
   have hRb:R=fV ((F2.length:Int)+2+1) 4:=by
    rw [hR];unfold jG;rw [oV fun i hi=>by rw [mJ];exact hall i hi hi]
    show (if tl≠[] then fV ((F2.length:Int)+3) 4 else _)=_
    rw [if_pos htl,show (F2.length:Int)+3=(F2.length:Int)+2+1 by omega]
   subst hRb
   clear hall hnk hR
   unfold dX at hF1
   refine ahE ?_
   refine WL.ctp (truH _) [4,5,6] rfl rfl (callF Tryz.func42 rfl rfl) hF1 rfl rfl rfl ⟨⟨rfl,rfl,rfl⟩,trivial⟩ ?_
   show mdOf (.panic (pch (cZ ((F2.length:Int)+2+1) (4))))=some (rdU (fV ((F2.length:Int)+2+1) (4)))∧Tr _ _ ⟨Gn,V7,4⟩
   exact Qx
 obtain rfl:k=F2.length:=by omega
 have htl:tl=[]:=by
  by_cases e:tl=[]
  ·exact e
  ·rw [if_neg e] at alz;omega
 rw [fE] at hEl ⊢
 have hRb:R=(match mZ s (F2.map (aX s cs)) with
  | some i=>fV ((i:Int)+3) 24
  | none=>(s,⟨cs,st,lN s (F2.map (aX s cs))⟩,0,0)):=by
  rw [hR];unfold jG;rw [oV fun i hi=>by rw [mJ];exact hall i hi hi]
  show (if tl≠[] then fV ((F2.length:Int)+3) 4 else _)=_
  rw [if_neg (by simpa using htl)]
  cases mZ s (F2.map (aX s cs))<;>rfl
 refine ahE ?_
 have hH:=agi s hs cs st LT (decide (tl=[])) (F2.map (aX s cs)) aj aj aj (fun x hx=>by
  obtain ⟨u,_,rfl⟩:=List.mem_map.1 hx
  have:=Yy s cs u;omega)
 rw [hEl] at hH
 clear hall hR
 cases hb:mZ s (F2.map (aX s cs)) with
 | some i =>
  rw [hb] at hH hRb
  dsimp only at hH hRb
  subst hRb
  have hF3:Ctp truB 0 Tryz.prog _ _ _ _ _:=hH.er_ rfl
  unfold dX at hF3
  refine WL.ctp (truH _) [4,5,6] rfl rfl (callF Tryz.func43 rfl rfl) hF3 rfl rfl rfl ⟨⟨rfl,rfl,rfl⟩,⟨rfl,rfl,rfl⟩,⟨rfl,rfl,rfl⟩,trivial⟩ ?_
  show mdOf (.panic (pch (cZ ((i:Int)+3) 24)))=some (rdU (fV ((i:Int)+3) 24))∧Tr _ _ ⟨Gn,V7,4⟩
  exact Qx
 | none =>
 rw [hb] at hH hRb
 dsimp only at hH hRb
 have hF3:Cto truB 0 Tryz.prog _ _ _ _ _ _ _:=hH.ok_ rfl
 unfold dX at hF3
 have hu:rdU R=.returning:=if_neg (by rw [hRb];show ¬ s=0;omega)
 have hm:rdM R=ZT R:=if_neg (by rw [hRb];show ¬ s=0;omega)
 rw [hu,hm,hRb]
 clear hu hm hRb hH hb
 obtain ⟨FE,hFE⟩:∃ z,lN s (F2.map (aX s cs))=z:=⟨_,rfl⟩
 rw [hFE] at hF3 ⊢
 refine WL.cto (truH _) [4,5,6] rfl rfl (callF Tryz.func43 rfl rfl) hF3 rfl rfl rfl ⟨⟨rfl,rfl,rfl⟩,⟨rfl,rfl,rfl⟩,⟨rfl,rfl,rfl⟩,trivial⟩ rfl rfl rfl rfl ?_
 refine lI ?_
 refine W.tr (Tr.freezeI 5 1 rfl (y8 _) (GX _)) ?_
 refine W.tr (Tr.freeze 5 rfl) ?_
 refine W.drawT 9 aK aK aK ?_
 refine WA.dt [false,false,false,false,false,false,false,false,true] [4] [4] 8 aK aK aK ⟨rfl,trivial⟩ ⟨rfl,trivial⟩ ?_
 refine FM ?_
 refine gQ ?_
 refine FM ?_
 refine gQ ?_
 refine DTK.sto rfl rfl rfl rfl rfl rfl rfl rfl rfl rfl rfl rfl rfl rfl ⟨rfl,trivial⟩ (fun h=>by cases h) ?_
 refine DTK.nil ?_
 refine ⟨rfl,?_⟩
 refine (?_:WL _ _ _ _ _ _)
 refine lI ?_
 refine W.ret ?_
 refine (?_:_=_∧Tr _ _ ⟨Gn,ZT (s,⟨cs,st,FE⟩,0,0),4⟩)
 unfold Gn ZT
 exact ⟨rfl,(zqt id)⟩
end Go.Proofs.YthohlofpphjofaaGreatDoor
