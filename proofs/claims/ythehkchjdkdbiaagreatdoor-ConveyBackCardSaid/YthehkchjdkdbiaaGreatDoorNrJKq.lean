/- The reader of the program: Read. (RWN.) -/
import Derived.Test.YthehkchjdkdbiaaGreatDoorNrHKq
import Derived.Test.YthehkchjdkdbiaaGreatDoorNrKKq
set_option maxHeartbeats 16000000
set_option maxRecDepth 100000
set_option linter.unusedVariables false
set_option linter.unusedSimpArgs false
namespace Go.Proofs.YthehkchjdkdbiaaGreatDoor
open Go.RowKit
theorem ak0 {p:Prop}(h:p:=by
 refine pz ?_
 refine (?_:_=_∧Tr _ _ _)
 exact ⟨rfl,(zqt id)⟩):p:=h
theorem akN {p:Prop}(h:p:=by
 refine pz ?_
 refine (?_:Tr _ _ _)
 refine aw4 ?_
 exact (zqt id)):p:=h
theorem XW {p:Prop}(h:p:=by
 unfold N9 rdB
 exact ⟨rfl,(zqt id)⟩):p:=h
theorem aw4 {p q:Prop}(k:q)(h:aP q→p:=by
 intro hq
 refine Tr.trans (Tr.yM 4 2 3 rfl rfl rfl) ?_
 refine Tr.trans (Tr.yM 4 3 1 rfl rfl rfl) ?_
 refine Tr.trans (Tr.og 90 6 (k:=4) (j:=4) rfl rfl rfl rfl) ?_
 refine Tr.trans (Tr.og 153 1 (k:=4) (j:=5) rfl rfl rfl rfl) ?_
 refine Tr.trans (Tr.widen 5 rfl) ?_
 exact hq.k):p:=h ⟨k⟩
theorem ac1 {p q:Prop}(k:q)(h:aP q→p:=by
 intro hq
 refine pz ?_
 refine W.OE bD bD ?_
 repeat (first|refine DK.vl rfl (WV.X4 rfl rfl) ?_|refine DK.bt rfl rfl au ?_|refine DK.bf rfl rfl au ?_|refine DK.st rfl ?_|refine DK.len rfl rfl rfl ?_|refine DK.nil ?_)
 refine pz ?_
 exact hq.k):p:=h ⟨k⟩
theorem WV.cv {P:Program} {C:Cx} {σ:St} {o:Oper} {x:Operand} {v r:Value} {res:AV} (hx:σ.ev x=some (.sc v))(hp:plT res=some r)(h:∀ (a:Act) w,a.eval x=v→(execOp a.eval o).run P w=.ok (.value r) w):WV P C o σ res :=
 WV.val (fun G a w ok=>(Lc (F:=G.F) hp).bd _) fun G a w ok=>⟨r,h a w (ok.nO hx).2.fB,.pu _ _ (Lc hp)⟩
def Zd:List AV:=[.pt 0 0 0,.pt 1 0 0,.pt 2 0 0,.pt 3 0 0]
def rdB:List (Nat×AO):=[(0,.box 23 [.sc (.int .u8 0)]),(1,.box 30 [.sc (.slice none 0 0),.sc (.slice none 0 0),.sc (.slice none 0 0)]),(2,.box 3 [.sc (.int .i64 0)]),(3,.box 31 [.sc (.int .i64 0)])]
def rdF (r:Jk):List (Nat×AO):=[(0,.box 23 [.sc (.int .u8 r.1)]),(1,.box 30 [.ls 3 (r.2.1.cs.map aF),.ls 1 (r.2.1.st.map eInt),.ls 6 (r.2.1.evs.map dI)]),(2,.box 3 [.sc (.int .i64 r.2.2.1)]),(3,.box 31 [.sc (.int .i64 r.2.2.2)])]
theorem atJ (r:Jk):Uk Tryz.prog 37 Zd (rdF r) 4 .returning .returning (rdF r):=by
 refine Uk.intro (rv:=.nilIface) (d:=7) (res:=.tu []) Tryz.func37 rfl Tryz.ntmps37 (bU rfl) rfl rfl rfl rfl (fun a w=>by kernel_rfl) (fun c₀ cs h=>.inr ⟨by simp [recoverD,h],rfl,rfl⟩) fun w0 F0 fp pg=>?_
 unfold Zd rdF
 refine gB ?_
 refine ap5 ?_
 refine WL.vl rfl (WV.cv (x:=.tmp 7) (r:=.bool true) (res:=.sc (.bool true)) rfl rfl fun a w e=>by unfold execOp;simp only [e];kernel_rfl) ?_
 refine ap5 ?_
 refine (?_:sK _ _ _ _ _ _ .normal _)
 exact xB (σ':=⟨[],rdF r,4⟩) (zqt id) (sQ rfl rfl rfl rfl rfl)
theorem atI (n e:Int):Uk Tryz.prog 37 Zd rdB 4 (.panicking (pch (eP n e))) (.panicking [{ v:=eP n e,recovered:=true }]) (rdF (jv n e)):=by
 refine Uk.intro (rv:=eP n e) (d:=7) (res:=.tu []) Tryz.func37 rfl Tryz.ntmps37 (bU rfl) rfl rfl rfl rfl (fun a w=>by kernel_rfl) (fun c₀ cs h=>.inl (by simp [recoverD,h,pch])) fun w0 F0 fp pg=>?_
 unfold Zd rdB eP
 refine gB ?_
 refine acQ ?_
 refine WL.vl rfl (WV.cv (x:=.tmp 7) (r:=.bool false) (res:=.sc (.bool false)) rfl rfl fun a w e=>by unfold execOp;simp only [e];kernel_rfl) ?_
 refine acQ ?_
 refine WL.vl rfl (WV.cv (x:=.tmp 7) (r:=.tuple #[.agg #[.int .i64 n,.int .i64 e],.bool true]) (res:=.tu [.ag [.sc (.int .i64 n),.sc (.int .i64 e)],.sc (.bool true)]) rfl rfl fun a w e=>by unfold execOp;simp only [e];kernel_rfl) ?_
 refine acQ ?_
 refine W.Js 8 bD bD bD ?_
 refine WA.dt [false,false,false,false,false,true,true,true] [4] [4] 7 bD bD bD ⟨rfl,trivial⟩ ⟨rfl,trivial⟩ ?_
 refine uV ?_
 refine uo ?_
 refine uo ?_
 refine aZ.yT rfl rfl rfl rfl rfl rfl rfl rfl rfl rfl rfl rfl rfl rfl ⟨rfl,trivial⟩ (fun _=>⟨rfl,trivial⟩) ?_
 refine aZ.yT rfl rfl rfl rfl rfl rfl rfl rfl rfl rfl rfl rfl rfl rfl ⟨rfl,trivial⟩ (fun _=>⟨rfl,trivial⟩) ?_
 refine aZ.yT rfl rfl rfl rfl rfl rfl rfl rfl rfl rfl rfl rfl rfl rfl ⟨rfl,trivial⟩ (fun h=>by cases h) ?_
 refine aZ.nil ?_
 refine ⟨rfl,?_⟩
 refine (?_:WL _ _ _ _ _ _)
 refine acQ ?_
 refine (?_:sK _ _ _ _ _ _ .normal _)
 refine xB (σ':=⟨[],rdF (jv n e),4⟩) ?_ (sQ rfl rfl rfl rfl rfl)
 refine Tr.trans (Tr.yM 1 0 3 rfl rfl rfl) ?_
 refine Tr.trans (Tr.yM 1 1 1 rfl rfl rfl) ?_
 refine Tr.trans (Tr.yM 1 2 6 rfl rfl rfl) ?_
 exact (zqt id)
def acw (P:Program)(σ:St):ResultVar→Option AV
 | .tmp t=>resV P σ (.tmp t)
 | .cell t T =>
  match look t σ.t with
  | some (.pt k 0 0) =>
   match look k σ.M,yI P T with
   | some (.box _ [av]),some false=>some av
   | _,_=>resV P σ (.cell t T)
  | _=>none
def KW (P:Program)(σ:St):List ResultVar→Option (List AV)
 | []=>some []
 | r::l =>
  match acw P σ r,KW P σ l with
  | some a,some b=>some (a::b)
  | _,_=>none
section
variable {P:Program} {C:Cx} {σ:St} {G:Gh} {a:Act} {w:World}
theorem aiM (ok:Ok C σ G a w) {r:ResultVar} {av:AV} (h:acw P σ r=some av) (hp:av.pu2=true):∃ v,(tC a.tmps r).run P w=.ok v w∧RP G.F av v:=by
 cases r with
 | tmp t=>exact SC ok h hp
 | cell t T =>
  unfold acw at h
  dsimp only at h
  split at h
  ·rename_i k ht
   split at h
   ·rename_i T' XZ hk hT
    cases h
    obtain ⟨p,ep,h1,h2,h3⟩:=(ok.tm t _ ht).2.2.lV
    have ho:av.own=false:=by cases av<;>first|rfl|cases hp
    obtain ⟨u,hu,hr,_⟩:=ok.cell (i:=0) (j:=0) (l:=[av]) hk rfl (show ([av]:List AV)[0]?=some av from rfl) h1 h2 h3 ho
    refine ⟨u,?_,(oC hp 0).rp hr⟩
    have hu:w.cell? p=some u:=hu
    unfold tC
    simp [ep,asAddr,loadVar,Lp hT,hu]
   ·exact SC ok h hp
  ·cases h
theorem WI (ok:Ok C σ G a w):∀ {l:List ResultVar} {bI:List AV},KW P σ l=some bI→bI.all AV.pu2=true→∃ vs:List Value,(l.mapM (tC a.tmps)).run P w=.ok vs w∧vs.length=bI.length∧∀ (i:Nat)av u,bI[i]?=some av→vs[i]?=some u→RP G.F av u
 | [],bI,h,_=>by cases h;exact ⟨[],rfl,rfl,fun i av u x=>by simp at x⟩
 | r::l,bI,h,hp=>by
  cases h1:acw P σ r with
  | none=>simp only [KW,h1]at h;cases h
  | some x =>
  cases h2:KW P σ l with
  | none=>simp only [KW,h1,h2]at h;cases h
  | some y =>
   simp only [KW,h1,h2,Option.some.injEq]at h
   subst h
   simp only [List.all_cons,aW]at hp
   obtain ⟨v,e1,e2⟩:=aiM ok h1 hp.1
   obtain ⟨vs,f1,f2,f3⟩:=WI ok h2 hp.2
   exact aq9
theorem au0 {fn:Func} {bI:List AV} {res:AV} (h:KW P σ fn.results.toList=some bI)(hp:bI.all AV.pu2=true)(hl:Nat.beq bI.length 1=false)(e:.tu bI=res):Fin P fn C σ res:=by
 intro G a w ok
 subst e
 obtain⟨vs,e1,e2,e3⟩:=WI ok h hp
 exact aqW
end
def ED (F:List (List UInt8))(tl:List UInt8):List (List UInt8):=if tl=[]then F else F++[tl]
theorem aok (F:List (List UInt8))(tl:List UInt8):(ED F tl).length=F.length+(if tl=[]then 0 else 1):=by unfold ED;split<;>simp
theorem Sv (F:List (List UInt8)) (tl:List UInt8) (k:Nat):lq (ED F tl) (decide (tl=[])) k=decide (k<F.length):=by
 unfold lq ED
 by_cases e:tl=[]
 ·rw [if_pos e,dG e];simp
 ·rw [if_neg e,cZ e,Gg];simp;omega
theorem Sr (F:List (List UInt8))(tl:List UInt8) {k:Nat} (h:k<F.length):(ED F tl).getD k []=F[k]:=by
 unfold ED
 split
 ·exact ali
 ·rw [oP,qJ h,aI h];rfl
theorem aeB {l:List UInt8} {s:Int} (h:lX l=some s):1≤s∧s≤4:=by
 unfold lX at h
 split at h
 ·split at h
  ·cases h;decide
  ·split at h
   ·cases h;decide
   ·split at h
    ·cases h;decide
    ·split at h
     ·cases h;decide
     ·cases h
 ·cases h
theorem Vx (F:List (List UInt8)) (tl:List UInt8) :
  (∃ n e,zh (ED F tl) (decide (tl=[]))=.er (eP n e)∧sU tl F=jv n e) ∨
  (∃ s l0 l1 F2,F=l0::l1::F2∧1≤s∧s≤4∧(aG l1).2=0∧zh (ED F tl) (decide (tl=[]))=.ok (.tu []) [(0,iC (.int .u8 s) (bG s) ((aG l1).1.1.map aF) ((aG l1).1.2.map eInt) 2 ((ED F tl).map iV) (decide (tl=[])))] 4 ∧
   sU tl F=if 400<F2.length+(if tl=[] then 0 else 1) then jv 403 2 else pR s (aG l1).1.1 (aG l1).1.2 tl F2):=by
 have h0:=Sv F tl 0
 have h1:=Sv F tl 1
 cases F with
 | nil=>exact .inl ⟨1,4,by unfold zh;rw [h0,if_pos (by simp)],rfl⟩
 | cons l0 F1 =>
  have g0:=Sr (l0::F1) tl (k:=0) (by simp)
  cases hs:lX l0 with
  | none=>exact .inl ⟨1,4,by unfold zh;rw [h0,if_neg (by simp),g0];show (match lX l0 with|none=>UR.er (eP 1 4)|some s=>_)=_;rw [hs],by unfold sU;dsimp only;rw [hs]⟩
  | some s =>
   have hb:=aeB hs
   have e1:sU tl (l0::F1)=xK s tl F1:=by unfold sU;dsimp only;rw [hs]
   have e2:zh (ED (l0::F1) tl) (decide (tl=[]))=if lq (ED (l0::F1) tl) (decide (tl=[])) 1=false then .er (eP 2 4) else
     if (aG ((ED (l0::F1) tl).getD 1 [])).2≠0 then .er (eP 2 (aG ((ED (l0::F1) tl).getD 1 [])).2) else
     .ok (.tu []) [(0,iC (.int .u8 s) (bG s) ((aG ((ED (l0::F1) tl).getD 1 [])).1.1.map aF) ((aG ((ED (l0::F1) tl).getD 1 [])).1.2.map eInt) 2 ((ED (l0::F1) tl).map iV) (decide (tl=[])))] 4:=by
    conv=>lhs;unfold zh
    rw [h0,if_neg (by simp),g0]
    show (match lX l0 with|none=>_|some s=>_)=_
    rw [hs]
   rw [e1,e2,h1]
   cases F1 with
   | nil=>exact .inl ⟨2,4,if_pos (by simp),rfl⟩
   | cons l1 F2 =>
    rw [if_neg (by simp),Sr (l0::l1::F2) tl (k:=1) (by simp)]
    show (∃ n e,(if (aG l1).2≠0 then _ else _)=UR.er (eP n e)∧_)∨_
    by_cases hi:(aG l1).2≠0
    ·exact .inl ⟨2,(aG l1).2,if_pos hi,by unfold xK;dsimp only;rw [if_pos hi]⟩
    ·exact .inr ⟨s,l0,l1,F2,rfl,hb.1,hb.2,Decidable.not_not.1 hi,if_neg hi,by unfold xK;dsimp only;rw [if_neg hi]⟩
theorem aeo {s:Int} {cs:List Crs} {st:List Int} {tl:List UInt8} {L:List (List UInt8)} (hs:1≤s):(pR s cs st tl L).1=0→pR s cs st tl L=jv (pR s cs st tl L).2.2.1 (pR s cs st tl L).2.2.2:=by
 unfold pR
 split
 ·intro _;rfl
 ·split
  ·intro _;rfl
  ·split
   ·intro _;rfl
   ·intro h;have h:s=0:=h;omega
theorem J3 {t:List UInt8} (h:(dD t).1=0):dD t=jv (dD t).2.2.1 (dD t).2.2.2:=by
 unfold dD at h ⊢
 obtain⟨⟨F,tl⟩,hF⟩:∃ z,eY 10 t=z:=⟨_,rfl⟩
 rw [hF]at h ⊢
 dsimp only at h ⊢
 rcases Vx F tl with⟨n,e,_,e2⟩|⟨s,l0,l1,F2,_,h1,_,_,_,e2⟩
 ·rw [e2];rfl
 ·rw [e2]at h ⊢
  by_cases c:400<F2.length+(if tl=[]then 0 else 1)
  ·rw [if_pos c];rfl
  ·rw [if_neg c]at h ⊢;exact aeo h1 h
theorem aes {l:List UInt8} (h:(aG l).2=0):fU (aG l).1.1 (aG l).1.2=0:=by
 exact arl
theorem aek {s:Int} {cs:List Crs} {st:List Int} {ln:Int} {T:List (List AV)} {cl:Bool} {E:List NC} {t:List UInt8} (h:iU s cs E.length t≠0):RI s cs st ln T cl E (jk s (aJ s cs) t)=.er (eP ln (iU s cs E.length t)):=by
 unfold iU at h ⊢
 cases hf:jk s (aJ s cs) t with
 | none=>rfl
 | some x =>
  rw [hf] at h
  dsimp only at h
  exact if_pos h
theorem ael {s:Int} {cs:List Crs} {st:List Int} {ln:Int} {T:List (List AV)} {cl:Bool} {E:List NC} {t:List UInt8} (h:iU s cs E.length t=0):RI s cs st ln T cl E (jk s (aJ s cs) t) =
  .ok (.tu []) [(0,.box 78 [.sc (.int .u8 s),.sc (bG s),.ls 3 (cs.map aF),.ls 1 (st.map eInt),.sl 3,.sl 4,.sc (.int .i64 ln),.ls 1 T,.sc (.bool cl)]),(3,.jM 90 6 (((E++[bV s cs t]).map gI).map bM)),(4,.row 153 1 ((E++[bV s cs t]).map (vC s)))] 5:=by
 unfold iU at h
 unfold bV
 cases hf:jk s (aJ s cs) t with
 | none=>rw [hf] at h;cases h
 | some x =>
  rw [hf] at h
  dsimp only at h
  exact if_neg (fun g=>g h)
theorem GV {s:Int} {n:Nat} {bar:Bool} {W:List (List UInt8)} {x:NC} (h:ou s n bar W=some x):x.l.length≤14:=by
 unfold ou at h
 split at h
 ·obtain⟨y,_,hy⟩:=Option.bind_eq_some_iff.1 h
  exact (JU hy).2.2.2.2
 ·cases h
theorem aev (s:Int)(cs:List Crs)(t:List UInt8):(bV s cs t).l.length≤14:=by
 unfold bV
 cases h:jk s (aJ s cs) t with
 | none=>simp
 | some x =>
  unfold jk at h
  split at h
  ·split at h
   ·exact GV h
   ·exact GV h
  ·cases h
def rdU (r:Jk):FrameMode:=if r.1=0 then .panicking (pch (eP r.2.2.1 r.2.2.2))else .returning
def rdV(r:Jk):FrameMode:=if r.1=0 then .panicking [{ v:=eP r.2.2.1 r.2.2.2,recovered:=true }]else .returning
def rdM (r:Jk):List (Nat×AO):=if r.1=0 then rdB else rdF r
def N9:List (Nat×AV):=[(2,.pt 0 0 0),(3,.pt 1 0 0),(4,.pt 2 0 0),(5,.pt 3 0 0)]
def rdR (r:Jk):AV:=.tu [.sc (.int .u8 r.1),.ag [.ls 3 (r.2.1.cs.map aF),.ls 1 (r.2.1.st.map eInt),.ls 6 (r.2.1.evs.map dI)],.sc (.int .i64 r.2.2.1),.sc (.int .i64 r.2.2.2)]
theorem rdD (t:List UInt8):Uk Tryz.prog 37 Zd (rdM (dD t)) 4 (rdU (dD t)) (rdV (dD t)) (rdF (dD t)):=by
 have hn:=J3 (t:=t)
 obtain ⟨r,hr⟩:∃ z,dD t=z:=⟨_,rfl⟩
 rw [hr] at hn ⊢
 unfold rdM rdU rdV
 by_cases h:r.1=0
 ·rw [if_pos h,if_pos h,if_pos h]
  have e:=hn h
  have:=atI r.2.2.1 r.2.2.2
  rw [← e] at this
  exact this
 ·rw [if_neg h,if_neg h,if_neg h]
  exact atJ r
theorem aiG (t:List UInt8) (ht:t.length≤65536):kJ qG Tryz.prog 11 [.sc (.string (bs t))] (rdR (dD t)):=by
 have hW:=LJ 10 t au
 have hwb:=xR 10 t
 have hwl:(dw 10 t).length≤65537:=by
  rw [xU,Lib.count_one]
  have:=List.count_le_length (a:=(10:UInt8)) (l:=t)
  omega
 have hD:=rdD t
 refine kJ.asT (σ0:=⟨[(0,.sc (.string (bs t))),(2,.pt 0 0 0),(3,.pt 1 0 0),(4,.pt 2 0 0),(5,.pt 3 0 0)],rdB,4⟩) (σ1:=⟨[(0,.sc (.string (bs t))),(2,.pt 0 0 0),(3,.pt 1 0 0),(4,.pt 2 0 0),(5,.pt 3 0 0)],rdB,4⟩) (T:=N9) (caps:=Zd) o7 Tryz.func11 rfl Tryz.ntmps11 (bU rfl) (gG rfl)
  rfl rfl rfl rfl rfl rfl rfl rfl rfl rfl (ak Tryz.func37 rfl rfl) (fun w0 F0 hB=>?_) (fun w0 F0 hB=>?_) (fun w0 F0 pg ds hB=>?_) hD ?_ (fun C=>?_)
 ·unfold rdB
  dsimp only [St.init,number,Nat.reduceAdd]
  exact ak0
 ·unfold rdB
  exact ak0
 rotate_left
 ·unfold rdV;split<;>rfl
 ·unfold rdF N9 rdR
  exact au0 rfl rfl rfl rfl
 have hR:dD t=sU (eY 10 t).2 (eY 10 t).1:=rfl
 obtain ⟨R,hRe⟩:∃ z,dD t=z:=⟨_,rfl⟩
 rw [hRe] at hR ⊢
 clear hRe hD
 unfold dw at hW hwb hwl
 obtain ⟨⟨F,tl⟩,hF⟩:∃ z,eY 10 t=z:=⟨_,rfl⟩
 rw [hF] at hW hwb hwl hR
 dsimp only at hW hwb hwl hR
 have hhd:=Vx F tl
 have hnx:=Sv F tl
 have hgt:=fun k=>Sr F tl (k:=k)
 have hLl:=aok F tl
 have hLb:∀ w∈ED F tl,w.length≤65536:=fun w hw=>by
  have:w∈F++[tl]:=by
   unfold ED at hw;split at hw
   ·exact aaq _ hw
   ·exact hw
  have:=hwb w this;omega
 have hLn:(ED F tl).length≤65537:=by rw [hLl];simp at hwl;split<;>omega
 have hhead:=asD (ED F tl) (decide (tl=[])) au (fun w hw=>by have:=hLb w hw;omega)
 have hFl:F.length≤65536:=by simp at hwl;omega
 have hml:((F++[tl]).map iV).length=F.length+1:=by simp
 have asz:((F++[tl]).map iV)[((F.length:Int)+1 - 1).toNat]?=some (iV tl):=by
  rw [show ((F.length:Int)+1 - 1).toNat=F.length by omega,bT,o8 (bJ _)];simp
 obtain ⟨W0,hW0⟩:∃ z,(F++[tl]).map iV=z:=⟨_,rfl⟩
 rw [hW0] at hW hml asz
 obtain ⟨LT,hLT⟩:∃ z,(ED F tl).map iV=z:=⟨_,rfl⟩
 have ayj:LT.length=(ED F tl).length:=by rw [← hLT];exact aH _
 unfold Zd rdB
 dsimp only [St.put]
 refine pz ?_
 refine WL.vl rfl (WV.eH hB rfl (ak Tryz.func38 rfl rfl) rfl rfl hW) ?_
 refine pz ?_
 refine WL.idx rfl rfl (by omega) (by rw [hml,Gi];exact asz) ?_
 refine pz ?_
 refine W.meet ⟨[(2,.pt 0 0 0),(3,.pt 1 0 0),(4,.pt 2 0 0),(5,.pt 3 0 0),(6,.pt 4 0 0)],[(0,.box 23 [.sc (.int .u8 0)]),(1,.box 30 [.sc (.slice none 0 0),.sc (.slice none 0 0),.sc (.slice none 0 0)]),(2,.box 3 [.sc (.int .i64 0)]),(3,.box 31 [.sc (.int .i64 0)]),
  (4,.box 78 [.sc (.int .u8 0),.sc .nilIface,.ls 3 [],.ls 1 [],.sl 5,.sl 6,.sc (.int .i64 0),.ls 1 LT,.sc (.bool (decide (tl=[])))]),(5,.jM 90 6 []),(6,.row 153 1 [])],7⟩ ?_ ?_
 ·by_cases htl:tl=[]
  ·have hb:(tl == ([]:List UInt8))=true:=by rw [htl];rfl
   have hpr:prt W0 0 ((W0.length:Int) - 1)=LT:=by
    rw [hml,Gi,← hW0,← hLT]
    unfold prt ED
    rw [if_pos htl,show ((F.length:Int)+((1:Nat):Int) - 1).toNat=F.length by omega]
    simp
   rw [dG htl]
   rw [hb]
   refine pz ?_
   refine WL.KJ rfl rfl ⟨by omega,by omega,by omega⟩ hpr ?_
   exact akN
  ·have hb:(tl == ([]:List UInt8))=false:=by simpa using htl
   have hpr:W0=LT:=by
    rw [← hW0,← hLT]
    unfold ED
    rw [if_neg htl]
   rw [cZ htl]
   rw [hb,hpr]
   exact akN
 clear hW hwb hwl hml asz hW0
 unfold iC at hhd
 rcases hhd with ⟨n,e,h1,h2⟩|⟨s,l0,l1,F2,hFe,hs1,hs4,hin,h1,h2⟩
 ·rw [h2] at hR
  rw [h1] at hhead
  have hF2:Ud qG BR Tryz.prog _ _ _ _ _:=(hhead.er_ rfl).frame (X:=[(1,.jM 90 6 []),(2,.row 153 1 [])])
  rw [hLT] at hF2
  subst hR
  refine pz ?_
  refine WL.ctp hB [4,5,6] rfl rfl (ak Tryz.func39 rfl rfl) hF2 rfl rfl rfl ⟨⟨rfl,rfl,rfl⟩,⟨rfl,rfl,rfl⟩,⟨rfl,rfl,rfl⟩,trivial⟩ ?_
  show aed (.panic (pch (eP n e)))=some (rdU (jv n e))∧Tr _ _ ⟨N9,rdB,4⟩
  exact XW
 have hs:1≤s∧s≤4:=⟨hs1,hs4⟩
 rw [h1] at hhead
 have hF2:jI qG BR Tryz.prog _ _ _ _ _ _ _:=(hhead.ok_ rfl).fr2 (a:=.jM 90 6 []) (b:=.row 153 1 [])
 rw [hLT] at hF2
 rw [h2] at hR
 have hI:=aes hin
 obtain ⟨⟨⟨cs,st⟩,e0⟩,hnI⟩:∃ z,aG l1=z:=⟨_,rfl⟩
 rw [hnI] at hR hI hF2
 dsimp only at hR hI hF2
 obtain ⟨hc1,aBb,aAf,_,hcr⟩:=mF hI
 have hcb:∀ c∈cs,0≤c.2.1∧c.2.1≤1000:=fun c hc=>by
  obtain ⟨k,hk,e⟩:=eu hc
  have:=QV hcr k hk
  rw [e] at this;omega
 clear hhead h1 h2 hin
 refine pz ?_
 refine WL.qo hB [4,5,6] rfl rfl (ak Tryz.func39 rfl rfl) hF2 rfl rfl rfl ⟨⟨rfl,rfl,rfl⟩,⟨rfl,rfl,rfl⟩,⟨rfl,rfl,rfl⟩,trivial⟩ rfl rfl rfl rfl ?_
 refine pz ?_
 have aye:F.length=F2.length+2:=by rw [hFe];rfl
 have ave:LT.length=F2.length+2+(if tl=[] then 0 else 1):=by rw [ayj,hLl,aye]
 by_cases hbig:400 < F2.length+(if tl=[] then 0 else 1)
 ·rw [if_pos hbig] at hR
  subst hR
  rw [dG (show (402:Int) < (LT.length:Int) by omega)]
  refine pz ?_
  refine WL.ctp (dL _) [4,5,6] rfl rfl (ak Tryz.func40 rfl rfl) (agx _ _ _ _ _ _ _ _) rfl rfl rfl ⟨⟨rfl,rfl,rfl⟩,trivial⟩ ?_
  show aed (.panic (pch (eP (403) (2))))=some (rdU (jv (403) (2)))∧Tr _ _ ⟨N9,rdB,4⟩
  exact XW
 rw [if_neg hbig] at hR
 rw [cZ (show ¬ (402:Int) < (LT.length:Int) by omega)]
 have aAQ:F2.length≤400:=by omega
 refine pz ?_
 refine W.loop (fun k:Nat=>k≤F2.length∧∀ j (h:j < F2.length),j < k→iU s cs j F2[j]=0) (fun k=>⟨[(2,.pt 0 0 0),(3,.pt 1 0 0),(4,.pt 2 0 0),(5,.pt 3 0 0),(6,.pt 4 0 0)],
  [(0,.box 23 [.sc (.int .u8 0)]),(1,.box 30 [.sc (.slice none 0 0),.sc (.slice none 0 0),.sc (.slice none 0 0)]),(2,.box 3 [.sc (.int .i64 0)]),(3,.box 31 [.sc (.int .i64 0)]),(4,.box 78 [.sc (.int .u8 s),.sc (bG s),.ls 3 (cs.map aF),.ls 1 (st.map eInt),.sl 5,.sl 6,.sc (.int .i64 ((k:Int)+2)),.ls 1 LT,.sc (.bool (decide (tl=[])))]),(5,.jM 90 6 ((((F2.take k).map (bV s cs)).map gI).map bM)),(6,.row 153 1 (((F2.take k).map (bV s cs)).map (vC s)))],8⟩) (fun k=>F2.length+1 - k) 0 ⟨by omega,fun j hj h=>absurd h (by omega)⟩ (zqt id) fun k hk=>?_
 obtain ⟨hk,hall⟩:=hk
 have hEl:((F2.take k).map (bV s cs)).length=k:=by rw [aH,fP];omega
 by_cases hlt:k+2 < LT.length
 ·have hnk:=YU (.int .u8 s) (bG s) (cs.map aF) (st.map eInt) (ED F tl) (decide (tl=[])) (k+2) au au
  rw [hnx (k+2),hLT,show ((k+2:Nat):Int)=(k:Int)+2 by omega] at hnk
  by_cases hkf:k < F2.length
  ·rw [dG (show k+2 < F.length by omega),if_pos rfl] at hnk
   have hg:(ED F tl).getD (k+2) []=F2[k]:=by
    rw [hgt (k+2) (by omega)];subst hFe;rfl
   rw [hg] at hnk
   have hco:=agf s hs cs st ((k:Int)+2+1) LT (decide (tl=[])) ((F2.take k).map (bV s cs)) F2[k] (by
    have:F2[k]∈F:=by rw [hFe];simp
    have:F2[k]∈ED F tl:=by unfold ED;split<;>simp [this]
    have:=hLb _ this;omega) au hcb au
   have hbad:=fun h=>O7 (s:=s) (cs:=cs) (L:=F2) (k:=0) (j:=k) hkf (fun i hi hik=>by rw [lW];exact hall i hi hik) h
   rw [lW] at hbad
   have hEo:=aek (s:=s) (cs:=cs) (st:=st) (ln:=(k:Int)+2+1) (T:=LT) (cl:=decide (tl=[])) (E:=(F2.take k).map (bV s cs)) (t:=F2[k])
   have hEk:=ael (s:=s) (cs:=cs) (st:=st) (ln:=(k:Int)+2+1) (T:=LT) (cl:=decide (tl=[])) (E:=(F2.take k).map (bV s cs)) (t:=F2[k])
   rw [hEl] at hEo hEk
   have htk:(F2.take k).map (bV s cs)++[bV s cs F2[k]]=(F2.take (k+1)).map (bV s cs):=by
    rw [mJ hkf,fC];rfl
   rw [htk] at hEk
   obtain ⟨EV,hEV⟩:∃ z,(((F2.take k).map (bV s cs)).map gI).map bM=z:=⟨_,rfl⟩
   obtain ⟨NT,hNT⟩:∃ z,((F2.take k).map (bV s cs)).map (vC s)=z:=⟨_,rfl⟩
   rw [hEV,hNT] at hco ⊢
   obtain ⟨EV1,avc⟩:∃ z,(((F2.take (k+1)).map (bV s cs)).map gI).map bM=z:=⟨_,rfl⟩
   obtain ⟨NT1,avg⟩:∃ z,((F2.take (k+1)).map (bV s cs)).map (vC s)=z:=⟨_,rfl⟩
   rw [avc,avg] at hEk
   have hF1:jI jE 0 Tryz.prog _ _ _ _ _ _ _:=(hnk.ok_ rfl).fr2 (a:=.jM 90 6 EV) (b:=.row 153 1 NT)
   unfold iC at hF1 hco
   by_cases he:iU s cs k F2[k]=0
   ·have hF3:jI qG BR Tryz.prog _ _ _ _ _ _ _:=hco.ok_ (hEk he)
    have hnx2:∀ j (hj:j < F2.length),j < k+1→iU s cs j F2[j]=0:=fun j hj hjk=>by
     by_cases e:j=k
     ·subst e;exact he
     ·exact hall j hj au
    clear hall hnk hco hEo hEk hbad
    refine ac1 ?_
    refine WL.qo (dL _) [4,5,6] rfl rfl (ak Tryz.func42 rfl rfl) hF1 rfl rfl rfl ⟨⟨rfl,rfl,rfl⟩,⟨rfl,rfl,rfl⟩,⟨rfl,rfl,rfl⟩,trivial⟩ rfl rfl rfl rfl ?_
    refine pz ?_
    refine WL.qo hB [4,5,6] rfl rfl (ak Tryz.func41 rfl rfl) hF3 rfl rfl rfl ⟨⟨rfl,rfl,rfl⟩,⟨rfl,rfl,rfl⟩,⟨rfl,rfl,rfl⟩,trivial⟩ rfl rfl rfl rfl ?_
    refine pz ?_
    refine ⟨k+1,⟨by omega,hnx2⟩,by omega,?_⟩
    rw [avc,avg,show ((k+1:Nat):Int)+2=(k:Int)+2+1 by omega]
    exact (kL (fun q=>bif Nat.beq q 5 then 8 else bif Nat.beq q 6 then 9 else q) aw2 rfl)
   ·have hF3:Ud qG BR Tryz.prog _ _ _ _ _:=hco.er_ (hEo he)
    have hRb:R=jv ((k:Int)+2+1) (iU s cs k F2[k]):=by
     rw [hR];unfold pR;rw [hbad he]
     show jv ((k:Int)+3) _=_
     rw [show (k:Int)+3=(k:Int)+2+1 by omega]
    subst hRb
    clear hall hnk hco hEo hEk hbad hR
    obtain ⟨ER,hER⟩:∃ z,iU s cs k F2[k]=z:=⟨_,rfl⟩
    rw [hER] at hF3 ⊢
    refine ac1 ?_
    refine WL.qo (dL _) [4,5,6] rfl rfl (ak Tryz.func42 rfl rfl) hF1 rfl rfl rfl ⟨⟨rfl,rfl,rfl⟩,⟨rfl,rfl,rfl⟩,⟨rfl,rfl,rfl⟩,trivial⟩ rfl rfl rfl rfl ?_
    refine pz ?_
    refine WL.ctp hB [4,5,6] rfl rfl (ak Tryz.func41 rfl rfl) hF3 rfl rfl rfl ⟨⟨rfl,rfl,rfl⟩,⟨rfl,rfl,rfl⟩,⟨rfl,rfl,rfl⟩,trivial⟩ ?_
    show aed (.panic (pch (eP ((k:Int)+2+1) (ER))))=some (rdU (jv ((k:Int)+2+1) (ER)))∧Tr _ _ ⟨N9,rdB,4⟩
    exact XW
  ·obtain rfl:k=F2.length:=by omega
   have htl:tl≠[]:=by intro e;rw [if_pos e] at ave;omega
   rw [cZ (show ¬ F2.length+2 < F.length by omega),if_neg (by decide)] at hnk
   have hF1:Ud jE 0 Tryz.prog _ _ _ _ _:=hnk.er_ rfl
   have hRb:R=jv ((F2.length:Int)+2+1) 4:=by
    rw [hR];unfold pR;rw [uN fun i hi=>by rw [lW];exact hall i hi hi]
    show (if tl≠[] then jv ((F2.length:Int)+3) 4 else _)=_
    rw [if_pos htl,show (F2.length:Int)+3=(F2.length:Int)+2+1 by omega]
   subst hRb
   clear hall hnk hR
   unfold iC at hF1
   refine ac1 ?_
   refine WL.ctp (dL _) [4,5,6] rfl rfl (ak Tryz.func42 rfl rfl) hF1 rfl rfl rfl ⟨⟨rfl,rfl,rfl⟩,trivial⟩ ?_
   show aed (.panic (pch (eP ((F2.length:Int)+2+1) (4))))=some (rdU (jv ((F2.length:Int)+2+1) (4)))∧Tr _ _ ⟨N9,rdB,4⟩
   exact XW
 obtain rfl:k=F2.length:=by omega
 have htl:tl=[]:=by
  by_cases e:tl=[]
  ·exact e
  ·rw [if_neg e] at ave;omega
 rw [jH] at hEl ⊢
 have hRb:R=(match qZ s (F2.map (bV s cs)) with
  | some i=>jv ((i:Int)+3) 24
  | none=>(s,⟨cs,st,pU s (F2.map (bV s cs))⟩,0,0)):=by
  rw [hR];unfold pR;rw [uN fun i hi=>by rw [lW];exact hall i hi hi]
  show (if tl≠[] then jv ((F2.length:Int)+3) 4 else _)=_
  rw [if_neg (by simpa using htl)]
  cases qZ s (F2.map (bV s cs))<;>rfl
 refine ac1 ?_
 have hH:=ant s hs cs st LT (decide (tl=[])) (F2.map (bV s cs)) au au au (fun x hx=>by
  obtain ⟨u,_,rfl⟩:=List.mem_map.1 hx
  have:=aev s cs u;omega)
 rw [hEl] at hH
 clear hall hR
 cases hb:qZ s (F2.map (bV s cs)) with
 | some i =>
  rw [hb] at hH hRb
  dsimp only at hH hRb
  subst hRb
  have hF3:Ud jE 0 Tryz.prog _ _ _ _ _:=hH.er_ rfl
  unfold iC at hF3
  refine WL.ctp (dL _) [4,5,6] rfl rfl (ak Tryz.func43 rfl rfl) hF3 rfl rfl rfl ⟨⟨rfl,rfl,rfl⟩,⟨rfl,rfl,rfl⟩,⟨rfl,rfl,rfl⟩,trivial⟩ ?_
  show aed (.panic (pch (eP ((i:Int)+3) 24)))=some (rdU (jv ((i:Int)+3) 24))∧Tr _ _ ⟨N9,rdB,4⟩
  exact XW
 | none =>
 rw [hb] at hH hRb
 dsimp only at hH hRb
 have hF3:jI jE 0 Tryz.prog _ _ _ _ _ _ _:=hH.ok_ rfl
 unfold iC at hF3
 have hu:rdU R=.returning:=if_neg (by rw [hRb];show ¬ s=0;omega)
 have hm:rdM R=rdF R:=if_neg (by rw [hRb];show ¬ s=0;omega)
 rw [hu,hm,hRb]
 clear hu hm hRb hH hb
 obtain ⟨FE,hFE⟩:∃ z,pU s (F2.map (bV s cs))=z:=⟨_,rfl⟩
 rw [hFE] at hF3 ⊢
 refine WL.qo (dL _) [4,5,6] rfl rfl (ak Tryz.func43 rfl rfl) hF3 rfl rfl rfl ⟨⟨rfl,rfl,rfl⟩,⟨rfl,rfl,rfl⟩,⟨rfl,rfl,rfl⟩,trivial⟩ rfl rfl rfl rfl ?_
 refine pz ?_
 refine W.tr (Tr.am7 5 1 rfl (ni _) (sG _)) ?_
 refine W.tr (Tr.freeze 5 rfl) ?_
 refine W.Js 9 bD bD bD ?_
 refine WA.dt [false,false,false,false,false,false,false,false,true] [4] [4] 8 bD bD bD ⟨rfl,trivial⟩ ⟨rfl,trivial⟩ ?_
 refine QF ?_
 refine ajO ?_
 refine Io ?_
 refine aZ.yT rfl rfl rfl rfl rfl rfl rfl rfl rfl rfl rfl rfl rfl rfl ⟨rfl,trivial⟩ (fun h=>by cases h) ?_
 refine aZ.nil ?_
 refine ⟨rfl,?_⟩
 refine (?_:WL _ _ _ _ _ _)
 refine pz ?_
 refine W.ret ?_
 refine (?_:_=_∧Tr _ _ ⟨N9,rdF (s,⟨cs,st,FE⟩,0,0),4⟩)
 unfold N9 rdF
 exact ⟨rfl,(zqt id)⟩
end Go.Proofs.YthehkchjdkdbiaaGreatDoor
