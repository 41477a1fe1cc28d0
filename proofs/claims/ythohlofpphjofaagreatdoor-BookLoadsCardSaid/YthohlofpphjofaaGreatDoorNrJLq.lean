/- The reader of the program: Read. (RWN.) -/
import Derived.Test.YthohlofpphjofaaGreatDoorNrPLq
import Derived.Test.YthohlofpphjofaaGreatDoorGbLq
import Derived.Test.YthohlofpphjofaaGreatDoorNrKLq
set_option maxHeartbeats 16000000
set_option maxRecDepth 100000
set_option linter.unusedVariables false
set_option linter.unusedSimpArgs false
namespace Go.Proofs.YthohlofpphjofaaGreatDoor
section
variable {p:Prop}
theorem amL(h:p:=by
 unfold iy;refine lK ?_;refine WL.qQ (dD _) [0,1,2] rfl rfl (aj Tryz.func42 rfl rfl) hc rfl rfl rfl ⟨⟨rfl,rfl,rfl⟩,trivial⟩ rfl rfl rfl rfl ?_;refine lK ?_;refine WL.vl rfl (aS Tryz.func89 hcp) ?_;refine lK ?_;refine WL.vl rfl (aS Tryz.func90 hps) ?_;refine lK ?_;exact OD):p:=h
theorem amB(h:p:=by
 by_cases e:tl=[];.exact e
 .rw [if_neg e] at Zo;omega):p:=h
theorem amy(h:p:=by
 split;.rfl
 .split;.rfl
  .split;.rfl
   .split<;>rfl):p:=h
theorem UY(h:p:=by exact .inr ⟨rfl,by decide⟩):p:=h
theorem amj(h:p:=by
 refine qg ?_;refine (?_:_=_/\Tr _ _ _);exact ⟨rfl,(zqt id)⟩):p:=h
theorem al3(h:p:=by
 refine qg ?_;refine (?_:Tr _ _ _);refine ayi ?_;exact (zqt id)):p:=h
theorem alZ(h:p:=by
 unfold BO at hw;split at hw;.exact Ny _ hw
 .exact hw):p:=h
theorem Ou(h:p:=by
 unfold OZ rdB;exact ⟨rfl,(zqt id)⟩):p:=h
theorem aee(h:p:=by
 rw [yQ,Lib.count_one];have:=List.count_le_length (a:=(10:UInt8)) (l:=t);omega):p:=h
end
theorem ad5 {p q:Prop}(k:q)(h:iF q->p:=by
 intro hq;refine qg ?_;refine iY ?_;refine ayd ?_;exact hq.k):p:=h ⟨k⟩
theorem akU {p q:Prop}(k:q)(h:iF q->p:=by
 intro hq;refine lK ?_;refine WL.op rfl (WO.store rfl rfl rfl rfl rfl rfl hcB hcl rfl h1B rfl) ?_;dsimp only [St.upd];refine lK ?_;exact hq.k):p:=h ⟨k⟩
theorem ayi {p q:Prop}(k:q)(h:iF q->p:=by
 intro hq;refine Tr.trans (Tr.EH 4 2 3 rfl rfl rfl) ?_;refine Tr.trans (Tr.EH 4 3 1 rfl rfl rfl) ?_;refine Tr.trans (Tr.oJ 90 6 (k:=4) (j:=4) rfl rfl rfl rfl) ?_;refine Tr.trans (Tr.oJ 153 1 (k:=4) (j:=5) rfl rfl rfl rfl) ?_;refine Tr.trans (Tr.widen 5 rfl) ?_;exact hq.k):p:=h ⟨k⟩
theorem ayd {p q:Prop}(k:q)(h:iF q->p:=by
 intro hq;repeat (first|refine DK.vl rfl (WV.IC rfl rfl) ?_|refine DK.bt rfl rfl au ?_|refine DK.bf rfl rfl au ?_|refine DK.st rfl ?_|refine DK.len rfl rfl rfl ?_|refine DK.nil ?_)
 refine qg ?_;exact hq.k):p:=h ⟨k⟩
section
open Go.RowKit
def pJ(l:List UInt8):Int×Int:=if(nm1 == l)=true then(1,0)else if(nm2 == l)=true then(2,0)else if(nm3 == l)=true then(3,0)else if(nm4 == l)=true then(4,0)else(0,4)
theorem ac7 (l:List UInt8):psV l=.tuple #[.int .u8 (pJ l).1,.int .i64 (pJ l).2]:=by
 unfold psV pJ;exact amy
theorem IK(l:List UInt8):((pJ l).2=4/\(pJ l).1=0)\/((pJ l).2=0/\1<=(pJ l).1/\(pJ l).1<=4):=by
 unfold pJ;split;.exact UY
 .split;.exact UY
  .split;.exact UY
   .split;.exact UY
    .exact .inl ⟨rfl,rfl⟩
def jY:List UInt8:=[116,97,98,108,97,116,117,114,101,32]
theorem qX {p l:List UInt8}:bY p l=decide (l.take p.length=p):=by
 unfold bY;by_cases h:l.take p.length=p
 .rw [bQ h,List.isPrefixOf_iff_prefix];rw [← h];exact List.take_prefix _ _
 .rw [bW h];cases hb:p.isPrefixOf l with
  | false=>rfl| true =>
   obtain⟨u,rfl⟩:=List.isPrefixOf_iff_prefix.1 hb;exact absurd List.take_left h
theorem Qp {l:List UInt8} (h:bY jY l=false):nN l=none:=by
 rw [qX]at h;exact if_neg (show ¬ l.take 10=[116,97,98,108,97,116,117,114,101,32]from zi h)
theorem Qo {l:List UInt8} (h:bY jY l=true):nN l=if (pJ (l.drop 10)).2=0 then some (pJ (l.drop 10)).1 else none:=by
 rw [qX]at h;unfold nN;rw [if_pos (show l.take 10=[116,97,98,108,97,116,117,114,101,32]from rP h)];obtain⟨d,hd⟩:∃ z,l.drop 10=z:=⟨_,rfl⟩;rw [hd];unfold pJ nm1 nm2 nm3 nm4;simp only [beq_iff_eq];exact amy
theorem adq (l:List UInt8):bC Tryz.prog 90 [.sc (.string (bs l))] (.tu [.sc (.int .u8 (pJ l).1),.sc (.int .i64 (pJ l).2)]) :=bC.nX (v:=psV l) rfl (λF=>by rw [ac7];exact Hl rfl) λw=>G8 l w
def zU (L:List (List UInt8)) (cl:Bool):UR :=if kZ L cl 0=false then .er (fA 1 4) else match nN (L.getD 0 []) with
 | none=>.er (fA 1 4)| some s =>if kZ L cl 1=false then .er (fA 2 4) else if (aF (L.getD 1 [])).2≠0 then .er (fA 2 (aF (L.getD 1 [])).2) else .ok (.tu []) [(0,iy (.int .u8 s) (bT s) ((aF (L.getD 1 [])).1.1.map bg) ((aF (L.getD 1 [])).1.2.map eInt) 2 (L.map aX) cl)] 4
theorem atK (L:List (List UInt8)) (cl:Bool) (hl:L.length<=400000) (hw:∀ w∈L,w.length<=400000) :OE ng zo Tryz.prog 39 [.pt 0 0 0] [(0,iy (.int .u8 0) .nilIface [] [] 0 (L.map aX) cl)] 3 (zU L cl):=by
 have hn0:=ZQ (.int .u8 0) .nilIface [] [] L cl 0 au au;have hwd:∀ k,(L.getD k []).length<=400000:=λk=>by
  rw [dL];by_cases h:k < L.length;.rw [aO h];exact hw _ (gB h)
  .rw [abr (by omega)];simp
 have hcp:=Py (L.getD 0 []) jY (by have:=hwd 0;omega);refine OE.intro jR Tryz.func39 rfl Tryz.ntmps39 (bG rfl) rfl λw0 F0 fp pg hB=>?_;unfold zU;refine iU ?_;cases hx:kZ L cl 0 with
 | false =>
  rw [if_pos rfl];have hc:=hn0.er_ (by rw [hx];rfl);unfold iy;refine lK ?_;refine WL.ctp (dD _) [0,1,2] rfl rfl (aj Tryz.func42 rfl rfl) hc rfl rfl rfl ⟨⟨rfl,rfl,rfl⟩,trivial⟩ ?_;rfl| true =>
 rw [if_neg (by decide)];have hc:=hn0.ok_ (by rw [hx];rfl);rw [show ((0:Nat):Int)+1=1 from rfl,show ((0:Nat):Int)=0 from rfl] at hc;obtain ⟨l0,hl0⟩:∃ z,L.getD 0 []=z:=⟨_,rfl⟩;rw [hl0] at hc hcp ⊢;cases hp:bY jY l0 with
 | false =>
  have hps:=adq l0;rw [Qp hp];rw [hp] at hcp;exact amL| true =>
 rw [hp,if_pos rfl] at hcp;obtain ⟨nm,hnm⟩:∃ z,l0.drop 10=z:=⟨_,rfl⟩;have hcp:bC Tryz.prog 89 [.sc (.string (bs l0)),.sc (.string (bs jY))] (.tu [.sc (.string (bs nm)),.sc (.bool true)]):=by rw [← hnm];exact hcp
 rw [Qo hp,hnm];have hps:=adq nm;rcases IK nm with ⟨e1,e2⟩|⟨e1,e2,e3⟩
 .rw [e1,e2] at hps;rw [e1,if_neg (by decide)];dsimp only;exact amL
 rw [e1] at hps;rw [if_pos e1];obtain ⟨s,hs⟩:∃ z,(pJ nm).1=z:=⟨_,rfl⟩;rw [hs] at hps e2 e3 ⊢;dsimp only;have hof:=LU s;rw [bQ ⟨e2,e3⟩] at hof;have hcB:(AV.sc (bT s)).l7=true:=by rcases dN ⟨e2,e3⟩ with rfl|rfl|rfl|rfl<;>rfl
 have hcl:(AV.sc (bT s)).cells=[AV.sc (bT s)]:=by rcases dN ⟨e2,e3⟩ with rfl|rfl|rfl|rfl<;>rfl
 have h1B:[AV.sc (bT s)].all AV.xO=true:=by rcases dN ⟨e2,e3⟩ with rfl|rfl|rfl|rfl<;>rfl
 have hn1:=ZQ (.int .u8 s) (bT s) [] [] L cl 1 au (by
  unfold kZ at hx;simp only [gG,dH] at hx;omega);cases hx1:kZ L cl 1 with
 | false =>
  rw [if_pos rfl];have hc1:=hn1.er_ (by rw [hx1];rfl);rw [show ((1:Nat):Int)+1=2 from rfl,show ((1:Nat):Int)=1 from rfl] at hc1;unfold iy;refine lK ?_;refine WL.qQ (dD _) [0,1,2] rfl rfl (aj Tryz.func42 rfl rfl) hc rfl rfl rfl ⟨⟨rfl,rfl,rfl⟩,trivial⟩ rfl rfl rfl rfl ?_;refine lK ?_;refine WL.vl rfl (aS Tryz.func89 hcp) ?_;refine lK ?_;refine WL.vl rfl (aS Tryz.func90 hps) ?_;refine lK ?_;refine WL.vl rfl (aS Tryz.func50 hof) ?_;refine akU ?_;refine WL.ctp (dD _) [0,1,2] rfl rfl (aj Tryz.func42 rfl rfl) hc1 rfl rfl rfl ⟨⟨rfl,rfl,rfl⟩,trivial⟩ ?_;rfl| true =>
 rw [if_neg (by decide)];have hc1:=hn1.ok_ (by rw [hx1];rfl);rw [show ((1:Nat):Int)+1=2 from rfl,show ((1:Nat):Int)=1 from rfl] at hc1;have hP:=ai7 (L.getD 1 []) (hwd 1);obtain ⟨l1,hl1⟩:∃ z,L.getD 1 []=z:=⟨_,rfl⟩;rw [hl1] at hc1 hP ⊢;obtain ⟨⟨⟨cs,st⟩,e⟩,hins⟩:∃ z,aF l1=z:=⟨_,rfl⟩;rw [hins] at hP ⊢;unfold jc at hP;dsimp only at hP ⊢;by_cases he:e=0
 .subst he;rw [if_neg (by decide)];unfold iy;refine lK ?_;refine WL.qQ (dD _) [0,1,2] rfl rfl (aj Tryz.func42 rfl rfl) hc rfl rfl rfl ⟨⟨rfl,rfl,rfl⟩,trivial⟩ rfl rfl rfl rfl ?_;refine lK ?_;refine WL.vl rfl (aS Tryz.func89 hcp) ?_;refine lK ?_;refine WL.vl rfl (aS Tryz.func90 hps) ?_;refine lK ?_;refine WL.vl rfl (aS Tryz.func50 hof) ?_;refine akU ?_;refine WL.qQ (dD _) [0,1,2] rfl rfl (aj Tryz.func42 rfl rfl) hc1 rfl rfl rfl ⟨⟨rfl,rfl,rfl⟩,trivial⟩ rfl rfl rfl rfl ?_;refine lK ?_;refine WL.vl rfl (WV.dZ hB rfl (aj Tryz.func91 rfl rfl) rfl rfl hP) ?_;refine lK ?_;exact nR.sub (yC rfl rfl rfl rfl rfl) ⟨rfl,trivial⟩
 .rw [if_pos he];unfold iy;refine lK ?_;refine WL.qQ (dD _) [0,1,2] rfl rfl (aj Tryz.func42 rfl rfl) hc rfl rfl rfl ⟨⟨rfl,rfl,rfl⟩,trivial⟩ rfl rfl rfl rfl ?_;refine lK ?_;refine WL.vl rfl (aS Tryz.func89 hcp) ?_;refine lK ?_;refine WL.vl rfl (aS Tryz.func90 hps) ?_;refine lK ?_;refine WL.vl rfl (aS Tryz.func50 hof) ?_;refine akU ?_;refine WL.qQ (dD _) [0,1,2] rfl rfl (aj Tryz.func42 rfl rfl) hc1 rfl rfl rfl ⟨⟨rfl,rfl,rfl⟩,trivial⟩ rfl rfl rfl rfl ?_;refine lK ?_;refine WL.vl rfl (WV.dZ hB rfl (aj Tryz.func91 rfl rfl) rfl rfl hP) ?_;refine lK ?_;exact OD
theorem WV.cv {P:Program} {C:Cx} {σ:St} {o:Oper} {x:Operand} {v r:Value} {res:AV} (hx:σ.ev x=some (.sc v))(hp:plT res=some r)(h:∀ (a:Act) w,a.eval x=v->(execOp a.eval o).run P w=.ok (.value r) w):WV P C o σ res :=WV.val (λG a w ok=>(Hl (F:=G.F) hp).bd _) λG a w ok=>⟨r,h a w (ok.l9 hx).2.fM,.pu _ _ (Hl hp)⟩
def aaf:List AV:=[.pt 0 0 0,.pt 1 0 0,.pt 2 0 0,.pt 3 0 0]
def rdB:List (Nat×AO):=[(0,.box 23 [.sc (.int .u8 0)]),(1,.box 30 [.sc (.slice none 0 0),.sc (.slice none 0 0),.sc (.slice none 0 0)]),(2,.box 3 [.sc (.int .i64 0)]),(3,.box 31 [.sc (.int .i64 0)])]
def rdF (r:J6):List (Nat×AO):=[(0,.box 23 [.sc (.int .u8 r.1)]),(1,.box 30 [.ls 3 (r.2.1.cs.map bg),.ls 1 (r.2.1.st.map eInt),.ls 6 (r.2.1.evs.map iO)]),(2,.box 3 [.sc (.int .i64 r.2.2.1)]),(3,.box 31 [.sc (.int .i64 r.2.2.2)])]
theorem au2 (r:J6):Vh Tryz.prog 37 aaf (rdF r) 4 .returning .returning (rdF r):=by
 refine Vh.intro (rv:=.nilIface) (d:=7) (res:=.tu []) Tryz.func37 rfl Tryz.ntmps37 (bG rfl) rfl rfl rfl rfl (λa w=>by kernel_rfl) (λc₀ cs h=>.inr ⟨by simp [recoverD,h],rfl,rfl⟩) λw0 F0 fp pg=>?_;unfold aaf rdF;refine iU ?_;refine aro ?_;refine WL.vl rfl (WV.cv (x:=.tmp 7) (r:=.bool true) (res:=.sc (.bool true)) rfl rfl λa w e=>by unfold execOp;simp only [e];kernel_rfl) ?_;refine aro ?_;refine (?_:nR _ _ _ _ _ _ .normal _);exact iD (σ':=⟨[],rdF r,4⟩) (zqt id) (yC rfl rfl rfl rfl rfl)
theorem au1 (n e:Int):Vh Tryz.prog 37 aaf rdB 4 (.panicking (pch (fA n e))) (.panicking [{ v:=fA n e,recovered:=true }]) (rdF (fC n e)):=by
 refine Vh.intro (rv:=fA n e) (d:=7) (res:=.tu []) Tryz.func37 rfl Tryz.ntmps37 (bG rfl) rfl rfl rfl rfl (λa w=>by kernel_rfl) (λc₀ cs h=>.inl (by simp [recoverD,h,pch])) λw0 F0 fp pg=>?_;unfold aaf rdB fA;refine iU ?_;refine adR ?_;refine WL.vl rfl (WV.cv (x:=.tmp 7) (r:=.bool false) (res:=.sc (.bool false)) rfl rfl λa w e=>by unfold execOp;simp only [e];kernel_rfl) ?_;refine adR ?_;refine WL.vl rfl (WV.cv (x:=.tmp 7) (r:=.tuple #[.agg #[.int .i64 n,.int .i64 e],.bool true]) (res:=.tu [.ag [.sc (.int .i64 n),.sc (.int .i64 e)],.sc (.bool true)]) rfl rfl λa w e=>by unfold execOp;simp only [e];kernel_rfl) ?_;refine adR ?_;refine W.xw 8 aK aK aK ?_;refine WA.dt [false,false,false,false,false,true,true,true] [4] [4] 7 aK aK aK ⟨rfl,trivial⟩ ⟨rfl,trivial⟩ ?_;refine jl ?_;refine mM ?_;refine mM ?_;refine aV.xq rfl rfl rfl rfl rfl rfl rfl rfl rfl rfl rfl rfl rfl rfl ⟨rfl,trivial⟩ (λ_=>⟨rfl,trivial⟩) ?_;refine aV.xq rfl rfl rfl rfl rfl rfl rfl rfl rfl rfl rfl rfl rfl rfl ⟨rfl,trivial⟩ (λ_=>⟨rfl,trivial⟩) ?_;refine aV.xq rfl rfl rfl rfl rfl rfl rfl rfl rfl rfl rfl rfl rfl rfl ⟨rfl,trivial⟩ (λh=>by cases h) ?_;refine aV.nil ?_;refine ⟨rfl,?_⟩;refine (?_:WL _ _ _ _ _ _);refine adR ?_;refine (?_:nR _ _ _ _ _ _ .normal _);refine iD (σ':=⟨[],rdF (fC n e),4⟩) ?_ (yC rfl rfl rfl rfl rfl);refine Tr.trans (Tr.EH 1 0 3 rfl rfl rfl) ?_;refine Tr.trans (Tr.EH 1 1 1 rfl rfl rfl) ?_;refine Tr.trans (Tr.EH 1 2 6 rfl rfl rfl) ?_;exact (zqt id)
def adx (P:Program)(σ:St):ResultVar->Option AV
 | .tmp t=>resV P σ (.tmp t)| .cell t T =>match look t σ.t with
  | some (.pt k 0 0) =>match look k σ.M,zn P T with
   | some (.box _ [av]),some false=>some av| _,_=>resV P σ (.cell t T)
  | _=>none
def MC (P:Program)(σ:St):List ResultVar->Option (List AV)
 | []=>some []| r::l =>match adx P σ r,MC P σ l with
  | some a,some b=>some (a::b)| _,_=>none
section
variable {P:Program} {C:Cx} {σ:St} {G:Gh} {a:Act} {w:World}
theorem ajG (ok:Ok C σ G a w) {r:ResultVar} {av:AV} (h:adx P σ r=some av) (hp:av.pu2=true):∃ v,(uS a.tmps r).run P w=.ok v w/\RP G.F av v:=by cases r with
 | tmp t=>exact TT ok h hp| cell t T =>
  unfold adx at h;dsimp only at h;split at h
  .rename_i k ht;split at h
   .rename_i T' Vf hk hT;cases h;obtain ⟨p,ep,h1,h2,h3⟩:=(ok.tm t _ ht).2.2.lu;have ho:av.own=false:=by cases av<;>first|rfl|cases hp
    obtain ⟨u,hu,hr,_⟩:=ok.cell (i:=0) (j:=0) (l:=[av]) hk rfl (show ([av]:List AV)[0]?=some av from rfl) h1 h2 h3 ho;refine ⟨u,?_,(qB hp 0).rp hr⟩;have hu:w.cell? p=some u:=hu;unfold uS;simp [ep,asAddr,loadVar,MV hT,hu]
   .exact TT ok h hp
  .cases h
theorem XJ (ok:Ok C σ G a w):∀ {l:List ResultVar} {aW:List AV},MC P σ l=some aW->aW.all AV.pu2=true->∃ vs:List Value,(l.mapM (uS a.tmps)).run P w=.ok vs w/\vs.length=aW.length/\∀ (i:Nat)av u,aW[i]?=some av->vs[i]?=some u->RP G.F av u
 | [],aW,h,_=>by cases h;exact ⟨[],rfl,rfl,λi av u x=>by simp at x⟩| r::l,aW,h,hp=>by cases h1:adx P σ r with
  | none=>simp only [MC,h1]at h;cases h| some x =>cases h2:MC P σ l with
  | none=>simp only [MC,h1,h2]at h;cases h| some y =>
   simp only [MC,h1,h2,Option.some.injEq]at h;subst h;simp only [List.all_cons,gG]at hp;obtain ⟨v,e1,e2⟩:=ajG ok h1 hp.1;obtain ⟨vs,f1,f2,f3⟩:=XJ ok h2 hp.2;exact asG
theorem awv {fn:Func} {aW:List AV} {res:AV} (h:MC P σ fn.results.toList=some aW)(hp:aW.all AV.pu2=true)(hl:Nat.beq aW.length 1=false)(e:.tu aW=res):Fin P fn C σ res:=by
 intro G a w ok;subst e;obtain⟨vs,e1,e2,e3⟩:=XJ ok h hp;exact asf
end
def BO (F:List (List UInt8))(tl:List UInt8):List (List UInt8):=if tl=[]then F else F++[tl]
theorem adt (F:List (List UInt8))(tl:List UInt8):(BO F tl).length=F.length+(if tl=[]then 0 else 1):=by unfold BO;split<;>simp
theorem TR (F:List (List UInt8)) (tl:List UInt8) (k:Nat):kZ (BO F tl) (decide (tl=[])) k=decide (k<F.length):=by
 unfold kZ BO;by_cases e:tl=[];.rw [if_pos e,bQ e];simp
 .rw [if_neg e,bW e,FT];simp;omega
theorem JR (F:List (List UInt8))(tl:List UInt8) {k:Nat} (h:k<F.length):(BO F tl).getD k []=F[k]:=by
 unfold BO;split;.rw [dL,aO h];rfl
 .rw [dL,xY h,aO h];rfl
theorem afs {l:List UInt8} {s:Int} (h:nN l=some s):1<=s/\s<=4:=by
 unfold nN at h;split at h
 .split at h;.cases h;decide
  .split at h;.cases h;decide
   .split at h;.cases h;decide
    .split at h;.cases h;decide
     .cases h
 .cases h
theorem Xe (F:List (List UInt8)) (tl:List UInt8) :(∃ n e,zU (BO F tl) (decide (tl=[]))=.er (fA n e)/\jq tl F=fC n e) \/(∃ s l0 l1 F2,F=l0::l1::F2/\1<=s/\s<=4/\(aF l1).2=0/\zU (BO F tl) (decide (tl=[]))=.ok (.tu []) [(0,iy (.int .u8 s) (bT s) ((aF l1).1.1.map bg) ((aF l1).1.2.map eInt) 2 ((BO F tl).map aX) (decide (tl=[])))] 4 /\jq tl F=if 400<F2.length+(if tl=[] then 0 else 1) then fC 403 2 else mF s (aF l1).1.1 (aF l1).1.2 tl F2):=by
 have h0:=TR F tl 0;have h1:=TR F tl 1;cases F with
 | nil=>exact .inl ⟨1,4,by unfold zU;rw [h0,if_pos (by simp)],rfl⟩| cons l0 F1 =>
  have g0:=JR (l0::F1) tl (k:=0) (by simp);cases hs:nN l0 with
  | none=>exact .inl ⟨1,4,by unfold zU;rw [h0,if_neg (by simp),g0];show (match nN l0 with|none=>UR.er (fA 1 4)|some s=>_)=_;rw [hs],by unfold jq;dsimp only;rw [hs]⟩| some s =>
   have hb:=afs hs;have e1:jq tl (l0::F1)=wP s tl F1:=by unfold jq;dsimp only;rw [hs]
   have e2:zU (BO (l0::F1) tl) (decide (tl=[]))=if kZ (BO (l0::F1) tl) (decide (tl=[])) 1=false then .er (fA 2 4) else if (aF ((BO (l0::F1) tl).getD 1 [])).2≠0 then .er (fA 2 (aF ((BO (l0::F1) tl).getD 1 [])).2) else .ok (.tu []) [(0,iy (.int .u8 s) (bT s) ((aF ((BO (l0::F1) tl).getD 1 [])).1.1.map bg) ((aF ((BO (l0::F1) tl).getD 1 [])).1.2.map eInt) 2 ((BO (l0::F1) tl).map aX) (decide (tl=[])))] 4:=by
    conv=>lhs;unfold zU
    rw [h0,if_neg (by simp),g0];show (match nN l0 with|none=>_|some s=>_)=_;rw [hs]
   rw [e1,e2,h1];cases F1 with
   | nil=>exact .inl ⟨2,4,if_pos (by simp),rfl⟩| cons l1 F2 =>
    rw [if_neg (by simp),JR (l0::l1::F2) tl (k:=1) (by simp)];show (∃ n e,(if (aF l1).2≠0 then _ else _)=UR.er (fA n e)/\_)\/_;by_cases hi:(aF l1).2≠0;.exact .inl ⟨2,(aF l1).2,if_pos hi,by unfold wP;dsimp only;rw [if_pos hi]⟩
    .exact .inr ⟨s,l0,l1,F2,rfl,hb.1,hb.2,Decidable.not_not.1 hi,if_neg hi,by unfold wP;dsimp only;rw [if_neg hi]⟩
theorem afm {s:Int} {cs:List Crs} {st:List Int} {tl:List UInt8} {L:List (List UInt8)} (hs:1<=s):(mF s cs st tl L).1=0->mF s cs st tl L=fC (mF s cs st tl L).2.2.1 (mF s cs st tl L).2.2.2:=by
 unfold mF;split;.intro _;rfl
 .split;.intro _;rfl
  .split;.intro _;rfl
   .intro h;have h:s=0:=h;omega
theorem LK {t:List UInt8} (h:(aG t).1=0):aG t=fC (aG t).2.2.1 (aG t).2.2.2:=by
 unfold aG at h ⊢;obtain⟨⟨F,tl⟩,hF⟩:∃ z,aH 10 t=z:=⟨_,rfl⟩;rw [hF]at h ⊢;dsimp only at h ⊢;rcases Xe F tl with⟨n,e,_,e2⟩|⟨s,l0,l1,F2,_,h1,_,_,_,e2⟩;.rw [e2];rfl
 .rw [e2]at h ⊢;by_cases c:400<F2.length+(if tl=[]then 0 else 1);.rw [if_pos c];rfl
  .rw [if_neg c]at h ⊢;exact afm h1 h
theorem Qi {l:List UInt8} (h:(aF l).2=0):jW (aF l).1.1 (aF l).1.2=0:=by
 unfold aF at h ⊢;split at h;.rename_i c;exact absurd h c
 .rename_i c;split at h;.rename_i c2;exact absurd h c2
  .rename_i c2;rw [if_neg c,if_neg c2];exact Decidable.not_not.1 c2
theorem afj {s:Int} {cs:List Crs} {st:List Int} {ln:Int} {T:List (List AV)} {cl:Bool} {E:List NC} {t:List UInt8} (h:eY s cs E.length t≠0):Tz s cs st ln T cl E (dQ s (aA s cs) t)=.er (fA ln (eY s cs E.length t)):=by
 unfold eY at h ⊢;cases hf:dQ s (aA s cs) t with
 | none=>rfl| some x =>
  rw [hf] at h;dsimp only at h;exact if_pos h
theorem afk {s:Int} {cs:List Crs} {st:List Int} {ln:Int} {T:List (List AV)} {cl:Bool} {E:List NC} {t:List UInt8} (h:eY s cs E.length t=0):Tz s cs st ln T cl E (dQ s (aA s cs) t) =.ok (.tu []) [(0,.box 78 [.sc (.int .u8 s),.sc (bT s),.ls 3 (cs.map bg),.ls 1 (st.map eInt),.sl 3,.sl 4,.sc (.int .i64 ln),.ls 1 T,.sc (.bool cl)]),(3,.jO 90 6 (((E++[aT s cs t]).map iQ).map fH)),(4,.row 153 1 ((E++[aT s cs t]).map (wJ s)))] 5:=by
 unfold eY at h;unfold aT;cases hf:dQ s (aA s cs) t with
 | none=>rw [hf] at h;cases h| some x =>
  rw [hf] at h;dsimp only at h;exact if_neg (λg=>g h)
theorem IV {s:Int} {n:Nat} {bar:Bool} {W:List (List UInt8)} {x:NC} (h:iW s n bar W=some x):x.l.length<=14:=by
 unfold iW at h;split at h
 .obtain⟨y,_,hy⟩:=Option.bind_eq_some_iff.1 h;exact (yF hy).2.2.2.2
 .cases h
theorem Qj (s:Int)(cs:List Crs)(t:List UInt8):(aT s cs t).l.length<=14:=by
 unfold aT;cases h:dQ s (aA s cs) t with
 | none=>simp| some x =>
  unfold dQ at h;split at h
  .split at h;.exact IV h
   .exact IV h
  .cases h
def rdU (r:J6):FrameMode:=if r.1=0 then .panicking (pch (fA r.2.2.1 r.2.2.2))else .returning
def rdV(r:J6):FrameMode:=if r.1=0 then .panicking [{ v:=fA r.2.2.1 r.2.2.2,recovered:=true }]else .returning
def rdM (r:J6):List (Nat×AO):=if r.1=0 then rdB else rdF r
def OZ:List (Nat×AV):=[(2,.pt 0 0 0),(3,.pt 1 0 0),(4,.pt 2 0 0),(5,.pt 3 0 0)]
def rdR (r:J6):AV:=.tu [.sc (.int .u8 r.1),.ag [.ls 3 (r.2.1.cs.map bg),.ls 1 (r.2.1.st.map eInt),.ls 6 (r.2.1.evs.map iO)],.sc (.int .i64 r.2.2.1),.sc (.int .i64 r.2.2.2)]
theorem rdD (t:List UInt8):Vh Tryz.prog 37 aaf (rdM (aG t)) 4 (rdU (aG t)) (rdV (aG t)) (rdF (aG t)):=by
 have hn:=LK (t:=t);obtain ⟨r,hr⟩:∃ z,aG t=z:=⟨_,rfl⟩;rw [hr] at hn ⊢;unfold rdM rdU rdV;by_cases h:r.1=0
 .rw [if_pos h,if_pos h,if_pos h];have e:=hn h;have:=au1 r.2.2.1 r.2.2.2;rw [← e] at this;exact this
 .rw [if_neg h,if_neg h,if_neg h];exact au2 r
theorem au3 (t:List UInt8) (ht:t.length<=65536):jB ng Tryz.prog 11 [.sc (.string (bs t))] (rdR (aG t)):=by
 have hW:=Fv 10 t au;have hwb:=jk 10 t;have hwl:(aZ 10 t).length<=65537:=by exact aee
 have hD:=rdD t;refine jB.aue (σ0:=⟨[(0,.sc (.string (bs t))),(2,.pt 0 0 0),(3,.pt 1 0 0),(4,.pt 2 0 0),(5,.pt 3 0 0)],rdB,4⟩) (σ1:=⟨[(0,.sc (.string (bs t))),(2,.pt 0 0 0),(3,.pt 1 0 0),(4,.pt 2 0 0),(5,.pt 3 0 0)],rdB,4⟩) (T:=OZ) (caps:=aaf) jR Tryz.func11 rfl Tryz.ntmps11 (bG rfl) (dW rfl) rfl rfl rfl rfl rfl rfl rfl rfl rfl rfl (aj Tryz.func37 rfl rfl) (λw0 F0 hB=>?_) (λw0 F0 hB=>?_) (λw0 F0 pg ds hB=>?_) hD ?_ (λC=>?_)
 .unfold rdB;dsimp only [St.init,number,Nat.reduceAdd];exact amj
 .unfold rdB;exact amj
 rotate_left;.unfold rdV;split<;>rfl
 .unfold rdF OZ rdR;exact awv rfl rfl rfl rfl
 have hR:aG t=jq (aH 10 t).2 (aH 10 t).1:=rfl;obtain ⟨R,hRe⟩:∃ z,aG t=z:=⟨_,rfl⟩;rw [hRe] at hR ⊢;clear hRe hD;unfold aZ at hW hwb hwl;obtain ⟨⟨F,tl⟩,hF⟩:∃ z,aH 10 t=z:=⟨_,rfl⟩;rw [hF] at hW hwb hwl hR;dsimp only at hW hwb hwl hR;have hhd:=Xe F tl;have hnx:=TR F tl;have hgt:=λk=>JR F tl (k:=k);have Y0:=adt F tl;have hLb:∀ w∈BO F tl,w.length<=65536:=λw hw=>by
  have:w∈F++[tl]:=by exact alZ
  have:=hwb w this;omega
 have hLn:(BO F tl).length<=65537:=by rw [Y0];simp at hwl;split<;>omega
 have hhead:=atK (BO F tl) (decide (tl=[])) au (λw hw=>by have:=hLb w hw;omega);have hFl:F.length<=65536:=by simp at hwl;omega
 have hml:((F++[tl]).map aX).length=F.length+1:=by simp
 have JA:((F++[tl]).map aX)[((F.length:Int)+1 - 1).toNat]?=some (aX tl):=by rw [show ((F.length:Int)+1 - 1).toNat=F.length by omega,dw,wC (Nat.le_refl _)];simp
 obtain ⟨W0,hW0⟩:∃ z,(F++[tl]).map aX=z:=⟨_,rfl⟩;rw [hW0] at hW hml JA;obtain ⟨LT,KG⟩:∃ z,(BO F tl).map aX=z:=⟨_,rfl⟩;have vM:LT.length=(BO F tl).length:=by rw [← KG];exact bK _
 unfold aaf rdB;dsimp only [St.put];refine qg ?_;refine WL.vl rfl (WV.dZ hB rfl (aj Tryz.func38 rfl rfl) rfl rfl hW) ?_;refine qg ?_;refine WL.idx rfl rfl (by omega) (by rw [hml,NW];exact JA) ?_;refine qg ?_;refine W.meet ⟨[(2,.pt 0 0 0),(3,.pt 1 0 0),(4,.pt 2 0 0),(5,.pt 3 0 0),(6,.pt 4 0 0)],[(0,.box 23 [.sc (.int .u8 0)]),(1,.box 30 [.sc (.slice none 0 0),.sc (.slice none 0 0),.sc (.slice none 0 0)]),(2,.box 3 [.sc (.int .i64 0)]),(3,.box 31 [.sc (.int .i64 0)]),(4,.box 78 [.sc (.int .u8 0),.sc .nilIface,.ls 3 [],.ls 1 [],.sl 5,.sl 6,.sc (.int .i64 0),.ls 1 LT,.sc (.bool (decide (tl=[])))]),(5,.jO 90 6 []),(6,.row 153 1 [])],7⟩ ?_ ?_
 .by_cases htl:tl=[]
  .have hb:(tl == ([]:List UInt8))=true:=by rw [htl];rfl
   have hpr:prt W0 0 ((W0.length:Int) - 1)=LT:=by
    rw [hml,NW,← hW0,← KG];unfold prt BO;rw [if_pos htl,show ((F.length:Int)+((1:Nat):Int) - 1).toNat=F.length by omega];simp
   rw [bQ htl];rw [hb];refine qg ?_;refine WL.y8 rfl rfl ⟨by omega,by omega,by omega⟩ hpr ?_;exact al3
  .have hb:(tl == ([]:List UInt8))=false:=by simpa using htl
   have hpr:W0=LT:=by
    rw [← hW0,← KG];unfold BO;rw [if_neg htl]
   rw [bW htl];rw [hb,hpr];exact al3
 clear hW hwb hwl hml JA hW0;unfold iy at hhd;rcases hhd with ⟨n,e,h1,h2⟩|⟨s,l0,l1,F2,hFe,hs1,hs4,hin,h1,h2⟩
 .rw [h2] at hR;rw [h1] at hhead;have hF2:Ve ng zo Tryz.prog _ _ _ _ _:=(hhead.er_ rfl).frame (X:=[(1,.jO 90 6 []),(2,.row 153 1 [])]);rw [KG] at hF2;subst hR;refine qg ?_;refine WL.ctp hB [4,5,6] rfl rfl (aj Tryz.func39 rfl rfl) hF2 rfl rfl rfl ⟨⟨rfl,rfl,rfl⟩,⟨rfl,rfl,rfl⟩,⟨rfl,rfl,rfl⟩,trivial⟩ ?_;show afa (.panic (pch (fA n e)))=some (rdU (fC n e))/\Tr _ _ ⟨OZ,rdB,4⟩;exact Ou
 have hs:1<=s/\s<=4:=⟨hs1,hs4⟩;rw [h1] at hhead;have hF2:jr ng zo Tryz.prog _ _ _ _ _ _ _:=(hhead.ok_ rfl).fr2 (a:=.jO 90 6 []) (b:=.row 153 1 []);rw [KG] at hF2;rw [h2] at hR;have hI:=Qi hin;obtain ⟨⟨⟨cs,st⟩,e0⟩,hnI⟩:∃ z,aF l1=z:=⟨_,rfl⟩;rw [hnI] at hR hI hF2;dsimp only at hR hI hF2;obtain ⟨hc1,atI,axe,_,hcr⟩:=uG hI;have hcb:∀ c∈cs,0<=c.2.1/\c.2.1<=1000:=λc hc=>by
  obtain ⟨k,hk,e⟩:=oz hc;have:=JJ hcr k hk;rw [e] at this;omega
 clear hhead h1 h2 hin;refine qg ?_;refine WL.qQ hB [4,5,6] rfl rfl (aj Tryz.func39 rfl rfl) hF2 rfl rfl rfl ⟨⟨rfl,rfl,rfl⟩,⟨rfl,rfl,rfl⟩,⟨rfl,rfl,rfl⟩,trivial⟩ rfl rfl rfl rfl ?_;refine qg ?_;have azl:F.length=F2.length+2:=by rw [hFe];rfl
 have Zo:LT.length=F2.length+2+(if tl=[] then 0 else 1):=by rw [vM,Y0,azl]
 by_cases hbig:400 < F2.length+(if tl=[] then 0 else 1)
 .rw [if_pos hbig] at hR;subst hR;rw [bQ (show (402:Int) < (LT.length:Int) by omega)];refine qg ?_;refine WL.ctp (dD _) [4,5,6] rfl rfl (aj Tryz.func40 rfl rfl) (ahA _ _ _ _ _ _ _ _) rfl rfl rfl ⟨⟨rfl,rfl,rfl⟩,trivial⟩ ?_;show afa (.panic (pch (fA (403) (2))))=some (rdU (fC (403) (2)))/\Tr _ _ ⟨OZ,rdB,4⟩;exact Ou
 rw [if_neg hbig] at hR;rw [bW (show ¬ (402:Int) < (LT.length:Int) by omega)];have azi:F2.length<=400:=by omega
 refine qg ?_;refine W.loop (λk:Nat=>k<=F2.length/\∀ j (h:j < F2.length),j < k->eY s cs j F2[j]=0) (λk=>⟨[(2,.pt 0 0 0),(3,.pt 1 0 0),(4,.pt 2 0 0),(5,.pt 3 0 0),(6,.pt 4 0 0)],[(0,.box 23 [.sc (.int .u8 0)]),(1,.box 30 [.sc (.slice none 0 0),.sc (.slice none 0 0),.sc (.slice none 0 0)]),(2,.box 3 [.sc (.int .i64 0)]),(3,.box 31 [.sc (.int .i64 0)]),(4,.box 78 [.sc (.int .u8 s),.sc (bT s),.ls 3 (cs.map bg),.ls 1 (st.map eInt),.sl 5,.sl 6,.sc (.int .i64 ((k:Int)+2)),.ls 1 LT,.sc (.bool (decide (tl=[])))]),(5,.jO 90 6 ((((F2.take k).map (aT s cs)).map iQ).map fH)),(6,.row 153 1 (((F2.take k).map (aT s cs)).map (wJ s)))],8⟩) (λk=>F2.length+1 - k) 0 ⟨by omega,λj hj h=>absurd h (by omega)⟩ (zqt id) λk hk=>?_;obtain ⟨hk,hall⟩:=hk;have hEl:((F2.take k).map (aT s cs)).length=k:=by rw [bK,jT];omega
 by_cases hlt:k+2 < LT.length
 .have hnk:=ZQ (.int .u8 s) (bT s) (cs.map bg) (st.map eInt) (BO F tl) (decide (tl=[])) (k+2) au au;rw [hnx (k+2),KG,show ((k+2:Nat):Int)=(k:Int)+2 by omega] at hnk;by_cases hkf:k < F2.length
  .rw [bQ (show k+2 < F.length by omega),if_pos rfl] at hnk;have hg:(BO F tl).getD (k+2) []=F2[k]:=by rw [hgt (k+2) (by omega)];subst hFe;rfl
   rw [hg] at hnk;have hco:=ahn s hs cs st ((k:Int)+2+1) LT (decide (tl=[])) ((F2.take k).map (aT s cs)) F2[k] (by
    have:F2[k]∈F:=by rw [hFe];simp
    have:F2[k]∈BO F tl:=by unfold BO;split<;>simp [this]
    have:=hLb _ this;omega) au hcb au;have hbad:=λh=>GK (s:=s) (cs:=cs) (L:=F2) (k:=0) (j:=k) hkf (λi hi hik=>by rw [oC];exact hall i hi hik) h;rw [oC] at hbad;have hEo:=afj (s:=s) (cs:=cs) (st:=st) (ln:=(k:Int)+2+1) (T:=LT) (cl:=decide (tl=[])) (E:=(F2.take k).map (aT s cs)) (t:=F2[k]);have hEk:=afk (s:=s) (cs:=cs) (st:=st) (ln:=(k:Int)+2+1) (T:=LT) (cl:=decide (tl=[])) (E:=(F2.take k).map (aT s cs)) (t:=F2[k]);rw [hEl] at hEo hEk;have htk:(F2.take k).map (aT s cs)++[aT s cs F2[k]]=(F2.take (k+1)).map (aT s cs):=by rw [kF hkf,iC];rfl
   rw [htk] at hEk;obtain ⟨EV,hEV⟩:∃ z,(((F2.take k).map (aT s cs)).map iQ).map fH=z:=⟨_,rfl⟩;obtain ⟨NT,hNT⟩:∃ z,((F2.take k).map (aT s cs)).map (wJ s)=z:=⟨_,rfl⟩;rw [hEV,hNT] at hco ⊢;obtain ⟨EV1,awG⟩:∃ z,(((F2.take (k+1)).map (aT s cs)).map iQ).map fH=z:=⟨_,rfl⟩;obtain ⟨NT1,awK⟩:∃ z,((F2.take (k+1)).map (aT s cs)).map (wJ s)=z:=⟨_,rfl⟩;rw [awG,awK] at hEk;have hF1:jr jJ 0 Tryz.prog _ _ _ _ _ _ _:=(hnk.ok_ rfl).fr2 (a:=.jO 90 6 EV) (b:=.row 153 1 NT);unfold iy at hF1 hco;by_cases he:eY s cs k F2[k]=0
   .have hF3:jr ng zo Tryz.prog _ _ _ _ _ _ _:=hco.ok_ (hEk he);have hnx2:∀ j (hj:j < F2.length),j < k+1->eY s cs j F2[j]=0:=λj hj hjk=>by
     by_cases e:j=k;.subst e;exact he
     .exact hall j hj au
    clear hall hnk hco hEo hEk hbad;refine ad5 ?_;refine WL.qQ (dD _) [4,5,6] rfl rfl (aj Tryz.func42 rfl rfl) hF1 rfl rfl rfl ⟨⟨rfl,rfl,rfl⟩,⟨rfl,rfl,rfl⟩,⟨rfl,rfl,rfl⟩,trivial⟩ rfl rfl rfl rfl ?_;refine qg ?_;refine WL.qQ hB [4,5,6] rfl rfl (aj Tryz.func41 rfl rfl) hF3 rfl rfl rfl ⟨⟨rfl,rfl,rfl⟩,⟨rfl,rfl,rfl⟩,⟨rfl,rfl,rfl⟩,trivial⟩ rfl rfl rfl rfl ?_;refine qg ?_;refine ⟨k+1,⟨by omega,hnx2⟩,by omega,?_⟩;rw [awG,awK,show ((k+1:Nat):Int)+2=(k:Int)+2+1 by omega];exact (ku (λq=>bif Nat.beq q 5 then 8 else bif Nat.beq q 6 then 9 else q) ayc rfl)
   .have hF3:Ve ng zo Tryz.prog _ _ _ _ _:=hco.er_ (hEo he);have hRb:R=fC ((k:Int)+2+1) (eY s cs k F2[k]):=by
     rw [hR];unfold mF;rw [hbad he];show fC ((k:Int)+3) _=_;rw [show (k:Int)+3=(k:Int)+2+1 by omega]
    subst hRb;clear hall hnk hco hEo hEk hbad hR;obtain ⟨ER,hER⟩:∃ z,eY s cs k F2[k]=z:=⟨_,rfl⟩;rw [hER] at hF3 ⊢;refine ad5 ?_;refine WL.qQ (dD _) [4,5,6] rfl rfl (aj Tryz.func42 rfl rfl) hF1 rfl rfl rfl ⟨⟨rfl,rfl,rfl⟩,⟨rfl,rfl,rfl⟩,⟨rfl,rfl,rfl⟩,trivial⟩ rfl rfl rfl rfl ?_;refine qg ?_;refine WL.ctp hB [4,5,6] rfl rfl (aj Tryz.func41 rfl rfl) hF3 rfl rfl rfl ⟨⟨rfl,rfl,rfl⟩,⟨rfl,rfl,rfl⟩,⟨rfl,rfl,rfl⟩,trivial⟩ ?_;show afa (.panic (pch (fA ((k:Int)+2+1) (ER))))=some (rdU (fC ((k:Int)+2+1) (ER)))/\Tr _ _ ⟨OZ,rdB,4⟩;exact Ou
  .obtain rfl:k=F2.length:=by omega
   have htl:tl≠[]:=by intro e;rw [if_pos e] at Zo;omega
   rw [bW (show ¬ F2.length+2 < F.length by omega),if_neg (by decide)] at hnk;have hF1:Ve jJ 0 Tryz.prog _ _ _ _ _:=hnk.er_ rfl;have hRb:R=fC ((F2.length:Int)+2+1) 4:=by
    rw [hR];unfold mF;rw [vV λi hi=>by rw [oC];exact hall i hi hi];show (if tl≠[] then fC ((F2.length:Int)+3) 4 else _)=_;rw [if_pos htl,show (F2.length:Int)+3=(F2.length:Int)+2+1 by omega]
   subst hRb;clear hall hnk hR;unfold iy at hF1;refine ad5 ?_;refine WL.ctp (dD _) [4,5,6] rfl rfl (aj Tryz.func42 rfl rfl) hF1 rfl rfl rfl ⟨⟨rfl,rfl,rfl⟩,trivial⟩ ?_;show afa (.panic (pch (fA ((F2.length:Int)+2+1) (4))))=some (rdU (fC ((F2.length:Int)+2+1) (4)))/\Tr _ _ ⟨OZ,rdB,4⟩;exact Ou
 obtain rfl:k=F2.length:=by omega
 have htl:tl=[]:=by exact amB
 rw [jw] at hEl ⊢;have hRb:R=(match pG s (F2.map (aT s cs)) with
  | some i=>fC ((i:Int)+3) 24| none=>(s,⟨cs,st,oM s (F2.map (aT s cs))⟩,0,0)):=by
  rw [hR];unfold mF;rw [vV λi hi=>by rw [oC];exact hall i hi hi];show (if tl≠[] then fC ((F2.length:Int)+3) 4 else _)=_;rw [if_neg (by simpa using htl)];cases pG s (F2.map (aT s cs))<;>rfl
 refine ad5 ?_;have hH:=aoL s hs cs st LT (decide (tl=[])) (F2.map (aT s cs)) au au au (λx hx=>by
  obtain ⟨u,_,rfl⟩:=List.mem_map.1 hx;have:=Qj s cs u;omega);rw [hEl] at hH;clear hall hR;cases hb:pG s (F2.map (aT s cs)) with
 | some i =>
  rw [hb] at hH hRb;dsimp only at hH hRb;subst hRb;have hF3:Ve jJ 0 Tryz.prog _ _ _ _ _:=hH.er_ rfl;unfold iy at hF3;refine WL.ctp (dD _) [4,5,6] rfl rfl (aj Tryz.func43 rfl rfl) hF3 rfl rfl rfl ⟨⟨rfl,rfl,rfl⟩,⟨rfl,rfl,rfl⟩,⟨rfl,rfl,rfl⟩,trivial⟩ ?_;show afa (.panic (pch (fA ((i:Int)+3) 24)))=some (rdU (fC ((i:Int)+3) 24))/\Tr _ _ ⟨OZ,rdB,4⟩;exact Ou| none =>
 rw [hb] at hH hRb;dsimp only at hH hRb;have hF3:jr jJ 0 Tryz.prog _ _ _ _ _ _ _:=hH.ok_ rfl;unfold iy at hF3;have hu:rdU R=.returning:=if_neg (by rw [hRb];show ¬ s=0;omega);have hm:rdM R=rdF R:=if_neg (by rw [hRb];show ¬ s=0;omega);rw [hu,hm,hRb];clear hu hm hRb hH hb;obtain ⟨FE,hFE⟩:∃ z,oM s (F2.map (aT s cs))=z:=⟨_,rfl⟩;rw [hFE] at hF3 ⊢;refine WL.qQ (dD _) [4,5,6] rfl rfl (aj Tryz.func43 rfl rfl) hF3 rfl rfl rfl ⟨⟨rfl,rfl,rfl⟩,⟨rfl,rfl,rfl⟩,⟨rfl,rfl,rfl⟩,trivial⟩ rfl rfl rfl rfl ?_;refine qg ?_;refine W.tr (Tr.acJ 5 1 rfl (ug _) (Gl _)) ?_;refine W.tr (Tr.freeze 5 rfl) ?_;refine W.xw 9 aK aK aK ?_;refine WA.dt [false,false,false,false,false,false,false,false,true] [4] [4] 8 aK aK aK ⟨rfl,trivial⟩ ⟨rfl,trivial⟩ ?_;refine Ot ?_;refine jl ?_;refine C9 ?_;refine lQ ?_;refine aV.xq rfl rfl rfl rfl rfl rfl rfl rfl rfl rfl rfl rfl rfl rfl ⟨rfl,trivial⟩ (λh=>by cases h) ?_;refine aV.nil ?_;refine ⟨rfl,?_⟩;refine (?_:WL _ _ _ _ _ _);refine qg ?_;refine W.ret ?_;refine (?_:_=_/\Tr _ _ ⟨OZ,rdF (s,⟨cs,st,FE⟩,0,0),4⟩);unfold OZ rdF;exact ⟨rfl,(zqt id)⟩
end
end Go.Proofs.YthohlofpphjofaaGreatDoor
