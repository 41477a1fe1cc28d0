/- A walk that knows values as trees: what a function hands back, any number of results. -/
import Derived.Test.YthohlofpphjofaaGreatDoorEMLq
set_option linter.unusedVariables false
set_option linter.unusedSimpArgs false
namespace Go.Proofs.YthohlofpphjofaaGreatDoor
theorem Jq {p:Prop}(h:p:=by rw [← hl];exact hx):p:=h
theorem UW {p:Prop}(h:p:=by exact WL.vl hd (kE rfl h) k):p:=h
theorem alR {p:Prop}(h:p:=by
 refine ⟨?_,h1⟩;rw [← hu w G.F (hB.1 w G.F ok.bel ok.f0),uw,uw];simp):p:=h
theorem asG {p:Prop}(h:p:=by
 refine ⟨v::vs,by simp [List.mapM_cons,Sem.run_bind,e1,f1,Result.andThen],by simp [f2],λi av u p q=>?_⟩;cases i with
 | zero=>cases p;cases q;exact e2| succ i=>exact f3 i av u (by simpa using p) wF):p:=h
theorem asf {p:Prop}(h:p:=by
 refine⟨.tuple vs.toArray,G.F,?_,λ_ _ h=>h,ok.fw,λ_ _ h=>.inl h,.tu _ _ (by simpa using e2) λi av u x y=>e3 i av u x (by simpa using y)⟩;have e:results fn a.tmps=(do let vs ← fn.results.mapM (uS a.tmps);pure (if h:vs.size=1 then vs[0] else .tuple vs)):=rfl;have hne:¬ vs.toArray.size=1:=by
  intro h1;have:aW.length=1:=by rw [← e2];simpa using h1
  rw [this] at hl;cases hl
 rw [e,Array.mapM_eq_mapM_toList];simp only [Sem.run_bind,Sem.run_map,e1,Result.andThen];simp;intro h1;exact absurd yh hne):p:=h
theorem asa {p:Prop}(h:p:=by
 unfold zn at hT;cases hu:P.underlying T with
 | none=>simp [hu] at hT| some d =>
  have hsz:fZ P T=some cs.size:=by rw [hn,g5];exact congrArg some (dG hb).symm
  have:=results_cell_row (fn:={ (default:Func) with results:=#[.cell t T] }) rfl a.tmps w (G.b k) T' cs (0,0) d ep g4 hu (by rw [hu] at hT;cases d<;>simp_all) hsz;have e:(results { (default:Func) with results:=#[.cell t T] } a.tmps).run P w=(uS a.tmps (.cell t T)).run P w:=by
   unfold results uS;first|(simp;done)|(simp;rfl)
  rw [← e];exact this):p:=h
section
open Go.RowKit
def zu {α:Type} (k:Nat):List (Nat×α)->Option (List (Nat×α))
 | []=>some []| x::r =>match zu k r with
  | some r'=>bif Nat.beq k x.1 then some r' else some (x::r')| none=>none
theorem jE {α:Type} {k:Nat}:∀ {l l':List (Nat×α)},zu k l=some l'->l'=rem k l
 | [],l',h=>by cases h;rfl| x::r,l',h=>by
  unfold zu at h;split at h
  .rename_i r' h2;have:=jE h2;grind[rem]
  .cases h
def acs(P:Program)(T:TypeId):Bool :=match P.underlying T with
 | some .bool=>true| _=>false
theorem ahh {P:Program} {T:TypeId} (h:acs P T=true):P.underlying T=some .bool:=by grind[acs]
def awj (op:BinOp)(m n:Int):Option Value :=match op with
 | .lss=>some (.bool (decide (m<n)))| .leq=>some (.bool (decide (m<=n)))| .gtr=>some (.bool (decide (n<m)))| .geq=>some (.bool (decide (n<=m)))| .eql=>some (.bool (decide (m=n)))| .neq=>some (.bool (!decide (m=n)))| _=>none
def awi (op:BinOp)(b c:Bool):Option Value :=match op with
 | .eql=>some (.bool (b == c))| .neq=>some (.bool (!(b == c)))| _=>none
def awk (op:BinOp)(s t:List UInt8):Option Value :=match op with
 | .eql=>some (.bool (s == t))| .neq=>some (.bool (!(s == t)))| _=>none
def atc(P:Program) (op:BinOp) (T:TypeId):Value->Value->Option Value
 | .string ⟨⟨s⟩⟩,.string ⟨⟨t⟩⟩=>awk op s t| .int j m,.int k n =>match decEq j k with
  | isTrue _=>awj op m n| isFalse _=>none
 | .bool b,.bool c=>bif acs P T then awi op b c else none| _,_=>none
def ajg:AV->AV->AV->Option AV
 | .sc (.bool b),.sc u,.sc v=>some (.sc (bif b then u else v))| .sc (.bool true),x,_=>some x| .sc (.bool false),_,y=>some y| _,_,_=>none
def adJ:Nat->List AV->Option (List AV)
 | 0,_=>some []| n+1,x::r =>match adJ n r with
  | some l=>some (x::l)| none=>none
 | _+1,[]=>none
theorem Np:∀ {n:Nat} {l l':List AV},adJ n l=some l'->l.take n=l'/\l'.length=n
 | 0,l,l',h=>by cases h;simp| n+1,[],l',h=>by cases h| n+1,x::r,l',h=>by
  unfold adJ at h;split at h
  .rename_i l2 h2;cases h;obtain⟨a,b⟩:=Np h2;simp [a,b]
  .cases h
def Ye (P:Program)(T:TypeId)(l:List AV):Option AV :=match zn P T with
 | some false =>match l with
  | av::_=>some av| []=>none
 | some true =>match fZ P T with
  | some n =>match adJ n l with
   | some l'=>some (.ag l')| none=>none
  | none=>none
 | none=>none
def ownB:AV->Bool
 | .ow _ _ _=>true| .ag l=>l.any AV.own| _=>false
def Yd(P:Program)(T:TypeId)(l:List AV):Option AV :=match Ye P T l with
 | some av =>match ownB av with
  | false=>some av| true=>none
 | none=>none
theorem ako {P:Program} {T:TypeId} {l:List AV} {av:AV} (h:Yd P T l=some av):Ye P T l=some av/\ownB av=false:=by grind[Yd]
theorem ai4 {av:AV} (h:ownB av=false):av.own=false:=by cases av<;>first|rfl|cases h
theorem Xr {l:List AV} (h:ownB (.ag l)=false):(l.all λav=>!av.own)=true:=by
 rw [oW];intro x hx;have h:l.any AV.own=false:=h;simp_all
def WJ(P:Program)(σ:St)(T:TypeId):AV->Option AV
 | .pt k i j =>match look k σ.M with
  | some ob =>match ob.from_ i j with
   | some l=>Yd P T l| none=>none
  | none=>none
 | .pr cells=>Ye P T cells| _=>none
def afv {α:Type}:List α->Nat->Option α
 | [],_=>none| x::_,0=>some x| _::r,n+1=>afv r n
theorem ada {α:Type}:∀ (l:List α)(n:Nat),afv l n=l[n]?
 | [],n=>by simp [afv]| x::r,0=>by simp [afv]| x::r,n+1=>by simp [afv,ada r n]
def Pz {α:Type}:Nat->List α->List α
 | 0,l=>l| _+1,[]=>[]| n+1,_::r=>Pz n r
theorem VA {α:Type}:∀ (n:Nat)(l:List α),Pz n l=l.drop n
 | 0,l=>by simp [Pz]| n+1,[]=>by simp [Pz]| n+1,x::r=>by simp [Pz,VA n r]
def aot (P:Program)(T i:Nat):Option Nat :=match P.underlying T with
 | some (.struct fs) =>match afv fs.toList i with
  | some f=>bif Nat.beq (P.cellsOf f.type) 0 then none else some f.offset| none=>none
 | _=>none
theorem acI {P:Program} {T i off:Nat} (h:aot P T i=some off):aeH P T i=some off:=by grind[aot,aeH,ada,Nat.beq]
def atn (P:Program)(T i:Nat):AV->Option AV
 | .pt k r j =>match aot P T i with
  | some off=>some (.pt k r (j+off))| none=>none
 | .pr cells =>match aot P T i with
  | some off=>some (.pr (Pz off cells))| none=>none
 | _=>none
def xW (P:Program) (σ:St):Op->Option AV
 | .move x=>σ.ev x| .assign x=>σ.ev x| .pick c x y =>match σ.ev c,σ.ev x,σ.ev y with
  | some ac,some ax,some ay=>ajg ac ax ay| _,_,_=>none
 | .binOp op T x y _ =>match σ.ev x,σ.ev y with
  | some (.sc u),some (.sc v) =>match atc P op T u v with
   | some r=>some (.sc r)| none=>none
  | _,_=>none
 | .unOp .not _ x =>match σ.ev x with
  | some (.sc (.bool b))=>some (.sc (.bool (!b)))| _=>none
 | .extract x i =>match σ.ev x with
  | some (.tu l)=>l[i]?| _=>none
 | .fieldAddr T x i =>match σ.ev x with
  | some av=>atn P T i av| none=>none
 | .load T x =>match σ.ev x with
  | some av=>WJ P σ T av| none=>none
 | .build T parts =>match (P.info? T).bind (·.zero),TK P T,σ.evs (parts.toList.map (·.2))with
  | some z,some places,some aW =>match Ky places (z.cells.toList.map .sc) (pairUp parts.toList aW)with
   | some l=>some (.ag l)| none=>none
  | _,_,_=>none
 | _=>none
section
variable {P:Program} {C:Cx} {σ σ':St} {o:Oper} {d:Tmp} {av:AV}
theorem an7 {op:BinOp} {T Ty:TypeId} {x y:Operand} {u v r:Value} (ho:o.op=.binOp op T x y Ty) (hx:σ.ev x=some (.sc u)) (hy:σ.ev y=some (.sc v)) (h:atc P op T u v=some r):WV P C o σ (.sc r):=by
 unfold atc at h;split at h
 .rename_i s t;unfold awk at h;split at h<;>first|cases h|skip
  .exact WV.aAs (s:=s) (t:=t) ho hx hy
  .exact WV.sne (s:=s) (t:=t) ho hx hy
 .split at h
  .rename_i e _;subst e;unfold awj at h;grind[WV.lss,WV.leq,WV.gtr,WV.geq,WV.eql,WV.neq]
  .cases h
 .rename_i b c;cases hb:acs P T with
  | false=>rw [hb] at h;cases h| true =>
   rw [hb] at h;simp only [cond_true] at h;unfold awi at h;grind[WV.beq,ahh,WV.bne]
 .cases h
theorem ajh {c x y:Operand} {ac ax ay:AV} (ho:o.op=.pick c x y)(hc:σ.ev c=some ac)(hx:σ.ev x=some ax)(hy:σ.ev y=some ay)(h:ajg ac ax ay=some av):WV P C o σ av:=by
 unfold ajg at h;grind[WV.axL,WV.axK]
theorem KY {T:TypeId} {x:Operand} {a:AV} (ho:o.op=.load T x)(hx:σ.ev x=some a)(h:WJ P σ T a=some av):WV P C o σ av:=by
 unfold WJ at h;split at h
 .rename_i k i j;split at h
  .rename_i ob hk;split at h
   .rename_i l hf;obtain⟨h,hob⟩:=ako h;unfold Ye at h;grind[WV.ais,ai4,Np,WV.axp,Xr]
   .cases h
  .cases h
 .rename_i cells;unfold Ye at h;grind[WV.aum,Np,WV.aun]
 .cases h
theorem aou {T:TypeId} {i:Nat} {x:Operand} {a:AV} (ho:o.op=.fieldAddr T x i)(hx:σ.ev x=some a)(h:atn P T i a=some av):WV P C o σ av:=by
 unfold atn at h;split at h
 .split at h;.rename_i off hf;cases h;exact WV.atl ho (acI hf) hx
  .cases h
 all_goals grind[VA,WV.atm,acI]
theorem kE {op:Op} (ho:o.op=op)(h:xW P σ op=some av):WV P C o σ av:=by
 unfold xW at h;grind[WV.move,WV.assign,ajh,an7,WV.not,WV.extract,aou,KY,WV.build]
end
def akh (P:Program)(M:List (Nat×AO))(T:TypeId):AV->AV->Option (Nat×AO)
 | .pt k i j,av =>match fZ P T,look k M with
  | some m,some ob =>bif av.l7 && Nat.beq av.cells.length m && av.cells.all AV.xO then match ob.put i j av.cells with
    | some ob'=>some (k,ob')| none=>none else none| _,_=>none
 | _,_=>none
def Gg (P:Program)(σ:St)(T:TypeId)(m:Nat)(parts:List (Nat×Operand)):Option AO :=match P.underlying T with
 | some (.slice e) =>match fZ P e,(P.info? e).bind (·.zero),σ.evs (parts.map (·.2)) with
  | some n,some _,some aW =>bif TB 0 parts && Nat.beq parts.length m && Nat.ble (m*n) 16777216 && Nat.ble m 16777216 && ML n aW then some (.row e n (aW.map AV.cells)) else none| _,_,_=>none
 | _=>none
theorem yT {P:Program} {C:Cx} {σ:St} {o:Oper} {t:List (Nat×AV)} {M:List (Nat×AO)} {nk k:Nat} {ob:AO} (h:WO P C o σ ⟨t,(k,ob)::M,nk⟩):WO P C o σ ⟨t,(k,ob)::rem k M,nk⟩:=λG a w ok N Q' hN =>h G a w ok N Q' λG' a' w' ok'=>hN G' a' w' (by
  have hl:∀ i,look i ((k,ob)::rem k M)=look i ((k,ob)::M):=λi=>by grind[aB,ah,mV]
  exact ⟨ok'.sz,ok'.df,ok'.tm,ok'.bel,ok'.fw,ok'.f0,ok'.f1,λi x hx=>ok'.ob i x Jq,λi x y hx=>ok'.my i x y Jq,λi x i' x' y hx hx'=>ok'.dj i x i' x' y Jq (by simp_all),λi x y p u hx=>ok'.dF i x y p u Jq⟩)
def opE (P:Program) (N:Nat) (t:List (Nat×AV)) (M:List (Nat×AO)) (nk:Nat) (o:Oper):Option (List (Nat×AV)×List (Nat×AO)×Nat) :=match o.guard with
 | some _=>none| none =>match o.dst with
  | none =>match o.op with
   | .store T x y =>match (⟨t,M,nk⟩:St).ev x,(⟨t,M,nk⟩:St).ev y with
    | some ax,some ay =>match akh P M T ax ay with
     | some (k,ob) =>match zu k M with
      | some M'=>some (t,(k,ob)::M',nk)| none=>none
     | none=>none
    | _,_=>none
   | _=>none
  | some d =>bif Nat.blt d N then match o.op with
    | .box T x =>match (⟨t,M,nk⟩:St).ev x with
     | some av=>bif av.l7 then some ((d,.pt nk 0 0)::t,(nk,.box T av.cells)::M,nk+1) else none| none=>none
    | .alloc T =>match (P.info? T).bind (·.zero) with
     | some z=>some ((d,.pt nk 0 0)::t,(nk,.box T (z.cells.toList.map .sc))::M,nk+1)| none=>none
    | .buildSlice T m parts =>match Gg P ⟨t,M,nk⟩ T m parts.toList with
     | some ob=>some ((d,.sl nk)::t,(nk,ob)::M,nk+1)| none=>none
    | op =>match xW P ⟨t,M,nk⟩ op with
     | some av=>some ((d,av)::t,M,nk)| none=>none else none
theorem aaq {P:Program} {C:Cx} {t t':List (Nat×AV)} {M M':List (Nat×AO)} {nk bP:Nat} {o:Oper} (h:opE P C.N t M nk o=some (t',M',bP)):o.guard=none/\WO P C o ⟨t,M,nk⟩ ⟨t',M',bP⟩:=by
 unfold opE at h;split at h;.cases h
 .rename_i hg;refine ⟨hg,?_⟩;split at h
  .rename_i hds;split at h
   .rename_i T x y ho;split at h
    .rename_i ax ay hx hy;split at h
     .rename_i k ob hst;split at h;case h_2=>cases h
      rename_i M1 hM1;cases h;rw [jE hM1];unfold akh at hst;split at hst
      .rename_i k i j;split at hst
       .rename_i m ob0 hm hk;cases hb:ay.l7 && Nat.beq ay.cells.length m && ay.cells.all AV.xO with
        | false=>rw [hb] at hst;cases hst| true =>
         rw [hb] at hst;simp only [cond_true] at hst;simp only [gG] at hb;split at hst
         .rename_i ob' hp;cases hst;exact yT (WO.store (σ:=⟨t,M,nk⟩) ho hds hm hx hk hy hb.1.1 rfl (dG hb.1.2) hb.2 hp)
         .cases hst
       .cases hst
      .cases hst
     .cases h
    .cases h
   .cases h
  .rename_i d hds;cases hd:Nat.blt d C.N with
   | false=>rw [hd] at h;cases h| true =>
    rw [hd] at h;simp only [cond_true] at h;split at h
    .rename_i T x ho;split at h
     .rename_i av hx;cases hB:av.l7 with
      | false=>rw [hB] at h;cases h| true =>
       rw [hB] at h;cases h;exact WO.box (σ:=⟨t,M,nk⟩) ho hds hd hx hB rfl rfl
     .cases h
    .rename_i T ho;split at h
     .rename_i z hz;cases h;exact WO.alloc (σ:=⟨t,M,nk⟩) ho hz hds hd rfl rfl
     .cases h
    .rename_i T m parts ho;split at h
     .rename_i ob hob;cases h;unfold Gg at hob;split at hob
      .rename_i e hT;split at hob
       .rename_i n z aW hn hz hx;cases hb:TB 0 parts.toList && Nat.beq parts.toList.length m && Nat.ble (m*n) 16777216 && Nat.ble m 16777216 && ML n aW with
        | false=>rw [hb] at hob;cases hob| true =>
         rw [hb] at hob;simp only [gG] at hb;cases hob;exact WO.build (σ:=⟨t,M,nk⟩) ho hT hn hz hb.1.1.1.1 (dG hb.1.1.1.2) hb.1.1.2 hb.1.2 hds hd hx hb.2 rfl rfl
       .cases hob
      .cases hob
     .cases h
    .split at h
     .rename_i av hv;cases h;exact WO.adh (σ:=⟨t,M,nk⟩) hds hd (kE rfl hv)
     .cases h
def goL (P:Program) (C:Cx) (ops:Array Oper) (Q:Exit->St->Prop):List Oper->List (Nat×AV)->List (Nat×AO)->Nat->Prop
 | [],t,M,nk=>Q .normal ⟨t,M,nk⟩| o::r,t,M,nk =>match opE P C.N t M nk o with
  | some (t',M',bP)=>goL P C ops Q r t' M' bP| none=>WL P C ops (o::r) ⟨t,M,nk⟩ Q
theorem Zn {P:Program} {C:Cx} {ops:Array Oper} {Q:Exit->St->Prop}:∀ {l:List Oper} {t:List (Nat×AV)} {M:List (Nat×AO)} {nk:Nat},goL P C ops Q l t M nk->WL P C ops l ⟨t,M,nk⟩ Q
 | [],t,M,nk,h=>WL.nil h| o::r,t,M,nk,h=>by
  unfold goL at h;split at h
  .rename_i t' M' bP hs;obtain ⟨h1,h2⟩:=aaq hs;exact WL.op h1 h2 (Zn h)
  .exact h
def goC (P:Program)(C:Cx):Code->St->(Exit->St->Prop)->Prop
 | .skip,σ,Q=>Q .normal σ| .exit id,σ,Q=>Q (.exit id) σ| .seq x y,σ,Q=>goC P C x σ (gU (λs=>W P C y s Q) Q)| .block id c,σ,Q=>goC P C c σ (oH id Q)| .region id ops false,⟨t,M,nk⟩,Q=>goL P C ops Q ops.toList t M nk| c,σ,Q=>W P C c σ Q
theorem Zl {P:Program} {C:Cx}:∀ {c:Code} {σ:St} {Q:Exit->St->Prop},goC P C c σ Q->W P C c σ Q
 | .skip,σ,Q,h=>W.skip h| .exit id,σ,Q,h=>W.exit h| .ret,σ,Q,h=>h| .seq x y,σ,Q,h=>W.seq (Zl (c:=x) h)| .block id c,σ,Q,h=>W.block (Zl (c:=c) h)| .region id ops false,⟨t,M,nk⟩,Q,h=>λG a w ok=>wp_region_list (Zn (P:=P) (C:=C) (show goL P C ops Q ops.toList t M nk from h) G a w ok)| .region id ops true,σ,Q,h=>h| .cond c x y,σ,Q,h=>h| .loop c,σ,Q,h=>h| .rangeFunc f p a b,σ,Q,h=>h| .scope b,σ,Q,h=>h| .label l,σ,Q,h=>h| .goto l,σ,Q,h=>h| .refuse w,σ,Q,h=>h
def goB:Code->Bool
 | .skip=>true| .exit _=>true| .seq _ _=>true| .block _ _=>true| .region _ _ false=>true| _=>false
theorem W.go {P:Program} {C:Cx} {c:Code} {σ:St} {Q:Exit->St->Prop} (hc:goB c=true)(h:goC P C c σ Q):W P C c σ Q:=Zl h
def goD (P:Program) (C:Cx):Code->St->(Exit->St->Prop)->Prop
 | .skip,σ,Q=>Q .normal σ| .exit id,σ,Q=>Q (.exit id) σ| .seq x y,σ,Q=>goD P C x σ (gU (λs=>W P C y s Q) Q)| .block id c,σ,Q=>goD P C c σ (oH id Q)| .region id ops false,⟨t,M,nk⟩,Q=>WL P C ops ops.toList ⟨t,M,nk⟩ Q| c,σ,Q=>W P C c σ Q
theorem Zm {P:Program} {C:Cx}:∀ {c:Code} {σ:St} {Q:Exit->St->Prop},goD P C c σ Q->W P C c σ Q
 | .skip,σ,Q,h=>W.skip h| .exit id,σ,Q,h=>W.exit h| .ret,σ,Q,h=>h| .seq x y,σ,Q,h=>W.seq (Zm (c:=x) h)| .block id c,σ,Q,h=>W.block (Zm (c:=c) h)| .region id ops false,⟨t,M,nk⟩,Q,h=>λG a w ok=>wp_region_list ((show WL P C ops ops.toList ⟨t,M,nk⟩ Q from h) G a w ok)| .region id ops true,σ,Q,h=>h| .cond c x y,σ,Q,h=>h| .loop c,σ,Q,h=>h| .rangeFunc f p a b,σ,Q,h=>h| .scope b,σ,Q,h=>h| .label l,σ,Q,h=>h| .goto l,σ,Q,h=>h| .refuse w,σ,Q,h=>h
theorem W.gob {P:Program} {C:Cx} {c:Code} {σ:St} {Q:Exit->St->Prop} (hc:goB c=true)(h:goD P C c σ Q):W P C c σ Q:=Zm h
theorem WL.VP {P:Program} {C:Cx} {ops:Array Oper} {o oj:Oper} {rest:List Oper} {σ:St} {Q:Exit->St->Prop} {j:Nat} {b:Bool} {d:Tmp} (hg:o.guard=some (j,b))(hj:ops[j]?=some oj)(hd:oj.dst=some d)(hv:look d σ.t=some (.sc (.bool b)))(k:WL P C ops ({ o with guard:=none }::rest) σ Q):WL P C ops (o::rest) σ Q:=λG a w ok=>by
 have h:=k G a w ok;have hy:=D7 (ops:=ops) ok hj hd hv;unfold wpList at h ⊢;rw [if_pos (by simp [Region.wanted])] at h;rw [if_pos (by simp_all[Region.wanted,vb])];exact h
def aq2 (op:BinOp)(m n:Int):Option (Prop×Int) :=match op with
 | .add=>some (I64 (m+n),m+n)| .sub=>some (I64 (m-n),m-n)| .mul=>some (I64 (m*n),m*n)| _=>none
def QG (σ:St):Op->Option (Prop×Int)
 | .binOp op _ x y _ =>match σ.ev x,σ.ev y with
  | some (.sc (.int .i64 m)),some (.sc (.int .i64 n))=>aq2 op m n| _,_=>none
 | _=>none
def an3 (σ:St):Op->Option (List UInt8×List UInt8)
 | .binOp .add _ x y _ =>match σ.ev x,σ.ev y with
  | some (.sc (.string ⟨⟨s⟩⟩)),some (.sc (.string ⟨⟨t⟩⟩))=>some (s,t)| _,_=>none
 | _=>none
def axo (P:Program) (σ:St) (T:TypeId):AV->Option Nat
 | .sc (.string ⟨⟨s⟩⟩) =>match P.underlying T with
  | some .string=>some s.length| _=>none
 | .ls _ rows =>match P.underlying T with
  | some (.slice _)=>some rows.length| _=>none
 | .sl k =>match P.underlying T,look k σ.M with
  | some (.slice _),some ob =>match ob.QD with
   | some rows=>some rows.length| none=>none
  | _,_=>none
 | .sc (.slice _ m _) =>match P.underlying T with
  | some (.slice _)=>some m| _=>none
 | _=>none
def lenV(P:Program)(σ:St):Op->Option Nat
 | .call { callee:=.builtin .len,args:=⟨[x]⟩,argTypes:=⟨[T]⟩ } =>match σ.ev x with
  | some av=>axo P σ T av| none=>none
 | _=>none
def ae1 (P:Program)(σ:St):Op->Option (List (List AV)×Int)
 | .indexAddr T x y =>match P.underlying T,σ.ev x,σ.ev y with
  | some (.slice e),some (.ls n rows),some (.sc (.int _ z)) =>match fZ P e with
   | some m=>bif Nat.beq m n then some (rows,z)else none| none=>none
  | _,_,_=>none
 | _=>none
def aif (P:Program)(σ:St):Op->Option (Nat×List (List AV)×Int)
 | .indexAddr T x y =>match P.underlying T,σ.ev x,σ.ev y with
  | some (.slice e),some (.sl k),some (.sc (.int _ z)) =>match fZ P e,look k σ.M with
   | some m,some ob =>match ob.QD,ob.n? with
    | some rows,some n=>bif Nat.beq m n then some (k,rows,z)else none| _,_=>none
   | _,_=>none
  | _,_,_=>none
 | _=>none
structure ag5 where
 T:TypeId
 n:Nat
 k:Nat
 a:List (List AV)b:List (List AV)
def Y7 (P:Program) (σ:St):Op->Option ag5
 | .call { callee:=.builtin .append,args:=⟨[x,y]⟩,argTypes:=⟨[T,T']⟩ } =>match P.underlying T,σ.ev x,σ.ev y with
  | some (.slice e),some (.sl k),some av2 =>match P.info? e,look k σ.M with
   | some i,some (.row e' n rows) =>match i.zero,σ.src n av2 with
    | some z,some fQ=>bif Nat.beq T T' && Nat.beq e e' && Nat.beq i.size n && Nat.beq z.cells.size n && Nat.blt 0 n && Nat.ble i.bytes 100000 then some ⟨e,n,k,rows,fQ⟩else none| _,_=>none
   | _,_=>none
  | _,_,_=>none
 | _=>none
def ji(N:Nat)(o:Oper):Option Tmp :=match o.guard,o.dst with
 | none,some d=>bif Nat.blt d N then some d else none| _,_=>none
section
variable {P:Program} {C:Cx} {ops:Array Oper} {o:Oper} {rest:List Oper} {σ:St} {Q:Exit→St→Prop} {d:Tmp}
theorem gK(h:ji C.N o=some d):o.guard=none/\o.dst=some d/\Nat.blt d C.N=true:=by grind[ji]
theorem WL.vl {av:AV} (hd:ji C.N o=some d)(h:WV P C o σ av)(k:WL P C ops rest (σ.put d av) Q):WL P C ops (o::rest) σ Q :=WL.opv (gK hd).1 (gK hd).2.1 (gK hd).2.2 h k
theorem acu {s t:List UInt8} (h:an3 σ o.op=some (s,t)) (hl:s.length+t.length<9223372036854775808):WV P C o σ (.sc (.string (bs (s++t)))):=by
 unfold an3 at h;split at h
 .rename_i T x y Ty ho;split at h
  .rename_i s t h1 h2;cases h;exact WV.cat (s:=s) (t:=t) ho h1 h2 hl
  .cases h
 .cases h
theorem WL.cat {s t:List UInt8} (hd:ji C.N o=some d)(h:an3 σ o.op=some (s,t))(hl:s.length+t.length<9223372036854775808)(k:WL P C ops rest (σ.put d (.sc (.string (bs (s++t))))) Q):WL P C ops (o::rest) σ Q:=WL.vl hd (acu h hl) k
theorem vS {m:Nat} (h:lenV P σ o.op=some m):WV P C o σ (.sc (.int .i64 m)):=by
 unfold lenV at h;split at h
 .rename_i x T ho;split at h
  .rename_i av hx;unfold axo at h;split at h
   .split at h;.rename_i s _ hT;cases h;exact WV.az9 (s:=s) ho hT hx
    .cases h
   all_goals grind[WV.aAa,WV.aAc,WV.aAb]
  .cases h
 .cases h
theorem WL.len {m m':Nat} (hd:ji C.N o=some d)(h:lenV P σ o.op=some m)(hm:m=m')(k:WL P C ops rest (σ.put d (.sc (.int .i64 m'))) Q):WL P C ops (o::rest) σ Q:=by
 subst hm;exact WL.vl hd (vS h) k
theorem zql {m n:Nat} (h:m = n:=by first|exact bK _|exact Yt|rfl):m = n:=h
theorem sV {rows:List (List AV)} {z:Int} {r:List AV} (h:ae1 P σ o.op=some (rows,z))(h0:0<=z)(hr:rows[z.toNat]?=some r):WV P C o σ (.pr r):=by
 unfold ae1 at h;grind[dG,WV.auc]
theorem WL.idx {rows:List (List AV)} {z:Int} {r:List AV} (hd:ji C.N o=some d)(h:ae1 P σ o.op=some (rows,z))(h0:0<=z)(hr:rows[z.toNat]?=some r)(k:WL P C ops rest (σ.put d (.pr r)) Q):WL P C ops (o::rest) σ Q :=WL.vl hd (sV h h0 hr) k
theorem SQ {q:Nat} {rows:List (List AV)} {z:Int} (h:aif P σ o.op=some (q,rows,z))(h0:0<=z)(h1:z<rows.length):WV P C o σ (.pt q z.toNat 0):=by
 unfold aif at h;split at h;all_goals grind[dG,WV.aud]
theorem WL.ixs {q:Nat} {rows:List (List AV)} {z:Int} (hd:ji C.N o=some d)(h:aif P σ o.op=some (q,rows,z))(h0:0<=z/\z<rows.length)(k:WL P C ops rest (σ.put d (.pt q z.toNat 0)) Q):WL P C ops (o::rest) σ Q :=WL.vl hd (SQ h h0.1 h0.2) k
theorem an0 {x:ag5} (hd:ji C.N o=some d)(h:Y7 P σ o.op=some x)(hl:x.a.length+x.b.length<=1000000000):WO P C o σ (((σ.drop x.k).new (.row x.T x.n (x.a++x.b))).put d (.sl σ.nk)):=by
 obtain⟨_,hds,hdb⟩:=gK hd;unfold Y7 at h;split at h;all_goals grind[dG,WO.append]
theorem WL.app {x:ag5} {t:List (Nat×AV)} {M M':List (Nat×AO)} {nk:Nat} (hd:ji C.N o=some d) (h:Y7 P ⟨t,M,nk⟩ o.op=some x) (hM:zu x.k M=some M') (hl:x.a.length+x.b.length<=1000000000) (k:WL P C ops rest ⟨(d,.sl nk)::t,(nk,.row x.T x.n (x.a++x.b))::M',nk+1⟩ Q):WL P C ops (o::rest) ⟨t,M,nk⟩ Q:=by
 rw [jE hM] at k;exact WL.op (gK hd).1 (an0 hd h hl) k
theorem WL.ev {t:List (Nat×AV)} {M:List (Nat×AO)} {nk:Nat} (h:(opE P C.N t M nk o).isSome=true) (k:goL P C ops Q (o::rest) t M nk):WL P C ops (o::rest) ⟨t,M,nk⟩ Q:=Zn k
def stepD (P:Program)(N:Nat)(ops:Array Oper)(σ:St)(o:Oper):Option (Tmp×AV) :=match o.dst with
 | some d =>bif Nat.blt d N then match qm ops o (σ.only (o.looksAt ops)) with
   | some true =>match xW P (σ.only (o.looksAt ops)) o.op with
    | some av=>some (d,av)| none=>none
   | some false=>some (d,.sc undef)| none=>none else none| none=>none
theorem DK.st {av:AV} (h:stepD P C.N ops σ o=some (d,av))(k:DK P C ops rest (σ.put d av) Q):DK P C ops (o::rest) σ Q:=by
 unfold stepD at h;split at h
 .rename_i x hds;cases hb:Nat.blt x C.N with
  | false=>rw [hb] at h;cases h| true =>
   rw [hb] at h;simp only [cond_true] at h;split at h
   .rename_i hg;split at h
    .rename_i Vf hv;cases h;exact DK.val hds hb hg (kE rfl hv) k
    .cases h
   all_goals simp_all[DK.no]
 .cases h
theorem DK.tt {b:Bool} (h:stepD P C.N ops σ o=some (d,.sc (.bool b)))(hb:b=true)(k:DK P C ops rest (σ.put d (.sc (.bool true))) Q):DK P C ops (o::rest) σ Q:=by grind[DK.st]
theorem DK.ff {b:Bool} (h:stepD P C.N ops σ o=some (d,.sc (.bool b)))(hb:b=false)(k:DK P C ops rest (σ.put d (.sc (.bool false))) Q):DK P C ops (o::rest) σ Q:=by grind[DK.st]
def OM (N:Nat)(ops:Array Oper)(σ:St)(o:Oper):Option Tmp :=match o.dst,qm ops o (σ.only (o.looksAt ops))with
 | some d,some true=>bif Nat.blt d N then some d else none| _,_=>none
theorem DK.vl {av:AV} (hd:OM C.N ops σ o=some d)(h:WV P C o (σ.only (o.looksAt ops)) av)(k:DK P C ops rest (σ.put d av) Q):DK P C ops (o::rest) σ Q:=by grind[OM,DK.val]
theorem DK.len {m m':Nat} (hd:OM C.N ops σ o=some d)(h:lenV P (σ.only (o.looksAt ops)) o.op=some m)(hm:m=m')(k:DK P C ops rest (σ.put d (.sc (.int .i64 m'))) Q):DK P C ops (o::rest) σ Q:=by subst hm;exact DK.vl hd (vS h) k
theorem DK.cat {s t:List UInt8} (hd:OM C.N ops σ o=some d)(h:an3 (σ.only (o.looksAt ops)) o.op=some (s,t))(hl:s.length+t.length<9223372036854775808)(k:DK P C ops rest (σ.put d (.sc (.string (bs (s++t))))) Q):DK P C ops (o::rest) σ Q:=DK.vl hd (acu h hl) k
theorem DK.idx {rows:List (List AV)} {z:Int} {r:List AV} (hd:OM C.N ops σ o=some d)(h:ae1 P (σ.only (o.looksAt ops)) o.op=some (rows,z))(h0:0<=z)(hr:rows[z.toNat]?=some r)(k:DK P C ops rest (σ.put d (.pr r)) Q):DK P C ops (o::rest) σ Q :=DK.vl hd (sV h h0 hr) k
theorem DK.ixs {q:Nat} {rows:List (List AV)} {z:Int} (hd:OM C.N ops σ o=some d)(h:aif P (σ.only (o.looksAt ops)) o.op=some (q,rows,z))(h0:0<=z/\z<rows.length)(k:DK P C ops rest (σ.put d (.pt q z.toNat 0)) Q):DK P C ops (o::rest) σ Q :=DK.vl hd (SQ h h0.1 h0.2) k
theorem uY {φ:Prop} {z:Int} (h:QG σ o.op=some (φ,z))(hφ:φ):WV P C o σ (.sc (.int .i64 z)):=by
 unfold QG at h;split at h
 .rename_i op T x y Ty ho;split at h
  .rename_i m n h1 h2;unfold aq2 at h;grind[WV.add,WV.sub,WV.mul]
  .cases h
 .cases h
theorem WL.ar {φ:Prop} {z:Int} (hd:ji C.N o=some d)(h:QG σ o.op=some (φ,z))(hφ:φ)(k:WL P C ops rest (σ.put d (.sc (.int .i64 z))) Q):WL P C ops (o::rest) σ Q:=WL.vl hd (uY h hφ) k
theorem DK.ar {φ:Prop} {z:Int} (hd:OM C.N ops σ o=some d)(h:QG (σ.only (o.looksAt ops)) o.op=some (φ,z))(hφ:φ)(k:DK P C ops rest (σ.put d (.sc (.int .i64 z))) Q):DK P C ops (o::rest) σ Q:=DK.vl hd (uY h hφ) k
end
section
variable {P:Program} {C:Cx} {ops:Array Oper} {o:Oper} {rest:List Oper} {σ:St} {Q:Exit→St→Prop} {d:Tmp} {mem:List Bool} {Mc:List (Nat×AO)} {dB k:Nat}
def zq (N:Nat) (ops:Array Oper) (mem:List Bool) (Mc:List (Nat×AO)) (k nk:Nat) (t:List (Nat×AV)) (o:Oper):Option (Tmp×Bool) :=match o.dst with
 | some d =>bif !(mem.getD k false) && Nat.blt d N && Lh nk Mc && Nq nk (dR t (o.looksAt ops))then match qm ops o ⟨dR t (o.looksAt ops),Mc,nk⟩with
   | some b=>some (d,b)| none=>none else none| none=>none
theorem EG {nk:Nat} {t:List (Nat×AV)} {b:Bool} (h:zq C.N ops mem Mc k nk t o=some (d,b)):mem.getD k false=false/\o.dst=some d/\Nat.blt d C.N=true/\Lh nk Mc=true/\Nq nk (dR t (o.looksAt ops))=true/\qm ops o ⟨dR t (o.looksAt ops),Mc,nk⟩=some b:=by grind[zq]
theorem nD.v0 {av:AV} (hd:zq C.N ops mem Mc k dB σ.t o=some (d,true)) (h:WV P C o ⟨dR σ.t (o.looksAt ops),Mc,dB⟩ av) (r:nD P C ops mem Mc dB (k+1) rest (σ.put d av) Q):nD P C ops mem Mc dB k (o::rest) σ Q:=by
 obtain ⟨a,b,c,e,f,g⟩:=EG hd;exact nD.val a b c (.inl rfl) ⟨e,f,.inl ⟨g,h⟩⟩ r
theorem nD.v1 {av:AV} (hd:zq C.N ops mem Mc k σ.nk σ.t o=some (d,true)) (hb:iV ops mem k=true) (h:WV P C o ⟨dR σ.t (o.looksAt ops),Mc,σ.nk⟩ av) (r:nD P C ops mem Mc dB (k+1) rest (σ.put d av) Q):nD P C ops mem Mc dB k (o::rest) σ Q:=by
 obtain ⟨a,b,c,e,f,g⟩:=EG hd;exact nD.val a b c (.inr ⟨rfl,hb⟩) ⟨e,f,.inl ⟨g,h⟩⟩ r
theorem nD.st {av:AV} (hd:zq C.N ops mem Mc k dB σ.t o=some (d,true)) (h:xW P ⟨dR σ.t (o.looksAt ops),Mc,dB⟩ o.op=some av) (r:nD P C ops mem Mc dB (k+1) rest (σ.put d av) Q):nD P C ops mem Mc dB k (o::rest) σ Q:=nD.v0 hd (kE rfl h) r
theorem nD.s1 {av:AV} (hd:zq C.N ops mem Mc k σ.nk σ.t o=some (d,true)) (hb:iV ops mem k=true) (h:xW P ⟨dR σ.t (o.looksAt ops),Mc,σ.nk⟩ o.op=some av) (r:nD P C ops mem Mc dB (k+1) rest (σ.put d av) Q):nD P C ops mem Mc dB k (o::rest) σ Q:=nD.v1 hd hb (kE rfl h) r
theorem nD.ar {φ:Prop} {z:Int} (hd:zq C.N ops mem Mc k dB σ.t o=some (d,true)) (h:QG ⟨dR σ.t (o.looksAt ops),Mc,dB⟩ o.op=some (φ,z)) (hφ:φ) (r:nD P C ops mem Mc dB (k+1) rest (σ.put d (.sc (.int .i64 z))) Q):nD P C ops mem Mc dB k (o::rest) σ Q:=nD.v0 hd (uY h hφ) r
theorem nD.idx {rows:List (List AV)} {z:Int} {x:List AV} (hd:zq C.N ops mem Mc k dB σ.t o=some (d,true)) (h:ae1 P ⟨dR σ.t (o.looksAt ops),Mc,dB⟩ o.op=some (rows,z)) (h0:0<=z) (hr:rows[z.toNat]?=some x) (r:nD P C ops mem Mc dB (k+1) rest (σ.put d (.pr x)) Q):nD P C ops mem Mc dB k (o::rest) σ Q:=nD.v0 hd (sV h h0 hr) r
def wrB(mem:List Bool)(N k:Nat)(o:Oper):Option Tmp :=match o.dst,o.guard with
 | some d,none=>bif mem.getD k false && Nat.blt d N then some d else none| _,_=>none
theorem yU {N:Nat} (h:wrB mem N k o=some d):mem.getD k false=true/\o.dst=some d/\o.guard=none/\Nat.blt d N=true:=by grind[wrB]
theorem nD.bd {T m:Nat} {parts:Array (Nat×Operand)} {ob:AO} (hd:wrB mem C.N k o=some d) (ho:o.op=.buildSlice T m parts) (h:Gg P σ T m parts.toList=some ob) (hs:bD Mc ((σ.nk,ob)::σ.M)) (r:nD P C ops mem Mc dB (k+1) rest ⟨(d,.sl σ.nk)::σ.t,(σ.nk,ob)::σ.M,σ.nk+1⟩ Q):nD P C ops mem Mc dB k (o::rest) σ Q:=by
 obtain ⟨a,b,c,e⟩:=yU hd;unfold Gg at h;split at h
 .rename_i el hT;split at h
  .rename_i n z aW hn hz hx;cases hb:TB 0 parts.toList && Nat.beq parts.toList.length m && Nat.ble (m*n) 16777216 && Nat.ble m 16777216 && ML n aW with
   | false=>rw [hb] at h;cases h| true =>
    rw [hb] at h;simp only [gG] at hb;cases h;exact nD.wr a b (pY (xZ _)) hs (DoesM.build c ho hT hn hz hb.1.1.1.1 (dG hb.1.1.1.2) hb.1.1.2 hb.1.2 b e hx hb.2 rfl rfl rfl rfl) r
  .cases h
 .cases h
theorem nD.ap {x:ag5} (hd:wrB mem C.N k o=some d) (h:Y7 P σ o.op=some x) (hl:x.a.length+x.b.length<=1000000000) (hs:bD Mc ((σ.nk,.row x.T x.n (x.a++x.b))::rem x.k σ.M)) (r:nD P C ops mem Mc dB (k+1) rest ⟨(d,.sl σ.nk)::σ.t,(σ.nk,.row x.T x.n (x.a++x.b))::rem x.k σ.M,σ.nk+1⟩ Q):nD P C ops mem Mc dB k (o::rest) σ Q:=by
 obtain ⟨a,b,c,e⟩:=yU hd;unfold Y7 at h;split at h
 .rename_i x y T T' ho;split at h
  .rename_i el q av2 hT hx hy;split at h
   .rename_i i e' n rows hi hk;split at h
    .rename_i z fQ hz hs2;cases hb:Nat.beq T T' && Nat.beq el e' && Nat.beq i.size n && Nat.beq z.cells.size n && Nat.blt 0 n && Nat.ble i.bytes 100000 with
     | false=>rw [hb] at h;cases h| true =>
      rw [hb] at h;simp only [gG] at hb;cases h;obtain ⟨⟨⟨⟨⟨b1,b2⟩,b3⟩,b4⟩,b5⟩,b6⟩:=hb;obtain rfl:=dG b1;obtain rfl:=dG b2;exact nD.wr a b (pY (xZ _)) hs (DoesM.append c ho hT hi hz (dG b3) rfl (dG b4) b5 b e hx hk hy hs2 rfl hl b6 rfl rfl rfl) r
    .cases h
   .cases h
  .cases h
 .cases h
end
def nY (M:List (Nat×AO)):List Nat->List (Nat×AO)
 | []=>[]| x::r =>match look x M with
  | some o=>(x,o)::nY M r| none=>nY M r
def aiz(l:List Oper):List Bool:=l.map λo =>match o.op with
 | .buildSlice _ _ _=>true| .call { callee:=.builtin .append,.. }=>true| _=>false
theorem W.dm {P:Program} {C:Cx} {σ:St} {Q:Exit->St->Prop} {id:Nat} {l:List Oper} (ms:List Nat) (hm:P.follows .mixedOrders=true) (hB:Region.lexB .any l.toArray=true) (hch:chainB l.toArray (aiz l)=true) (SG:bD (nY σ.M ms) σ.M)(h:nD P C l.toArray (aiz l) (nY σ.M ms) σ.nk 0 l σ Q):W P C (.region id l.toArray true) σ Q:=W.ahu (aiz l) (nY σ.M ms) hm hB hch SG h
structure av6 where
 k:Nat
 i:Nat
 j:Nat
 T:TypeId
 n:Nat
 rows:List (List AV)l:List AV
def axX (P:Program) (σ:St):Op->Option av6
 | .store T x y =>match σ.ev x,σ.ev y with
  | some (.pt k i j),some av =>match fZ P T,look k σ.M with
   | some m,some (.row T' n rows)=>bif av.l7 && Nat.beq av.cells.length m && av.cells.all AV.xO && av.cells.all AV.TL then some ⟨k,i,j,T',n,rows,av.cells⟩else none| _,_=>none
  | _,_=>none
 | _=>none
section
variable {P:Program} {C:Cx} {ops:Array Oper} {o:Oper} {rest:List Oper} {σ:St} {Q:Exit→St→Prop} {d:Tmp}
theorem WL.xq {x:av6} {r:List AV} {t:List (Nat×AV)} {M M':List (Nat×AO)} {nk:Nat} (hg:o.guard=none) (hds:o.dst=none) (h:axX P ⟨t,M,nk⟩ o.op=some x) (hM:zu x.k M=some M') (hr:x.rows[x.i]?=some r) (hj:x.j+x.l.length<=r.length)(k:WL P C ops rest ⟨t,(x.k,.row x.T x.n (x.rows.set x.i (jL x.j x.l r)))::M',nk⟩ Q):WL P C ops (o::rest) ⟨t,M,nk⟩ Q:=by
 rw [jE hM] at k;clear hM;refine WL.op hg ?_ k;unfold axX at h;split at h
 .rename_i T x y ho;split at h
  .rename_i k i j av hx hy;split at h
   .rename_i m T' n rows hm hk;cases hb:av.l7 && Nat.beq av.cells.length m && av.cells.all AV.xO && av.cells.all AV.TL with
    | false=>rw [hb] at h;cases h| true =>
     rw [hb] at h;simp only [gG] at hb;cases h;refine yT (WO.store (σ:=⟨t,M,nk⟩) ho hds hm hx hk hy hb.1.1.1 rfl (dG hb.1.1.2) hb.1.2 ?_);simp_all[AO.put]
   .cases h
  .cases h
 .cases h
def mmV (σ:St):Op->Option (IntKind×Int)
 | .call { callee:=.builtin .min,args:=⟨[x,y]⟩,.. } =>match σ.ev x,σ.ev y with
  | some (.sc (.int k m)),some (.sc (.int _ n))=>some (k,if n<m then n else m)| _,_=>none
 | .call { callee:=.builtin .max,args:=⟨[x,y]⟩,.. } =>match σ.ev x,σ.ev y with
  | some (.sc (.int k m)),some (.sc (.int _ n))=>some (k,if n > m then n else m)| _,_=>none
 | _=>none
theorem WL.mm {k:IntKind} {z z':Int} (hd:ji C.N o=some d)(h:mmV σ o.op=some (k,z))(hz:z=z')(K:WL P C ops rest (σ.put d (.sc (.int k z'))) Q):WL P C ops (o::rest) σ Q:=by
 subst hz;refine WL.vl hd ?_ K;unfold mmV at h;split at h
 .rename_i x y ts ho;split at h
  .rename_i k m k' n hx hy;cases h;exact WV.sc λG a w ok=>by unfold execOp;simp [ho,resolve,invoke,builtin,ok.evs hx,ok.evs hy,Builtin.min_,Builtin.min2]
  .cases h
 .rename_i x y ts ho;split at h
  .rename_i k m k' n hx hy;cases h;exact WV.sc λG a w ok=>by unfold execOp;simp [ho,resolve,invoke,builtin,ok.evs hx,ok.evs hy,Builtin.max_,Builtin.max2]
  .cases h
 .cases h
def V6:Op->Bool
 | .binOp .lss _ _ _ _=>true| .binOp .leq _ _ _ _=>true| .binOp .gtr _ _ _ _=>true| .binOp .geq _ _ _ _=>true| .binOp .eql _ _ _ _=>true| _=>false
def aqL:Op->Bool
 | .binOp .neq _ _ _ _=>true| _=>false
theorem WL.bt {φ:Prop} [i:Decidable φ] (hc:V6 o.op=true)(hd:ji C.N o=some d)(h:xW P σ o.op=some (.sc (.bool (decide φ))))(hφ:φ)(k:WL P C ops rest (σ.put d (.sc (.bool true))) Q):WL P C ops (o::rest) σ Q:=by
 rw [bQ hφ] at h;exact UW
theorem WL.bf {φ:Prop} [i:Decidable φ] (hc:V6 o.op=true)(hd:ji C.N o=some d)(h:xW P σ o.op=some (.sc (.bool (decide φ))))(hφ:¬ φ)(k:WL P C ops rest (σ.put d (.sc (.bool false))) Q):WL P C ops (o::rest) σ Q:=by
 rw [bW hφ] at h;exact UW
theorem WL.nt {φ:Prop} [i:Decidable φ] (hc:aqL o.op=true)(hd:ji C.N o=some d)(h:xW P σ o.op=some (.sc (.bool (!decide φ))))(hφ:¬ φ)(k:WL P C ops rest (σ.put d (.sc (.bool true))) Q):WL P C ops (o::rest) σ Q:=by
 rw [bW hφ] at h;exact UW
theorem WL.nf {φ:Prop} [i:Decidable φ] (hc:aqL o.op=true)(hd:ji C.N o=some d)(h:xW P σ o.op=some (.sc (.bool (!decide φ))))(hφ:φ)(k:WL P C ops rest (σ.put d (.sc (.bool false))) Q):WL P C ops (o::rest) σ Q:=by
 rw [bQ hφ] at h;exact UW
theorem WL.e1 {t t':List (Nat×AV)} {M M':List (Nat×AO)} {nk bP:Nat} (h:opE P C.N t M nk o=some (t',M',bP)) (k:WL P C ops rest ⟨t',M',bP⟩ Q):WL P C ops (o::rest) ⟨t,M,nk⟩ Q :=WL.op (aaq h).1 (aaq h).2 k
def cutV (P:Program) (σ:St):Op->Option (List UInt8×Int×Int)
 | .slice T x (some y) (some z) none =>match P.underlying T,σ.ev x,σ.ev y,σ.ev z with
  | some .string,some (.sc (.string ⟨⟨s⟩⟩)),some (.sc (.int _ i)),some (.sc (.int _ j))=>some (s,i,j)| _,_,_,_=>none
 | .slice T x none (some z) none =>match P.underlying T,σ.ev x,σ.ev z with
  | some .string,some (.sc (.string ⟨⟨s⟩⟩)),some (.sc (.int _ j))=>some (s,0,j)| _,_,_=>none
 | .slice T x (some y) none none =>match P.underlying T,σ.ev x,σ.ev y with
  | some .string,some (.sc (.string ⟨⟨s⟩⟩)),some (.sc (.int _ i))=>some (s,i,s.length)| _,_,_=>none
 | _=>none
theorem Sm {w:World} {T:TypeId} {s t:List UInt8} {lo hi:Option Value} (hT:P.underlying T=some .string)(h:(Instr.slice T (.string (bs s)) lo hi none).run P w=.ok (.string (bs t)) w) :((Instr.sliceAt T (.string (bs s)) lo hi none).run P w).andThen (λa w'=>Sem.run P (pure (Next.value a)) w')=.ok (.value (.string (bs t))) w:=by simp_all[Instr.sliceAt,run_underlying]
theorem Bf {s:List UInt8} {i j:Int} (h:cutV P σ o.op=some (s,i,j))(hb:0<=i/\i<=j/\j<=s.length):WV P C o σ (.sc (.string (bs (cut s i j)))):=by
 unfold cutV at h;split at h
 .rename_i T x y z ho;split at h
  .rename_i s' k i' k' j' hT hx hy hz;cases h;refine WV.sc λG a w ok=>?_;unfold execOp;simp only [ho,oG,NV,ok.evs hx,ok.evs hy,ok.evs hz,Sem.run_bind];have:=tV (P:=P) w T s k k' i j hT hb.1 hb.2.1 hb.2.2;exact Sm hT this
  .cases h
 .rename_i T x z ho;split at h
  .rename_i s' k' j' hT hx hz;cases h;refine WV.sc λG a w ok=>?_;unfold execOp;simp only [ho,oG,NV,ok.evs hx,ok.evs hz,Sem.run_bind];have:=jZ (P:=P) w T s k' j hT au hb.2.2;exact Sm hT this
  .cases h
 .rename_i T x y ho;split at h
  .rename_i s' k i' hT hx hy;cases h;refine WV.sc λG a w ok=>?_;unfold execOp;simp only [ho,oG,NV,ok.evs hx,ok.evs hy,Sem.run_bind];have:=iK (P:=P) w T s k i hT hb.1 hb.2.1;have e:cut s i s.length=s.drop i.toNat:=by unfold cut;rw [ou (by simp)]
   rw [e];exact Sm hT this
  .cases h
 .cases h
theorem WL.cut {s:List UInt8} {i j:Int} (hd:ji C.N o=some d)(h:cutV P σ o.op=some (s,i,j))(hb:0<=i/\i<=j/\j<=s.length)(k:WL P C ops rest (σ.put d (.sc (.string (bs (cut s i j))))) Q):WL P C ops (o::rest) σ Q :=WL.vl hd (Bf h hb) k
end
def ag6 (T e b:Nat)(φ:Nat->Prop)(l:List UInt8)(v:Value)(w:World):Ending->World->Prop:=λr w' =>r=.returned v/\Kept φ w w'/\J3 w' T e b (λx=>φ x\/(w.heap.size<=x/\x<w'.heap.size)) l
def asZ (P:Program) (f:FuncId) (T e:TypeId):Prop:=∀ (w:World) (b:Nat) (φ:Nat->Prop) (l s:List UInt8),φ b->J3 w T e b φ l->l.length+s.length<=1000000000 ->Calls P f #[.pointer (some ⟨b,0,none⟩),.string (bs s)] w (ag6 T e b φ (l++s) (.tuple #[.int .i64 s.length,.nilIface]) w)
def asY (P:Program) (f:FuncId) (T e:TypeId):Prop:=∀ (w:World) (b:Nat) (φ:Nat->Prop) (l:List UInt8),φ b->J3 w T e b φ l->l≠[] ->Calls P f #[.pointer (some ⟨b,0,none⟩)] w (ag6 T e b φ l (.string (bs l)) w)
def Il(N:Nat):Option Tmp->Bool
 | some d=>Nat.blt d N| none=>true
section
variable {P:Program} {C:Cx} {σ σ':St} {G G':Gh} {a:Act} {w w':World} {o:Oper} {d:Tmp}
theorem zB {N:Nat} {d:Option Tmp} (h:Il N d=true):∀ x,d=some x->x<N:=λx hx=>by subst hx;exact dn h
theorem Ok.aco (ok:Ok C σ G a w) {k:Nat} {T e:TypeId} {l l':List UInt8} (hk:look k σ.M=some (.vK T e l)) (hkept:Kept (G.fp k) w w')(hb:J3 w' T e (G.b k) (λx=>G.fp k x\/(w.heap.size<=x/\x<w'.heap.size)) l'):∃ G',Ok C (σ.upd k (.vK T e l')) G' a w':=by
 have hob:=ok.ob k _ hk;have hle:∀ nk,G.le { G with fp:=λi x=>if i=k then G.fp k x\/(w.heap.size<=x/\x<w'.heap.size) else G.fp i x } nk:=λnk=>⟨λ_ _ h=>h,λ_ _=>rfl,λ_ _=>rfl,λ_ _=>rfl⟩;have hfo:∀ i,i≠k->({ G with fp:=λi x=>if i=k then G.fp k x\/(w.heap.size<=x/\x<w'.heap.size) else G.fp i x }:Gh).fp i=G.fp i:=λi hi=>by simp_all
 have hl:∀ k' o,look k' (σ.upd k (.vK T e l')).M=some o->(k'=k/\o=.vK T e l')\/(k'≠k/\look k' σ.M=some o):=λk' o hx=>by
  by_cases e:k'=k
  .subst e;rw [show look k' (σ.upd k' (.vK T _ l')).M=some _ from aB] at hx;simp_all
  .rw [show look k' (σ.upd k (.vK T _ l')).M=look k' σ.M from ah e] at hx;simp_all
 have fpx:∀ k' o x,look k' (σ.upd k (.vK T e l')).M=some o->(if k'=k then G.fp k x\/(w.heap.size<=x/\x<w'.heap.size) else G.fp k' x)->(∃ o',look k' σ.M=some o'/\G.fp k' x)\/(k'=k/\w.heap.size<=x/\x<w'.heap.size):=λk' o x h1 h2=>by grind
 have hF:∀ p u,G.F p=some u->w'.heap[p.block]?=w.heap[p.block]?:=λp u h=>hkept.block _ (aQ (ok.fw p u h)) λhx=>ok.dF k _ _ p u hk hx h rfl;refine ⟨{ G with fp:=λi x=>if i=k then G.fp k x\/(w.heap.size<=x/\x<w'.heap.size) else G.fp i x },ok.sz,ok.df,λi av x=>⟨(ok.tm i av x).1,(ok.tm i av x).2.1,(ok.tm i av x).2.2.mono (hle σ.nk) (ok.tm i av x).2.1⟩,ok.bel.on hkept λx hx=>(ok.my k _ x hk hx).1,λp u h=>(World.cell?_of_block (hF p u h)).trans (ok.fw p u h),ok.f0,ok.f1,?_,?_,?_,?_⟩
 .intro k' o x;rcases hl k' o x with⟨rfl,rfl⟩|⟨e,y⟩
  .refine ⟨hob.1,trivial,?_⟩;refine ⟨?_,?_⟩
   .show (if k'=k' then G.fp k' (G.b k')\/_ else G.fp k' (G.b k'));rw [if_pos rfl];exact .inl hob.2.2.1
   .show J3 w' T _ (G.b k') (λx=>if k'=k' then G.fp k' x\/(w.heap.size<=x/\x<w'.heap.size) else G.fp k' x) l';rw [show (λx=>if k'=k' then G.fp k' x\/(w.heap.size<=x/\x<w'.heap.size) else G.fp k' x)=(λx=>G.fp k' x\/(w.heap.size<=x/\x<w'.heap.size)) from funext λx=>if_pos rfl];exact hb
  .obtain ⟨h1,h2,h3⟩:=ok.ob k' o y;exact ⟨h1,h2,h3.keep (hle σ.nk) h1 h2 (hfo k' e) λx hx=>hkept.block x (ok.my k' o x y hx).2 λhx2=>e (ok.dj k' o k _ x y hk hx hx2)⟩
 .intro k' o x h1 h2;rcases fpx k' o x h1 h2 with⟨o',y,h3⟩|⟨_,h3,h4⟩;.exact ⟨(ok.my k' o' x y h3).1,oD (ok.my k' o' x y h3).2 hkept.size⟩
  .exact ⟨.inl (gX ok.bel.size h3),h4⟩
 .intro k1 o1 k2 o2 x h1 h2 h3 h4;rcases fpx k1 o1 x h1 h3 with⟨o1',y1,h5⟩|⟨e1,h5,_⟩
  .rcases fpx k2 o2 x h2 h4 with⟨o2',y2,h6⟩|⟨e2,h6,_⟩;.exact ok.dj k1 o1' k2 o2' x y1 y2 h5 h6
   .have:=(ok.my k1 o1' x y1 h5).2;omega
  .rcases fpx k2 o2 x h2 h4 with⟨o2',y2,h6⟩|⟨e2,h6,_⟩;.have:=(ok.my k2 o2' x y2 h6).2;omega
   .rw [e1,e2]
 .intro k1 o1 x p u h1 h2 h3;rcases fpx k1 o1 x h1 h2 with⟨o1',y1,h5⟩|⟨_,h5,_⟩;.exact ok.dF k1 o1' x p u y1 h5 h3
  .have:=aQ (ok.fw p u h3);omega
theorem Tr.vK (k:Nat) {T:TypeId} (e:TypeId) (hk:look k σ.M=some (.box T [.sc (.pointer none),.sc (.slice none 0 0)])):Tr C σ (σ.upd k (.vK T e [])):=λG a w ok=>by
 obtain ⟨g1,g2,g3,cs,Φ,g4,g5,g6,g7,g8⟩:=ok.ob k _ hk;have hs:cs.size=2:=g5;have e0:cs[0]=.pointer none:=((g8 0 _ _ rfl (vC (by omega))).r rfl).fM;have e1:cs[1]=.slice none 0 0:=((g8 1 _ _ rfl (vC (by omega))).r rfl).fM;have ecs:cs=#[.pointer none,.slice none 0 0]:=by grind
 subst ecs;exact ⟨G,ok.aaM hk ⟨g1,trivial,g3,.pointer none,.slice none 0 0,.inl rfl,g4,World.ownsRowF_nil _ _ _ _,λg hg=>by cases hg⟩⟩
theorem WO.ay3 {f:FuncId} {k:Nat} {x y:Operand} {ts:Array TypeId} {T e:TypeId} {l s l':List UInt8} (ho:o.op=.call { callee:=.value (.func f),args:=#[x,y],argTypes:=ts }) (hc:∀ vs w,(callFunc f vs).run P w=.ok (.enter f vs) w)(hx:σ.ev x=some (.pt k 0 0)) (hk:look k σ.M=some (.vK T e l)) (hy:σ.ev y=some (.sc (.string (bs s)))) (hd:Il C.N o.dst=true) (h:asZ P f T e) (hl:l.length+s.length<=1000000000) (hl':l++s=l') :WO P C o σ ((σ.upd k (.vK T e l')).set o.dst (.tu [.sc (.int .i64 s.length),.sc .nilIface])):=by
 intro G a w ok N Q' hN;subst hl';obtain ⟨p,ep,p1,p2,p3⟩:=(ok.l9 hx).2.lu;obtain ⟨h1,h2⟩:=(ok.ob k _ hk).2.2;obtain rfl:=addr_eq p1 p2 p3;rw [AP] at ep;refine lN ?_;have ev:a.eval (.func f)=.func (.func f) #[] #[]:=rfl;have e3:(#[]++(#[x,y]:Array Operand).map a.eval++#[]:Array Value)=#[.pointer (some ⟨G.b k,0,none⟩),.string (bs s)]:=by simp [ep,ok.evs hy]
 simp only [ho,resolve,ev,Deferred.ofValue,invoke,Sem.run_bind,Sem.run_pure,Result.andThen_ok,hc,Oper.upon,e3];refine (h w (G.b k) (G.fp k) l s h1 h2 hl).mono λr w1 ⟨he,hkept,hb⟩=>?_;subst he;obtain ⟨G',ok'⟩:=ok.aco hk hkept hb;exact hN _ _ _ (ok'.set (.tu _ _ rfl λi av u p q=>by match i with
  | 0=>cases p;cases q;exact .pu _ _ (.sc _)| 1=>cases p;cases q;exact .pu _ _ (.sc _)| i+2=>simp at p) (.tu _ λi x hx=>by match i with
  | 0=>cases hx;exact .sc _| 1=>cases hx;exact .sc _| i+2=>simp at hx) (zB hd))
theorem WO.ay2 {f:FuncId} {k:Nat} {x:Operand} {ts:Array TypeId} {T e:TypeId} {l:List UInt8} (ho:o.op=.call { callee:=.value (.func f),args:=#[x],argTypes:=ts }) (hc:∀ vs w,(callFunc f vs).run P w=.ok (.enter f vs) w)(hx:σ.ev x=some (.pt k 0 0)) (hk:look k σ.M=some (.vK T e l)) (hd:Il C.N o.dst=true) (h:asY P f T e) (hl:l≠[]) :WO P C o σ ((σ.upd k (.vK T e l)).set o.dst (.sc (.string (bs l)))):=by
 intro G a w ok N Q' hN;obtain ⟨p,ep,p1,p2,p3⟩:=(ok.l9 hx).2.lu;obtain ⟨h1,h2⟩:=(ok.ob k _ hk).2.2;obtain rfl:=addr_eq p1 p2 p3;rw [AP] at ep;refine lN ?_;have ev:a.eval (.func f)=.func (.func f) #[] #[]:=rfl;have e3:(#[]++(#[x]:Array Operand).map a.eval++#[]:Array Value)=#[.pointer (some ⟨G.b k,0,none⟩)]:=by simp [ep]
 simp only [ho,resolve,ev,Deferred.ofValue,invoke,Sem.run_bind,Sem.run_pure,Result.andThen_ok,hc,Oper.upon,e3];refine (h w (G.b k) (G.fp k) l h1 h2 hl).mono λr w1 ⟨he,hkept,hb⟩=>?_;subst he;obtain ⟨G',ok'⟩:=ok.aco hk hkept hb;exact hN _ _ _ (ok'.set (.pu _ _ (.sc _)) (.sc _) (zB hd))
def bwV (σ:St) (f:FuncId):Op->Option (Nat×TypeId×TypeId×List UInt8×List UInt8)
 | .call { callee:=.value (.func g),args:=⟨[x,y]⟩,argTypes:=_ } =>match σ.ev x,σ.ev y with
  | some (.pt k 0 0),some (.sc (.string ⟨⟨s⟩⟩)) =>match look k σ.M with
   | some (.vK T e l)=>bif Nat.beq f g then some (k,T,e,l,s)else none| _=>none
  | _,_=>none
 | _=>none
def bsV (σ:St)(f:FuncId):Op->Option (Nat×TypeId×TypeId×List UInt8)
 | .call { callee:=.value (.func g),args:=⟨[x]⟩,argTypes:=_ } =>match σ.ev x with
  | some (.pt k 0 0) =>match look k σ.M with
   | some (.vK T e l)=>bif Nat.beq f g then some (k,T,e,l)else none| _=>none
  | _=>none
 | _=>none
variable {ops:Array Oper} {rest:List Oper} {Q:Exit→St→Prop}
theorem WL.bw {f:FuncId} {k:Nat} {T e:TypeId} {l s l':List UInt8} {t:List (Nat×AV)} {M M':List (Nat×AO)} {nk:Nat} (hd:ji C.N o=some d) (hv:bwV ⟨t,M,nk⟩ f o.op=some (k,T,e,l,s)) (hM:zu k M=some M')(hc:∀ vs w,(callFunc f vs).run P w=.ok (.enter f vs) w) (h:asZ P f T e) (hl:l.length+s.length<=1000000000) (hl':l++s=l')(K:WL P C ops rest ⟨(d,.tu [.sc (.int .i64 s.length),.sc .nilIface])::t,(k,.vK T e l')::M',nk⟩ Q):WL P C ops (o::rest) ⟨t,M,nk⟩ Q:=by
 rw [jE hM] at K;clear hM;obtain ⟨hg,hds,hdb⟩:=gK hd;refine WL.op hg ?_ K;unfold bwV at hv;split at hv
 .rename_i g x y ts ho;split at hv
  .rename_i k' s' hx hy;split at hv
   .rename_i T' e' l2 hk;cases hb:Nat.beq f g with
    | false=>rw [hb] at hv;cases hv| true =>
     rw [hb] at hv;cases hv;obtain rfl:=dG hb;have:=WO.ay3 (σ:=⟨t,M,nk⟩) (s:=s) ho hc hx hk hy (by rw [hds];exact hdb) h hl hl';rw [hds] at this;exact yT this
   .cases hv
  .cases hv
 .cases hv
theorem WL.bs {f:FuncId} {k:Nat} {T e:TypeId} {l:List UInt8} {t:List (Nat×AV)} {M M':List (Nat×AO)} {nk:Nat} (hd:ji C.N o=some d) (hv:bsV ⟨t,M,nk⟩ f o.op=some (k,T,e,l)) (hM:zu k M=some M')(hc:∀ vs w,(callFunc f vs).run P w=.ok (.enter f vs) w) (h:asY P f T e) (hl:l≠[])(K:WL P C ops rest ⟨(d,.sc (.string (bs l)))::t,(k,.vK T e l)::M',nk⟩ Q):WL P C ops (o::rest) ⟨t,M,nk⟩ Q:=by
 rw [jE hM] at K;clear hM;obtain ⟨hg,hds,hdb⟩:=gK hd;refine WL.op hg ?_ K;unfold bsV at hv;split at hv
 .rename_i g x ts ho;split at hv
  .rename_i k' hx;split at hv
   .rename_i T' e' l2 hk;cases hb:Nat.beq f g with
    | false=>rw [hb] at hv;cases hv| true =>
     rw [hb] at hv;cases hv;obtain rfl:=dG hb;have:=WO.ay2 (σ:=⟨t,M,nk⟩) ho hc hx hk (by rw [hds];exact hdb) h hl;rw [hds] at this;exact yT this
   .cases hv
  .cases hv
 .cases hv
end
def jB(B:World->View->Prop)(P:Program)(f:FuncId)(args:List AV)(res:AV):Prop :=∀ (w:World)(F:View)(vs:List Value),B w F->(∀ p u,F p=some u->w.cell? p=some u)->RL F args vs ->Calls P f vs.toArray w λe w'=>∃ v F',e=.returned v/\Below w.heap.size w w'/\View.le F F'/\(∀ p u,F' p=some u->w'.cell? p=some u)/\(∀ p u,F' p=some u->F p=some u\/w.heap.size<=p.block)/\RP F' res v
def RN(B:World->View->Prop)(g:Nat):Prop:=(∀ w F,B w F->g<=w.heap.size)/\∀ w w' F F',(∀ i,i<g->w'.heap[i]?=w.heap[i]?)->View.le F F'->B w F->B w' F'
def Holds(B:World->View->Prop)(g:Nat)(C:Cx):Prop:=(∀ w F,Kept C.fp C.w0 w->C.F0.le F->B w F)/\∀ x,C.may x->g<=x
theorem bC.g {B:World->View->Prop} {P:Program} {f:FuncId} {args:List AV} {res:AV} (h:bC P f args res):jB B P f args res:=λw F vs _ hF hR=>h w F vs hF hR
theorem jB.intro {B:World->View->Prop} {g:Nat} (hS:RN B g) {P:Program} {f:FuncId} {fn:Func} {c:Code} {args:List AV} {res:AV} (hf:P.funcs[f]?=some fn) (hb:fn.body=some c) {N:Nat} (hN:fn.ntmps=N) (hn:args.length<=N) (hp:∀ (i:Nat) av,args[i]?=some av->Bd 0 av)(h:∀ w0 F0,Holds B g ⟨w0,F0,N,λ_=>False,0,G0,[]⟩->W P ⟨w0,F0,N,λ_=>False,0,G0,[]⟩ c (St.init args) (Vj P fn ⟨w0,F0,N,λ_=>False,0,G0,[]⟩ res)):jB B P f args res:=by
 intro w F vs hB hF hR;subst hN;refine calls_of_wp hf hb ?_;have hsz:vs.toArray.size=args.length:=by simpa using hR.1
 have h1:=h w F ⟨λw2 F2 k1 k2=>hS.2 w w2 F F2 (λi hi=>k1.block i (oD hi (hS.1 w F hB)) λh=>h) k2 hB,λx hx=>hx.elim (λh=>gX (hS.1 w F hB) h) λh=>h.elim⟩ ⟨F,λ_=>0,λ_=>0,λ_=>undef,λ_ _=>False⟩ { tmps:=vs.toArray++Array.replicate (fn.ntmps - vs.toArray.size) undef,defers:=[] } w ⟨by simp_all,⟨rfl,Nat.le_refl _,λk hk=>absurd hk (Yz k)⟩,λi av hx=>by
   obtain ⟨_,h2⟩:=kX args 0 i av hx;simp only [CP] at h2;have hi:i < args.length:=(List.getElem?_eq_some_iff.1 h2).1;have hv:i < vs.length:=by rw [hR.1];exact hi
   refine ⟨by grind,hp i av h2,.pu _ _ (hR.2 i av _ h2 ?_)⟩;simp_all[FN],Kept.refl _ _,hF,λ_ _ h=>h,λ_ _ h=>.inl h,(λk o h=>by cases h),(λk o x h=>by cases h),(λk o k' o' x h=>by cases h),(λk o x p u h=>by cases h)⟩;refine wp_mono h1 λe a w' ⟨σ,G,⟨he,hfin⟩,ok⟩=>?_;obtain ⟨v,F',hr,hle,hfw,hnew,hres⟩:=hfin G a w' ok;rcases he with rfl|rfl;.exact aea
 .exact aea
section
variable {B:World→View→Prop} {gl:Nat} {P:Program} {C:Cx} {ops:Array Oper} {rest:List Oper} {σ σ':St} {G G':Gh} {a:Act} {w w':World} {o:Oper} {d:Tmp} {Q:Exit→St→Prop}
theorem WV.dZ (hB:Holds B gl C) {f:FuncId} {xs:Array Operand} {ts:Array TypeId} {args:List AV} {res:AV} (ho:o.op=.call { callee:=.value (.func f),args:=xs,argTypes:=ts }) (hc:∀ vs w,(callFunc f vs).run P w=.ok (.enter f vs) w)(hx:σ.evs xs.toList=some args) (hp:args.all AV.pu2=true) (h:jB B P f args res):WV P C o σ res:=by
 intro G a w ok N Q' hN;obtain ⟨e1,e2⟩:=ok.evl hx;have qo:=h w G.F (xs.toList.map a.eval) (hB.1 w G.F ok.bel ok.f0) ok.fw ⟨e1,λi av u p q=>(qB (List.all_eq_true.1 hp av (cZ p)) 0).rp (e2 i av u p q)⟩;refine lN ?_;have ev:a.eval (.func f)=.func (.func f) #[] #[]:=rfl;have e3:(#[]++xs.map a.eval++#[]:Array Value)=(xs.toList.map a.eval).toArray:=by apply AQ;simp
 simp only [ho,resolve,ev,Deferred.ofValue,invoke,Sem.run_bind,Sem.run_pure,Result.andThen_ok,hc,Oper.upon,e3];refine qo.mono λe w1 ⟨v,F',he,hb,h1,h2,h3,h4⟩=>?_;subst he;exact hN v _ w1 (λBX a'' DF=>DF.called hb h1 h2 h3) (.pu _ _ h4) (h4.bd _)
def divV (σ:St):Op->Option (Prop×Int)
 | .binOp .quo _ x y _ =>match σ.ev x,σ.ev y with
  | some (.sc (.int .i64 m)),some (.sc (.int .i64 n))=>some ((0<=m/\m<=9223372036854775807)/\0<n,m/n)| _,_=>none
 | .binOp .rem _ x y _ =>match σ.ev x,σ.ev y with
  | some (.sc (.int .i64 m)),some (.sc (.int .i64 n))=>some ((0<=m/\m<=9223372036854775807)/\0<n,m % n)| _,_=>none
 | _=>none
theorem aoc {φ:Prop} {z:Int} (h:divV σ o.op=some (φ,z))(hφ:φ):WV P C o σ (.sc (.int .i64 z)):=by
 unfold divV at h;split at h
 .rename_i T x y Ty ho;split at h
  .rename_i m n h1 h2;cases h;obtain⟨⟨h3,h4⟩,h5⟩:=hφ;have e:IntKind.i64.wrap (m/n)=m/n:=I64.wrap (by
    have:=Int.ediv_le_self n h3;have:=Int.ediv_nonneg h3 (Int.le_of_lt h5);unfold I64;omega);exact WV.sc λG a w ok=>by unfold execOp;simp [ho,ok.evs h1,ok.evs h2,eqGuard,binOp,Op.intDiv,Int.tdiv_eq_ediv_of_nonneg h3,show ¬ n=0 by omega,e]
  .cases h
 .rename_i T x y Ty ho;split at h
  .rename_i m n h1 h2;cases h;obtain⟨⟨h3,h4⟩,h5⟩:=hφ;exact WV.sc λG a w ok=>by unfold execOp;simp [ho,ok.evs h1,ok.evs h2,eqGuard,binOp,Op.intDiv,Int.tmod_eq_emod_of_nonneg h3,show ¬ n=0 by omega]
  .cases h
 .cases h
theorem WL.div {φ:Prop} {z:Int} (hd:ji C.N o=some d)(h:divV σ o.op=some (φ,z))(hφ:φ)(k:WL P C ops rest (σ.put d (.sc (.int .i64 z))) Q):WL P C ops (o::rest) σ Q:=WL.vl hd (aoc h hφ) k
def auv (σ:St):Op->Option (Prop×Int)
 | .unOp .neg _ x =>match σ.ev x with
  | some (.sc (.int .i64 m))=>some (I64 (0-m),0-m)| _=>none
 | _=>none
theorem apf {φ:Prop} {z:Int} (h:auv σ o.op=some (φ,z))(hφ:φ):WV P C o σ (.sc (.int .i64 z)):=by
 unfold auv at h;split at h
 .rename_i T x ho;split at h
  .rename_i m h1;cases h;exact WV.sc λG a w ok=>by unfold execOp;have hw:=I64.wrap hφ;simp [ho,ok.evs h1,Op.unary,Op.intArith];simpa using hw
  .cases h
 .cases h
theorem WL.neg {φ:Prop} {z:Int} (hd:ji C.N o=some d)(h:auv σ o.op=some (φ,z))(hφ:φ)(k:WL P C ops rest (σ.put d (.sc (.int .i64 z))) Q):WL P C ops (o::rest) σ Q:=WL.vl hd (apf h hφ) k
theorem aaX {T e n len:Nat} (hT:P.underlying T=some (.array len e)) (hn:fZ P e=some n) (ad:Addr) (k:IntKind) (z:Int) (h0:0<=z) (h1:z<len) :(Instr.indexAt T (.pointer (some ad)) (.int k z)).run P w=.ok (.pointer (some (ad.add (z.toNat*n)))) w:=by simp [Instr.indexAt,asIntOf,run_underlying hT,Instr.sureAddr,h0,h1,kL hn]
def ae0 (P:Program)(σ:St):Op->Option (AV×Nat×Nat×Int)
 | .indexAddr T x y =>match P.underlying T,σ.ev x,σ.ev y with
  | some (.array len e),some av,some (.sc (.int _ z)) =>match fZ P e with
   | some n=>some (av,len,n,z)| none=>none
  | _,_,_=>none
 | _=>none
theorem KO {av:AV} {len n:Nat} {z:Int} (h:ae0 P σ o.op=some (av,len,n,z))(h0:0<=z/\z<len) {Vf:AV} (hb:∀ nk,Bd nk av->Bd nk Vf)(hr:∀ G a w,Ok C σ G a w->∀ v,R G av v->∃ ad,v=.pointer (some ad)/\R G Vf (.pointer (some (ad.add (z.toNat*n))))):WV P C o σ Vf:=by
 unfold ae0 at h;split at h
 .rename_i T x y ho;split at h
  .rename_i len' e Vf k z' hT hx hy;split at h
   .rename_i m hn;cases h;refine WV.val (λG a w ok=>hb _ (ok.l9 hx).1) λG a w ok=>?_;obtain⟨ad,e1,e2⟩:=hr G a w ok _ (ok.l9 hx).2;exact⟨_,by unfold execOp;simp [ho,e1,ok.evs hy,aaX hT hn ad k z h0.1 h0.2],e2⟩
   .cases h
  .cases h
 .cases h
theorem WL.glob (hB:Holds B gl C) {g len:Nat} {z:Int} {u:Value} (hd:ji C.N o=some d) (h:ae0 P σ o.op=some (.sc (.pointer (some ⟨g,0,none⟩)),len,1,z)) (h0:0<=z/\z<len) (hu:∀ w F,B w F->F ⟨g,z.toNat,none⟩=some u) (h1:u.oneCell'=true)(k:WL P C ops rest (σ.put d (.pr [.sc u])) Q):WL P C ops (o::rest) σ Q :=WL.vl hd (KO h h0 (λnk _=>.pr _) λG a w ok v r=>⟨⟨g,0,none⟩,r.fM,.pu _ _ (.pr _ _ (λ_=>u) (λj av hj=>by match j with
  | 0 =>exact alR| j+1=>simp at hj) λj av hj=>by match j with
  | 0=>cases hj;exact .sc _| j+1=>simp at hj)⟩) k
theorem DK.glob (hB:Holds B gl C) {g len:Nat} {z:Int} {u:Value} (hd:OM C.N ops σ o=some d) (h:ae0 P (σ.only (o.looksAt ops)) o.op=some (.sc (.pointer (some ⟨g,0,none⟩)),len,1,z)) (h0:0<=z/\z<len) (hu:∀ w F,B w F->F ⟨g,z.toNat,none⟩=some u) (h1:u.oneCell'=true)(k:DK P C ops rest (σ.put d (.pr [.sc u])) Q):DK P C ops (o::rest) σ Q :=DK.vl hd (KO h h0 (λnk _=>.pr _) λG a w ok v r=>⟨⟨g,0,none⟩,r.fM,.pu _ _ (.pr _ _ (λ_=>u) (λj av hj=>by match j with
  | 0 =>exact alR| j+1=>simp at hj) λj av hj=>by match j with
  | 0=>cases hj;exact .sc _| j+1=>simp at hj)⟩) k
end
def uS (tmps:Array Value):ResultVar->Sem Value
 | .tmp t=>pure (tmps.getD t undef)| .cell a t=>do loadVar t (← asAddr (tmps.getD a undef))
def resV (P:Program)(σ:St):ResultVar->Option AV
 | .tmp t=>look t σ.t| .cell t T =>match look t σ.t with
  | some (.pt k 0 0) =>match look k σ.M,zn P T with
   | some (.box T' cells),some true =>match fZ P T with
    | some n=>bif Nat.beq cells.length n then some (.ag cells)else none| none=>none
   | _,_=>none
  | _=>none
def Af (P:Program)(σ:St):List ResultVar->Option (List AV)
 | []=>some []| r::l =>match resV P σ r,Af P σ l with
  | some a,some b=>some (a::b)| _,_=>none
section
variable {P:Program} {C:Cx} {σ:St} {G:Gh} {a:Act} {w:World}
theorem TT (ok:Ok C σ G a w) {r:ResultVar} {av:AV} (h:resV P σ r=some av)(hp:av.pu2=true):∃ v,(uS a.tmps r).run P w=.ok v w/\RP G.F av v:=by cases r with
 | tmp t=>exact⟨a.tmps.getD t undef,rfl,(qB hp 0).rp (ok.tm t _ h).2.2⟩| cell t T =>
  simp only [resV] at h;split at h
  .rename_i k ht;split at h
   .rename_i T' cells hk hT;split at h
    .rename_i n hn;cases hb:Nat.beq cells.length n with
     | false=>rw [hb] at h;cases h| true =>
      rw [hb] at h;cases h;obtain⟨p,ep,p1,p2,p3⟩:=(ok.tm t _ ht).2.2.lu;obtain⟨_,_,g3,cs,Φ,g4,g5,_,_,g6⟩:=ok.ob k _ hk;obtain rfl:=addr_eq p1 p2 p3;rw [AP,oC] at ep;have hpc:cells.all AV.TL=true:=hp;refine⟨.agg cs,?_,.ag _ _ g5 λi av u x y=>(Ad (List.all_eq_true.1 hpc av (cZ x)) 0).rp ((g6 i av u x y).r (adr (List.all_eq_true.1 hpc av (cZ x))))⟩;exact asa
    .cases h
   .cases h
  .cases h
theorem adw (ok:Ok C σ G a w):∀ {l:List ResultVar} {aW:List AV},Af P σ l=some aW->aW.all AV.pu2=true->∃ vs:List Value,(l.mapM (uS a.tmps)).run P w=.ok vs w/\vs.length=aW.length/\∀ (i:Nat)av u,aW[i]?=some av->vs[i]?=some u->RP G.F av u
 | [],aW,h,_=>by cases h;exact ⟨[],rfl,rfl,λi av u x=>by simp at x⟩| r::l,aW,h,hp=>by cases h1:resV P σ r with
  | none=>simp only [Af,h1]at h;cases h| some x =>cases h2:Af P σ l with
  | none=>simp only [Af,h1,h2]at h;cases h| some y =>
   simp only [Af,h1,h2,Option.some.injEq]at h;subst h;simp only [List.all_cons,gG]at hp;obtain ⟨v,e1,e2⟩:=TT ok h1 hp.1;obtain ⟨vs,f1,f2,f3⟩:=adw ok h2 hp.2;exact asG
theorem aeF {fn:Func} {aW:List AV} {res:AV} (h:Af P σ fn.results.toList=some aW)(hp:aW.all AV.pu2=true)(hl:Nat.beq aW.length 1=false)(e:.tu aW=res):Vj P fn C res .ret σ:=by
 refine⟨.inr rfl,λG a w ok=>?_⟩;subst e;obtain⟨vs,e1,e2,e3⟩:=adw ok h hp;exact asf
end
end
end Go.Proofs.YthohlofpphjofaaGreatDoor
