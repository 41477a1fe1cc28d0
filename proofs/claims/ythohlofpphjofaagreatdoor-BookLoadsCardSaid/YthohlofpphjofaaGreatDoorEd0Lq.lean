/- The text of an empty Builder that still lies in a box. -/
import Derived.Test.YthohlofpphjofaaGreatDoorBk2Lq
set_option maxHeartbeats 8000000
set_option maxRecDepth 100000
set_option linter.unusedVariables false
set_option linter.unusedSimpArgs false
namespace Go.Proofs.YthohlofpphjofaaGreatDoor
section
variable {p:Prop}
theorem anc(h:p:=by
 refine kH ?_;refine W.tr (Tr.afe (t:=4) 4 rfl) ?_;exact gZ):p:=h
theorem Oy(h:p:=by
 go_enter Tryz.func44,Tryz.ntmps44;go_wp2;go_rounds 5;exact vJ):p:=h
theorem Ox(h:p:=by
 go_enter Tryz.func90,Tryz.ntmps90;go_wp2;go_rounds 5;exact vJ):p:=h
theorem alN(h:p:=by
 by_cases h:m < MS.length;.exact .inr ⟨h,λh2=>hgo ⟨h,h2⟩⟩
 .exact .inl au):p:=h
theorem alE(h:p:=by
 rw [hm3];by_cases h:m < MS.length;.exact aiC h (λh2=>hgo ⟨h,h2⟩)
 .exact afd au):p:=h
theorem asT(h:p:=by
 unfold execOp;simp only [ho,e1,e2,eqGuard,Sem.run_bind,Sem.run_pure,Result.andThen_ok,hrun];simp only [Bool.not_true,Nz,if_false,Sem.run_bind,Sem.run_pure,Result.andThen_ok,hrun]):p:=h
theorem anH(h:p:=by
 refine dV Tryz.func182 Tryz.ntmps182 λw0 F0=>?_;dsimp only [St.init,number,Nat.reduceAdd];refine ax9 ?_;exact W.ret kR):p:=h
theorem asE(h:p:=by
 refine AX ?_;refine ⟨k+1,⟨by omega,atO⟩,by omega,?_⟩;rw [htk,hput];exact (ku (λq=>bif Nat.beq q 3 then 9 else q) (by repeat (first|exact trivial|refine ⟨⟨?_,?_,?_⟩,?_⟩|rfl|exact congrArg (λq=>some (AO.row _ _ q)) hr)) rfl)):p:=h
end
theorem akT {p q:Prop}(k:q)(h:iF q->p:=by
 intro hq;repeat (first|refine DK.st rfl ?_|refine DK.ar rfl rfl yg ?_|refine DK.ixs rfl rfl wY ?_|refine DK.cat rfl rfl wY ?_|refine DK.nil ?_)
 exact hq.k):p:=h ⟨k⟩
section
open Go.RowKit
attribute [local go_sem]zQ dI jf je gq
def nm1:List UInt8:=[102,114,101,110,99,104]
def nm2:List UInt8:=[105,116,97,108,105,97,110]
def nm3:List UInt8:=[115,112,97,110,105,115,104]
def nm4:List UInt8:=[103,101,114,109,97,110]
def psV(l:List UInt8):Value :=if(nm1 == l)=true then .tuple #[.int .u8 1,.int .i64 0]else if(nm2 == l)=true then .tuple #[.int .u8 2,.int .i64 0]else if(nm3 == l)=true then .tuple #[.int .u8 3,.int .i64 0]else if(nm4 == l)=true then .tuple #[.int .u8 4,.int .i64 0]else .tuple #[.int .u8 0,.int .i64 4]
theorem G8 (l:List UInt8)(w:World):Calls Tryz.prog 90 #[.string (bs l)] w (iZ (psV l) w):=by
 unfold psV nm1 nm2 nm3 nm4;by_cases h1:(([102,114,101,110,99,104]:List UInt8) == l)=true
 .rw [if_pos h1];exact Ox
 .rw [if_neg h1];have g1:(([102,114,101,110,99,104]:List UInt8) == l)=false:=by simpa using h1
  clear h1;by_cases h2:(([105,116,97,108,105,97,110]:List UInt8) == l)=true
  .rw [if_pos h2];exact Ox
  .rw [if_neg h2];have g2:(([105,116,97,108,105,97,110]:List UInt8) == l)=false:=by simpa using h2
   clear h2;by_cases h3:(([115,112,97,110,105,115,104]:List UInt8) == l)=true
   .rw [if_pos h3];exact Ox
   .rw [if_neg h3];have g3:(([115,112,97,110,105,115,104]:List UInt8) == l)=false:=by simpa using h3
    clear h3;by_cases h4:(([103,101,114,109,97,110]:List UInt8) == l)=true
    .rw [if_pos h4];exact Ox
    .rw [if_neg h4];have g4:(([103,101,114,109,97,110]:List UInt8) == l)=false:=by simpa using h4
     clear h4;exact Ox
theorem Ho (l:List UInt8)(w:World):Calls Tryz.prog 44 #[.string (bs l)] w (iZ (psV l) w):=by
 unfold psV nm1 nm2 nm3 nm4;by_cases h1:(([102,114,101,110,99,104]:List UInt8) == l)=true
 .rw [if_pos h1];exact Oy
 .rw [if_neg h1];have g1:(([102,114,101,110,99,104]:List UInt8) == l)=false:=by simpa using h1
  clear h1;by_cases h2:(([105,116,97,108,105,97,110]:List UInt8) == l)=true
  .rw [if_pos h2];exact Oy
  .rw [if_neg h2];have g2:(([105,116,97,108,105,97,110]:List UInt8) == l)=false:=by simpa using h2
   clear h2;by_cases h3:(([115,112,97,110,105,115,104]:List UInt8) == l)=true
   .rw [if_pos h3];exact Oy
   .rw [if_neg h3];have g3:(([115,112,97,110,105,115,104]:List UInt8) == l)=false:=by simpa using h3
    clear h3;by_cases h4:(([103,101,114,109,97,110]:List UInt8) == l)=true
    .rw [if_pos h4];exact Oy
    .rw [if_neg h4];have g4:(([103,101,114,109,97,110]:List UInt8) == l)=false:=by simpa using h4
     clear h4;exact Oy
end
section
open Go.RowKit
theorem MX {P:Program} (w:World)(d:Nat)(t:TypeId) {a b c} (f:Fn)(fs cs:Array Value)(h:P.underlying t=some (.func a b c)):(Op.equalIn (d+1) t (.func f fs cs) .nilFunc).run P w=.ok false w:=by simp [Op.equalIn,run_underlying h]
theorem MZ {P:Program} (w:World)(d:Nat)(t:TypeId) {a b c} (h:P.underlying t=some (.func a b c)):(Op.equalIn (d+1) t .nilFunc .nilFunc).run P w=.ok true w:=by simp [Op.equalIn,run_underlying h]
theorem aaY {P:Program} (w:World)(t:TypeId) {a b c} (f:Fn)(fs cs:Array Value)(h:P.underlying t=some (.func a b c)):(binOp .neq t (.func f fs cs) .nilFunc).run P w=.ok (.bool true) w:=by
 simp only [binOp];simp [Op.equal,Op.maxDepth,MX w 9999 t f fs cs h]
theorem aaZ {P:Program} (w:World)(t:TypeId) {a b c} (h:P.underlying t=some (.func a b c)):(binOp .neq t .nilFunc .nilFunc).run P w=.ok (.bool false) w:=by
 simp only [binOp];simp [Op.equal,Op.maxDepth,MZ w 9999 t h]
section
variable {P:Program} {C:Cx} {σ:St} {o:Oper}
def aww (P:Program)(σ:St):Op->Option Bool
 | .binOp .neq T x y _ =>match P.underlying T,σ.ev x,σ.ev y with
  | some (.func _ _ _),some (.fn _ _),some (.sc .nilFunc)=>some true| some (.func _ _ _),some (.sc .nilFunc),some (.sc .nilFunc)=>some false| _,_,_=>none
 | _=>none
theorem aov {b:Bool} (h:aww P σ o.op=some b):WV P C o σ (.sc (.bool b)):=by
 unfold aww at h;split at h
 .rename_i T x y Ty ho;split at h
  .rename_i a1 a2 a3 f caps hT hx hy;cases h;refine WV.val (λG a w ok=>.sc _) λG a w ok=>?_;obtain⟨cs,e1,_,_⟩:=(ok.l9 hx).2.Cb;obtain⟨g1,x1,y1,e3⟩:=Zk f cs;rw [e3] at e1;have e2:=ok.evs hy;have hrun:=aaY (P:=P) w T g1 x1 y1 hT;refine⟨.bool true,?_,.pu _ _ (.sc _)⟩;exact asT
  .rename_i a1 a2 a3 hT hx hy;cases h;refine WV.val (λG a w ok=>.sc _) λG a w ok=>?_;have e1:=ok.evs hx;have e2:=ok.evs hy;have hrun:=aaZ (P:=P) w T hT;refine⟨.bool false,?_,.pu _ _ (.sc _)⟩;exact asT
  .cases h
 .cases h
end
theorem acO (a:Int):bC Tryz.prog 122 [.sc (.int .i64 a)] (.sc (.bool (decide (a < 0)))):=by
 refine dV Tryz.func122 Tryz.ntmps122 λw0 F0=>?_;dsimp only [St.init,number,Nat.reduceAdd];exact Dc
abbrev Iu (x:Int):Bool:=!decide (x<0)
def qp(l:List Int):Nat:=(l.takeWhile Iu).length
theorem abh {p:Int->Bool}:∀ {l:List Int} {x:Int},x∈l.takeWhile p->p x=true
 | [],x,h=>by cases h| y::r,x,h=>by
  rw [ND]at h;split at h
  .rename_i hy;rcases List.mem_cons.1 h with rfl|h;.exact hy
   .exact abh h
  .cases h
theorem SL(l:List Int):qp l<=l.length:=(Yu _).length_le
theorem FC {l:List Int} {k:Nat} (hk:k<qp l)(h:k<l.length):¬ l[k]<0:=by
 have h1:(l.takeWhile Iu)[k]'hk∈l.takeWhile Iu:=gB _;have h2:=abh h1;have h3:(l.takeWhile Iu)[k]'hk=l[k]:=(abp Iu).getElem _;rw [h3]at h2;simpa using h2
theorem V3 {l:List Int} (h:qp l<l.length):l[qp l]<0:=by
 have h1:(l.drop (qp l))=l.dropWhile Iu:=by
  have e:=List.takeWhile_append_dropWhile (p:=Iu) (l:=l);have:=Yv (l₁:=l.takeWhile Iu) (l₂:=l.dropWhile Iu);rw [e]at this;exact this
 have h2:l.drop (qp l)=l[qp l]::l.drop (qp l+1):=pX h;rw [h1]at h2;have h3:=List.head?_dropWhile_not Iu l;rw [h2]at h3;simpa [Iu,aO h]using h3
theorem VZ {l:List Int} (h:qp l=l.length):l.filter Iu=l:=by
 rw [List.filter_eq_self];intro x hx;obtain ⟨k,hk,rfl⟩:=oz hx;have:=FC (l:=l) (k:=k) au hk;simp [Iu];omega
theorem agF (l:List Int):l.take (qp l)=(l.take (qp l+1)).filter Iu:=by
 have hp:l.take (qp l)=l.takeWhile Iu:=by
  have:=List.prefix_iff_eq_take.1 (abp Iu (l:=l));exact this.symm
 by_cases h:qp l<l.length
 .rw [kF h,Ux];have h1:=V3 h;rw [List.filter_cons_of_neg (by simp [Iu,h1]),List.filter_nil,xX,hp];rw [List.filter_eq_self.2];intro x hx;exact abh hx
 .have h2:=SL l;rw [ou (by omega),ou (by omega),VZ (by omega)]
theorem aoT (l:List Int) (hl:l.length<=100000):jr jJ 0 Tryz.prog 186 [.sl 0,.sc (.func (.func 122) #[] #[])] [(0,.row 3 1 (l.map eInt))] 1 (.sc (.int .i64 (if qp l < l.length then (qp l:Int) else -1))) [(0,.row 3 1 (l.map eInt))] 1:=by
 refine jr.intro mG Tryz.func186 rfl Tryz.ntmps186 (bG rfl) rfl λw0 F0 fp pg hB=>?_;refine iU ?_;refine Jl ?_;refine W.loop (λk:Nat=>k<=l.length/\k<=qp l) (λk=>⟨[(0,.sl 0),(1,.sc (.func (.func 122) #[] #[])),(7,.sc (.int .i64 l.length)),(8,.sc (.int .i64 k))],[(0,.row 3 1 (l.map eInt))],1⟩) (λk=>l.length - k) 0 ⟨by omega,by omega⟩ (zqt id) λk hk=>?_;obtain ⟨hk1,hk2⟩:=hk;have hle:=SL l;by_cases hlt:k < l.length
 .have hat:(l.map eInt)[((k:Nat):Int).toNat]?=some (eInt l[k]):=zO hlt;refine rQ ?_;refine WL.ldr rfl rfl hat rfl rfl ?_;refine rQ ?_;refine WL.vl rfl (WV.Ii (dD _) rfl (aj Tryz.func122 rfl rfl) rfl rfl rfl rfl rfl (acO l[k]).g) ?_;refine rQ ?_;(refine W.cond rfl (λhif=>?_) (λhif=>?_)<;>(try simp only [dH,dO,eu,eF,dP,eG] at hif))
  .have e:qp l=k:=by
    rcases FM k (qp l) with h|h;.exact absurd hif (FC h hlt)
    .omega
   rw [if_pos (by omega),e];refine Jl ?_;exact lT
  .have e:k < qp l:=by
    rcases FM k (qp l) with h|h;.exact h
    .have e:qp l=k:=by omega
     have:=V3 (l:=l) au;simp only [e] at this;omega
   refine Jl ?_;exact ⟨k+1,⟨by omega,by omega⟩,by omega,(zqt id)⟩
 .rw [if_neg (by omega)];refine rQ ?_;exact lT
structure OH(l R:List Int)(i j:Nat):Prop where
 len:R.length=l.length
 ij:i<j/\j<=l.length
 kept:R.take i=(l.take j).filter Iu
 rest:∀ k(h:k<l.length),j<=k->R[k]?=some l[k]
theorem OH.start {l:List Int} (h:qp l<l.length):OH l l (qp l) (qp l+1) :=⟨rfl,⟨by omega,by omega⟩,agF l,λk hk _=>aO hk⟩
theorem OH.skip {l R:List Int} {i j:Nat} (h:OH l R i j)(hj:j<l.length)(hn:l[j]<0):OH l R i (j+1):=by
 refine⟨h.len,⟨by have:=h.ij;omega,by omega⟩,?_,λk hk h2=>h.rest k hk au⟩;rw [h.kept,kF hj,Ux,List.filter_cons_of_neg (by simp [Iu,hn])];simp
theorem OH.keep {l R:List Int} {i j:Nat} (h:OH l R i j) (hj:j<l.length) (hn:¬ l[j]<0):OH l (R.set i l[j]) (i+1) (j+1):=by
 have hij:=h.ij;have hlen:=h.len;refine ⟨by simpa using h.len,⟨by omega,by omega⟩,?_,λk hk h2=>?_⟩
 .have hi:i<(R.set i l[j]).length:=by simp;omega
  rw [kF hi,List.take_set_of_le (Nat.le_refl _),h.kept,kF hj,Ux,List.filter_cons_of_pos (by simp [Iu];omega)];simp
 .rw [pV (by omega)];exact h.rest k hk au
theorem atf (l:List Int) (hl:l.length<=100000):jr jJ 0 Tryz.prog 121 [.sl 0,.sc (.func (.func 122) #[] #[])] [(0,.row 3 1 (l.map eInt))] 1 (.sl 1) [(1,.row 3 1 ((l.filter Iu).map eInt))] 2:=by
 have hI:=aoT l hl;refine jr.intro mG Tryz.func121 rfl Tryz.ntmps121 (bG rfl) rfl λw0 F0 fp pg hB=>?_;refine iU ?_;by_cases h:qp l < l.length;rotate_left
 .rw [if_neg h] at hI;have e:l.filter Iu=l:=VZ (by have:=SL l;omega);rw [e];refine Jl ?_;refine WL.qQ (dD _) [0] rfl rfl (aj Tryz.func186 rfl rfl) hI rfl rfl rfl ⟨⟨rfl,rfl,rfl⟩,trivial⟩ rfl rfl rfl rfl ?_;refine Jl ?_;refine W.tr (Tr.mv (t:=4) rfl rfl) ?_;refine W.tr (σ':=⟨[(4,.sl 1)],[(1,.row 3 1 (l.map eInt))],2⟩) (zqt id) ?_;exact lT
 .rw [if_pos h] at hI;have h0:=OH.start h;refine Jl ?_;refine WL.qQ (dD _) [0] rfl rfl (aj Tryz.func186 rfl rfl) hI rfl rfl rfl ⟨⟨rfl,rfl,rfl⟩,trivial⟩ rfl rfl rfl rfl ?_;refine rQ ?_;refine W.loop (λs:List Int×Nat×Nat=>OH l s.1 s.2.1 s.2.2) (λs=>⟨[(0,.sl 0),(1,.sc (.func (.func 122) #[] #[])),(5,.sc (.int .i64 s.2.1)),(6,.sc (.int .i64 s.2.2))],[(0,.row 3 1 (s.1.map eInt))],1⟩) (λs=>l.length - s.2.2) (l,qp l,qp l+1) h0 (zqt id) λs hs=>?_;obtain ⟨R,i,j⟩:=s;have hlen:=hs.len;have hij:=hs.ij;dsimp only at hs hlen hij ⊢;by_cases hlt:j < l.length
  .have hRj:=hs.rest j hlt (Nat.le_refl _);have hat:(R.map eInt)[((j:Nat):Int).toNat]?=some (eInt l[j]):=by rw [gy,dw,hRj];rfl
   have hRl:(R.map eInt).length=l.length:=by rw [bK];exact hlen
   refine rQ ?_;refine WL.ldr rfl rfl hat rfl rfl ?_;refine rQ ?_;refine WL.vl rfl (WV.Ii (dD _) rfl (aj Tryz.func122 rfl rfl) rfl rfl rfl rfl rfl (acO l[j]).g) ?_;refine rQ ?_;(refine W.cond rfl (λhif=>?_) (λhif=>?_)<;>(try simp only [dH,dO,eu,eF,dP,eG] at hif))
   .have hil:i < R.length:=by omega
    have azB:(R.map eInt)[((i:Nat):Int).toNat]?=some (eInt (R.getD i 0)):=by rw [gy,dw,dL,aO hil];rfl
    have hset:=Ei R i l[j];refine rQ ?_;refine WL.xq rfl rfl rfl rfl azB Rq ?_;refine Jl ?_;exact ⟨(R.set i l[j],i+1,j+1),hs.keep hlt (by omega),by dsimp only;omega,(ku (λq=>q) avw rfl)⟩
   .refine Jl ?_;exact ⟨(R,i,j+1),hs.skip hlt (by omega),by dsimp only;omega,(zqt id)⟩
  .have hj:j=l.length:=by omega
   have hk:=hs.kept;rw [hj,jw] at hk;have hRl:(R.map eInt).length=R.length:=bK _;have hfin:((R.map eInt).take ((i:Nat):Int).toNat++List.replicate ((R.map eInt).length - ((i:Nat):Int).toNat) [AV.sc (.int .i64 0)]).take ((i:Nat):Int).toNat=(l.filter Iu).map eInt:=by rw [gy,List.take_append_of_le_length (by simp;omega),List.take_take,Nat.min_self,← Uy,hk]
   refine rQ ?_;refine WL.clr rfl rfl rfl rfl rfl rfl rfl rfl ⟨by omega,by rw [hRl];omega⟩ ?_;refine rQ ?_;refine WL.pre rfl rfl rfl ⟨by omega,by simp;omega⟩ ?_;refine rQ ?_;refine W.tr (σ':=⟨[(4,.sl 1)],[(1,.row 3 1 ((l.filter Iu).map eInt))],2⟩) (ku (λq=>q) (by repeat (first|exact trivial|refine ⟨⟨?_,?_,?_⟩,?_⟩|rfl|exact congrArg (λq=>some (AO.row _ _ q)) hfin)) rfl) ?_;exact lT
theorem aes (n:Int):bC Tryz.prog 120 [.sc (.int .i64 n)] (.sc (.int .i64 (if n < 1\/16 < n then 1 else 0))):=by
 by_cases h:n < 1\/16 < n
 .rw [if_pos h];have h2:n < 1\/(¬ n < 1/\16 < n):=by omega
  rcases h2 with h2|h2;all_goals
   refine dV Tryz.func120 Tryz.ntmps120 λw0 F0=>?_;dsimp only [St.init,number,Nat.reduceAdd];refine zk ?_;exact W.ret kR
 .rw [if_neg h];refine dV Tryz.func120 Tryz.ntmps120 λw0 F0=>?_;dsimp only [St.init,number,Nat.reduceAdd];refine zk ?_;exact W.ret kR
def aib(p:bV)(n:Int):Int:=if bM p=0 then(if n<1\/16<n then 1 else 0)else bM p
def aic(p:bV)(n:Int):List Int:=if aib p n=0 then az7 p n else []
theorem auJ {p:bV} (h0:bM p=0) {k:Nat} {x:Stp} (hx:Vk p k x):0<=DJ p.cs p.st x.1 x.2.1/\DJ p.cs p.st x.1 x.2.1<=254:=by
 obtain⟨hI,_,_⟩:=uo h0;obtain⟨l1,l2,l3,l4,l5⟩:=uG hI;have hc:=hx.aI;have hk:(x.1-1).toNat<p.cs.length:=by omega
 have hp:=aho l5 _ hk;have hfr:=JJ l5 _ hk;have ef:jV p.cs x.1=p.cs[(x.1-1).toNat].2.1:=by exact abT
 have hf:=hx.awz;rw [ef] at hf;unfold DJ;rw [dL,aO hk];simp only [QZ];split
 .have hs:(x.2.1-1).toNat<p.st.length:=by omega
  have:=wu (wz 0) l4 _ hs;rw [dL,aO hs];simp only [QZ];omega
 .omega
theorem ac4 {p:bV} (h0:bM p=0) {k:Nat}:∀ (l:List Stp)(n:Int),(∀ x∈l,Vk p k x)->-1<=n/\n<=254->-1<=WS p l n/\WS p l n<=254
 | [],n,_,h=>h| x::r,n,hl,h=>by
  have:=auJ h0 (hl x (by simp));refine ac4 h0 r _ (λy hy=>hl y CY) ?_;show -1<=upP n (DJ p.cs p.st x.1 x.2.1)/\upP n (DJ p.cs p.st x.1 x.2.1)<=254;unfold upP;split<;>omega
theorem aut {p:bV} (h0:bM p=0):∀ x∈JB p,-1<=x/\x<=254:=by
 intro x hx;obtain ⟨e,he,rfl⟩:=List.mem_map.1 hx;obtain ⟨k,hk,rfl⟩:=oz he;exact ac4 h0 _ _ (Bj h0 hk).stops ⟨by decide,by decide⟩
theorem Xv (p:bV) (hO:jh p) (n:Int):bC Tryz.prog 65 [iG p,.sc (.int .i64 n)] (.tu [.ls 1 ((aic p n).map eInt),.sc (.int .i64 (aib p n))]):=by
 have hn3:=hO.n3;by_cases h0:bM p=0;rotate_left
 .have e1:aib p n=bM p:=if_neg h0;have e2:aic p n=[]:=if_neg (by rw [e1];exact h0);have hM:=ZP p hO h0;rw [e2,e1];obtain ⟨E,hE⟩:∃ E,bM p=E:=⟨_,rfl⟩;rw [hE] at hM h0 ⊢;refine dV Tryz.func65 Tryz.ntmps65 λw0 F0=>?_;dsimp only [St.init,number,Nat.reduceAdd];refine YC ?_;refine WL.vl rfl (aS Tryz.func119 hM) ?_;refine lJ ?_;exact ab9
 have e1:aib p n=if n < 1\/16 < n then 1 else 0:=if_pos h0;have hC:=aes n;have hM:=afc p hO h0;have hml:(JB p).length<=420:=by unfold JB;simp;omega
 by_cases hn:n < 1\/16 < n
 .rw [if_pos hn] at hC e1;have e2:aic p n=[]:=if_neg (by rw [e1];decide);rw [e2,e1];refine dV Tryz.func65 Tryz.ntmps65 λw0 F0=>?_;dsimp only [St.init,number,Nat.reduceAdd];refine YC ?_;refine WL.qQ (dD _) [] rfl rfl (aj Tryz.func119 rfl rfl) hM rfl rfl rfl trivial rfl rfl rfl rfl ?_;refine lJ ?_;refine WL.vl rfl (aS Tryz.func120 hC) ?_;refine lJ ?_;exact ab9
 rw [if_neg hn] at hC e1;have e2:aic p n=(Jv (QJ p)).take n.toNat:=if_pos e1;have hD:=atf (JB p) au;have hs:(JB p).filter Iu=QJ p:=rfl;rw [hs] at hD;have hbd:∀ x∈QJ p,-1<=x/\x<=254:=λx hx=>aut h0 x (List.mem_filter.1 hx).1;have hsl:(QJ p).length<=420:=by have:=List.length_filter_le Iu (JB p);rw [hs] at this;omega
 rw [e2,e1];obtain ⟨L,hL⟩:∃ L,QJ p=L:=⟨_,rfl⟩;rw [hL] at hD hbd hsl ⊢;refine dV Tryz.func65 Tryz.ntmps65 λw0 F0=>?_;dsimp only [St.init,number,Nat.reduceAdd];refine YC ?_;refine WL.qQ (dD _) [] rfl rfl (aj Tryz.func119 rfl rfl) hM rfl rfl rfl trivial rfl rfl rfl rfl ?_;refine lJ ?_;refine WL.vl rfl (aS Tryz.func120 hC) ?_;refine lJ ?_;refine WL.qQ (dD _) [1] rfl rfl (aj Tryz.func121 rfl rfl) hD rfl rfl rfl ⟨⟨rfl,rfl,rfl⟩,trivial⟩ rfl rfl rfl rfl ?_;refine YC ?_;refine W.tr (Tr.freeze 2 rfl) ?_;refine W.tr (Tr.nil (t:=9) 3 1 rfl rfl) ?_;refine RG ?_;refine W.loop (λk:Nat=>k<=n.toNat/\k<=L.length) (λk=>⟨[(1,.sc (.int .i64 n)),(6,.ls 1 (L.map eInt)),(9,.sl 0),(10,.sc (.int .i64 ((k+1:Nat):Int)))],[(0,.row 3 1 (((Jv L).take k).map eInt))],1⟩) (λk=>L.length - k) 0 ⟨by omega,by omega⟩ (ku (λq=>bif Nat.beq q 0 then 3 else q) mJ rfl) λk hk=>?_;obtain ⟨hk1,hk2⟩:=hk;have hdl:=Ik L;by_cases hlt:k+1 < L.length/\k+1<=n.toNat
 .obtain ⟨hlt,hlt2⟩:=hlt;have ez:(((k+1:Nat):Int) - 1).toNat=k:=by omega
  have b1:=hbd L[k+1] (gB _);have b2:=hbd (L[k]'(by omega)) (gB _);have Gt:=aey (l:=L) (i:=k) hlt;refine lJ ?_;refine W.dm [] aK aK aK Oi ?_;refine arf ?_;have eL:∀ h,L[(((k+1:Nat):Int) - 1).toNat]'h=L[k]'(by omega):=λh=>by simp only [ez]
  simp only [eL];refine arf ?_;refine YC ?_;refine ⟨k+1,⟨by omega,by omega⟩,by omega,?_⟩;rw [Gt];exact (ku (λq=>bif Nat.beq q 0 then 2 else q) (by repeat (first|exact trivial|refine ⟨⟨?_,?_,?_⟩,?_⟩|rfl|exact congrArg (λq=>some (AO.row _ _ q)) (by rw [iC];rfl))) rfl)
 .have hres:(Jv L).take n.toNat=(Jv L).take k:=by
   by_cases h:k+1<=n.toNat;.rw [ou (by omega),ou (by omega)]
   .rw [show n.toNat=k by omega]
  rw [hres];have hc:¬ k+1 < L.length\/(k+1 < L.length/\¬ k+1<=n.toNat):=by omega
  rcases hc with hc|⟨hc,hc2⟩;all_goals
   refine lJ ?_;refine W.tr (Tr.freeze 0 rfl) ?_;exact W.ret (aeF rfl rfl rfl rfl)
def Ej (x:Sf):List AV:=[.sc (.int .i64 x.1),.sc (.int .i64 x.2.1),.sc (.int .i64 x.2.2.1),.sc (.int .i64 x.2.2.2)]
theorem anX (a:Int):bC Tryz.prog 182 [.sc (.int .i64 a)] (.sc (.int .i64 (RQ a))):=by
 unfold RQ;by_cases h1:a=1
 .rw [if_pos h1];exact anH
 .rw [if_neg h1];by_cases h2:a=-1
  .rw [if_pos h2];exact anH
  .rw [if_neg h2];exact anH
structure ES where
 alt:List (Ln×Int)next:Nat
 out:List Sf
abbrev Me:=Int×Int×Int
def sH (MS:List Me)(ev:Int)(m:Nat):Nat:=m+((MS.drop m).takeWhile λx=>decide (x.1<=ev)).length
theorem Lj {MS:List Me} {ev:Int} {m:Nat} (h:m<MS.length)(h2:MS[m].1<=ev):sH MS ev m=sH MS ev (m+1):=by
 unfold sH;rw [pX h,List.takeWhile_cons_of_pos (by simpa using h2)];simp;omega
theorem aiC {MS:List Me} {ev:Int} {m:Nat} (h:m<MS.length)(h2:¬ MS[m].1<=ev):sH MS ev m=m:=by
 unfold sH;rw [pX h,List.takeWhile_cons_of_neg (by simpa using h2)];simp
theorem afd {MS:List Me} {ev:Int} {m:Nat} (h:MS.length<=m):sH MS ev m=m:=by
 unfold sH;rw [AL h];simp
def Za(MS:List Me)(ev:Int)(s:ES):ES:=⟨if sH MS ev s.next=s.next then s.alt else [],sH MS ev s.next,s.out⟩
def apC (key:Int) (ev:Int) (sp:Int×Int×Int) (s:ES):ES :=if sp.2.1=ahG key s.alt (sp.1,sp.2.2) then ⟨s.alt,s.next,s.out++[(ev,sp.1,sp.2.2,0)]⟩ else ⟨Nr (sp.1,sp.2.2) (sp.2.1+2) s.alt,s.next,s.out++[(ev,sp.1,sp.2.2,RQ sp.2.1)]⟩
def Di (key:Int) (MS:List Me) (s:ES) (n:Nt):ES:=apC key n.1 (Uc n.2.2.1 key) (Za MS n.1 s)
def Gm (key:Int) (MS:List Me) (L:List Nt):ES:=L.foldl (Di key MS) ⟨[],0,[]⟩
def OO (key:Int)(L:List Nt):Bool:=L.any λn=>decide (JX n.2.2.1 key≠0)
def wK (p:bV)(key:Int):Int:=if bM p=0 then (if key < -4\/4 < key then 1 else if OO key (dY p p.evs.length)=true then 10 else 0)else bM p
def Jw (p:bV) (key:Int):List Sf:=if wK p key=0 then (Gm key (uI p.evs p.evs.length) (dY p p.evs.length)).out else []
theorem agq {q key:Int} (hk:-4<=key/\key<=4):JX q key=0\/JX q key=10:=by
 unfold JX;by_cases h:0<=q/\q<=127
 .rw [if_neg (λx=>x h),if_neg (λx=>x hk)];split;.exact .inl rfl
  .exact .inr rfl
 .rw [if_pos h];exact .inr rfl
theorem aj3 {q key:Int} (h:JX q key=0):-1<=(Uc q key).2.1/\(Uc q key).2.1<=1:=by
 unfold Uc;rw [if_pos h];cases hp:spP q key with
 | none=>simp| some r =>
  have:=(Nc (aj2 hp).1).1.2.1;exact lS
theorem SA {key:Int} {MS:List Me}:∀ (L:List Nt) (s:ES),(∀ n∈L,JX n.2.2.1 key=0)->sF s.alt->sF (L.foldl (Di key MS) s).alt/\(L.foldl (Di key MS) s).out.length=s.out.length+L.length
 | [],s,_,h=>⟨h,rfl⟩| n::r,s,hl,h=>by
  have h1:sF (Za MS n.1 s).alt:=by unfold Za;dsimp only;split;exact h;exact sF.nil
  have h2:=aj3 (hl n (by simp));have h3:sF (Di key MS s n).alt/\(Di key MS s n).out.length=s.out.length+1:=by
   unfold Di apC;split;.exact ⟨h1,by simp [Za]⟩
   .exact ⟨h1.upd _ ⟨by omega,by omega⟩,by simp [Za]⟩
  obtain ⟨h4,h5⟩:=SA r (Di key MS s n) (λy hy=>hl y CY) h3.1;rw [AU];exact ⟨h4,by rw [h5,h3.2];simp;omega⟩
theorem IY (p:bV) (hO:jh p) (key:Int):jB Fz Tryz.prog 115 [iG p,.sc (.int .i64 key)] (.tu [.ls 4 ((Jw p key).map Ej),.sc (.int .i64 (wK p key))]):=by
 have hn3:=hO.n3;have hN:=GZ p hO;by_cases h0:bM p=0;rotate_left
 .have e1:wK p key=bM p:=if_neg h0;have e2:Jw p key=[]:=if_neg (by rw [e1];exact h0);have e3:Dp p=[]:=if_neg h0;rw [e2,e1];rw [e3] at hN;obtain ⟨E,hE⟩:∃ E,bM p=E:=⟨_,rfl⟩;rw [hE] at hN h0 ⊢;refine jB.intro rO Tryz.func115 rfl Tryz.ntmps115 (bG rfl) (dW rfl) λw0 F0 hB=>?_;dsimp only [St.init,number,Nat.reduceAdd];refine AX ?_;refine WL.vl rfl (aS Tryz.func178 hN) ?_;exact anc
 have e3:Dp p=dY p p.evs.length:=if_pos h0;rw [h0,e3] at hN;by_cases hk:key < -4\/4 < key
 .have e1:wK p key=1:=by unfold wK;rw [if_pos h0,if_pos hk]
  have e2:Jw p key=[]:=if_neg (by rw [e1];decide);rw [e2,e1];have hk2:key < -4\/(¬ key < -4/\4 < key):=by omega
  rcases hk2 with hk2|hk2;all_goals
   refine jB.intro rO Tryz.func115 rfl Tryz.ntmps115 (bG rfl) (dW rfl) λw0 F0 hB=>?_;dsimp only [St.init,number,Nat.reduceAdd];refine AX ?_;refine WL.vl rfl (aS Tryz.func178 hN) ?_;refine kH ?_;refine W.tr (Tr.afe (t:=4) 4 rfl) ?_;exact W.ret (aeF rfl rfl rfl rfl)
 have hk2:-4<=key/\key<=4:=by omega
 have hMe:=yK p hO;have e4:aiw p=uI p.evs p.evs.length:=if_pos h0;rw [e4,h0] at hMe;have hml:=uJ p.evs p.evs.length;have hmb:=Tn p.evs p.evs.length;have hnl:=Dq hO h0;have e1:wK p key=if OO key (dY p p.evs.length)=true then 10 else 0:=by unfold wK;rw [if_pos h0,if_neg hk]
 have e2:Jw p key=if OO key (dY p p.evs.length)=true then [] else (Gm key (uI p.evs p.evs.length) (dY p p.evs.length)).out:=by
  unfold Jw;rw [e1];cases OO key (dY p p.evs.length)<;>rfl
 rw [e1,e2];obtain ⟨L,hL⟩:∃ L,dY p p.evs.length=L:=⟨_,rfl⟩;obtain ⟨MS,hMS⟩:∃ L,uI p.evs p.evs.length=L:=⟨_,rfl⟩;rw [hL] at hN hnl ⊢;rw [hMS] at hMe hml hmb ⊢;refine jB.intro rO Tryz.func115 rfl Tryz.ntmps115 (bG rfl) (dW rfl) λw0 F0 hB=>?_;dsimp only [St.init,number,Nat.reduceAdd];refine AX ?_;refine WL.vl rfl (aS Tryz.func178 hN) ?_;refine kH ?_;refine WL.qQ (dD _) [] rfl rfl (aj Tryz.func179 rfl rfl) (WZ key) rfl rfl rfl trivial rfl rfl rfl rfl ?_;refine AX ?_;refine WL.vl rfl (aS Tryz.func116 hMe) ?_;refine AX ?_;refine W.tr (Tr.nil (t:=12) 202 4 rfl rfl) ?_;refine RG ?_;refine W.loop (λk:Nat=>k<=L.length/\∀ n∈L.take k,JX n.2.2.1 key=0) (λk=>⟨[(1,.sc (.int .i64 key)),(8,.pt 2 0 0),(9,.ls 3 (MS.map BM)),(12,.sl 3),(40,.ls 5 (L.map xA)),(41,.sc (.int .i64 L.length)),(42,.sc (.int .i64 k)),(11,.sc (.int .i64 ((Gm key MS (L.take k)).next:Nat)))],[(0,.box 30 (iG p).cells),(1,.opq (uH zD (JD (Gm key MS (L.take k)).alt))),(2,.box 336 [.sc (.int .i64 key),.sl 1]),(3,.row 202 4 ((Gm key MS (L.take k)).out.map Ej))],4⟩) (λk=>L.length - k) 0 ⟨by omega,by simp⟩ (zqt id) λk hk=>?_;obtain ⟨hk1,hgood⟩:=hk;obtain ⟨hA,hol⟩:=SA (key:=key) (MS:=MS) (L.take k) ⟨[],0,[]⟩ hgood sF.nil;have hol:(Gm key MS (L.take k)).out.length<=8400:=by
  show (List.foldl (Di key MS) ⟨[],0,[]⟩ (L.take k)).out.length<=8400;rw [hol];simp;omega
 by_cases hlt:k < L.length;rotate_left
 .obtain rfl:k=L.length:=by omega
  rw [jw] at hgood;have hb:OO key L=false:=by
   unfold OO;rw [List.any_eq_false];intro n hn;simp [hgood n hn]
  rw [hb,jw];simp only [Nz,if_false];refine kH ?_;refine W.tr (Tr.freeze 3 rfl) ?_;exact gZ
 have htk:Gm key MS (L.take (k+1))=Di key MS (Gm key MS (L.take k)) L[k]:=by unfold Gm;rw [kF hlt,QV];rfl
 have hnk:∀ x∈L.take (k+1),x∈L.take k\/x=L[k]:=λx hx=>by
  rw [kF hlt] at hx;rcases List.mem_append.1 hx with hx|hx;.exact .inl hx
  .exact .inr (List.mem_singleton.1 hx)
 have hA:sF (Gm key MS (L.take k)).alt:=hA;obtain ⟨S,hS⟩:∃ S,Gm key MS (L.take k)=S:=⟨_,rfl⟩;have hmem:L[k]∈L:=gB hlt;refine kH ?_;obtain ⟨n,hn⟩:∃ n,L[k]=n:=⟨_,rfl⟩;rw [hS] at hA hol htk ⊢;rw [hn] at htk hnk hmem ⊢;refine W.loop (λm:Nat×List (Ln×Int)=>m.1<=max MS.length S.next/\S.next<=m.1/\sH MS n.1 S.next=sH MS n.1 m.1/\m.2=if m.1=S.next then S.alt else []) (λm=>⟨[(1,.sc (.int .i64 key)),(8,.pt 2 0 0),(9,.ls 3 (MS.map BM)),(12,.sl 3),(40,.ls 5 (L.map xA)),(41,.sc (.int .i64 L.length)),(42,.sc (.int .i64 k)),(14,.pt 4 0 0),(11,.sc (.int .i64 (m.1:Nat)))],[(0,.box 30 (iG p).cells),(1,.opq (uH zD (JD m.2))),(2,.box 336 [.sc (.int .i64 key),.sl 1]),(3,.row 202 4 (S.out.map Ej)),(4,.box 273 (xA n))],5⟩) (λm=>max MS.length S.next - m.1) (S.next,S.alt) ⟨by dsimp only;omega,Nat.le_refl _,rfl,(if_pos rfl).symm⟩ (zqt id) λm hm=>?_;obtain ⟨m,al⟩:=m;obtain ⟨hm1,hm2,hm3,hm4⟩:=hm;dsimp only at hm1 hm2 hm3 hm4 ⊢;by_cases hgo:∃ h:m < MS.length,MS[m].1<=n.1
 .obtain ⟨h1,h2⟩:=hgo;refine kH ?_;refine iY ?_;refine Rn ?_;refine kH ?_;refine WL.qQ (dD _) [1,2] rfl rfl (aj Tryz.func180 rfl rfl) (Uf key al) rfl rfl rfl ⟨⟨rfl,rfl,rfl⟩,⟨rfl,rfl,rfl⟩,trivial⟩ rfl rfl rfl rfl ?_;refine kH ?_;exact ⟨(m+1,[]),⟨by dsimp only;omega,by dsimp only;omega,hm3.trans (Lj h1 h2),(if_neg (by dsimp only;omega)).symm⟩,by dsimp only;omega,(zqt id)⟩
 have hnext:sH MS n.1 S.next=m:=by exact alE
 have hcl:Za MS n.1 S=⟨al,m,S.out⟩:=by unfold Za;rw [hnext,hm4]
 have hal:sF al:=by rw [hm4];split;exact hA;exact sF.nil
 have hen:Di key MS S n=apC key n.1 (Uc n.2.2.1 key) ⟨al,m,S.out⟩:=by unfold Di;rw [hcl]
 refine W.seq ?_;refine W.ave ⟨[(1,.sc (.int .i64 key)),(8,.pt 2 0 0),(9,.ls 3 (MS.map BM)),(12,.sl 3),(40,.ls 5 (L.map xA)),(41,.sc (.int .i64 L.length)),(42,.sc (.int .i64 k)),(14,.pt 4 0 0),(59,.sc (.bool false)),(11,.sc (.int .i64 (m:Nat)))],[(0,.box 30 (iG p).cells),(1,.opq (uH zD (JD al))),(2,.box 336 [.sc (.int .i64 key),.sl 1]),(3,.row 202 4 (S.out.map Ej)),(4,.box 273 (xA n))],5⟩ ?_ ?_
 .have hno:MS.length<=m\/(∃ h:m < MS.length,¬ MS[m].1<=n.1):=by exact alN
  rcases hno with h|⟨h1,h2⟩;all_goals
   refine iY ?_;refine Rn ?_;refine (?_:Tr _ _ _);exact (zqt id)
 have hSp:=ai8 n.2.2.1 key;refine kH ?_;refine WL.vl rfl (WV.dZ hB rfl (aj Tryz.func106 rfl rfl) rfl rfl hSp) ?_;rcases agq (q:=n.2.2.1) hk2 with hx|hx;rotate_left
 .have hb:OO key L=true:=by
   unfold OO;rw [List.any_eq_true];exact ⟨n,hmem,by rw [hx];decide⟩
  rw [hb,hx];simp only [if_true];exact anc
 have axd:=aj3 hx;rw [hx];obtain ⟨sp,hsp⟩:∃ sp,Uc n.2.2.1 key=sp:=⟨_,rfl⟩;rw [hsp] at axd hen ⊢;have atO:∀ x∈L.take (k+1),JX x.2.2.1 key=0:=λx hx2=>by
  rcases hnk x hx2 with h|h;.exact hgood x h
  .rw [h];exact hx
 refine kH ?_;refine W.dm3 [false,false,false,false,true,false] [5,7] aK aK aK Oi ?_;refine YQ ?_;refine nD.ct (dD _) [1,2] rfl rfl (aj Tryz.func181 rfl rfl) (Ue key al sp.1 sp.2.2 hk2 hal) rfl rfl rfl ⟨⟨rfl,rfl,rfl⟩,⟨rfl,rfl,rfl⟩,trivial⟩ rfl rfl rfl rfl Oi ?_;refine YQ ?_;refine AX ?_;(refine W.cond rfl (λhif=>?_) (λhif=>?_)<;>(try simp only [dH,dO,eu,eF,dP,eG] at hif))
 .have hne:¬ sp.2.1=ahG key al (sp.1,sp.2.2):=by first|exact hif|(intro e;exact hif e)|omega
  have hput:Di key MS S n=⟨Nr (sp.1,sp.2.2) (sp.2.1+2) al,m,S.out++[(n.1,sp.1,sp.2.2,RQ sp.2.1)]⟩:=by rw [hen];exact if_neg hne
  have hr:S.out.map Ej++[Ej (n.1,sp.1,sp.2.2,RQ sp.2.1)]=(S.out++[(n.1,sp.1,sp.2.2,RQ sp.2.1)]).map Ej:=by simp
  refine AX ?_;refine WL.vl rfl (WV.call rfl (aj Tryz.func182 rfl rfl) rfl rfl (anX sp.2.1)) ?_;refine AX ?_;refine WL.qQ (dD _) [1,2] rfl rfl (aj Tryz.func183 rfl rfl) (aa4 key al sp.1 sp.2.2 sp.2.1 axd) rfl rfl rfl ⟨⟨rfl,rfl,rfl⟩,⟨rfl,rfl,rfl⟩,trivial⟩ rfl rfl rfl rfl ?_;exact asE
 .have heq:sp.2.1=ahG key al (sp.1,sp.2.2):=by first|exact hif|omega
  have hput:Di key MS S n=⟨al,m,S.out++[(n.1,sp.1,sp.2.2,0)]⟩:=by rw [hen];exact if_pos heq
  have hr:S.out.map Ej++[Ej (n.1,sp.1,sp.2.2,0)]=(S.out++[(n.1,sp.1,sp.2.2,0)]).map Ej:=by simp
  exact asE
def sgX(a:Int):List UInt8:=if a=0 then []else if a=1 then [35]else if a=2 then [98]else [61]
def sfT (x:Sf):List UInt8:=cut ZN x.2.1 (x.2.1+1)++sgX x.2.2.2++Lib.itoa x.2.2.1
def RJ(x:Sf):Prop:=(0<=x.2.1/\x.2.1<=6)/\I64 x.2.2.1/\(0<=x.2.2.2/\x.2.2.2<=3)
theorem agu (x:Sf) (h:RJ x):jB Fz Tryz.prog 117 [.ag (Ej x)] (.sc (.string (bs (sfT x)))):=by
 obtain ⟨e,l,o,a⟩:=x;obtain ⟨⟨h1,h2⟩,hI,h3,h4⟩:=h;dsimp only at h1 h2 hI h3 h4;have hl3:=Eu (n:=o) (by unfold I64 at hI;omega);have hI:=ZI o hI;have hT:sfT (e,l,o,a)=cut ZN l (l+1)++sgX a++Lib.itoa o:=rfl;have hl1:(cut [67,68,69,70,71,65,66] l (l+1)).length<=1:=acz (l:=l);have hcb:0<=l/\l<=l+1/\l+1<=(ZN.length:Int):=⟨h1,by omega,by simp [ZN];omega⟩;have hsl:(sgX a).length<=1:=by unfold sgX;split<;>(try split)<;>(try split)<;>simp
 have Gt:(cut [67,68,69,70,71,65,66] l (l+1)++sgX a).length<=2:=by rw [dS];omega
 rw [hT];obtain ⟨io,hio⟩:∃ z,Lib.itoa o=z:=⟨_,rfl⟩;rw [hio] at hl3 hI ⊢;have atb:(a=0/\sgX a=[])\/(a=1/\sgX a=[35])\/(a=2/\sgX a=[98])\/(a=3/\sgX a=[61]):=by
  have:a=0\/a=1\/a=2\/a=3:=by omega
  rcases this with h|h|h|h<;>subst h<;>simp [sgX]
 rcases atb with ⟨ha,hs⟩|⟨ha,hs⟩|⟨ha,hs⟩|⟨ha,hs⟩;all_goals
  rw [hs] at Gt hsl ⊢;subst ha;dsimp only [Ej];refine jB.intro rO Tryz.func117 rfl Tryz.ntmps117 (bG rfl) (dW rfl) λw0 F0 hB=>?_;dsimp only [St.init,number,Nat.reduceAdd];refine ard ?_;refine iY ?_;refine akT ?_;refine DK.vl rfl (Bf rfl hcb) ?_;refine akT ?_;refine DK.vl rfl (WV.dZ hB rfl (aj Tryz.func108 rfl rfl) rfl rfl hI) ?_;refine akT ?_;skip;(first|refine (?_:W _ _ _ _ _)|refine (?_:WL _ _ _ _ _ _)|skip);try dsimp only [St.put,Nat.reduceAdd]
  exact W.ret kR
theorem aii (sep:List UInt8) (l:List (List UInt8)) (h1:l.length<=100000) (h2:(Lib.join l sep).length<=100000000):bC Tryz.prog 111 [.ls 1 (l.map eStr),.sc (.string (bs sep))] (.sc (.string (bs (Lib.join l sep)))):=by
 intro w F vs hF hR;match vs,hR.1 with
 | [v,v2],_ =>
  obtain rfl:=(hR.2 1 _ v2 rfl rfl).fM;obtain ⟨A,c,rfl,hrd,hc⟩:=Ae (n:=1) (f:=λt=>[Value.string (bs t)]) hF au (λ_=>rfl) (λx j u h=>by match j with
   | 0=>cases h;rfl| j+1=>simp at h) (hR.2 0 _ v rfl rfl);have fin:∀ e w',e=Ending.returned (.string (bs (Lib.join l sep)))->Below w.heap.size w w'->∃ v F',e=.returned v/\Below w.heap.size w w'/\View.le F F'/\(∀ p u,F' p=some u->w'.cell? p=some u)/\(∀ p u,F' p=some u->F p=some u\/w.heap.size<=p.block)/\RP F' (.sc (.string (bs (Lib.join l sep)))) v :=λe w' he hb=>⟨_,F,he,hb,λ_ _ h=>h,λp u x=>by rw [hb.cell (aQ (hF p u x))];exact hF p u x,λ_ _ h=>.inl h,.sc _⟩;by_cases h0:l.length=0
  .obtain rfl:=sN h0;exact (strings_Join_none A c (bs sep) w).mono λe w' ⟨he,hw⟩=>fin e w' he (hw ▸ Below.refl _ _)
  .obtain ⟨ad,had,hlt,hcell⟩:=hrd (by simp;omega);subst had;have hsp:ad.spot=none:=by exact asq
   obtain ⟨bk,off,sp⟩:=ad;simp only at hsp hlt;subst hsp;have hm:(l.map bs).map (λb=>b.data.toList)=l:=by exact alT
   have:=strings_Join bk off c (l.map bs) (bs sep) w (λj x hx=>?_) hlt (by simp;omega) (by simpa using hc) (by rw [hm,ig];omega)
   .rw [hm,ig,bK] at this;exact this.mono λe w' ⟨he,hb⟩=>fin e w' he hb
   .exact asw
def mAt (MS:List Me):Nat->Nat
 | 0=>0| k+1=>sH MS k (mAt MS k)
def rsT (L:List Sf):Nat->List Sf
 | 0=>L| k+1=>(rsT L k).dropWhile λx=>decide (x.1=(k:Int))
def nmK (L:List Sf)(k:Nat):List (List UInt8):=((rsT L k).takeWhile λx=>decide (x.1=(k:Int))).map sfT
def evT (L:List Sf)(k:Nat)(e:Ev):List UInt8:=if nmK L k=[] then (if e.tie=true then [126] else [37]) else Lib.join (nmK L k) [43]
def atr (MS:List Me)(k:Nat):Nat:=(((MS[mAt MS (k+1)-1]?).map λx:Me=>x.1).getD 0).toNat
def avf (evs:List Ev)(MS:List Me)(k:Nat):Int:=aY evs k-aY evs (atr MS k)
def edR (evs:List Ev)(MS:List Me)(L:List Sf)(c:List UInt8)(k:Nat)(e:Ev):List UInt8 :=Lib.itoa (mAt MS (k+1):Nat)++[58]++Lib.itoa (avf evs MS k)++[32]++evT L k e++[32,59,32]++c++[10]
def edN (s:Int)(p:bV)(MS:List Me)(L:List Sf)(k:Nat):List UInt8:=(match p.evs[k]? with
 | some e=>edR p.evs MS L (colS s p k e) k e| none=>[])
def edB(s:Int)(p:bV)(MS:List Me)(L:List Sf):Nat->List UInt8
 | 0=>[]| k+1=>edB s p MS L k++edN s p MS L k
def YZ(s:Int)(p:bV)(key:Int):Int:=if 1<=s/\s<=4 then(if wK p key≠0 then wK p key else if zM s p=[]then 0 else 31)else 30
def edT (s:Int) (p:bV) (key:Int):List UInt8:=if YZ s p key=0 then edB s p (uI p.evs p.evs.length) (Jw p key) p.evs.length else []
theorem ahx {s:Int} {p:bV} {MS:List Me} {L:List Sf} {k:Nat} (h:k<p.evs.length):edN s p MS L k=edR p.evs MS L (colS s p k p.evs[k]) k p.evs[k]:=by unfold edN;rw [aO h]
theorem Ua (L:List Sf):∀ k,(∀ x∈rsT L k,x∈L)/\(rsT L k).length<=L.length
 | 0=>⟨λ_ h=>h,Nat.le_refl _⟩| k+1=>by
  obtain ⟨h1,h2⟩:=Ua L k;refine ⟨λx hx=>h1 x ((List.dropWhile_sublist _).subset hx),?_⟩;have:=(List.dropWhile_sublist (λx:Sf=>decide (x.1=(k:Int))) (l:=rsT L k)).length_le;unfold rsT;omega
theorem ap1 {x:Sf} (h:RJ x):(sfT x).length<=22:=by
 have h1:(cut ZN x.2.1 (x.2.1+1)).length<=1:=acz;have h2:(sgX x.2.2.2).length<=1:=by unfold sgX;split<;>(try split)<;>(try split)<;>simp
 have h3:=Eu (n:=x.2.2.1) (by have:=h.2.1;unfold I64 at this;omega);unfold sfT;simp only [dS];omega
theorem Ew (sep:List UInt8)(hs:sep.length<=1):∀ (l:List (List UInt8)),(∀ t∈l,t.length<=22)->(Lib.joinTail sep l).length<=23*l.length
 | [],_=>by simp [Lib.joinTail]| a::r,h=>by
  have h1:=h a (by simp);have h2:=Ew sep hs r λt ht=>h t (by simp [ht]);unfold Lib.joinTail at h2 ⊢;rw [AB,NR,dS,dS,pW];omega
theorem V9 (sep:List UInt8)(hs:sep.length<=1)(l:List (List UInt8))(h:∀ t∈l,t.length<=22):(Lib.join l sep).length<=23*l.length:=by cases l with
 | nil=>rw [Lib.join_nil];simp| cons x r =>
  rw [Lib.join_cons,dS,pW];have h1:=h x (by simp);have h2:=Ew sep hs r λt ht=>h t (by simp [ht]);omega
theorem Tq {L:List Sf} (h:∀ x∈L,RJ x) (hl:L.length<=8400) (k:Nat):(nmK L k).length<=8400/\∀ t∈nmK L k,t.length<=22:=by
 obtain ⟨h1,h2⟩:=Ua L k;have h3:=Yu (λx:Sf=>decide (x.1=(k:Int))) (l:=rsT L k);refine ⟨?_,λt ht=>?_⟩
 .unfold nmK;rw [bK];have:=h3.length_le;omega
 .unfold nmK at ht;obtain ⟨x,hx,rfl⟩:=List.mem_map.1 ht;exact ap1 (h x (h1 x (h3.subset hx)))
theorem aol {L:List Sf} (h:∀ x∈L,RJ x) (hl:L.length<=8400) (k:Nat) (e:Ev):(evT L k e).length<=200000:=by
 obtain ⟨h1,h2⟩:=Tq h hl k;have h3:=V9 [43] (by simp) (nmK L k) h2;unfold evT;split;.split<;>simp
 .omega
theorem anY(a:Int):0<=RQ a/\RQ a<=3:=by unfold RQ;split<;>(try split)<;>omega
theorem aj6 {q key:Int} (h:JX q key=0) (ev a:Int) (ha:0<=a/\a<=3):RJ (ev,(Uc q key).1,(Uc q key).2.2,a):=by
 have hI:∀ z:Int,-1<=z/\z<=9->I64 z:=λz hz=>by unfold I64;omega
 unfold Uc;rw [if_pos h];cases hp:spP q key with
 | none=>exact ⟨⟨wz 0,by show (0:Int)<=6;decide⟩,hI 0 ⟨by decide,by decide⟩,ha⟩| some r =>
  have:=(Nc (aj2 hp).1).1;exact ⟨this.1,hI _ this.2.2,ha⟩
theorem acG {key:Int} {MS:List Me}:∀ (L:List Nt)(s:ES),(∀ n∈L,JX n.2.2.1 key=0)->(∀ x∈s.out,RJ x)->∀ x∈(L.foldl (Di key MS) s).out,RJ x
 | [],s,_,h=>h| n::r,s,hl,h=>by
  rw [AU];refine acG r _ (λy hy=>hl y CY) λx hx=>?_;have hn:=hl n (by simp);unfold Di apC at hx;split at hx
  .rcases List.mem_append.1 hx with hx|hx;.exact h x hx
   .rw [CO] at hx;subst hx;exact aj6 hn _ _ (by decide)
  .rcases List.mem_append.1 hx with hx|hx;.exact h x hx
   .rw [CO] at hx;subst hx;exact aj6 hn _ _ (anY _)
theorem acF {p:bV} (hO:jh p) {key:Int} (h:wK p key=0):bM p=0/\(∀ x∈Jw p key,RJ x)/\(Jw p key).length<=8400:=by
 have h0:bM p=0:=by
  by_cases h1:bM p=0;.exact h1
  .unfold wK at h;rw [if_neg h1] at h;exact absurd h h1
 have hb:OO key (dY p p.evs.length)=false:=by
  unfold wK at h;rw [if_pos h0] at h;split at h;.cases h
  .cases hq:OO key (dY p p.evs.length) with
   | false=>rfl| true=>rw [hq] at h;cases h
 have hall:∀ n∈dY p p.evs.length,JX n.2.2.1 key=0:=λn hn=>by
  have:=(List.any_eq_false.1 hb) n hn;exact lS
 have e:Jw p key=(Gm key (uI p.evs p.evs.length) (dY p p.evs.length)).out:=if_pos h;rw [e];refine ⟨h0,acG _ _ hall (λx hx=>by cases hx),?_⟩;have h2:=(SA (key:=key) (MS:=uI p.evs p.evs.length) _ ⟨[],0,[]⟩ hall sF.nil).2;have h3:=Dq hO h0;unfold Gm;rw [h2];simp;omega
theorem Df (t:Int)(x:Me)(r:List Me):∃ y q,yX t (x::r)=y::q/\y.1=x.1:=by cases r with
 | nil=>exact⟨_,_,rfl,rfl⟩| cons z q=>exact⟨_,_,rfl,rfl⟩
theorem WT (evs:List Ev):∀ k,∃ x r,uI evs (k+1)=x::r/\x.1=0
 | 0=>by
  obtain ⟨y,q,h1,h2⟩:=Df (Io 0 (evs.take 1)) (0,0,0) [];exact ⟨y,q,h1,h2⟩| k+1=>by
  obtain ⟨x,r,h1,h2⟩:=WT evs k;rw [uI];split
  .rw [h1];obtain ⟨y,q,h3,h4⟩:=Df (Io 0 (evs.take (k+1+1))) x (r++[(((k+1:Nat):Int),0,0)]);exact ⟨y,q,h3,h4.trans h2⟩
  .rw [h1];obtain ⟨y,q,h3,h4⟩:=Df (Io 0 (evs.take (k+1+1))) x r;exact ⟨y,q,h3,h4.trans h2⟩
theorem zh {α:Type} {f:α->Bool}:∀ {l:List α} {q:Nat},q<=l.length->(∀ x∈l.take q,f x=true)->(∀ h:q<l.length,f l[q]=false)->l.takeWhile f=l.take q/\l.dropWhile f=l.drop q
 | [],q,h,_,_=>by simp at h;simp| x::r,0,h,h1,h2=>by
  have:=h2 (by simp);simp at this;simp [ND,List.dropWhile_cons,this]| x::r,q+1,h,h1,h2=>by
  have hx:=h1 x (by simp);obtain ⟨a,b⟩:=zh (l:=r) (q:=q) yj (λy hy=>h1 y CY) (λhq=>by have:=h2 Rx;simpa using this);simp [ND,List.dropWhile_cons,hx,a,b]
theorem ahf (w:World) (b:Nat) (p:Value) (hbk:w.heap[b]?=some (.cells #[p,.slice none 0 0] 103 (0,0))) :Calls Tryz.prog 55 #[.pointer (some ⟨b,0,none⟩)] w λe w'=>e=.returned (.string (bs []))/\w'=w.drew:=by
 have c1:w.drew.cell? ⟨b,1,none⟩=some (.slice none 0 0):=by
  have:w.drew.heap[b]?=some (.cells #[p,.slice none 0 0] 103 (0,0)):=hbk;rw [Lib.cell_of_heap this];rfl
 have hUS:(Builtin.unsafeString_ #[191,3] 9 #[.pointer none,.int .i64 0]).run Tryz.prog w.drew=.ok (.string .empty) w.drew:=Lib.run_unsafeString_none _ _ _ _ _;have hSD:(Builtin.unsafeSliceData_ #[101] 191 #[.slice none 0 0]).run Tryz.prog w.drew=.ok (.pointer none) w.drew:=Lib.run_unsafeSliceData_nil _ _ _ _ _;have mixed:Tryz.prog.follows .mixedOrders=true:=by kernel_rfl
 go_enter Tryz.func55,Tryz.ntmps55;go_wp2;go_region_o;all_goals (go_wp2;go_ret;exact ⟨rfl,rfl⟩)
theorem WV.as8 {P:Program} {C:Cx} {o:Oper} {σ:St} {f:FuncId} {k:Nat} {x:Operand} {ts:Array TypeId} {T:TypeId} {c1 c2 v:Value} (ho:o.op=.call { callee:=.value (.func f),args:=#[x],argTypes:=ts }) (hc:∀ vs w,(callFunc f vs).run P w=.ok (.enter f vs) w)(hx:σ.ev x=some (.pt k 0 0)) (hk:look k σ.M=some (.box T [.sc c1,.sc c2])) (h:∀ w b,w.heap[b]?=some (.cells #[c1,c2] T (0,0))->Calls P f #[.pointer (some ⟨b,0,none⟩)] w λe w'=>e=.returned v/\w'=w.drew):WV P C o σ (.sc v):=by
 intro G a w ok N Q' hN;obtain ⟨p,ep,p1,p2,p3⟩:=(ok.l9 hx).2.lu;obtain ⟨h1,cs,Φ,hB,hsz,_,_,hcs⟩:=(ok.ob k _ hk).2.2;obtain rfl:=addr_eq p1 p2 p3;rw [AP] at ep;have hsz:cs.size=2:=hsz;have g:∀ i (h:i<2),cs[i]?=some (cs[i]'(by omega)):=λi h=>vC (by omega);have e1:=(CR.r (hcs 0 _ _ rfl (g 0 au)) rfl).fM;have e2:=(CR.r (hcs 1 _ _ rfl (g 1 au)) rfl).fM;have ecs:cs=#[c1,c2]:=by
  apply Array.ext (by simp [hsz]);intro i hi hi2;exact aml
 subst ecs;refine Jr ?_;have ev:a.eval (.func f)=.func (.func f) #[] #[]:=rfl;have e3:(#[]++(#[x]:Array Operand).map a.eval++#[]:Array Value)=#[.pointer (some ⟨G.b k,0,none⟩)]:=by simp [ep]
 simp only [ho,resolve,ev,Deferred.ofValue,invoke,Sem.run_bind,Sem.run_pure,Result.andThen_ok,hc,Oper.upon,e3];refine (h w (G.b k) hB).mono λe w1 ⟨he,hw⟩=>?_;subst he hw;exact hN _ G _ (λBX a'' DF=>DF.drew) (.pu _ _ (.sc _)) (.sc _)
end
end Go.Proofs.YthohlofpphjofaaGreatDoor
