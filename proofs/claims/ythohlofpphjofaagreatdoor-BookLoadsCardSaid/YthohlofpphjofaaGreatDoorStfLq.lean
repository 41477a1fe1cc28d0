/- book.staff: the program. -/
import Derived.Test.YthohlofpphjofaaGreatDoorGaLq
import Derived.Test.YthohlofpphjofaaGreatDoorCkDLq
set_option maxHeartbeats 8000000
set_option maxRecDepth 100000
set_option linter.unusedVariables false
set_option linter.unusedSimpArgs false
namespace Go.Proofs.YthohlofpphjofaaGreatDoor
theorem am9 {p:Prop}(h:p:=by
 refine wX ?_;refine W.tr (Tr.axx (t:=4) 3 rfl) ?_;exact kT):p:=h
theorem lT {p:Prop}(h:p:=by exact W.ret (BN rfl rfl rfl rfl rfl)):p:=h
theorem ak4 {p q:Prop}(k:q)(h:iF q->p:=by
 intro hq;refine wG ?_;refine UG ?_;refine WL.cvt rfl rfl rfl rfl ?_;exact hq.k):p:=h ⟨k⟩
theorem ad4 {p q:Prop}(k:q)(h:iF q->p:=by
 intro hq;refine ayp ?_;refine iY ?_;refine wG ?_;refine DK.vl rfl (WV.IC rfl rfl) ?_;refine wG ?_;exact hq.k):p:=h ⟨k⟩
theorem kS {p q:Prop}(k:q)(h:iF q->p:=by
 intro hq;refine kG ?_;refine FY ?_;exact hq.k):p:=h ⟨k⟩
theorem ayp {p q:Prop}(k:q)(h:iF q->p:=by
 intro hq;dsimp only [number,Nat.reduceAdd,Am];refine avr ?_;exact hq.k):p:=h ⟨k⟩
theorem YP {p q:Prop}(k:q)(h:iF q->p:=by
 intro hq;refine UG ?_;repeat (refine WL.vl rfl (WV.IC rfl rfl) ?_)
 refine UG ?_;exact hq.k):p:=h ⟨k⟩
theorem FY {p q:Prop}(k:q)(h:iF q->p:=by
 intro hq;refine WL.six rfl rfl ⟨by omega,by omega⟩ ?_;exact hq.k):p:=h ⟨k⟩
section
open Go.RowKit
theorem Tr.axx {C:Cx} {σ:St} {t:Tmp} (n:Nat) (h:look t σ.t=some (.sc (.slice none 0 0))):Tr C σ (σ.put t (.ls n [])):=λG a w ok=>by
 refine ⟨G,ok.sz,ok.df,λi av hi=>?_,ok.bel,ok.fw,ok.f0,ok.f1,ok.ob,ok.my,ok.dj,ok.dF⟩;by_cases e:i=t
 .subst e;rw [show look i (σ.put i (.ls n [])).t=some (.ls n []) from aB] at hi;cases hi;obtain ⟨h1,h2,h3⟩:=ok.tm i _ h;refine ⟨h1,.ls _ _,?_⟩;rw [h3.fM];exact .pu _ _ (.ls n [] none 0 ⟨0,0,none⟩ (λ_ _=>undef) (by simp) (by simp) (λh=>absurd h (by simp)) (λi r j av h=>by simp at h) (λi r j av h=>by simp at h))
 .rw [show look i (σ.put t (.ls n [])).t=look i σ.t from ah e] at hi;exact ok.tm i av hi
theorem LU (s:Int):bC Tryz.prog 50 [.sc (.int .u8 s)] (.tu [.sc (bT s),.sc (.bool (decide (1<=s/\s<=4)))]):=by
 refine bC.nX (xs:=[.int .u8 s]) (v:=.tuple #[bT s,.bool (decide (1<=s/\s<=4))]) rfl (λF=>.tu _ _ rfl λi av u a b=>?_) λw=>?_;.exact alJ
 .by_cases h:1<=s/\s<=4
  .rcases dN h with rfl|rfl|rfl|rfl;.exact (aAi w).mono λe w' ⟨he,hw⟩=>⟨he,hw ▸ Below.refl _ _⟩
   .exact (aAj w).mono λe w' ⟨he,hw⟩=>⟨he,hw ▸ Below.refl _ _⟩
   .exact (aAk w).mono λe w' ⟨he,hw⟩=>⟨he,hw ▸ Below.refl _ _⟩
   .exact (aAl w).mono λe w' ⟨he,hw⟩=>⟨he,hw ▸ Below.refl _ _⟩
  .have e:bT s=.nilIface:=by
    unfold bT;rw [if_neg (by omega),if_neg (by omega),if_neg (by omega),if_neg (by omega)]
   rw [e,bW h];exact (auE s w au).mono λe w' ⟨he,hw⟩=>⟨he,hw ▸ Below.refl _ _⟩
def zM(s:Int)(p:bV):List YX:=if(1<=s/\s<=4)/\bM p=0 then xE s p p.evs.length else []
def WI(s:Int)(p:bV):Int:=if 1<=s/\s<=4 then bM p else 30
theorem ac1 {s:Int} {p:bV} (h:¬ (1<=s/\s<=4)):zM s p=[]/\WI s p=30:=⟨if_neg λx=>h x.1,if_neg h⟩
theorem ac2 {s:Int} {p:bV} (h:1<=s/\s<=4)(h2:bM p≠0):zM s p=[]/\WI s p=bM p:=⟨if_neg λx=>h2 x.2,if_pos h⟩
theorem Gy {s:Int} {p:bV} (h:1<=s/\s<=4) (h2:bM p=0):zM s p=xE s p p.evs.length/\WI s p=0:=⟨if_pos ⟨h,h2⟩,by rw [← h2];exact if_pos h⟩
theorem afB (s:Int) (p:bV) (hO:jh p):bC Tryz.prog 59 [.sc (.int .u8 s),iG p] (.tu [.ls 3 ((zM s p).map Bg),.sc (.int .i64 (WI s p))]):=by
 refine dV Tryz.func59 Tryz.ntmps59 λw0 F0=>?_;dsimp only [St.init,number,Nat.reduceAdd];have hn3:=hO.n3;refine wX ?_;refine WL.vl rfl (WV.call rfl (aj Tryz.func50 rfl rfl) rfl rfl (LU s)) ?_;refine wX ?_;(refine W.cond rfl (λhif=>?_) (λhif=>?_)<;>(try simp only [dH,dO,eu,eF,dP,eG] at hif))
 .have hs:¬ (1<=s/\s<=4):=by simpa using hif
  rw [(ac1 hs).1,(ac1 hs).2];exact am9
 have hs:1<=s/\s<=4:=by simpa using hif
 refine wX ?_;refine WL.vl rfl (WV.call rfl (aj Tryz.func51 rfl rfl) rfl rfl (um p hO)) ?_;refine wX ?_;(refine W.cond rfl (λhif=>?_) (λhif=>?_)<;>(try simp only [dH,dO,eu,eF,dP,eG] at hif))
 .have h0:bM p≠0:=by simpa using hif
  rw [(ac2 hs h0).1,(ac2 hs h0).2];exact am9
 have h0:bM p=0:=by simpa using hif
 rw [(Gy hs h0).1,(Gy hs h0).2];refine wX ?_;refine W.tr (Tr.nil (t:=9) 136 3 rfl rfl) ?_;refine W.loop (λk:Nat=>k<=p.evs.length) (λk=>⟨[(3,.pt 0 0 0),(6,.sc (bT s)),(9,.sl 1),(25,.sc (.int .i64 p.evs.length)),(26,.sc (.int .i64 k))],[(0,.box 30 (iG p).cells),(1,.row 136 3 ((xE s p k).map Bg))],2⟩) (λk=>p.evs.length - k) 0 au (zqt id) λk hk=>?_;refine wX ?_;(refine W.cond rfl (λhif=>?_) (λhif=>?_)<;>(try simp only [dH,dO,eu,eF,dP,eG] at hif))
 .have hk2:k < p.evs.length:=by omega
  have hl1:=P5 s hO k hk;have hl2:=Gw s p k p.evs[k] (hO.n4 k hk2);have hrow:(xE s p k).map Bg++(qV s p k p.evs[k]).map Bg=(xE s p (k+1)).map Bg:=by rw [KX s p hk2,iC]
  refine wX ?_;refine WL.vl rfl (WV.call rfl (aj Tryz.func114 rfl rfl) rfl rfl (XA s hs p k hk2 hO (yS h0 k hk2))) ?_;refine wX ?_;exact ⟨k+1,by omega,by omega,ku (λq=>bif Nat.beq q 1 then 2 else q) (by repeat (first|exact trivial|refine ⟨⟨?_,?_,?_⟩,?_⟩|exact congrArg (λr=>some (AO.row _ _ r)) hrow|rfl)) rfl⟩
 .have he:k=p.evs.length:=by omega
  subst he;refine wX ?_;refine F5 ?_;exact kT
theorem adi (s:Int) (p:bV) (hO:jh p):bC Tryz.prog 19 [.sc (.int .u8 s),iG p] (.sc (.bool (WI s p == 0 && ((zM s p).length:Int) == 0))):=by
 refine dV Tryz.func19 Tryz.ntmps19 λw0 F0=>?_;dsimp only [St.init,number,Nat.reduceAdd];refine UF ?_;refine WL.vl rfl (WV.call rfl (aj Tryz.func59 rfl rfl) rfl rfl (afB s p hO)) ?_;refine UF ?_;have hl:(zM s p).length<=27000:=by
  unfold zM;split;.exact P5 s hO _ (Nat.le_refl _)
  .simp
 refine WL.aP rfl rfl rfl rfl (λhp=>?_) (λhp=>?_)
 .have e:WI s p=0:=rP hp;refine UF ?_;refine W.ret (fin1 rfl rfl (tX ?_) rfl);rw [e];rfl
 .have e:WI s p≠0:=zi hp;refine UF ?_;refine W.ret (fin1 rfl rfl (tX ?_) rfl);rw [show (WI s p == 0)=false by simpa using e];rfl
theorem azb (a b c d:Int) (w:World):(Op.equal 275 (.agg #[.int .i64 a,.int .i64 b]) (.agg #[.int .i64 c,.int .i64 d])).run Tryz.prog w=.ok (decide (((a,b):Ln)=(c,d))) w:=by
 unfold Op.equal Op.maxDepth;rw [run_equalIn_agg w 9999 _ _ _ aK aK];refine Eq.trans (congrArg (λfs=>Sem.run _ (Op.eqFields 9999 _ _ fs) w) (rfl:(Tryz.prog.fieldsOf 275).toList=[_,_])) ?_;by_cases h1:a=c
 .by_cases h2:b=d;.subst h1 h2;simp [go_sem]
  .subst h1;simp [go_sem,h2]
 .simp [go_sem,h1]
theorem awh (a b:Int)(em:Bool)(w:World):(Instr.checkKey em 10000 275 (.agg #[.int .i64 a,.int .i64 b])).run Tryz.prog w=.ok () w:=by
 have hu:Tryz.prog.underlying 275=some (.struct (Tryz.prog.fieldsOf 275)):=by kernel_rfl
 have hf:(Tryz.prog.fieldsOf 275).toList=[_,_]:=rfl;unfold Instr.checkKey;rw [Sem.run_bind,run_underlying hu];simp only [Result.andThen_ok];have hp:Tryz.prog.plainKey 3=true:=by kernel_rfl
 have hi:Tryz.prog.underlying 3=some (.int .i64):=by kernel_rfl
 have p1:(part 3 #[Value.int .i64 a,.int .i64 b] 0).run Tryz.prog w=.ok (.int .i64 a) w:=run_part_plain w hp rfl;have p2:(part 3 #[Value.int .i64 a,.int .i64 b] 1).run Tryz.prog w=.ok (.int .i64 b) w:=run_part_plain w hp rfl;have c1:∀ z:Int,(Instr.checkKey em 9999 3 (.int .i64 z)).run Tryz.prog w=.ok () w:=λz=>by
  unfold Instr.checkKey;simp [run_underlying hi]
 rw [← Array.forIn_toList,hf];simp [p1,p2,c1]
theorem ahd (k:Ln)(w:World):∀ (es:List MapEntry)(l:List (Ln×Value))(i:Nat),es.map (λe=>(e.key,e.val))=l.map (λx=>(zD x.1,x.2))->(Instr.findAsking 275 (zD k) es i).run Tryz.prog w=.ok (zN k i l) w
 | [],[],i,_=>rfl| [],x::r,i,h=>by cases h| e::es,[],i,h=>by cases h| e::es,x::r,i,h=>by
  simp only [AB,List.cons.injEq,Prod.mk.injEq] at h;unfold Instr.findAsking;have h1:(Op.equal 275 (zD k) e.key).run Tryz.prog w=.ok (decide (k=x.1)) w:=by rw [h.1.1];exact azb k.1 k.2 x.1.1 x.1.2 w
  rw [Sem.run_bind,h1];simp only [Result.andThen_ok];unfold zN;by_cases hk:k=x.1;.rw [bQ hk,if_pos hk,← h.1.2];rfl
  .rw [bW hk,if_neg hk];exact ahd k w es r (i+1) h.2
theorem Wh:anV Tryz.prog 275 zD where
 chk:=λw b k=>awh k.1 k.2 b w
 fnd:=λw k es l he=>by
  rw [run_findKey_eq w aK];exact ahd k w es l 0 he
 bits:=λk=>by
  unfold zD;simp [Instr.sameBits]
theorem rLn {G:Gh} {a b:Int} {v:Value} (r:R G (.ag [.sc (.int .i64 a),.sc (.int .i64 b)]) v):v=zD (a,b):=by
 obtain ⟨cs,rfl,h1,h2⟩:=r.Ed;have:=DX (G:=G) (l:=[.sc (.int .i64 a),.sc (.int .i64 b)]) rfl (cs:=cs.toList) yh λi av u p q=>h2 i av u p wF;have e:cs=#[.int .i64 a,.int .i64 b]:=by apply AQ;exact this
 rw [e];rfl
theorem aqy {P:Program} {C:Cx} {σ σ':St} {fn:Func} {res:AV} {M':List (Nat×AO)} {bP:Nat} {e:Exit} (h:Tr C σ σ')(k:nR P fn C res M' bP e σ'):nR P fn C res M' bP e σ :=⟨k.1,λG a w ok=>by obtain⟨G',ok'⟩:=h G a w ok;exact k.2 G' a w ok'⟩
theorem aqx {P:Program} {C:Cx} {σ:St} {fn:Func} {aW:List AV} {res:AV} {M':List (Nat×AO)} {bP:Nat} (h:Af P σ fn.results.toList=some aW)(hp:aW.all (λav=>!ownB av)=true)(e:resT aW=res)(hM:σ.M=M')(hk:σ.nk=bP):nR P fn C res M' bP .normal σ :=⟨.inl rfl,(BN h hp e hM hk).2⟩
def Am (key:Int)(alt:List (Ln×Int)):List (Nat×AO):=[(0,.opq (uH zD (JD alt))),(1,.box 336 [.sc (.int .i64 key),.sl 0])]
theorem WZ (key:Int):jr jJ 0 Tryz.prog 179 [.sc (.int .i64 key)] [] 0 (.pt 1 0 0) (Am key []) 2:=by
 refine jr.intro mG Tryz.func179 rfl Tryz.ntmps179 (bG rfl) rfl λw0 F0 fp pg hB=>?_;refine iU ?_;refine H7 ?_;refine WL.mkm zD rfl rfl ?_;refine H7 ?_;refine W.tr (σ':=⟨[(2,.pt 1 0 0)],Am key [],2⟩) (zqt id) ?_;exact lT
theorem Uf (key:Int) (alt:List (Ln×Int)):jr jJ 0 Tryz.prog 180 [.pt 1 0 0] (Am key alt) 2 (.tu []) (Am key []) 2:=by
 refine jr.intro mG Tryz.func180 rfl Tryz.ntmps180 (bG rfl) rfl λw0 F0 fp pg hB=>?_;dsimp only [number,Nat.reduceAdd,Am];refine abC ?_;refine WL.vl rfl (WV.IC rfl rfl) ?_;refine abC ?_;refine WL.mcl rfl rfl rfl rfl rfl rfl rfl ?_;refine abC ?_;refine aqy (σ':=⟨[],Am key [],2⟩) (zqt id) ?_;exact aqx rfl rfl rfl rfl rfl
theorem aa4 (key:Int) (alt:List (Ln×Int)) (a b v:Int) (hv:-1<=v/\v<=1):jr jJ 0 Tryz.prog 183 [.pt 1 0 0,.ag [.sc (.int .i64 a),.sc (.int .i64 b)],.sc (.int .i64 v)] (Am key alt) 2 (.tu []) (Am key (Nr (a,b) (v+2) alt)) 2:=by
 refine jr.intro mG Tryz.func183 rfl Tryz.ntmps183 (bG rfl) rfl λw0 F0 fp pg hB=>?_;dsimp only [number,Nat.reduceAdd,Am];refine akF ?_;refine W.dkT 7 aK aK aK aK ?_;refine ad2 ?_;refine DK.vl rfl (WV.IC rfl rfl) ?_;refine ad2 ?_;refine ⟨rfl,?_⟩;refine WL.mup Wh rfl rfl rfl rfl rfl rfl rfl (λG v r=>rLn r) rfl rfl (QS (a,b) (v+2) alt) ?_;refine akF ?_;refine aqy (σ':=⟨[],Am key (Nr (a,b) (v+2) alt),2⟩) (zqt id) ?_;exact aqx rfl rfl rfl rfl rfl
theorem Y8(l:Int):(IntKind.u8.wrap l).toNat.toUInt8=byteOf l:=by
 unfold byteOf;congr 2
theorem acN(l:List UInt8)(c:UInt8):-1<=Lib.indexByte l c/\Lib.indexByte l c<=l.length:=by
 refine⟨Lib.indexByte_ge l c,?_⟩;induction l with
 | nil=>unfold Lib.indexByte;simp| cons b r ih =>
  unfold Lib.indexByte;split;.simp;omega
  .split;.simp;omega
   .simp;omega
theorem Es (s:List UInt8)(z:Int):bC Tryz.prog 235 [.sc (.string (bs s)),.sc (.int .u8 z)] (.sc (.int .i64 (Lib.indexByte s z.toNat.toUInt8))) :=bC.nX rfl (λ_=>.sc _) λw=>(Tryz.strings_IndexByte (bs s) z w).mono λe w'⟨he,hw⟩=>⟨by rw [he];rfl,hw ▸ Below.refl _ _⟩
theorem Ue (key:Int) (alt:List (Ln×Int)) (a b:Int) (hk:-4<=key/\key<=4) (hA:sF alt):jr jJ 0 Tryz.prog 181 [.pt 1 0 0,.ag [.sc (.int .i64 a),.sc (.int .i64 b)]] (Am key alt) 2 (.sc (.int .i64 (ahG key alt (a,b)))) (Am key alt) 2:=by
 have hl:=hA (a,b);have hlk:=ZM (a,b) alt;have hx1:=Es [3,0,4,1] (IntKind.u8.wrap a);have hx2:=Es [6,2,5,1] (IntKind.u8.wrap a);rw [Y8] at hx1 hx2;have hb1:=acN [3,0,4,1] (byteOf a);have hb2:=acN [6,2,5,1] (byteOf a);have hfr:ahG key alt (a,b)=if 0 < lookA (a,b) alt then lookA (a,b) alt - 2 else if 0<=Lib.indexByte [3,0,4,1] (byteOf a)/\Lib.indexByte [3,0,4,1] (byteOf a) < key then 1 else if 0<=Lib.indexByte [6,2,5,1] (byteOf a)/\Lib.indexByte [6,2,5,1] (byteOf a) < 0 - key then -1 else 0:=rfl;rw [hfr];obtain ⟨v,hv⟩:∃ v,lookA (a,b) alt=v:=⟨_,rfl⟩;obtain ⟨i1,hi1⟩:∃ v,Lib.indexByte [3,0,4,1] (byteOf a)=v:=⟨_,rfl⟩;obtain ⟨i2,hi2⟩:∃ v,Lib.indexByte [6,2,5,1] (byteOf a)=v:=⟨_,rfl⟩;rw [hv] at hl hlk ⊢;rw [hi1] at hx1 hb1 ⊢;rw [hi2] at hx2 hb2 ⊢;simp only [pW,AA] at hb1 hb2;by_cases h1:0 < v
 .rw [if_pos h1];refine jr.intro mG Tryz.func181 rfl Tryz.ntmps181 (bG rfl) rfl λw0 F0 fp pg hB=>?_;refine ad4 ?_;refine DK.vl rfl (WV.cast (WV.mlk Wh rfl rfl rfl rfl rfl rfl (λG v r=>rLn r)) (congrArg AV.sc hlk)) ?_;refine wG ?_;refine UG ?_;refine W.tr (σ':=⟨[(4,.sc (.int .i64 (v - 2)))],Am key alt,2⟩) (zqt id) ?_;exact lT
 rw [if_neg h1];by_cases h2:0<=i1/\i1 < key
 .rw [if_pos h2];refine jr.intro mG Tryz.func181 rfl Tryz.ntmps181 (bG rfl) rfl λw0 F0 fp pg hB=>?_;refine ad4 ?_;refine DK.vl rfl (WV.cast (WV.mlk Wh rfl rfl rfl rfl rfl rfl (λG v r=>rLn r)) (congrArg AV.sc hlk)) ?_;refine ak4 ?_;refine WL.vl rfl (aS Tryz.func235 hx1) ?_;refine YP ?_;refine W.tr (σ':=⟨[(4,.sc (.int .i64 1))],Am key alt,2⟩) (zqt id) ?_;exact lT
 rw [if_neg h2];have h3:i1 < 0\/(0<=i1/\¬ i1 < key):=by omega
 by_cases h4:0<=i2/\i2 < 0 - key
 .rw [if_pos h4];rcases h3 with h3|h3;all_goals
   refine jr.intro mG Tryz.func181 rfl Tryz.ntmps181 (bG rfl) rfl λw0 F0 fp pg hB=>?_;refine ad4 ?_;refine DK.vl rfl (WV.cast (WV.mlk Wh rfl rfl rfl rfl rfl rfl (λG v r=>rLn r)) (congrArg AV.sc hlk)) ?_;refine ak4 ?_;refine WL.vl rfl (aS Tryz.func235 hx1) ?_;refine YP ?_;refine WL.cvt rfl rfl rfl rfl ?_;refine WL.vl rfl (aS Tryz.func235 hx2) ?_;refine YP ?_;refine W.tr (σ':=⟨[(4,.sc (.int .i64 (-1)))],Am key alt,2⟩) (zqt id) ?_;exact W.ret (BN rfl rfl rfl rfl rfl)
 .rw [if_neg h4];have h5:i2 < 0\/(0<=i2/\¬ i2 < 0 - key):=by omega
  rcases h3 with h3|h3;all_goals rcases h5 with h5|h5
  all_goals
   refine jr.intro mG Tryz.func181 rfl Tryz.ntmps181 (bG rfl) rfl λw0 F0 fp pg hB=>?_;refine ad4 ?_;refine DK.vl rfl (WV.cast (WV.mlk Wh rfl rfl rfl rfl rfl rfl (λG v r=>rLn r)) (congrArg AV.sc hlk)) ?_;refine ak4 ?_;refine WL.vl rfl (aS Tryz.func235 hx1) ?_;refine YP ?_;refine WL.cvt rfl rfl rfl rfl ?_;refine WL.vl rfl (aS Tryz.func235 hx2) ?_;refine YP ?_;refine W.tr (σ':=⟨[(4,.sc (.int .i64 0))],Am key alt,2⟩) (zqt id) ?_;exact W.ret (BN rfl rfl rfl rfl rfl)
end
end Go.Proofs.YthohlofpphjofaaGreatDoor
