/- Place, cell and the time words of the program, in any system, over trees. -/
import Derived.Test.YthohlofpphjofaaGreatDoorRq5Gq
import Derived.Test.YthohlofpphjofaaGreatDoorFBbGq
import Derived.Test.YthohlofpphjofaaGreatDoorGXGq
set_option maxHeartbeats 8000000
set_option maxRecDepth 100000
set_option linter.unusedVariables false
set_option linter.unusedSimpArgs false
namespace Go.Proofs.YthohlofpphjofaaGreatDoor
theorem adb {p:Prop}(h:p:=by rw [h0 0 (by omega)];decide):p:=h
theorem ac8 {p:Prop}(h:p:=by simp only [bW,iC];omega):p:=h
theorem MR {p:Prop}(h:p:=by
 refine iR ?_
 exact oO):p:=h
theorem U0 {p:Prop}(h:p:=by
 refine ⟨k+1,by omega,by omega,?_⟩
 exact afj):p:=h
theorem FT {p:Prop}(h:p:=by
 refine amF ?_
 exact oO):p:=h
theorem aeu {p:Prop}(h:p:=by
 refine uP ?_
 exact ⟨f+1,q,by omega,(zqt id)⟩):p:=h
theorem adn {p q:Prop}(k:q)(h:aS q→p:=by
 intro hq
 refine yT ?_
 refine WI ?_
 refine WL.cvt rfl rfl rfl rfl ?_
 exact hq.k):p:=h ⟨k⟩
theorem WX {p q:Prop}(k:q)(h:aS q→p:=by
 intro hq
 refine amR ?_
 refine iT ?_
 refine yT ?_
 refine DK.vl rfl (WV.nch rfl rfl) ?_
 refine yT ?_
 exact hq.k):p:=h ⟨k⟩
theorem amR {p q:Prop}(k:q)(h:aS q→p:=by
 intro hq
 dsimp only [number,Nat.reduceAdd,uD]
 refine amE ?_
 exact hq.k):p:=h ⟨k⟩
theorem Qr {p q:Prop}(k:q)(h:aS q→p:=by
 intro hq
 refine WI ?_
 repeat (refine WL.vl rfl (WV.nch rfl rfl) ?_)
 refine WI ?_
 exact hq.k):p:=h ⟨k⟩
section
open Go.RowKit
theorem anj (a b c d:Int) (w:World):(Op.equal 275 (.agg #[.int .i64 a,.int .i64 b]) (.agg #[.int .i64 c,.int .i64 d])).run Tryz.prog w=.ok (decide (((a,b):Ln)=(c,d))) w:=by
 unfold Op.equal Op.maxDepth
 rw [run_equalIn_agg w 9999 _ _ _ aK aK]
 refine Eq.trans (congrArg (fun fs=>Sem.run _ (Op.eqFields 9999 _ _ fs) w) (rfl:(Tryz.prog.fieldsOf 275).toList=[_,_])) ?_
 by_cases h1:a=c
 ·by_cases h2:b=d
  ·subst h1 h2;simp [go_sem]
  ·subst h1;simp [go_sem,h2]
 ·simp [go_sem,h1]
theorem alq (a b:Int)(em:Bool)(w:World):(Instr.checkKey em 10000 275 (.agg #[.int .i64 a,.int .i64 b])).run Tryz.prog w=.ok () w:=by
 have hu:Tryz.prog.underlying 275=some (.struct (Tryz.prog.fieldsOf 275)):=by kernel_rfl
 have hf:(Tryz.prog.fieldsOf 275).toList=[_,_]:=rfl
 unfold Instr.checkKey
 rw [Sem.run_bind,run_underlying hu]
 simp only [Result.andThen_ok]
 have hp:Tryz.prog.plainKey 3=true:=by kernel_rfl
 have hi:Tryz.prog.underlying 3=some (.int .i64):=by kernel_rfl
 have p1:(part 3 #[Value.int .i64 a,.int .i64 b] 0).run Tryz.prog w=.ok (.int .i64 a) w:=run_part_plain w hp rfl
 have p2:(part 3 #[Value.int .i64 a,.int .i64 b] 1).run Tryz.prog w=.ok (.int .i64 b) w:=run_part_plain w hp rfl
 have c1:∀ z:Int,(Instr.checkKey em 9999 3 (.int .i64 z)).run Tryz.prog w=.ok () w:=fun z=>by
  unfold Instr.checkKey
  simp [run_underlying hi]
 rw [← Array.forIn_toList,hf]
 simp [p1,p2,c1]
theorem Z7 (k:Ln)(w:World):∀ (es:List MapEntry)(l:List (Ln×Value))(i:Nat),es.map (fun e=>(e.key,e.val))=l.map (fun x=>(tJ x.1,x.2))→(Instr.findAsking 275 (tJ k) es i).run Tryz.prog w=.ok (locK k i l) w
 | [],[],i,_=>rfl
 | [],x::r,i,h=>by cases h
 | e::es,[],i,h=>by cases h
 | e::es,x::r,i,h=>by
  simp only [qM,List.cons.injEq,Prod.mk.injEq] at h
  unfold Instr.findAsking
  have h1:(Op.equal 275 (tJ k) e.key).run Tryz.prog w=.ok (decide (k=x.1)) w:=by
   rw [h.1.1];exact anj k.1 k.2 x.1.1 x.1.2 w
  rw [Sem.run_bind,h1]
  simp only [Result.andThen_ok]
  unfold locK
  by_cases hk:k=x.1
  ·rw [fQ hk,if_pos hk,← h.1.2];rfl
  ·rw [dW hk,if_neg hk]
   exact Z7 k w es r (i+1) h.2
theorem NZ:KeyK Tryz.prog 275 tJ where
 chk:=fun w b k=>alq k.1 k.2 b w
 fnd:=fun w k es l he=>by
  rw [run_findKey_eq w aK]
  exact Z7 k w es l 0 he
 bits:=fun k=>by
  unfold tJ
  simp [Instr.sameBits]
theorem rLn {G:Gh} {a b:Int} {v:Value} (r:R G (.ag [.sc (.int .i64 a),.sc (.int .i64 b)]) v):v=tJ (a,b):=by
 obtain ⟨cs,rfl,h1,h2⟩:=r.ag_of
 have:=scs_of (G:=G) (l:=[.sc (.int .i64 a),.sc (.int .i64 b)]) rfl (cs:=cs.toList) pz fun i av u p q=>h2 i av u p pF
 have e:cs=#[.int .i64 a,.int .i64 b]:=by apply uI;exact this
 rw [e];rfl
theorem ahO {P:Program} {C:Cx} {σ σ':St} {fn:Func} {res:AV} {M':List (Nat×AO)} {nk':Nat} {e:Exit} (h:Tr C σ σ')(k:QFinM P fn C res M' nk' e σ'):QFinM P fn C res M' nk' e σ :=
 ⟨k.1,fun G a w ok=>by obtain⟨G',ok'⟩:=h G a w ok;exact k.2 G' a w ok'⟩
theorem ahN {P:Program} {C:Cx} {σ:St} {fn:Func} {avs:List AV} {res:AV} {M':List (Nat×AO)} {nk':Nat} (h:resL P σ fn.results.toList=some avs)(hp:avs.all (fun av=>!ownB av)=true)(e:resT avs=res)(hM:σ.M=M')(hk:σ.nk=nk'):QFinM P fn C res M' nk' .normal σ :=
 ⟨.inl rfl,(finM h hp e hM hk).2⟩
def uD (key:Int)(alt:List (Ln×Int)):List (Nat×AO):=[(0,.opq (mapQ tJ (BH alt))),(1,.box 336 [.sc (.int .i64 key),.sl 0])]
theorem Oo (key:Int):Cto truB 0 Tryz.prog 179 [.sc (.int .i64 key)] [] 0 (.pt 1 0 0) (uD key []) 2:=by
 refine Cto.intro truS Tryz.func179 rfl Tryz.ntmps179 (aP rfl) rfl fun w0 F0 fp pg hB=>?_
 refine jw ?_
 refine qP ?_
 refine WL.mkm tJ rfl rfl ?_
 refine qP ?_
 refine W.tr (σ':=⟨[(2,.pt 1 0 0)],uD key [],2⟩) (zqt id) ?_
 exact jJ
theorem Lh (key:Int) (alt:List (Ln×Int)):Cto truB 0 Tryz.prog 180 [.pt 1 0 0] (uD key alt) 2 (.tu []) (uD key []) 2:=by
 refine Cto.intro truS Tryz.func180 rfl Tryz.ntmps180 (aP rfl) rfl fun w0 F0 fp pg hB=>?_
 dsimp only [number,Nat.reduceAdd,uD]
 refine ac3 ?_
 refine WL.vl rfl (WV.nch rfl rfl) ?_
 refine ac3 ?_
 refine WL.mcl rfl rfl rfl rfl rfl rfl rfl ?_
 refine ac3 ?_
 refine ahO (σ':=⟨[],uD key [],2⟩) (zqt id) ?_
 exact ahN rfl rfl rfl rfl rfl
theorem TG (key:Int) (alt:List (Ln×Int)) (a b v:Int) (hv:-1≤v∧v≤1):Cto truB 0 Tryz.prog 183 [.pt 1 0 0,.ag [.sc (.int .i64 a),.sc (.int .i64 b)],.sc (.int .i64 v)] (uD key alt) 2 (.tu []) (uD key (Ep (a,b) (v+2) alt)) 2:=by
 refine Cto.intro truS Tryz.func183 rfl Tryz.ntmps183 (aP rfl) rfl fun w0 F0 fp pg hB=>?_
 dsimp only [number,Nat.reduceAdd,uD]
 refine aip ?_
 refine W.dkT 7 aK aK aK aK ?_
 refine WW ?_
 refine DK.vl rfl (WV.nch rfl rfl) ?_
 refine WW ?_
 refine ⟨rfl,?_⟩
 refine WL.mup NZ rfl rfl rfl rfl rfl rfl rfl (fun G v r=>rLn r) rfl rfl (IZ (a,b) (v+2) alt) ?_
 refine aip ?_
 refine ahO (σ':=⟨[],uD key (Ep (a,b) (v+2) alt),2⟩) (zqt id) ?_
 exact ahN rfl rfl rfl rfl rfl
theorem QC(l:Int):(IntKind.u8.wrap l).toNat.toUInt8=byteOf l:=by
 unfold byteOf
 congr 2
theorem Vs(l:List UInt8)(c:UInt8):-1≤Lib.indexByte l c∧Lib.indexByte l c≤l.length:=by
 refine⟨Lib.indexByte_ge l c,?_⟩
 induction l with
 | nil=>unfold Lib.indexByte;simp
 | cons b r ih =>
  unfold Lib.indexByte
  split
  ·simp;omega
  ·split
   ·simp;omega
   ·simp;omega
theorem xQ (s:List UInt8)(z:Int):Ctr Tryz.prog 235 [.sc (.string (bs s)),.sc (.int .u8 z)] (.sc (.int .i64 (Lib.indexByte s z.toNat.toUInt8))) :=
 Ctr.vS rfl (fun _=>.sc _) fun w=>(Tryz.strings_IndexByte (bs s) z w).mono fun e w'⟨he,hw⟩=>⟨by rw [he];rfl,hw ▸ Below.refl _ _⟩
theorem Le (key:Int) (alt:List (Ln×Int)) (a b:Int) (hk:-4≤key∧key≤4) (hA:mX alt):Cto truB 0 Tryz.prog 181 [.pt 1 0 0,.ag [.sc (.int .i64 a),.sc (.int .i64 b)]] (uD key alt) 2 (.sc (.int .i64 (aav key alt (a,b)))) (uD key alt) 2:=by
 have hl:=hA (a,b)
 have hlk:=Rj (a,b) alt
 have hx1:=xQ [3,0,4,1] (IntKind.u8.wrap a)
 have hx2:=xQ [6,2,5,1] (IntKind.u8.wrap a)
 rw [QC] at hx1 hx2
 have hb1:=Vs [3,0,4,1] (byteOf a)
 have hb2:=Vs [6,2,5,1] (byteOf a)
 have hfr:aav key alt (a,b)=if 0 < lookA (a,b) alt then lookA (a,b) alt - 2 else if 0≤Lib.indexByte [3,0,4,1] (byteOf a)∧Lib.indexByte [3,0,4,1] (byteOf a) < key then 1 else if 0≤Lib.indexByte [6,2,5,1] (byteOf a)∧Lib.indexByte [6,2,5,1] (byteOf a) < 0 - key then -1 else 0:=rfl
 rw [hfr]
 obtain ⟨v,hv⟩:∃ v,lookA (a,b) alt=v:=⟨_,rfl⟩
 obtain ⟨i1,hi1⟩:∃ v,Lib.indexByte [3,0,4,1] (byteOf a)=v:=⟨_,rfl⟩
 obtain ⟨i2,hi2⟩:∃ v,Lib.indexByte [6,2,5,1] (byteOf a)=v:=⟨_,rfl⟩
 rw [hv] at hl hlk ⊢
 rw [hi1] at hx1 hb1 ⊢
 rw [hi2] at hx2 hb2 ⊢
 simp only [bW,iC] at hb1 hb2
 by_cases h1:0 < v
 ·rw [if_pos h1]
  refine Cto.intro truS Tryz.func181 rfl Tryz.ntmps181 (aP rfl) rfl fun w0 F0 fp pg hB=>?_
  refine WX ?_
  refine DK.vl rfl (WV.cast (WV.mlk NZ rfl rfl rfl rfl rfl rfl (fun G v r=>rLn r)) (congrArg AV.sc hlk)) ?_
  refine yT ?_
  refine WI ?_
  refine W.tr (σ':=⟨[(4,.sc (.int .i64 (v - 2)))],uD key alt,2⟩) (zqt id) ?_
  exact jJ
 rw [if_neg h1]
 by_cases h2:0≤i1∧i1 < key
 ·rw [if_pos h2]
  refine Cto.intro truS Tryz.func181 rfl Tryz.ntmps181 (aP rfl) rfl fun w0 F0 fp pg hB=>?_
  refine WX ?_
  refine DK.vl rfl (WV.cast (WV.mlk NZ rfl rfl rfl rfl rfl rfl (fun G v r=>rLn r)) (congrArg AV.sc hlk)) ?_
  refine adn ?_
  refine WL.vl rfl (bU Tryz.func235 hx1) ?_
  refine Qr ?_
  refine W.tr (σ':=⟨[(4,.sc (.int .i64 1))],uD key alt,2⟩) (zqt id) ?_
  exact jJ
 rw [if_neg h2]
 have h3:i1 < 0∨(0≤i1∧¬ i1 < key):=by omega
 by_cases h4:0≤i2∧i2 < 0 - key
 ·rw [if_pos h4]
  rcases h3 with h3|h3
  all_goals
   refine Cto.intro truS Tryz.func181 rfl Tryz.ntmps181 (aP rfl) rfl fun w0 F0 fp pg hB=>?_
   refine WX ?_
   refine DK.vl rfl (WV.cast (WV.mlk NZ rfl rfl rfl rfl rfl rfl (fun G v r=>rLn r)) (congrArg AV.sc hlk)) ?_
   refine adn ?_
   refine WL.vl rfl (bU Tryz.func235 hx1) ?_
   refine Qr ?_
   refine WL.cvt rfl rfl rfl rfl ?_
   refine WL.vl rfl (bU Tryz.func235 hx2) ?_
   refine Qr ?_
   refine W.tr (σ':=⟨[(4,.sc (.int .i64 (-1)))],uD key alt,2⟩) (zqt id) ?_
   exact W.ret (finM rfl rfl rfl rfl rfl)
 ·rw [if_neg h4]
  have h5:i2 < 0∨(0≤i2∧¬ i2 < 0 - key):=by omega
  rcases h3 with h3|h3
  all_goals
   rcases h5 with h5|h5
  all_goals
   refine Cto.intro truS Tryz.func181 rfl Tryz.ntmps181 (aP rfl) rfl fun w0 F0 fp pg hB=>?_
   refine WX ?_
   refine DK.vl rfl (WV.cast (WV.mlk NZ rfl rfl rfl rfl rfl rfl (fun G v r=>rLn r)) (congrArg AV.sc hlk)) ?_
   refine adn ?_
   refine WL.vl rfl (bU Tryz.func235 hx1) ?_
   refine Qr ?_
   refine WL.cvt rfl rfl rfl rfl ?_
   refine WL.vl rfl (bU Tryz.func235 hx2) ?_
   refine Qr ?_
   refine W.tr (σ':=⟨[(4,.sc (.int .i64 0))],uD key alt,2⟩) (zqt id) ?_
   exact W.ret (finM rfl rfl rfl rfl rfl)
theorem JJ {st:List Int}:∀ {cs:List (Int×Int×Bool)},tH st cs=0→∀ k (h:k<cs.length),(0≤cs[k].1∧cs[k].1≤127)∧0≤cs[k].2.1∧cs[k].2.1≤st.length
 | [],_,k,h=>by simp at h
 | x::r,hc,k,h=>by
  unfold tH at hc
  split at hc
  ·cases hc
  ·split at hc
   ·cases hc
   ·cases k with
    | zero=>simp only [uK];omega
    | succ k=>simp only [LY];exact JJ hc k uT
theorem GU {cs:List (Int×Int×Bool)} {st:List Int} (h:gB cs st=0) (k:Nat):(oQ (cs.take k)).length≤700:=by
 obtain ⟨h1,h2,h3,h4,h5⟩:=jK h
 have:=zf (l:=cs.take k) (f:=JK) (b:=46) fun x hx=>by
  obtain ⟨j,hj,rfl⟩:=fZ (EY hx)
  have:=JJ h5 j hj
  exact aai this.1 ⟨this.2.1,by omega⟩
 have hl:(cs.take k).length≤14:=by rw [jR];omega
 have:46*(cs.take k).length≤46*14:=Uo 46 hl
 unfold oQ;omega
theorem IL {cs:List (Int×Int×Bool)} {st:List Int} (h:gB cs st=0) (k:Nat):(qI (st.take k)).length≤400:=by
 obtain ⟨h1,h2,h3,h4,h5⟩:=jK h
 have:=zf (l:=st.take k) (f:=Zy) (b:=21) fun x hx=>by
  obtain ⟨j,hj,rfl⟩:=fZ (EY hx)
  have:=kE (ni 0) h4 j hj
  have:=jL (n:=st[j]) aj
  unfold Zy
  exact Jv
 have hl:(st.take k).length≤18:=by rw [jR];omega
 have:21*(st.take k).length≤21*18:=Uo 21 hl
 unfold qI;omega
def fmA (cs:List (Int×Int×Bool))(st:List Int):List UInt8:=if gB cs st=0 then Gf cs st else []
theorem akl {l al o:Int} (h:gX l al o=true):nmA l al o=nmT l al o:=if_pos h
theorem YT (cs:List (Int×Int×Bool)) (st:List Int):Ctg qc Tryz.prog 52 [.ag (oJ cs st)] (.tu [.sc (.string (bs (fmA cs st))),.sc (.int .i64 (gB cs st))]):=by
 refine Ctg.intro jq Tryz.func52 rfl Tryz.ntmps52 (aP rfl) (aT rfl) fun w0 F0 hB=>?_;dsimp only [St.init,number,Nat.reduceAdd]
 refine ac4 ?_
 refine WL.vl rfl (WV.call rfl (callF Tryz.func103 rfl rfl) rfl rfl (rO cs st)) ?_
 by_cases h0:gB cs st=0
 rotate_left
 ·have hA:fmA cs st=[]:=if_neg h0
  rw [hA]
  exact MR
 have hA:fmA cs st=oQ cs++[58]++qI st:=if_pos h0
 have hz:=jK h0
 obtain ⟨hz1,hz2,hz3,hz4,hz5⟩:=hz
 have hcl:=GU h0
 have hsl:=IL h0
 rw [h0,hA]
 clear hA
 refine iR ?_
 first|refine W.tr (Tr.bld 1 5 rfl) ?_|refine WL.tr (Tr.bld 1 5 rfl) ?_
 dsimp only [St.upd]
 refine iR ?_
 refine W.loop (fun k:Nat=>k≤cs.length) (fun k=>⟨[(1,.pt 0 0 0),(5,.pt 1 0 0),(19,.ls 3 (cs.map aW)),(20,.sc (.int .i64 cs.length)),(21,.sc (.int .i64 k))],[(0,.box 27 (oJ cs st)),(1,.bld 103 5 (oQ (cs.take k)))],2⟩) (fun k=>cs.length - k) 0 aj (zqt id) fun k hk=>?_
 by_cases hk2:k < cs.length
 ·have hb:=JJ hz5 k hk2
  have hsp:=TF hb.1
  have hSp:=Pv cs[k].1 0
  have hNm:=abN (oH cs[k].1 0).1 (oH cs[k].1 0).2.1 (oH cs[k].1 0).2.2
  have hnl:=VJ hsp.2
  have hil:=jL (n:=cs[k].2.1) aj
  have hIt:=zn cs[k].2.1 sV
  have hrow:=QM hk2
  have hck:=hcl k
  unfold JK at hrow
  rw [hsp.1] at hSp
  rw [(mW hsp.2).2,akl hsp.2] at hNm
  obtain ⟨x,hx⟩:∃ x,cs[k]=x:=⟨_,rfl⟩
  refine iR ?_
  rw [hx] at hb hSp hNm hnl hil hIt hrow hsp ⊢
  obtain ⟨sp,an1⟩:∃ z,oH x.1 0=z:=⟨_,rfl⟩
  rw [an1] at hSp hNm hnl hrow
  obtain ⟨nm,anT⟩:∃ z,nmT sp.1 sp.2.1 sp.2.2=z:=⟨_,rfl⟩
  rw [anT] at hNm hnl hrow
  obtain ⟨io,ajZ⟩:∃ z,Lib.itoa x.2.1=z:=⟨_,rfl⟩
  rw [ajZ] at hIt hil hrow
  obtain ⟨cc,hcc⟩:∃ z,oQ (cs.take k)=z:=⟨_,rfl⟩
  rw [hcc] at hrow hck ⊢
  refine WL.vl rfl (WV.callG hB rfl (callF Tryz.func106 rfl rfl) rfl rfl hSp) ?_
  refine iR ?_
  refine WL.vl rfl (WV.callG hB rfl (callF Tryz.func107 rfl rfl) rfl rfl hNm) ?_
  refine iR ?_
  refine WL.vl rfl (WV.callG hB rfl (callF Tryz.func108 rfl rfl) rfl rfl hIt) ?_
  have hcat:(nm++[47]).length≤23:=by simp only [bJ,bW,iC];omega
  have aoI:(nm++[47]++io).length≤43:=by rw [bJ];omega
  refine iR ?_
  refine WL.bw rfl rfl rfl (callF Tryz.func53 rfl rfl) kJ aj rfl ?_
  have alT:(cc++(nm++[47]++io)).length≤743:=by rw [bJ];omega
  refine iR ?_
  (refine W.cond rfl (fun hif=>?_) (fun hif=>?_)<;>(try simp only [bD,bK,dM,dN,dn,dO] at hif))
  ·rw [hif,if_pos rfl] at hrow
   have hrow2:cc++(nm++[47]++io)++[43]++[32]=oQ (cs.take (k+1)):=by rw [hrow];simp [lD]
   refine iR ?_
   refine WL.bw rfl rfl rfl (callF Tryz.func53 rfl rfl) kJ ac8 rfl ?_
   refine iR ?_
   refine WL.bw rfl rfl rfl (callF Tryz.func53 rfl rfl) kJ (by simp only [bJ,bW,iC] at alT ⊢;omega) hrow2 ?_
   refine iR ?_
   exact U0
  ·rw [hif] at hrow
   have hrow2:cc++(nm++[47]++io)++[32]=oQ (cs.take (k+1)):=by rw [hrow];simp [lD]
   refine iR ?_
   refine WL.bw rfl rfl rfl (callF Tryz.func53 rfl rfl) kJ ac8 hrow2 ?_
   refine iR ?_
   exact U0
 have hke:k=cs.length:=by omega
 have hck:=hcl cs.length
 rw [hke]
 rw [fE] at hck ⊢
 obtain ⟨cc,hcc⟩:∃ z,oQ cs=z:=⟨_,rfl⟩
 rw [hcc] at hck ⊢
 refine iR ?_
 refine WL.bw rfl rfl rfl (callF Tryz.func53 rfl rfl) kJ ac8 rfl ?_
 refine iR ?_
 refine W.loop (fun j:Nat=>j≤st.length) (fun j=>⟨[(1,.pt 0 0 0),(5,.pt 1 0 0),(56,.ls 1 (st.map eInt)),(57,.sc (.int .i64 st.length)),(58,.sc (.int .i64 j))],[(0,.box 27 (oJ cs st)),(1,.bld 103 5 (cc++[58]++qI (st.take j)))],2⟩) (fun j=>st.length - j) 0 aj (mP (fun q=>q) (by repeat (first|exact trivial|refine ⟨⟨?_,?_,?_⟩,?_⟩|rfl|exact congrArg (fun q=>some (AO.row _ _ q)) (show cc++[58]=cc++[58]++qI (st.take 0) from (mG _).symm)|exact congrArg (fun q=>some (AO.bld _ _ q)) (show cc++[58]=cc++[58]++qI (st.take 0) from (mG _).symm))) rfl) fun j hj=>?_
 by_cases hj2:j < st.length
 ·have hb:=kE (ni 0) hz4 j hj2
  have hil:=jL (n:=st[j]) aj
  have hIt:=zn st[j] sV
  have hsj:=hsl j
  have hrow:=TL hj2
  unfold Zy at hrow
  obtain ⟨x,hx⟩:∃ x,st[j]=x:=⟨_,rfl⟩
  refine iR ?_
  rw [hx] at hb hil hIt hrow ⊢
  obtain ⟨io,ajZ⟩:∃ z,Lib.itoa x=z:=⟨_,rfl⟩
  rw [ajZ] at hIt hil hrow
  have hrow2:cc++[58]++qI (st.take j)++([32]++io)=cc++[58]++qI (st.take (j+1)):=by rw [hrow];simp [lD]
  refine WL.vl rfl (WV.callG hB rfl (callF Tryz.func108 rfl rfl) rfl rfl hIt) ?_
  refine iR ?_
  refine WL.bw rfl rfl rfl (callF Tryz.func53 rfl rfl) kJ (by simp only [bJ,bW,iC];omega) hrow2 ?_
  refine iR ?_
  refine ⟨j+1,by omega,by omega,?_⟩
  exact afj
 have hje:j=st.length:=by omega
 rw [hje,fE]
 refine iR ?_
 refine WL.bs rfl rfl rfl (callF Tryz.func55 rfl rfl) uU (by simp) ?_
 exact MR
theorem Zr (s c aQ:Int):Ctr Tryz.prog 86 [.sc (.int .u8 s),.sc (.int .i64 c),.sc (.int .i64 aQ)] (.sc (.bool (dU s aQ c))) :=
 Ctr.vS (v:=.bool (dU s aQ c)) rfl (fun _=>.sc _) fun w=>(TJ s c aQ w).mono fun e w'⟨he,hw⟩=>⟨he,hw ▸ Below.refl _ _⟩
theorem P5 (s aQ:Int):Ctr Tryz.prog 85 [.sc (.int .u8 s),.sc (.int .i64 aQ)] (.tu [.sc (if aC s aQ=0 then aU s else .nilIface),.sc (.int .i64 (aC s aQ))]):=by
 refine jc Tryz.func85 Tryz.ntmps85 fun w0 F0=>?_;dsimp only [St.init,number,Nat.reduceAdd]
 refine ac5 ?_
 refine WL.vl rfl (WV.call rfl (callF Tryz.func50 rfl rfl) rfl rfl (Ag s)) ?_
 refine ac5 ?_
 by_cases hs:1≤s∧s≤4
 ·rw [fQ hs]
  by_cases h:(aQ < 0∨6 < aQ)∨(s=4∧aQ≠0)
  ·have e:aC s aQ=12:=by unfold aC;rw [if_neg (by omega),if_pos h]
   rw [e,if_neg (by decide)]
   rcases Classical.em (aQ < 0) with h1|h1
   ·exact FT
   ·rcases Classical.em (6 < aQ) with h2|h2
    ·exact FT
    ·obtain ⟨h3,h4⟩:s=4∧aQ≠0:=by omega
     subst h3
     exact FT
  ·have e:aC s aQ=0:=by unfold aC;rw [if_neg (by omega),if_neg h]
   rw [e,if_pos rfl]
   have h1:¬ aQ < 0:=by omega
   have h2:¬ 6 < aQ:=by omega
   rcases Classical.em (s=4) with h3|h3
   ·have h4:aQ=0:=by omega
    subst h3 h4
    exact FT
   ·exact FT
 ·rw [dW hs]
  have e:aC s aQ=30:=if_pos hs
  rw [e,if_neg (by decide)]
  refine ac5 ?_
  exact oO
theorem ab2 (s aQ:Int) (l:List UInt8):Ctr Tryz.prog 35 [.sc (.int .u8 s),.sc (.int .i64 aQ),.sc (.string (bs l))] (.tu [.ag [.sc (.int .i64 (placeOf s aQ l).1),.sc (.int .i64 (placeOf s aQ l).2.1)],.sc (.int .i64 (placeOf s aQ l).2.2)]):=by
 have hst:=P5 s aQ
 by_cases h:aC s aQ=0
 ·rw [if_pos h,h] at hst
  have hs:1≤s∧s≤4:=Classical.byContradiction fun q=>by rw [show aC s aQ=30 from if_pos q] at h;cases h
  refine jc Tryz.func35 Tryz.ntmps35 fun w0 F0=>?_;dsimp only [St.init,number,Nat.reduceAdd]
  refine Qm ?_
  refine WL.vl rfl (bU Tryz.func85 hst) ?_
  refine Qm ?_
  refine W.loop (fun c:Nat=>1≤c∧c≤15∧ng (Gw s aQ l) 1 14=ng (Gw s aQ l) c (15 - c)) (fun c=>⟨[(0,.sc (.int .u8 s)),(1,.sc (.int .i64 aQ)),(2,.sc (.string (bs l))),(6,.pt 0 0 0),(7,.sc (.int .i64 0)),(8,.sc (aU s)),(10,.sc (.int .i64 c))],[(0,.box 64 [.sc (.int .i64 0),.sc (.int .i64 0)])],1⟩) (fun c=>15 - c) 1 ⟨by omega,by omega,rfl⟩ (zqt id) fun c ⟨h1,h2,h3⟩=>?_
  by_cases hlt:c≤14
  rotate_left
  ·have e:placeOf s aQ l=(0,0,4):=yw h (h3.trans (by rw [show 15 - c=0 by omega];rfl))
   rw [e]
   refine uP ?_
   exact dY
  refine uP ?_
  refine W.loop (fun f:Nat=>f≤19∧mD (Gw s aQ l c) 0 19=mD (Gw s aQ l c) f (19 - f)) (fun f=>⟨[(0,.sc (.int .u8 s)),(1,.sc (.int .i64 aQ)),(2,.sc (.string (bs l))),(6,.pt 0 0 0),(7,.sc (.int .i64 0)),(8,.sc (aU s)),(10,.sc (.int .i64 c)),(11,.sc (.int .i64 f))],[(0,.box 64 [.sc (.int .i64 0),.sc (.int .i64 0)])],1⟩) (fun f=>19 - f) 0 ⟨by omega,rfl⟩ (zqt id) fun f ⟨g1,g2⟩=>?_
  have hnext:mD (Gw s aQ l c) 0 19=none→1≤c+1∧c+1≤15∧ng (Gw s aQ l) 1 14=ng (Gw s aQ l) (c+1) (15 - (c+1)):=fun q=>⟨by omega,by omega,h3.trans (by rw [show 15 - c=15 - (c+1)+1 by omega];exact acv _ _ _ q)⟩
  by_cases hf:f≤18
  rotate_left
  ·have q:=hnext (g2.trans (by rw [show 19 - f=0 by omega];rfl))
   refine uP ?_
   exact ⟨c+1,q,by omega,(zqt id)⟩
  have hsd:=Zr s c aQ
  cases hsb:dU s aQ c with
  | false =>
   rw [hsb] at hsd
   have q:=hnext (TA _ _ _ fun k _ _=>by unfold Gw;rw [hsb];rfl)
   refine uP ?_
   refine WL.vl rfl (bU Tryz.func86 hsd) ?_
   refine uP ?_
   exact ⟨c+1,q,by omega,(zqt id)⟩
  | true =>
   rw [hsb] at hsd
   have hsy:=Lj s hs c f aj aj
   refine uP ?_
   refine WL.vl rfl (bU Tryz.func86 hsd) ?_
   refine uP ?_
   refine WL.vl rfl (WV.sys hs BU rfl rfl (fun vs w=>by kernel_rfl) (fun vs w=>by kernel_rfl) (fun vs w=>by kernel_rfl) (fun vs w=>by kernel_rfl) rfl rfl hsy) ?_
   cases hm:Gw s aQ l c f with
   | true =>
    have e:placeOf s aQ l=((c:Int),(f:Int),0):=rV h (h3.trans (by rw [show 15 - c=14 - c+1 by omega];exact Zf _ _ _ _ (g2.trans (by rw [show 19 - f=18 - f+1 by omega];exact Zg _ _ _ hm))))
    obtain ⟨m1,m2⟩:=ag4 hs ⟨by omega,by omega⟩ hf hm
    rw [e,m1]
    refine uP ?_
    rw [m2]
    refine uP ?_
    exact dY
   | false =>
    have q:f+1≤19∧mD (Gw s aQ l c) 0 19=mD (Gw s aQ l c) (f+1) (19 - (f+1)):=⟨by omega,g2.trans (by rw [show 19 - f=19 - (f+1)+1 by omega];exact acw _ _ _ hm)⟩
    rcases aky hs ⟨by omega,by omega⟩ hf hsb hm with o1|⟨o1,o2⟩
    ·rw [o1]
     exact aeu
    ·rw [o1]
     refine uP ?_
     rw [o2]
     exact aeu
 ·rw [if_neg h] at hst
  rw [Py h]
  have hb:decide (aC s aQ=0)=false:=dW h
  refine jc Tryz.func35 Tryz.ntmps35 fun w0 F0=>?_;dsimp only [St.init,number,Nat.reduceAdd]
  refine Qm ?_
  refine WL.vl rfl (bU Tryz.func85 hst) ?_
  refine Qm ?_
  rw [hb]
  refine Qm ?_
  exact dY
def ptT:Option (Nat×Nat)→AV
 | some (v,i)=>.tu [.ag [.sc (.int .i64 (v:Int)),.sc (.bool (Ar i)),.sc (.bool (yG i))],.sc (.int .i64 0)]
 | none=>.tu [.ag [.sc (.int .i64 0),.sc (.bool false),.sc (.bool false)],.sc (.int .i64 4)]
def F7 (v:Int)(i:Nat):List AV:=[.sc (.int .i64 v),.sc (.bool (Ar i)),.sc (.bool (yG i))]
theorem Qa (s:Int)(hs:1≤s∧s≤4)(v:Int)(i:Nat)(hv:0≤v∧v≤7)(hi:i≤2)(h0:v=0→i=0):Ctr Tryz.prog 110 [.sc (aU s),.ag (F7 v i)] (.tu [.sc (.string (bs (tW v i))),.sc (.bool (vV s v i))]):=by
 rcases bI hs with rfl|rfl|rfl|rfl
 ·exact Ctr.iZ rfl (fun _=>iy) fun w=>amj v i w hv hi h0
 ·exact Ctr.iZ rfl (fun _=>iy) fun w=>amk v i w hv hi h0
 ·exact Ctr.iZ rfl (fun _=>iy) fun w=>aml v i w hv hi h0
 ·exact Ctr.iZ rfl (fun _=>iy) fun w=>amm v i w hv hi h0
theorem aat {m:Nat→Bool}:∀ {j:Nat},j<3→(∀ i,i<j→m i=false)→m j=true→(List.range 3).find? m=some j
 | 0,_,_,h=>by rw [Vo,if_pos h]
 | 1,_,h0,h=>by rw [Vo,if_neg adb,if_pos h]
 | 2,_,h0,h=>by rw [Vo,if_neg adb,if_neg (by rw [h0 1 (by omega)];decide),if_pos h]
theorem aau {m:Nat→Bool} (h0:∀ i,i<3→m i=false):(List.range 3).find? m=none:=by
 rw [Vo,if_neg adb,if_neg (by rw [h0 1 (by omega)];decide),if_neg (by rw [h0 2 (by omega)];decide)]
theorem acB (v:Int):∀ {j:Nat},j<3→[F7 v 0,F7 v 1,F7 v 2][((j:Nat):Int).toNat]?=some (F7 v j)
 | 0,_=>rfl
 | 1,_=>rfl
 | 2,_=>rfl
theorem akE (s:Int) (hs:1≤s∧s≤4) (l:List UInt8):Ctr Tryz.prog 92 [.sc (.int .u8 s),.sc (.string (bs l))] (ptT (jm (yV s l) 0 8)):=by
 have hof:=Ag s
 rw [fQ hs] at hof
 refine jc Tryz.func92 Tryz.ntmps92 fun w0 F0=>?_;dsimp only [St.init,number,Nat.reduceAdd]
 refine aiq ?_
 refine WL.vl rfl (bU Tryz.func50 hof) ?_
 refine aiq ?_
 refine W.loop (fun v:Nat=>v≤8∧jm (yV s l) 0 8=jm (yV s l) v (8 - v)) (fun v=>⟨[(0,.sc (.int .u8 s)),(1,.sc (.string (bs l))),(4,.pt 0 0 0),(5,.sc (.int .i64 0)),(6,.sc (aU s)),(8,.sc (.int .i64 v))],[(0,.box 87 (F7 0 0))],1⟩) (fun v=>8 - v) 0 ⟨by omega,rfl⟩ (zqt id) fun v ⟨h1,h2⟩=>?_
 by_cases hlt:v≤7
 rotate_left
 ·rw [h2.trans (show jm (yV s l) v (8 - v)=none by rw [show 8 - v=0 by omega];rfl)]
  refine jF ?_
  exact dY
 refine jF ?_
 first|refine W.tr (Tr.freeze 1 rfl) ?_|refine WL.tr (Tr.freeze 1 rfl) ?_
 refine W.loop (fun j:Nat=>j≤3∧∀ i,i < j→yV s l v i=false) (fun j=>⟨[(0,.sc (.int .u8 s)),(1,.sc (.string (bs l))),(4,.pt 0 0 0),(5,.sc (.int .i64 0)),(6,.sc (aU s)),(8,.sc (.int .i64 v)),(31,.ls 3 [F7 v 0,F7 v 1,F7 v 2]),(32,.sc (.int .i64 3)),(33,.sc (.int .i64 j))],[(0,.box 87 (F7 0 0))],2⟩) (fun j=>3 - j) 0 ⟨by omega,fun i hi=>absurd hi aj⟩ (zqt id) fun j ⟨g1,g2⟩=>?_
 by_cases hj:j < 3
 rotate_left
 ·have q:jm (yV s l) 0 8=jm (yV s l) (v+1) (8 - (v+1)):=h2.trans (by rw [show 8 - v=8 - (v+1)+1 by omega];exact acy _ _ _ (aau fun i hi=>g2 i (by omega)))
  refine jF ?_
  exact ⟨v+1,⟨by omega,q⟩,by omega,(zqt id)⟩
 have hno:yV s l v j=false→j+1≤3∧∀ i,i < j+1→yV s l v i=false:=fun q=>⟨by omega,fun i hi=>by rcases Nat.lt_succ_iff_lt_or_eq.1 hi with h|rfl;exact g2 i h;exact q⟩
 have hcase:(v=0∧(j=1∨j=2))∨(v=0∧j=0)∨0 < v:=by omega
 rcases hcase with ⟨rfl,hjj⟩|hcase
 ·have q:=hno (by unfold yV;rcases hjj with rfl|rfl<;>rfl)
  rcases hjj with rfl|rfl
  all_goals
   refine jF ?_
   refine WL.idx rfl rfl aj (acB 0 aj) ?_
   refine jF ?_
   refine WL.vl rfl (WV.ane (b:=false) rfl rfl rfl rfl rfl aK (fun w=>by kernel_rfl)) ?_
   refine jF ?_
   exact ⟨_,q,by omega,(zqt id)⟩
 have h00:v=0→j=0:=by omega
 have hyes:yV s l v j=true→vV s v j=true∧(tW v j == l)=true∧jm (yV s l) 0 8=some (v,j):=fun q=>by
  refine ⟨?_,?_,h2.trans (by rw [show 8 - v=7 - v+1 by omega];exact Zh _ _ _ _ (aat hj g2 q))⟩
  all_goals simp only [yV,dw] at q
  ·exact q.2.1
  ·exact q.2.2
 have hnot:yV s l v j=false→vV s v j=false∨vV s v j=true∧(tW v j == l)=false:=fun q=>by
  have e:(v != 0|| j == 0)=true:=by
   rcases hcase with ⟨rfl,rfl⟩|h
   ·rfl
   ·simp only [yM,bne_iff_ne,ne_eq];exact .inl (by omega)
  unfold yV at q
  rw [e,LQ] at q
  cases ho:vV s v j with
  | false=>exact .inl rfl
  | true=>rw [ho,LQ] at q;exact .inr ⟨rfl,q⟩
 have htw:=Qa s hs v j aj aj aj
 rcases hcase with ⟨rfl,rfl⟩|hv
 all_goals
  refine jF ?_
  refine WL.idx rfl rfl aj (acB _ hj) ?_
  refine jF ?_
 refine WL.vl rfl (WV.ane (b:=true) rfl rfl rfl rfl rfl aK (fun w=>by kernel_rfl)) ?_
 all_goals
  refine jF ?_
  refine WL.vl rfl (bU Tryz.func110 htw) ?_
  cases hm:yV s l _ _ with
  | true =>
   obtain ⟨m1,m2,m3⟩:=hyes hm
   rw [m1,m3]
   refine jF ?_
   rw [m2]
   refine jF ?_
   exact dY
  | false =>
   have q:=hno hm
   rcases hnot hm with m1|⟨m1,m2⟩
   ·rw [m1]
    refine jF ?_
    exact ⟨_,q,by omega,(zqt id)⟩
   ·rw [m1]
    refine jF ?_
    rw [m2]
    refine jF ?_
    exact ⟨_,q,by omega,(zqt id)⟩
theorem afM (s:Int) (hs:1≤s∧s≤4) (x:Stp) (L:Int) (hc:1≤x.1∧x.1≤14) (hf:0≤x.2.1∧x.2.1≤18) (hr:0≤x.2.2.1∧x.2.2.1≤3) (hg:0≤x.2.2.2.1∧x.2.2.2.1≤4) (hh:0≤x.2.2.2.2∧x.2.2.2.2≤15) :
  Ctr Tryz.prog 87 [.sc (aU s),.ag (iI x),.sc (.int .i64 L)] (.tu [.sc (.string (bs (cellS s x.1 x.2.1 x.2.2.1 x.2.2.2.1 x.2.2.2.2 L))),.sc (.bool (dZ s x.1 x.2.1 x.2.2.1 x.2.2.2.1 x.2.2.2.2 L))]):=by
 have h1:=Lj s hs x.1 x.2.1 hc hf
 have h2:=D5 s hs x.2.2.1 hr
 have h3:=CP s hs x.2.2.2.1 hg
 have h4:=JY s hs x.2.2.2.2 L hh
 have a1:=(abP s x.1 x.2.1 hs hc hf).1
 have a2:=acd s x.2.2.1
 have a3:=ab8 s x.2.2.2.1
 have a4:=abM s x.2.2.2.2 L
 unfold cellS dZ
 refine jc Tryz.func87 Tryz.ntmps87 fun w0 F0=>?_;dsimp only [St.init,number,Nat.reduceAdd]
 refine Qn ?_
 refine WL.vl rfl (WV.sys hs BU rfl rfl (fun vs w=>by kernel_rfl) (fun vs w=>by kernel_rfl) (fun vs w=>by kernel_rfl) (fun vs w=>by kernel_rfl) rfl rfl h1) ?_
 refine Qn ?_
 refine WL.vl rfl (WV.sys hs zD rfl rfl (fun vs w=>by kernel_rfl) (fun vs w=>by kernel_rfl) (fun vs w=>by kernel_rfl) (fun vs w=>by kernel_rfl) rfl rfl h2) ?_
 refine Qn ?_
 refine WL.vl rfl (WV.sys hs zh rfl rfl (fun vs w=>by kernel_rfl) (fun vs w=>by kernel_rfl) (fun vs w=>by kernel_rfl) (fun vs w=>by kernel_rfl) rfl rfl h3) ?_
 refine Qn ?_
 refine WL.vl rfl (WV.sys hs Hf rfl rfl (fun vs w=>by kernel_rfl) (fun vs w=>by kernel_rfl) (fun vs w=>by kernel_rfl) (fun vs w=>by kernel_rfl) rfl rfl h4) ?_
 clear h1 h2 h3 h4
 cases Gv s x.1 x.2.1<;>cases okR s x.2.2.1<;>cases yt s x.2.2.2.1<;>cases qY s x.2.2.2.2 L
 all_goals
  refine Qn ?_
  exact W.ret (fin2 rfl rfl rfl rfl rfl rfl rfl)
end
end Go.Proofs.YthohlofpphjofaaGreatDoor
