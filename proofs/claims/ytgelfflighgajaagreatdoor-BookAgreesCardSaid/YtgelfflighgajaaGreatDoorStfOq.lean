/- book.staff: the program. -/
import Derived.Test.YtgelfflighgajaaGreatDoorPlVOq
set_option maxHeartbeats 8000000
set_option maxRecDepth 100000
set_option linter.unusedVariables false
set_option linter.unusedSimpArgs false
namespace Go.Proofs.YtgelfflighgajaaGreatDoor
open Go.RowKit
theorem eqLn (a b c d:Int) (w:World):(Op.equal 239 (.agg #[.int .i64 a,.int .i64 b]) (.agg #[.int .i64 c,.int .i64 d])).run Tryz.prog w=.ok (decide (((a,b):Ln)=(c,d))) w:=by
 unfold Op.equal Op.maxDepth
 rw [run_equalIn_agg w 9999 _ _ _ zqk zqk]
 refine Eq.trans (congrArg (fun fs=>Sem.run _ (Op.eqFields 9999 _ _ fs) w) (rfl:(Tryz.prog.fieldsOf 239).toList=[_,_])) ?_
 by_cases h1:a=c
 ·by_cases h2:b=d
  ·subst h1 h2;simp [go_sem]
  ·subst h1;simp [go_sem,h2]
 ·simp [go_sem,h1]
theorem chkLn (a b:Int)(em:Bool)(w:World):(Instr.checkKey em 10000 239 (.agg #[.int .i64 a,.int .i64 b])).run Tryz.prog w=.ok () w:=by
 have hu:Tryz.prog.underlying 239=some (.struct (Tryz.prog.fieldsOf 239)):=by kernel_rfl
 have hf:(Tryz.prog.fieldsOf 239).toList=[_,_]:=rfl
 unfold Instr.checkKey
 rw [Sem.run_bind,run_underlying hu]
 simp only [Result.andThen_ok]
 have hp:Tryz.prog.plainKey 3=true:=by kernel_rfl
 have hi:Tryz.prog.underlying 3=some (.int .i64):=by kernel_rfl
 have p1:(part 3 #[Value.int .i64 a,.int .i64 b] 0).run Tryz.prog w=.ok (.int .i64 a) w:=run_part_plain w hp rfl
 have p2:(part 3 #[Value.int .i64 a,.int .i64 b] 1).run Tryz.prog w=.ok (.int .i64 b) w:=run_part_plain w hp rfl
 have c1:∀ z:Int,(Instr.checkKey em 9999 3 (.int .i64 z)).run Tryz.prog w=.ok () w:=fun z=>by
  unfold Instr.checkKey
  simp [run_underlying hi]
 rw [← Array.forIn_toList,hf]
 simp [p1,p2,c1]
theorem asksLn (k:Ln)(w:World):∀ (es:List MapEntry)(l:List (Ln×Value))(i:Nat),es.map (fun e=>(e.key,e.val))=l.map (fun x=>(encLn x.1,x.2))→(Instr.findAsking 239 (encLn k) es i).run Tryz.prog w=.ok (locK k i l) w
 | [],[],i,_=>rfl
 | [],x::r,i,h=>by cases h
 | e::es,[],i,h=>by cases h
 | e::es,x::r,i,h=>by
  simp only [List.map_cons,List.cons.injEq,Prod.mk.injEq] at h
  unfold Instr.findAsking
  have h1:(Op.equal 239 (encLn k) e.key).run Tryz.prog w=.ok (decide (k=x.1)) w:=by
   rw [h.1.1];exact eqLn k.1 k.2 x.1.1 x.1.2 w
  rw [Sem.run_bind,h1]
  simp only [Result.andThen_ok]
  unfold locK
  by_cases hk:k=x.1
  ·rw [decide_eq_true hk,if_pos hk,← h.1.2];rfl
  ·rw [decide_eq_false hk,if_neg hk]
   exact asksLn k w es r (i+1) h.2
theorem keyLn:KeyK Tryz.prog 239 encLn where
 chk:=fun w b k=>chkLn k.1 k.2 b w
 fnd:=fun w k es l he=>by
  rw [run_findKey_eq w zqk]
  exact asksLn k w es l 0 he
 bits:=fun k=>by
  unfold encLn
  simp [Instr.sameBits]
theorem rLn {G:Gh} {a b:Int} {v:Value} (r:R G (.ag [.sc (.int .i64 a),.sc (.int .i64 b)]) v):v=encLn (a,b):=by
 obtain ⟨cs,rfl,h1,h2⟩:=r.ag_of
 have:=scs_of (G:=G) (l:=[.sc (.int .i64 a),.sc (.int .i64 b)]) rfl (cs:=cs.toList) (by simpa using h1) fun i av u p q=>h2 i av u p (by simpa using q)
 have e:cs=#[.int .i64 a,.int .i64 b]:=by apply Array.ext';exact this
 rw [e];rfl
theorem finTr {P:Program} {C:Cx} {σ σ':St} {fn:Func} {res:AV} {M':List (Nat×AO)} {nk':Nat} {e:Exit} (h:Tr C σ σ')(k:QFinM P fn C res M' nk' e σ'):QFinM P fn C res M' nk' e σ :=
 ⟨k.1,fun G a w ok=>by obtain⟨G',ok'⟩:=h G a w ok;exact k.2 G' a w ok'⟩
theorem finMu {P:Program} {C:Cx} {σ:St} {fn:Func} {avs:List AV} {res:AV} {M':List (Nat×AO)} {nk':Nat} (h:resL P σ fn.results.toList=some avs)(hp:avs.all (fun av=>!ownB av)=true)(e:resT avs=res)(hM:σ.M=M')(hk:σ.nk=nk'):QFinM P fn C res M' nk' .normal σ :=
 ⟨.inl rfl,(finM h hp e hM hk).2⟩
def stfM (key:Int)(alt:List (Ln×Int)):List (Nat×AO):=[(0,.opq (mapQ encLn (valA alt))),(1,.box 302 [.sc (.int .i64 key),.sl 0])]
theorem newStaff_FS (key:Int):Cto truB 0 Tryz.prog 167 [.sc (.int .i64 key)] [] 0 (.pt 1 0 0) (stfM key []) 2:=by
 refine Cto.intro truS Tryz.func167 rfl Tryz.ntmps167 (Nat.le_of_ble_eq_true rfl) rfl fun w0 F0 fp pg hB=>?_
 dsimp only [number,Nat.reduceAdd]
 repeat refine W.go rfl ?_
 refine (?_:WL _ _ _ _ _ _)
 refine WL.mkm encLn rfl rfl ?_
 repeat refine WL.ev rfl ?_
 refine (?_:W _ _ _ _ _)
 refine W.tr (σ':=⟨[(2,.pt 1 0 0)],stfM key [],2⟩) (zqt id) ?_
 exact W.ret (finM rfl rfl rfl rfl rfl)
theorem stMeasure_FS (key:Int) (alt:List (Ln×Int)):Cto truB 0 Tryz.prog 168 [.pt 1 0 0] (stfM key alt) 2 (.tu []) (stfM key []) 2:=by
 refine Cto.intro truS Tryz.func168 rfl Tryz.ntmps168 (Nat.le_of_ble_eq_true rfl) rfl fun w0 F0 fp pg hB=>?_
 dsimp only [number,Nat.reduceAdd,stfM]
 repeat refine W.go rfl ?_
 refine (?_:WL _ _ _ _ _ _)
 refine WL.vl rfl (WV.nch rfl rfl) ?_
 repeat refine WL.ev rfl ?_
 refine (?_:WL _ _ _ _ _ _)
 refine WL.mcl rfl rfl rfl rfl rfl rfl rfl ?_
 repeat refine WL.nil ?_
 refine finTr (σ':=⟨[],stfM key [],2⟩) (zqt id) ?_
 exact finMu rfl rfl rfl rfl rfl
theorem stAlter_FS (key:Int) (alt:List (Ln×Int)) (a b v:Int) (hv:-1≤v∧v≤1):Cto truB 0 Tryz.prog 172 [.pt 1 0 0,.ag [.sc (.int .i64 a),.sc (.int .i64 b)],.sc (.int .i64 v)] (stfM key alt) 2 (.tu []) (stfM key (updA (a,b) (v+2) alt)) 2:=by
 refine Cto.intro truS Tryz.func172 rfl Tryz.ntmps172 (Nat.le_of_ble_eq_true rfl) rfl fun w0 F0 fp pg hB=>?_
 dsimp only [number,Nat.reduceAdd,stfM]
 repeat refine W.go rfl ?_
 refine (?_:W _ _ _ _ _)
 refine W.dkT 7 zqk zqk zqk zqk ?_
 repeat refine DK.st rfl ?_
 refine DK.vl rfl (WV.nch rfl rfl) ?_
 repeat (first|refine DK.st rfl ?_|refine DK.ar rfl rfl (by unfold I64;omega) ?_|refine DK.nil ?_)
 refine ⟨rfl,?_⟩
 refine WL.mup keyLn rfl rfl rfl rfl rfl rfl rfl (fun G v r=>rLn r) rfl rfl (updK_valA (a,b) (v+2) alt) ?_
 repeat refine WL.nil ?_
 refine finTr (σ':=⟨[],stfM key (updA (a,b) (v+2) alt),2⟩) (zqt id) ?_
 exact finMu rfl rfl rfl rfl rfl
theorem byteOf_int(l:Int):(IntKind.u8.wrap l).toNat.toUInt8=byteOf l:=by
 unfold byteOf
 congr 2
theorem idxB_bd(l:List UInt8)(c:UInt8):-1≤Lib.indexByte l c∧Lib.indexByte l c≤l.length:=by
 refine⟨Lib.indexByte_ge l c,?_⟩
 induction l with
 | nil=>unfold Lib.indexByte;simp
 | cons b r ih =>
  unfold Lib.indexByte
  split
  ·simp;omega
  ·split
   ·simp;omega
   ·simp;omega
theorem indexByte_FS (s:List UInt8)(z:Int):Ctr Tryz.prog 211 [.sc (.string (bs s)),.sc (.int .u8 z)] (.sc (.int .i64 (Lib.indexByte s z.toNat.toUInt8))) :=
 Ctr.of_sc rfl (fun _=>.sc _) fun w=>(Tryz.strings_IndexByte (bs s) z w).mono fun e w'⟨he,hw⟩=>⟨by rw [he];rfl,hw ▸ Below.refl _ _⟩
theorem stInForce_FS (key:Int) (alt:List (Ln×Int)) (a b:Int) (hk:-4≤key∧key≤4) (hA:AltOk alt):Cto truB 0 Tryz.prog 170 [.pt 1 0 0,.ag [.sc (.int .i64 a),.sc (.int .i64 b)]] (stfM key alt) 2 (.sc (.int .i64 (frcA key alt (a,b)))) (stfM key alt) 2:=by
 have hl:=hA (a,b)
 have hlk:=lookK_valA (a,b) alt
 have hx1:=indexByte_FS [3,0,4,1] (IntKind.u8.wrap a)
 have hx2:=indexByte_FS [6,2,5,1] (IntKind.u8.wrap a)
 rw [byteOf_int] at hx1 hx2
 have hb1:=idxB_bd [3,0,4,1] (byteOf a)
 have hb2:=idxB_bd [6,2,5,1] (byteOf a)
 have hfr:frcA key alt (a,b)=if 0 < lookA (a,b) alt then lookA (a,b) alt - 2 else if 0≤Lib.indexByte [3,0,4,1] (byteOf a)∧Lib.indexByte [3,0,4,1] (byteOf a) < key then 1 else if 0≤Lib.indexByte [6,2,5,1] (byteOf a)∧Lib.indexByte [6,2,5,1] (byteOf a) < 0 - key then -1 else 0:=rfl
 rw [hfr]
 obtain ⟨v,hv⟩:∃ v,lookA (a,b) alt=v:=⟨_,rfl⟩
 obtain ⟨i1,hi1⟩:∃ v,Lib.indexByte [3,0,4,1] (byteOf a)=v:=⟨_,rfl⟩
 obtain ⟨i2,hi2⟩:∃ v,Lib.indexByte [6,2,5,1] (byteOf a)=v:=⟨_,rfl⟩
 rw [hv] at hl hlk ⊢
 rw [hi1] at hx1 hb1 ⊢
 rw [hi2] at hx2 hb2 ⊢
 simp only [List.length_cons,List.length_nil] at hb1 hb2
 by_cases h1:0 < v
 ·rw [if_pos h1]
  refine Cto.intro truS Tryz.func170 rfl Tryz.ntmps170 (Nat.le_of_ble_eq_true rfl) rfl fun w0 F0 fp pg hB=>?_
  dsimp only [number,Nat.reduceAdd,stfM]
  repeat refine W.go rfl ?_
  refine (?_:W _ _ _ _ _)
  refine W.drawK zqk zqk ?_
  repeat refine DK.st rfl ?_
  refine DK.vl rfl (WV.nch rfl rfl) ?_
  repeat refine DK.st rfl ?_
  refine DK.vl rfl (WV.cast (WV.mlk keyLn rfl rfl rfl rfl rfl rfl (fun G v r=>rLn r)) (congrArg AV.sc hlk)) ?_
  repeat (first|refine DK.st rfl ?_|refine DK.nil ?_)
  repeat (first|refine W.gob rfl ?_|refine WL.nil ?_|refine WL.bt rfl rfl rfl zqo ?_|refine WL.e1 rfl ?_|refine WL.ar rfl rfl (by unfold I64;omega) ?_|refine W.condT rfl ?_)
  refine (?_:W _ _ _ _ _)
  refine W.tr (σ':=⟨[(4,.sc (.int .i64 (v - 2)))],stfM key alt,2⟩) (zqt id) ?_
  exact W.ret (finM rfl rfl rfl rfl rfl)
 rw [if_neg h1]
 by_cases h2:0≤i1∧i1 < key
 ·rw [if_pos h2]
  refine Cto.intro truS Tryz.func170 rfl Tryz.ntmps170 (Nat.le_of_ble_eq_true rfl) rfl fun w0 F0 fp pg hB=>?_
  dsimp only [number,Nat.reduceAdd,stfM]
  repeat refine W.go rfl ?_
  refine (?_:W _ _ _ _ _)
  refine W.drawK zqk zqk ?_
  repeat refine DK.st rfl ?_
  refine DK.vl rfl (WV.nch rfl rfl) ?_
  repeat refine DK.st rfl ?_
  refine DK.vl rfl (WV.cast (WV.mlk keyLn rfl rfl rfl rfl rfl rfl (fun G v r=>rLn r)) (congrArg AV.sc hlk)) ?_
  repeat (first|refine DK.st rfl ?_|refine DK.nil ?_)
  repeat (first|refine W.gob rfl ?_|refine WL.nil ?_|refine WL.bf rfl rfl rfl zqo ?_|refine WL.e1 rfl ?_|refine W.condF rfl ?_)
  refine (?_:WL _ _ _ _ _ _)
  refine WL.cvt rfl rfl rfl rfl ?_
  refine WL.vl rfl (zqc Tryz.func211 hx1) ?_
  repeat (first|refine W.gob rfl ?_|refine WL.nil ?_|refine WL.bt rfl rfl rfl zqo ?_|refine WL.e1 rfl ?_|refine WL.gyes rfl rfl rfl rfl ?_)
  refine (?_:WL _ _ _ _ _ _)
  repeat (refine WL.vl rfl (WV.nch rfl rfl) ?_)
  repeat (first|refine W.gob rfl ?_|refine WL.nil ?_|refine WL.bt rfl rfl rfl zqo ?_|refine WL.e1 rfl ?_|refine WL.gyes rfl rfl rfl rfl ?_|refine W.condT rfl ?_)
  refine (?_:W _ _ _ _ _)
  refine W.tr (σ':=⟨[(4,.sc (.int .i64 1))],stfM key alt,2⟩) (zqt id) ?_
  exact W.ret (finM rfl rfl rfl rfl rfl)
 rw [if_neg h2]
 have h3:i1 < 0∨(0≤i1∧¬ i1 < key):=by omega
 by_cases h4:0≤i2∧i2 < 0 - key
 ·rw [if_pos h4]
  rcases h3 with h3|h3
  all_goals
   refine Cto.intro truS Tryz.func170 rfl Tryz.ntmps170 (Nat.le_of_ble_eq_true rfl) rfl fun w0 F0 fp pg hB=>?_
   dsimp only [number,Nat.reduceAdd,stfM]
   repeat refine W.go rfl ?_
   refine (?_:W _ _ _ _ _)
   refine W.drawK zqk zqk ?_
   repeat refine DK.st rfl ?_
   refine DK.vl rfl (WV.nch rfl rfl) ?_
   repeat refine DK.st rfl ?_
   refine DK.vl rfl (WV.cast (WV.mlk keyLn rfl rfl rfl rfl rfl rfl (fun G v r=>rLn r)) (congrArg AV.sc hlk)) ?_
   repeat (first|refine DK.st rfl ?_|refine DK.nil ?_)
   repeat (first|refine W.gob rfl ?_|refine WL.nil ?_|refine WL.bf rfl rfl rfl zqo ?_|refine WL.e1 rfl ?_|refine W.condF rfl ?_)
   refine (?_:WL _ _ _ _ _ _)
   refine WL.cvt rfl rfl rfl rfl ?_
   refine WL.vl rfl (zqc Tryz.func211 hx1) ?_
   repeat (first|refine W.gob rfl ?_|refine WL.nil ?_|refine WL.bt rfl rfl rfl zqo ?_|refine WL.bf rfl rfl rfl zqo ?_|refine WL.e1 rfl ?_|refine WL.gyes rfl rfl rfl rfl ?_|refine WL.opno rfl rfl rfl rfl rfl rfl rfl ?_|refine W.condF rfl ?_)
   refine (?_:WL _ _ _ _ _ _)
   repeat (refine WL.vl rfl (WV.nch rfl rfl) ?_)
   repeat (first|refine W.gob rfl ?_|refine WL.nil ?_|refine WL.bf rfl rfl rfl zqo ?_|refine WL.e1 rfl ?_|refine WL.gyes rfl rfl rfl rfl ?_|refine W.condF rfl ?_)
   refine (?_:WL _ _ _ _ _ _)
   try dsimp only [St.put,Nat.reduceAdd]
   refine WL.cvt rfl rfl rfl rfl ?_
   refine WL.vl rfl (zqc Tryz.func211 hx2) ?_
   repeat (first|refine W.gob rfl ?_|refine WL.nil ?_|refine WL.bt rfl rfl rfl zqo ?_|refine WL.e1 rfl ?_|refine WL.gyes rfl rfl rfl rfl ?_)
   refine (?_:WL _ _ _ _ _ _)
   repeat (refine WL.vl rfl (WV.nch rfl rfl) ?_)
   repeat (first|refine W.gob rfl ?_|refine WL.nil ?_|refine WL.bt rfl rfl rfl zqo ?_|refine WL.e1 rfl ?_|refine WL.gyes rfl rfl rfl rfl ?_|refine WL.neg rfl rfl (by unfold I64;omega) ?_|refine W.condT rfl ?_)
   refine (?_:W _ _ _ _ _)
   refine W.tr (σ':=⟨[(4,.sc (.int .i64 (-1)))],stfM key alt,2⟩) (zqt id) ?_
   exact W.ret (finM rfl rfl rfl rfl rfl)
 ·rw [if_neg h4]
  have h5:i2 < 0∨(0≤i2∧¬ i2 < 0 - key):=by omega
  rcases h3 with h3|h3
  all_goals
   rcases h5 with h5|h5
  all_goals
   refine Cto.intro truS Tryz.func170 rfl Tryz.ntmps170 (Nat.le_of_ble_eq_true rfl) rfl fun w0 F0 fp pg hB=>?_
   dsimp only [number,Nat.reduceAdd,stfM]
   repeat refine W.go rfl ?_
   refine (?_:W _ _ _ _ _)
   refine W.drawK zqk zqk ?_
   repeat refine DK.st rfl ?_
   refine DK.vl rfl (WV.nch rfl rfl) ?_
   repeat refine DK.st rfl ?_
   refine DK.vl rfl (WV.cast (WV.mlk keyLn rfl rfl rfl rfl rfl rfl (fun G v r=>rLn r)) (congrArg AV.sc hlk)) ?_
   repeat (first|refine DK.st rfl ?_|refine DK.nil ?_)
   repeat (first|refine W.gob rfl ?_|refine WL.nil ?_|refine WL.bf rfl rfl rfl zqo ?_|refine WL.e1 rfl ?_|refine W.condF rfl ?_)
   refine (?_:WL _ _ _ _ _ _)
   refine WL.cvt rfl rfl rfl rfl ?_
   refine WL.vl rfl (zqc Tryz.func211 hx1) ?_
   repeat (first|refine W.gob rfl ?_|refine WL.nil ?_|refine WL.bt rfl rfl rfl zqo ?_|refine WL.bf rfl rfl rfl zqo ?_|refine WL.e1 rfl ?_|refine WL.gyes rfl rfl rfl rfl ?_|refine WL.opno rfl rfl rfl rfl rfl rfl rfl ?_|refine W.condF rfl ?_)
   refine (?_:WL _ _ _ _ _ _)
   repeat (refine WL.vl rfl (WV.nch rfl rfl) ?_)
   repeat (first|refine W.gob rfl ?_|refine WL.nil ?_|refine WL.bf rfl rfl rfl zqo ?_|refine WL.e1 rfl ?_|refine WL.gyes rfl rfl rfl rfl ?_|refine W.condF rfl ?_)
   refine (?_:WL _ _ _ _ _ _)
   try dsimp only [St.put,Nat.reduceAdd]
   refine WL.cvt rfl rfl rfl rfl ?_
   refine WL.vl rfl (zqc Tryz.func211 hx2) ?_
   repeat (first|refine W.gob rfl ?_|refine WL.nil ?_|refine WL.bt rfl rfl rfl zqo ?_|refine WL.bf rfl rfl rfl zqo ?_|refine WL.e1 rfl ?_|refine WL.gyes rfl rfl rfl rfl ?_|refine WL.opno rfl rfl rfl rfl rfl rfl rfl ?_|refine W.condF rfl ?_)
   (first|refine (?_:W _ _ _ _ _)|refine (?_:WL _ _ _ _ _ _))
   repeat (refine WL.vl rfl (WV.nch rfl rfl) ?_)
   repeat (first|refine W.gob rfl ?_|refine WL.nil ?_|refine WL.bf rfl rfl rfl zqo ?_|refine WL.e1 rfl ?_|refine WL.gyes rfl rfl rfl rfl ?_|refine WL.neg rfl rfl (by unfold I64;omega) ?_|refine W.condF rfl ?_)
   refine (?_:W _ _ _ _ _)
   try dsimp only [St.put,Nat.reduceAdd]
   refine W.tr (σ':=⟨[(4,.sc (.int .i64 0))],stfM key alt,2⟩) (zqt id) ?_
   exact W.ret (finM rfl rfl rfl rfl rfl)
end Go.Proofs.YtgelfflighgajaaGreatDoor
