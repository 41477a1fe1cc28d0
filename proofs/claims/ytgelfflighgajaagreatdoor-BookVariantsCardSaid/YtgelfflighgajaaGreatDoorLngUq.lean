/- How long a piece is. -/
import Derived.Test.YtgelfflighgajaaGreatDoorEH0Uq
import Derived.Test.YtgelfflighgajaaGreatDoorTdUq
import Derived.Test.YtgelfflighgajaaGreatDoorMk1Uq
set_option maxHeartbeats 8000000
set_option maxRecDepth 100000
set_option linter.unusedVariables false
set_option linter.unusedSimpArgs false
namespace Go.Proofs.YtgelfflighgajaaGreatDoor
open Go.RowKit
theorem pcCopy_FS (p:Pce) (hO:PcOk p):Ctr Tryz.prog 17 [ePce p] (ePce p):=by
 refine Ctr.intro Tryz.func17 rfl Tryz.ntmps17 (Nat.le_of_ble_eq_true rfl) (bd_all rfl) fun w0 F0=>?_
 have hn3:=hO.n3
 repeat refine W.go rfl ?_
 refine (?_:WL _ _ _ _ _ _)
 dsimp only [St.put,Nat.reduceAdd]
 refine WL.vl rfl (WV.call rfl (callF Tryz.func53 rfl rfl) rfl rfl (insCopy_FS p.cs p.st hO.n1 hO.n2)) ?_
 repeat (first|refine W.go rfl ?_|refine WL.ev rfl ?_)
 refine (?_:W _ _ _ _ _)
 dsimp only [St.put,Nat.reduceAdd]
 refine W.tr (Tr.nilBox (k:=2) (j:=2) 36 6 rfl rfl rfl rfl) ?_
 refine W.loop (fun k:Nat=>k≤p.evs.length) (fun k=>⟨[(1,.pt 0 0 0),(2,.pt 1 0 0),(3,.pt 2 0 0),(4,.sc (.int .i64 k))],[(0,.box 28 [.ls 3 (p.cs.map eCrs),.ls 1 (p.st.map eInt),.ls 6 (p.evs.map eEv)]),(1,.box 28 [.sc (.slice none 0 0),.sc (.slice none 0 0),.sc (.slice none 0 0)]),(2,.box 28 [.ls 3 (p.cs.map eCrs),.ls 1 (p.st.map eInt),.sl 3]),(3,.row 36 6 ((p.evs.take k).map eEv))],4⟩) (fun k=>p.evs.length - k) 0 (by omega) (Tr.ren id (by repeat (first|exact trivial|refine ⟨⟨?_,?_⟩,?_⟩|rfl)) (by repeat (first|exact trivial|refine ⟨⟨?_,?_,?_⟩,?_⟩|rfl)) rfl) fun k hk=>?_
 repeat (first|refine W.go rfl ?_|refine WL.ev rfl ?_|refine WL.len rfl rfl (by first|exact List.length_map _|exact List.length_replicate|rfl) ?_)
 refine (?_:W _ _ _ _ _)
 dsimp only [St.put,Nat.reduceAdd]
 (refine W.cond rfl (fun hif=>?_) (fun hif=>?_)<;>(try simp only [decide_eq_true_eq,decide_eq_false_iff_not,Int.not_lt,Int.not_le,Bool.not_eq_true',Bool.not_eq_false'] at hif))
 ·have hk2:k < p.evs.length:=by omega
  have h20:=hO.n4 k hk2
  repeat (first|refine W.go rfl ?_|refine WL.ev rfl ?_|refine WL.idx rfl rfl (by omega) (by first|exact map_at (by omega)|exact map_atZ (by omega) (by omega)) ?_|refine WL.app rfl rfl rfl (by first|omega|(simp;done)|(simp;omega)) ?_)
  refine (?_:WL _ _ _ _ _ _)
  dsimp only [St.put,Nat.reduceAdd]
  refine WL.tr (Tr.freeze 6 rfl) ?_
  repeat (first|refine W.go rfl ?_|refine WL.ev rfl ?_|refine WL.ar rfl rfl (by unfold I64;omega) ?_|refine WL.app rfl rfl rfl (by first|omega|(simp;done)|(simp;omega)) ?_)
  dsimp only [St.put,Nat.reduceAdd]
  refine ⟨k+1,by omega,by omega,Tr.ren (fun q=>bif Nat.beq q 3 then 8 else q) (by repeat (first|exact trivial|refine ⟨⟨?_,?_⟩,?_⟩|rfl)) (by repeat (first|exact trivial|refine ⟨⟨?_,?_,?_⟩,?_⟩|exact congrArg (fun r=>some (AO.row _ _ r)) (take_map_succ hk2)|rfl)) rfl⟩
 ·have he:k=p.evs.length:=by omega
  subst he
  repeat refine W.go rfl ?_
  refine (?_:W _ _ _ _ _)
  dsimp only [St.put,Nat.reduceAdd]
  refine W.tr (Tr.freeze 3 rfl) ?_
  refine W.ret (fin_cell rfl rfl rfl rfl rfl rfl ?_ rfl)
  show AV.ag [_,_,.ls 6 ((p.evs.take p.evs.length).map eEv)]=ePce p
  rw [List.take_length]
  rfl
end Go.Proofs.YtgelfflighgajaaGreatDoor
namespace Go.Proofs.YtgelfflighgajaaGreatDoor
open Go.RowKit
section
variable {P:Program} {C:Cx} {σ:St} {o:Oper} {d:Tmp} {av:AV} {ops:Array Oper} {rest l:List Oper} {Q:Exit→St→Prop} {mem:List Bool} {Mc:List (Nat×AO)} {nk0 k:Nat}
def DSK (P:Program)(C:Cx)(ops:Array Oper)(mem:List Bool)(Mc:List (Nat×AO))(nk0 k:Nat)(l:List Oper)(σ:St)(Q:Exit→St→Prop):Prop:=∃ σ',DS P C ops mem Mc nk0 k l σ σ'∧Q .normal σ'
theorem DSK.nil(h:Q .normal σ):DSK P C ops mem Mc nk0 k [] σ Q:=⟨σ,.nil k σ,h⟩
theorem DSK.v0 (hd:memB C.N ops mem Mc k nk0 σ.t o=some (d,true)) (h:WV P C o ⟨onlyT σ.t (o.looksAt ops),Mc,nk0⟩ av) (r:DSK P C ops mem Mc nk0 (k+1) rest (σ.put d av) Q):DSK P C ops mem Mc nk0 k (o::rest) σ Q:=by
 obtain ⟨a,b,c,e,f,g⟩:=memB_of hd
 obtain ⟨s,x,y⟩:=r
 exact ⟨s,.val k o rest d av nk0 σ s a b c (.inl rfl) ⟨e,f,.inl ⟨g,h⟩⟩ x,y⟩
theorem DSK.wr {M':List (Nat×AO)} {nk':Nat} (av:AV) (hm:mem.getD k false=true) (hn:Nat.ble σ.nk nk'=true) (hs:msSub Mc M') (h:DoesS P C ops o σ av M' nk') (r:DSK P C ops mem Mc nk0 (k+1) rest ⟨ent1 o.dst true av++σ.t,M',nk'⟩ Q):DSK P C ops mem Mc nk0 k (o::rest) σ Q:=by
 obtain ⟨s,x,y⟩:=r
 exact ⟨s,.mem k o rest av M' nk' σ s hm hn hs h x,y⟩
theorem DSK.st (hd:memB C.N ops mem Mc k nk0 σ.t o=some (d,true)) (h:stepV P ⟨onlyT σ.t (o.looksAt ops),Mc,nk0⟩ o.op=some av) (r:DSK P C ops mem Mc nk0 (k+1) rest (σ.put d av) Q):DSK P C ops mem Mc nk0 k (o::rest) σ Q:=DSK.v0 hd (stepV_of rfl h) r
theorem DSK.sto {T m:Nat} {x y:Operand} {q i j:Nat} {ob ob':AO} {l:List AV} {M2:List (Nat×AO)} (hm:mem.getD k false=true) (hg:o.guard=none) (hds:o.dst=none) (ho:o.op=.store T x y) (hn:sizeB P T=some m) (hx:σ.ev x=some (.pt q i j)) (hk:look q σ.M=some ob) (hy:σ.ev y=some av)
  (hB:av.cellB=true) (hl:av.cells=l) (hlm:l.length=m) (h1:l.all AV.oneB=true) (hp:ob.put i j l=some ob') (hM:remS q σ.M=some M2) (hs:msSub Mc ((q,ob')::M2)) (r:DSK P C ops mem Mc nk0 (k+1) rest ⟨σ.t,(q,ob')::M2,σ.nk⟩ Q):DSK P C ops mem Mc nk0 k (o::rest) σ Q:=by
 have he:∀ av,ent1 o.dst true av=[]:=fun av=>by rw [hds];rfl
 refine DSK.wr (.sc undef) hm (Nat.ble_eq_true_of_le (Nat.le_refl _)) hs ⟨hg,fun t H=>?_⟩ (by rw [he];exact r)
 rw [he]
 have hmem:∀ z∈[x,y],z∈o.op.operands.toList:=fun z hz=>by rw [ho];simp [Op.operands] at hz ⊢;exact hz
 rw [remS_eq hM]
 exact wo_rem (WO.store (σ:=⟨t,σ.M,σ.nk⟩) ho hds hn ((ev_agree H (hmem x (by simp))).trans hx) hk ((ev_agree H (hmem y (by simp))).trans hy) hB hl hlm h1 hp)
theorem WA.ds (mem:List Bool)(ms:List Nat)(hB:Region.lexB .any l.toArray=true)(hch:chainB l.toArray mem=true)(hMc:msSub (onlyM σ.M ms) σ.M)
  (h:DSK P C l.toArray mem (onlyM σ.M ms) σ.nk 0 l σ Q):WA P C l.toArray σ Q:=let⟨_,a,b⟩:=h;WA.drawS mem (onlyM σ.M ms) hB hch hMc a b
end
end Go.Proofs.YtgelfflighgajaaGreatDoor
namespace Go.Proofs.YtgelfflighgajaaGreatDoor
open Go.RowKit
def sgF(evs:List Ev):Nat→Int×Bool×Bool
 | 0=>(0,false,false)
 | k+1=>match evs[k]? with
  | some e=>if e.val=0 then sgF evs k else(e.val,e.dot,e.three)
  | none=>sgF evs k
def eSig (x:Int×Bool×Bool):List AV:=[.sc (.int .i64 x.1),.sc (.bool x.2.1),.sc (.bool x.2.2)]
end Go.Proofs.YtgelfflighgajaaGreatDoor
namespace Go.Proofs.YtgelfflighgajaaGreatDoor
open Go.RowKit
abbrev Sf:=Int×Int×Int×Int
abbrev Ln:=Int×Int
def lookA (k:Ln):List (Ln×Int)→Int
 | []=>0
 | x::r=>if k=x.1 then x.2 else lookA k r
def updA (k:Ln)(v:Int):List (Ln×Int)→List (Ln×Int)
 | []=>[(k,v)]
 | x::r=>if k=x.1 then (k,v)::r else x::updA k v r
theorem lookA_upd (k q:Ln)(v:Int):∀ l,lookA q (updA k v l)=if q=k then v else lookA q l
 | []=>by simp [updA,lookA]
 | x::r=>by
  unfold updA
  by_cases h:k=x.1
  ·rw [if_pos h]
   unfold lookA
   by_cases hq:q=k
   ·simp [hq]
   ·rw [if_neg hq,if_neg hq,if_neg (fun e=>hq (e.trans h.symm))]
  ·rw [if_neg h]
   unfold lookA
   by_cases hq:q=x.1
   ·rw [if_pos hq,if_pos hq,if_neg (fun e=>h (e.symm.trans hq))]
   ·rw [if_neg hq,if_neg hq,lookA_upd k q v r]
def valA (l:List (Ln×Int)):List (Ln×Value):=l.map fun x=>(x.1,.int .i64 x.2)
def encLn(k:Ln):Value:=.agg #[.int .i64 k.1,.int .i64 k.2]
theorem locK_valA (k:Ln):∀ (l:List (Ln×Int)) (i:Nat),((locK k i (valA l)).map (·.2)).getD (.int .i64 0)=.int .i64 (lookA k l)
 | [],i=>rfl
 | x::r,i=>by
  show ((if k=x.1 then some (i,Value.int .i64 x.2)else locK k (i+1) (valA r)).map (·.2)).getD _=_
  unfold lookA
  by_cases h:k=x.1
  ·rw [if_pos h,if_pos h];rfl
  ·rw [if_neg h,if_neg h];exact locK_valA k r (i+1)
theorem lookK_valA (k:Ln)(l:List (Ln×Int)):lookK (.int .i64 0) k (valA l)=.int .i64 (lookA k l):=locK_valA k l 0
theorem updK_valA (k:Ln) (v:Int):∀ l:List (Ln×Int),updK k (.int .i64 v) (valA l)=valA (updA k v l)
 | []=>rfl
 | x::r=>by
  show (if k=x.1 then (k,Value.int .i64 v)::valA r else (x.1,Value.int .i64 x.2)::updK k (.int .i64 v) (valA r))=valA (if k=x.1 then (k,v)::r else x::updA k v r)
  by_cases h:k=x.1
  ·rw [if_pos h,if_pos h];rfl
  ·rw [if_neg h,if_neg h,updK_valA k v r];rfl
def sigB(key:Int)(b:UInt8):Int :=
 if 0≤Lib.indexByte [3,0,4,1] b∧Lib.indexByte [3,0,4,1] b<key then 1 else if 0≤Lib.indexByte [6,2,5,1] b∧Lib.indexByte [6,2,5,1] b<0-key then -1 else 0
def byteOf(l:Int):UInt8:=(l % 256).toNat.toUInt8
def frcA (key:Int)(alt:List (Ln×Int))(k:Ln):Int:=if 0<lookA k alt then lookA k alt-2 else sigB key (byteOf k.1)
def accN(al:Int):Int:=if al=1 then 1 else if al=-1 then 2 else 3
def AltOk (alt:List (Ln×Int)):Prop:=∀ k,0≤lookA k alt∧lookA k alt≤3
theorem AltOk.nil:AltOk []:=fun k=>⟨Int.le_refl 0,by show(0:Int)≤3;decide⟩
theorem AltOk.upd {alt:List (Ln×Int)} (h:AltOk alt)(k:Ln) {v:Int} (hv:0≤v∧v≤3):AltOk (updA k v alt):=fun q=>by
 rw [lookA_upd]
 split
 ·exact hv
 ·exact h q
end Go.Proofs.YtgelfflighgajaaGreatDoor
namespace Go.Proofs.YtgelfflighgajaaGreatDoor
open Go.RowKit
theorem eqLn (a b c d:Int) (w:World):(Op.equal 239 (.agg #[.int .i64 a,.int .i64 b]) (.agg #[.int .i64 c,.int .i64 d])).run Tryz.prog w=.ok (decide (((a,b):Ln)=(c,d))) w:=by
 unfold Op.equal Op.maxDepth
 rw [run_equalIn_agg w 9999 _ _ _ (by kernel_rfl) (by kernel_rfl)]
 refine Eq.trans (congrArg (fun fs=>Sem.run _ (Op.eqFields 9999 _ _ fs) w) (rfl:(Tryz.prog.fieldsOf 239).toList=[_,_])) ?_
 by_cases h1:a=c
 ·by_cases h2:b=d
  ·subst h1 h2;simp [go_sem]
  ·subst h1;simp [go_sem,h2]
 ·simp [go_sem,h1]
theorem chkLn (a b:Int)(em:Bool)(w:World):(Instr.checkKey em 10000 239 (.agg #[.int .i64 a,.int .i64 b])).run Tryz.prog w=.ok () w:=by
 have hu:Tryz.prog.underlying 239=some (.struct (Tryz.prog.fieldsOf 239)):=by kernel_rfl
 have hf:(Tryz.prog.fieldsOf 239).toList=[_,_]:=rfl
 unfold Instr.checkKey
 rw [Sem.run_bind,run_underlying hu]
 simp only [Result.andThen_ok]
 have hp:Tryz.prog.plainKey 3=true:=by kernel_rfl
 have hi:Tryz.prog.underlying 3=some (.int .i64):=by kernel_rfl
 have p1:(part 3 #[Value.int .i64 a,.int .i64 b] 0).run Tryz.prog w=.ok (.int .i64 a) w:=run_part_plain w hp rfl
 have p2:(part 3 #[Value.int .i64 a,.int .i64 b] 1).run Tryz.prog w=.ok (.int .i64 b) w:=run_part_plain w hp rfl
 have c1:∀ z:Int,(Instr.checkKey em 9999 3 (.int .i64 z)).run Tryz.prog w=.ok () w:=fun z=>by
  unfold Instr.checkKey
  simp [run_underlying hi]
 rw [← Array.forIn_toList,hf]
 simp [p1,p2,c1]
theorem asksLn (k:Ln)(w:World):∀ (es:List MapEntry)(l:List (Ln×Value))(i:Nat),es.map (fun e=>(e.key,e.val))=l.map (fun x=>(encLn x.1,x.2))→(Instr.findAsking 239 (encLn k) es i).run Tryz.prog w=.ok (locK k i l) w
 | [],[],i,_=>rfl
 | [],x::r,i,h=>by cases h
 | e::es,[],i,h=>by cases h
 | e::es,x::r,i,h=>by
  simp only [List.map_cons,List.cons.injEq,Prod.mk.injEq] at h
  unfold Instr.findAsking
  have h1:(Op.equal 239 (encLn k) e.key).run Tryz.prog w=.ok (decide (k=x.1)) w:=by
   rw [h.1.1];exact eqLn k.1 k.2 x.1.1 x.1.2 w
  rw [Sem.run_bind,h1]
  simp only [Result.andThen_ok]
  unfold locK
  by_cases hk:k=x.1
  ·rw [decide_eq_true hk,if_pos hk,← h.1.2];rfl
  ·rw [decide_eq_false hk,if_neg hk]
   exact asksLn k w es r (i+1) h.2
theorem keyLn:KeyK Tryz.prog 239 encLn where
 chk:=fun w b k=>chkLn k.1 k.2 b w
 fnd:=fun w k es l he=>by
  rw [run_findKey_eq w (by kernel_rfl)]
  exact asksLn k w es l 0 he
 bits:=fun k=>by
  unfold encLn
  simp [Instr.sameBits]
theorem rLn {G:Gh} {a b:Int} {v:Value} (r:R G (.ag [.sc (.int .i64 a),.sc (.int .i64 b)]) v):v=encLn (a,b):=by
 obtain ⟨cs,rfl,h1,h2⟩:=r.ag_of
 have:=scs_of (G:=G) (l:=[.sc (.int .i64 a),.sc (.int .i64 b)]) rfl (cs:=cs.toList) (by simpa using h1) fun i av u p q=>h2 i av u p (by simpa using q)
 have e:cs=#[.int .i64 a,.int .i64 b]:=by apply Array.ext';exact this
 rw [e];rfl
theorem finTr {P:Program} {C:Cx} {σ σ':St} {fn:Func} {res:AV} {M':List (Nat×AO)} {nk':Nat} {e:Exit} (h:Tr C σ σ')(k:QFinM P fn C res M' nk' e σ'):QFinM P fn C res M' nk' e σ :=
 ⟨k.1,fun G a w ok=>by obtain⟨G',ok'⟩:=h G a w ok;exact k.2 G' a w ok'⟩
theorem finMu {P:Program} {C:Cx} {σ:St} {fn:Func} {avs:List AV} {res:AV} {M':List (Nat×AO)} {nk':Nat} (h:resL P σ fn.results.toList=some avs)(hp:avs.all (fun av=>!ownB av)=true)(e:resT avs=res)(hM:σ.M=M')(hk:σ.nk=nk'):QFinM P fn C res M' nk' .normal σ :=
 ⟨.inl rfl,(finM h hp e hM hk).2⟩
def stfM (key:Int)(alt:List (Ln×Int)):List (Nat×AO):=[(0,.opq (mapQ encLn (valA alt))),(1,.box 302 [.sc (.int .i64 key),.sl 0])]
theorem newStaff_FS (key:Int):Cto truB 0 Tryz.prog 167 [.sc (.int .i64 key)] [] 0 (.pt 1 0 0) (stfM key []) 2:=by
 refine Cto.intro truS Tryz.func167 rfl Tryz.ntmps167 (Nat.le_of_ble_eq_true rfl) rfl fun w0 F0 fp pg hB=>?_
 dsimp only [number,Nat.reduceAdd]
 repeat refine W.go rfl ?_
 refine (?_:WL _ _ _ _ _ _)
 dsimp only [St.put,Nat.reduceAdd]
 refine WL.mkm encLn rfl rfl ?_
 repeat refine WL.ev rfl ?_
 refine (?_:W _ _ _ _ _)
 dsimp only [St.put,Nat.reduceAdd]
 refine W.tr (σ':=⟨[(2,.pt 1 0 0)],stfM key [],2⟩) (Tr.ren id (by repeat (first|exact trivial|refine ⟨⟨?_,?_⟩,?_⟩|rfl)) (by repeat (first|exact trivial|refine ⟨⟨?_,?_,?_⟩,?_⟩|rfl)) rfl) ?_
 exact W.ret (finM rfl rfl rfl rfl rfl)
theorem stMeasure_FS (key:Int) (alt:List (Ln×Int)):Cto truB 0 Tryz.prog 168 [.pt 1 0 0] (stfM key alt) 2 (.tu []) (stfM key []) 2:=by
 refine Cto.intro truS Tryz.func168 rfl Tryz.ntmps168 (Nat.le_of_ble_eq_true rfl) rfl fun w0 F0 fp pg hB=>?_
 dsimp only [number,Nat.reduceAdd,stfM]
 repeat refine W.go rfl ?_
 refine (?_:WL _ _ _ _ _ _)
 dsimp only [St.put,Nat.reduceAdd]
 refine WL.vl rfl (WV.nch rfl rfl) ?_
 repeat refine WL.ev rfl ?_
 refine (?_:WL _ _ _ _ _ _)
 dsimp only [St.put,Nat.reduceAdd]
 refine WL.mcl rfl rfl rfl rfl rfl rfl rfl ?_
 repeat refine WL.nil ?_
 dsimp only [St.put,Nat.reduceAdd]
 refine finTr (σ':=⟨[],stfM key [],2⟩) (Tr.ren id (by repeat (first|exact trivial|refine ⟨⟨?_,?_⟩,?_⟩|rfl)) (by repeat (first|exact trivial|refine ⟨⟨?_,?_,?_⟩,?_⟩|rfl)) rfl) ?_
 exact finMu rfl rfl rfl rfl rfl
theorem stAlter_FS (key:Int) (alt:List (Ln×Int)) (a b v:Int) (hv:-1≤v∧v≤1):Cto truB 0 Tryz.prog 172 [.pt 1 0 0,.ag [.sc (.int .i64 a),.sc (.int .i64 b)],.sc (.int .i64 v)] (stfM key alt) 2 (.tu []) (stfM key (updA (a,b) (v+2) alt)) 2:=by
 refine Cto.intro truS Tryz.func172 rfl Tryz.ntmps172 (Nat.le_of_ble_eq_true rfl) rfl fun w0 F0 fp pg hB=>?_
 dsimp only [number,Nat.reduceAdd,stfM]
 repeat refine W.go rfl ?_
 refine (?_:W _ _ _ _ _)
 dsimp only [St.put,Nat.reduceAdd]
 refine W.dkT 7 (by kernel_rfl) (by kernel_rfl) (by kernel_rfl) (by kernel_rfl) ?_
 repeat refine DK.st rfl ?_
 refine DK.vl rfl (WV.nch rfl rfl) ?_
 repeat (first|refine DK.st rfl ?_|refine DK.ar rfl rfl (by unfold I64;omega) ?_|refine DK.nil ?_)
 refine ⟨rfl,?_⟩
 refine WL.mup keyLn rfl rfl rfl rfl rfl rfl rfl (fun G v r=>rLn r) rfl rfl (updK_valA (a,b) (v+2) alt) ?_
 repeat refine WL.nil ?_
 dsimp only [St.put,Nat.reduceAdd]
 refine finTr (σ':=⟨[],stfM key (updA (a,b) (v+2) alt),2⟩) (Tr.ren id (by repeat (first|exact trivial|refine ⟨⟨?_,?_⟩,?_⟩|rfl)) (by repeat (first|exact trivial|refine ⟨⟨?_,?_,?_⟩,?_⟩|rfl)) rfl) ?_
 exact finMu rfl rfl rfl rfl rfl
theorem byteOf_int(l:Int):(IntKind.u8.wrap l).toNat.toUInt8=byteOf l:=by
 unfold byteOf
 congr 2
theorem idxB_bd(l:List UInt8)(c:UInt8):-1≤Lib.indexByte l c∧Lib.indexByte l c≤l.length:=by
 refine⟨Lib.indexByte_ge l c,?_⟩
 induction l with
 | nil=>unfold Lib.indexByte;simp
 | cons b r ih =>
  unfold Lib.indexByte
  split
  ·simp;omega
  ·split
   ·simp;omega
   ·simp;omega
theorem indexByte_FS (s:List UInt8)(z:Int):Ctr Tryz.prog 211 [.sc (.string (bs s)),.sc (.int .u8 z)] (.sc (.int .i64 (Lib.indexByte s z.toNat.toUInt8))) :=
 Ctr.of_sc rfl (fun _=>.sc _) fun w=>(Tryz.strings_IndexByte (bs s) z w).mono fun e w'⟨he,hw⟩=>⟨by rw [he];rfl,hw ▸ Below.refl _ _⟩
theorem stInForce_FS (key:Int) (alt:List (Ln×Int)) (a b:Int) (hk:-4≤key∧key≤4) (hA:AltOk alt):Cto truB 0 Tryz.prog 170 [.pt 1 0 0,.ag [.sc (.int .i64 a),.sc (.int .i64 b)]] (stfM key alt) 2 (.sc (.int .i64 (frcA key alt (a,b)))) (stfM key alt) 2:=by
 have hl:=hA (a,b)
 have hlk:=lookK_valA (a,b) alt
 have hx1:=indexByte_FS [3,0,4,1] (IntKind.u8.wrap a)
 have hx2:=indexByte_FS [6,2,5,1] (IntKind.u8.wrap a)
 rw [byteOf_int] at hx1 hx2
 have hb1:=idxB_bd [3,0,4,1] (byteOf a)
 have hb2:=idxB_bd [6,2,5,1] (byteOf a)
 have hfr:frcA key alt (a,b)=if 0 < lookA (a,b) alt then lookA (a,b) alt - 2 else if 0≤Lib.indexByte [3,0,4,1] (byteOf a)∧Lib.indexByte [3,0,4,1] (byteOf a) < key then 1 else if 0≤Lib.indexByte [6,2,5,1] (byteOf a)∧Lib.indexByte [6,2,5,1] (byteOf a) < 0 - key then -1 else 0:=rfl
 rw [hfr]
 obtain ⟨v,hv⟩:∃ v,lookA (a,b) alt=v:=⟨_,rfl⟩
 obtain ⟨i1,hi1⟩:∃ v,Lib.indexByte [3,0,4,1] (byteOf a)=v:=⟨_,rfl⟩
 obtain ⟨i2,hi2⟩:∃ v,Lib.indexByte [6,2,5,1] (byteOf a)=v:=⟨_,rfl⟩
 rw [hv] at hl hlk ⊢
 rw [hi1] at hx1 hb1 ⊢
 rw [hi2] at hx2 hb2 ⊢
 simp only [List.length_cons,List.length_nil] at hb1 hb2
 by_cases h1:0 < v
 ·rw [if_pos h1]
  refine Cto.intro truS Tryz.func170 rfl Tryz.ntmps170 (Nat.le_of_ble_eq_true rfl) rfl fun w0 F0 fp pg hB=>?_
  dsimp only [number,Nat.reduceAdd,stfM]
  repeat refine W.go rfl ?_
  refine (?_:W _ _ _ _ _)
  dsimp only [St.put,Nat.reduceAdd]
  refine W.drawK (by kernel_rfl) (by kernel_rfl) ?_
  repeat refine DK.st rfl ?_
  refine DK.vl rfl (WV.nch rfl rfl) ?_
  repeat refine DK.st rfl ?_
  refine DK.vl rfl (WV.cast (WV.mlk keyLn rfl rfl rfl rfl rfl rfl (fun G v r=>rLn r)) (congrArg AV.sc hlk)) ?_
  repeat (first|refine DK.st rfl ?_|refine DK.nil ?_)
  repeat (first|refine W.gob rfl ?_|refine WL.nil ?_|refine WL.bt rfl rfl rfl (by omega) ?_|refine WL.e1 rfl ?_|refine WL.ar rfl rfl (by unfold I64;omega) ?_|refine W.condT rfl ?_)
  refine (?_:W _ _ _ _ _)
  dsimp only [St.put,Nat.reduceAdd]
  refine W.tr (σ':=⟨[(4,.sc (.int .i64 (v - 2)))],stfM key alt,2⟩) (Tr.ren id (by repeat (first|exact trivial|refine ⟨⟨?_,?_⟩,?_⟩|rfl)) (by repeat (first|exact trivial|refine ⟨⟨?_,?_,?_⟩,?_⟩|rfl)) rfl) ?_
  exact W.ret (finM rfl rfl rfl rfl rfl)
 rw [if_neg h1]
 by_cases h2:0≤i1∧i1 < key
 ·rw [if_pos h2]
  refine Cto.intro truS Tryz.func170 rfl Tryz.ntmps170 (Nat.le_of_ble_eq_true rfl) rfl fun w0 F0 fp pg hB=>?_
  dsimp only [number,Nat.reduceAdd,stfM]
  repeat refine W.go rfl ?_
  refine (?_:W _ _ _ _ _)
  dsimp only [St.put,Nat.reduceAdd]
  refine W.drawK (by kernel_rfl) (by kernel_rfl) ?_
  repeat refine DK.st rfl ?_
  refine DK.vl rfl (WV.nch rfl rfl) ?_
  repeat refine DK.st rfl ?_
  refine DK.vl rfl (WV.cast (WV.mlk keyLn rfl rfl rfl rfl rfl rfl (fun G v r=>rLn r)) (congrArg AV.sc hlk)) ?_
  repeat (first|refine DK.st rfl ?_|refine DK.nil ?_)
  repeat (first|refine W.gob rfl ?_|refine WL.nil ?_|refine WL.bf rfl rfl rfl (by omega) ?_|refine WL.e1 rfl ?_|refine W.condF rfl ?_)
  refine (?_:WL _ _ _ _ _ _)
  dsimp only [St.put,Nat.reduceAdd]
  refine WL.cvt rfl rfl rfl rfl ?_
  refine WL.vl rfl (WV.call rfl (callF Tryz.func211 rfl rfl) rfl rfl hx1) ?_
  repeat (first|refine W.gob rfl ?_|refine WL.nil ?_|refine WL.bt rfl rfl rfl (by omega) ?_|refine WL.e1 rfl ?_|refine WL.gyes rfl rfl rfl rfl ?_)
  refine (?_:WL _ _ _ _ _ _)
  dsimp only [St.put,Nat.reduceAdd]
  repeat (refine WL.vl rfl (WV.nch rfl rfl) ?_)
  repeat (first|refine W.gob rfl ?_|refine WL.nil ?_|refine WL.bt rfl rfl rfl (by omega) ?_|refine WL.e1 rfl ?_|refine WL.gyes rfl rfl rfl rfl ?_|refine W.condT rfl ?_)
  refine (?_:W _ _ _ _ _)
  dsimp only [St.put,Nat.reduceAdd]
  refine W.tr (σ':=⟨[(4,.sc (.int .i64 1))],stfM key alt,2⟩) (Tr.ren id (by repeat (first|exact trivial|refine ⟨⟨?_,?_⟩,?_⟩|rfl)) (by repeat (first|exact trivial|refine ⟨⟨?_,?_,?_⟩,?_⟩|rfl)) rfl) ?_
  exact W.ret (finM rfl rfl rfl rfl rfl)
 rw [if_neg h2]
 have h3:i1 < 0∨(0≤i1∧¬ i1 < key):=by omega
 by_cases h4:0≤i2∧i2 < 0 - key
 ·rw [if_pos h4]
  rcases h3 with h3|h3
  all_goals
   refine Cto.intro truS Tryz.func170 rfl Tryz.ntmps170 (Nat.le_of_ble_eq_true rfl) rfl fun w0 F0 fp pg hB=>?_
   dsimp only [number,Nat.reduceAdd,stfM]
   repeat refine W.go rfl ?_
   refine (?_:W _ _ _ _ _)
   dsimp only [St.put,Nat.reduceAdd]
   refine W.drawK (by kernel_rfl) (by kernel_rfl) ?_
   repeat refine DK.st rfl ?_
   refine DK.vl rfl (WV.nch rfl rfl) ?_
   repeat refine DK.st rfl ?_
   refine DK.vl rfl (WV.cast (WV.mlk keyLn rfl rfl rfl rfl rfl rfl (fun G v r=>rLn r)) (congrArg AV.sc hlk)) ?_
   repeat (first|refine DK.st rfl ?_|refine DK.nil ?_)
   repeat (first|refine W.gob rfl ?_|refine WL.nil ?_|refine WL.bf rfl rfl rfl (by omega) ?_|refine WL.e1 rfl ?_|refine W.condF rfl ?_)
   refine (?_:WL _ _ _ _ _ _)
   dsimp only [St.put,Nat.reduceAdd]
   refine WL.cvt rfl rfl rfl rfl ?_
   refine WL.vl rfl (WV.call rfl (callF Tryz.func211 rfl rfl) rfl rfl hx1) ?_
   repeat (first|refine W.gob rfl ?_|refine WL.nil ?_|refine WL.bt rfl rfl rfl (by omega) ?_|refine WL.bf rfl rfl rfl (by omega) ?_|refine WL.e1 rfl ?_|refine WL.gyes rfl rfl rfl rfl ?_|refine WL.opno rfl rfl rfl rfl rfl rfl rfl ?_|refine W.condF rfl ?_)
   refine (?_:WL _ _ _ _ _ _)
   dsimp only [St.put,Nat.reduceAdd]
   repeat (refine WL.vl rfl (WV.nch rfl rfl) ?_)
   repeat (first|refine W.gob rfl ?_|refine WL.nil ?_|refine WL.bf rfl rfl rfl (by omega) ?_|refine WL.e1 rfl ?_|refine WL.gyes rfl rfl rfl rfl ?_|refine W.condF rfl ?_)
   refine (?_:WL _ _ _ _ _ _)
   try dsimp only [St.put,Nat.reduceAdd]
   refine WL.cvt rfl rfl rfl rfl ?_
   refine WL.vl rfl (WV.call rfl (callF Tryz.func211 rfl rfl) rfl rfl hx2) ?_
   repeat (first|refine W.gob rfl ?_|refine WL.nil ?_|refine WL.bt rfl rfl rfl (by omega) ?_|refine WL.e1 rfl ?_|refine WL.gyes rfl rfl rfl rfl ?_)
   refine (?_:WL _ _ _ _ _ _)
   dsimp only [St.put,Nat.reduceAdd]
   repeat (refine WL.vl rfl (WV.nch rfl rfl) ?_)
   repeat (first|refine W.gob rfl ?_|refine WL.nil ?_|refine WL.bt rfl rfl rfl (by omega) ?_|refine WL.e1 rfl ?_|refine WL.gyes rfl rfl rfl rfl ?_|refine WL.neg rfl rfl (by unfold I64;omega) ?_|refine W.condT rfl ?_)
   refine (?_:W _ _ _ _ _)
   dsimp only [St.put,Nat.reduceAdd]
   refine W.tr (σ':=⟨[(4,.sc (.int .i64 (-1)))],stfM key alt,2⟩) (Tr.ren id (by repeat (first|exact trivial|refine ⟨⟨?_,?_⟩,?_⟩|rfl)) (by repeat (first|exact trivial|refine ⟨⟨?_,?_,?_⟩,?_⟩|rfl)) rfl) ?_
   exact W.ret (finM rfl rfl rfl rfl rfl)
 ·rw [if_neg h4]
  have h5:i2 < 0∨(0≤i2∧¬ i2 < 0 - key):=by omega
  rcases h3 with h3|h3
  all_goals
   rcases h5 with h5|h5
  all_goals
   refine Cto.intro truS Tryz.func170 rfl Tryz.ntmps170 (Nat.le_of_ble_eq_true rfl) rfl fun w0 F0 fp pg hB=>?_
   dsimp only [number,Nat.reduceAdd,stfM]
   repeat refine W.go rfl ?_
   refine (?_:W _ _ _ _ _)
   dsimp only [St.put,Nat.reduceAdd]
   refine W.drawK (by kernel_rfl) (by kernel_rfl) ?_
   repeat refine DK.st rfl ?_
   refine DK.vl rfl (WV.nch rfl rfl) ?_
   repeat refine DK.st rfl ?_
   refine DK.vl rfl (WV.cast (WV.mlk keyLn rfl rfl rfl rfl rfl rfl (fun G v r=>rLn r)) (congrArg AV.sc hlk)) ?_
   repeat (first|refine DK.st rfl ?_|refine DK.nil ?_)
   repeat (first|refine W.gob rfl ?_|refine WL.nil ?_|refine WL.bf rfl rfl rfl (by omega) ?_|refine WL.e1 rfl ?_|refine W.condF rfl ?_)
   refine (?_:WL _ _ _ _ _ _)
   dsimp only [St.put,Nat.reduceAdd]
   refine WL.cvt rfl rfl rfl rfl ?_
   refine WL.vl rfl (WV.call rfl (callF Tryz.func211 rfl rfl) rfl rfl hx1) ?_
   repeat (first|refine W.gob rfl ?_|refine WL.nil ?_|refine WL.bt rfl rfl rfl (by omega) ?_|refine WL.bf rfl rfl rfl (by omega) ?_|refine WL.e1 rfl ?_|refine WL.gyes rfl rfl rfl rfl ?_|refine WL.opno rfl rfl rfl rfl rfl rfl rfl ?_|refine W.condF rfl ?_)
   refine (?_:WL _ _ _ _ _ _)
   dsimp only [St.put,Nat.reduceAdd]
   repeat (refine WL.vl rfl (WV.nch rfl rfl) ?_)
   repeat (first|refine W.gob rfl ?_|refine WL.nil ?_|refine WL.bf rfl rfl rfl (by omega) ?_|refine WL.e1 rfl ?_|refine WL.gyes rfl rfl rfl rfl ?_|refine W.condF rfl ?_)
   refine (?_:WL _ _ _ _ _ _)
   try dsimp only [St.put,Nat.reduceAdd]
   refine WL.cvt rfl rfl rfl rfl ?_
   refine WL.vl rfl (WV.call rfl (callF Tryz.func211 rfl rfl) rfl rfl hx2) ?_
   repeat (first|refine W.gob rfl ?_|refine WL.nil ?_|refine WL.bt rfl rfl rfl (by omega) ?_|refine WL.bf rfl rfl rfl (by omega) ?_|refine WL.e1 rfl ?_|refine WL.gyes rfl rfl rfl rfl ?_|refine WL.opno rfl rfl rfl rfl rfl rfl rfl ?_|refine W.condF rfl ?_)
   (first|refine (?_:W _ _ _ _ _)|refine (?_:WL _ _ _ _ _ _))
   dsimp only [St.put,Nat.reduceAdd]
   repeat (refine WL.vl rfl (WV.nch rfl rfl) ?_)
   repeat (first|refine W.gob rfl ?_|refine WL.nil ?_|refine WL.bf rfl rfl rfl (by omega) ?_|refine WL.e1 rfl ?_|refine WL.gyes rfl rfl rfl rfl ?_|refine WL.neg rfl rfl (by unfold I64;omega) ?_|refine W.condF rfl ?_)
   refine (?_:W _ _ _ _ _)
   try dsimp only [St.put,Nat.reduceAdd]
   refine W.tr (σ':=⟨[(4,.sc (.int .i64 0))],stfM key alt,2⟩) (Tr.ren id (by repeat (first|exact trivial|refine ⟨⟨?_,?_⟩,?_⟩|rfl)) (by repeat (first|exact trivial|refine ⟨⟨?_,?_,?_⟩,?_⟩|rfl)) rfl) ?_
   exact W.ret (finM rfl rfl rfl rfl rfl)
end Go.Proofs.YtgelfflighgajaaGreatDoor
namespace Go.Proofs.YtgelfflighgajaaGreatDoor
open Go.RowKit
theorem pcOk_of2 {p:Pce} (h:bigB p=false):PcOk p:=by
 unfold bigB at h
 simp only [Bool.or_eq_false_iff,decide_eq_false_iff_not,List.any_eq_false]at h
 obtain⟨h1,h2,h3,h4⟩:=h
 refine⟨by omega,by omega,by omega,fun k hk=>?_⟩
 have:=h4 _ (List.getElem_mem hk)
 simp at this
 exact this
theorem big_FS (p:Pce):Ctr Tryz.prog 49 [ePce p] (.sc (.bool (bigB p))) :=
 Ctr.of_pc (pre:=[]) (post:=[]) rfl rfl (fun _=>.sc _) fun w M hM=>big_any M p w hM
end Go.Proofs.YtgelfflighgajaaGreatDoor
namespace Go.Proofs.YtgelfflighgajaaGreatDoor
open Go.RowKit
def longB (p:Pce):Bool:=bigB p|| decide (60<p.evs.length)
theorem long_FS (p:Pce):Ctr Tryz.prog 14 [ePce p] (.sc (.bool (longB p))):=by
 refine Ctr.intro Tryz.func14 rfl Tryz.ntmps14 (Nat.le_of_ble_eq_true rfl) (bd_all rfl) fun w0 F0=>?_;dsimp only [St.init,number,Nat.reduceAdd]
 repeat refine W.go rfl ?_
 refine (?_:WL _ _ _ _ _ _)
 dsimp only [St.put,Nat.reduceAdd]
 refine WL.vl rfl (WV.call rfl (callF Tryz.func49 rfl rfl) rfl rfl (big_FS p)) ?_
 repeat refine WL.ev rfl ?_
 refine (?_:WL _ _ _ _ _ _)
 dsimp only [St.put,Nat.reduceAdd]
 refine WL.partG rfl rfl rfl rfl (fun hp=>?_) (fun hp=>?_)
 ·repeat (first|refine WL.ev rfl ?_|refine WL.opno rfl rfl rfl rfl rfl rfl rfl ?_)
  refine (?_:W _ _ _ _ _)
  dsimp only [St.put,Nat.reduceAdd]
  exact W.ret (fin1 rfl rfl (sc_bool (by unfold longB;rw [hp];rfl)) rfl)
 ·repeat (first|refine WL.ev rfl ?_|refine WL.gyes rfl rfl rfl rfl ?_|refine WL.len rfl rfl (by first|exact List.length_map _|exact List.length_replicate|rfl) ?_)
  refine (?_:W _ _ _ _ _)
  dsimp only [St.put,Nat.reduceAdd]
  refine W.ret (fin1 rfl rfl (sc_bool ?_) rfl)
  unfold longB
  rw [hp,Bool.false_or]
  show decide _=decide _
  rw [decide_eq_decide];omega
theorem pcOk_of3 {p:Pce} (h:longB p=false):PcOk p:=pcOk_of2 (p:=p) (by unfold longB at h;simp only [Bool.or_eq_false_iff]at h;exact h.1)
end Go.Proofs.YtgelfflighgajaaGreatDoor
