/- How long a piece is. -/
import Derived.Test.YtkgnmddakiagbaaGreatDoorCoPXq
set_option linter.unusedVariables false
set_option linter.unusedSimpArgs false
namespace Go.Proofs.YtkgnmddakiagbaaGreatDoor
open Go.RowKit
abbrev Sf:=Int×Int×Int×Int
abbrev Ln:=Int×Int
def lookA (k:Ln):List (Ln×Int)→Int
 | []=>0
 | x::r=>if k=x.1 then x.2 else lookA k r
def updA (k:Ln)(v:Int):List (Ln×Int)→List (Ln×Int)
 | []=>[(k,v)]
 | x::r=>if k=x.1 then (k,v)::r else x::updA k v r
theorem lookA_upd (k q:Ln)(v:Int):∀ l,lookA q (updA k v l)=if q=k then v else lookA q l
 | []=>by simp [updA,lookA]
 | x::r=>by
  unfold updA
  by_cases h:k=x.1
  ·rw [if_pos h]
   unfold lookA
   by_cases hq:q=k
   ·simp [hq]
   ·rw [if_neg hq,if_neg hq,if_neg (fun e=>hq (e.trans h.symm))]
  ·rw [if_neg h]
   unfold lookA
   by_cases hq:q=x.1
   ·rw [if_pos hq,if_pos hq,if_neg (fun e=>h (e.symm.trans hq))]
   ·rw [if_neg hq,if_neg hq,lookA_upd k q v r]
def valA (l:List (Ln×Int)):List (Ln×Value):=l.map fun x=>(x.1,.int .i64 x.2)
def encLn(k:Ln):Value:=.agg #[.int .i64 k.1,.int .i64 k.2]
theorem locK_valA (k:Ln):∀ (l:List (Ln×Int)) (i:Nat),((locK k i (valA l)).map (·.2)).getD (.int .i64 0)=.int .i64 (lookA k l)
 | [],i=>rfl
 | x::r,i=>by
  show ((if k=x.1 then some (i,Value.int .i64 x.2)else locK k (i+1) (valA r)).map (·.2)).getD _=_
  unfold lookA
  by_cases h:k=x.1
  ·rw [if_pos h,if_pos h];rfl
  ·rw [if_neg h,if_neg h];exact locK_valA k r (i+1)
theorem lookK_valA (k:Ln)(l:List (Ln×Int)):lookK (.int .i64 0) k (valA l)=.int .i64 (lookA k l):=locK_valA k l 0
theorem updK_valA (k:Ln) (v:Int):∀ l:List (Ln×Int),updK k (.int .i64 v) (valA l)=valA (updA k v l)
 | []=>rfl
 | x::r=>by
  show (if k=x.1 then (k,Value.int .i64 v)::valA r else (x.1,Value.int .i64 x.2)::updK k (.int .i64 v) (valA r))=valA (if k=x.1 then (k,v)::r else x::updA k v r)
  by_cases h:k=x.1
  ·rw [if_pos h,if_pos h];rfl
  ·rw [if_neg h,if_neg h,updK_valA k v r];rfl
def sigB(key:Int)(b:UInt8):Int :=
 if 0≤Lib.indexByte [3,0,4,1] b∧Lib.indexByte [3,0,4,1] b<key then 1 else if 0≤Lib.indexByte [6,2,5,1] b∧Lib.indexByte [6,2,5,1] b<0-key then -1 else 0
def byteOf(l:Int):UInt8:=(l % 256).toNat.toUInt8
def frcA (key:Int)(alt:List (Ln×Int))(k:Ln):Int:=if 0<lookA k alt then lookA k alt-2 else sigB key (byteOf k.1)
def accN(al:Int):Int:=if al=1 then 1 else if al=-1 then 2 else 3
def AltOk (alt:List (Ln×Int)):Prop:=∀ k,0≤lookA k alt∧lookA k alt≤3
theorem AltOk.nil:AltOk []:=fun k=>⟨Int.le_refl 0,by show(0:Int)≤3;decide⟩
theorem AltOk.upd {alt:List (Ln×Int)} (h:AltOk alt)(k:Ln) {v:Int} (hv:0≤v∧v≤3):AltOk (updA k v alt):=fun q=>by
 rw [lookA_upd]
 split
 ·exact hv
 ·exact h q
end Go.Proofs.YtkgnmddakiagbaaGreatDoor
namespace Go.Proofs.YtkgnmddakiagbaaGreatDoor
open Go.RowKit
set_option maxHeartbeats 8000000
set_option maxRecDepth 100000
theorem pOnsets_bad (M:PM)(p:Pce)(w:World)(hP:PcAt w w.heap.size M p)(hO:PcOk p)(h0:pceE p≠0):Calls Tryz.prog 72 #[pcValue M p] w (Ret (.tuple #[.slice none 0 0,.int .i64 (pceE p)]) w):=by
 have hC:=fun (w':World)(hb:Below w.heap.size w w')=>pCheck_any M p w' (hP.after hb) hO
 obtain⟨E,hE⟩:∃ E,pceE p=E:=⟨_,rfl⟩
 rw [hE] at hC h0 ⊢
 obtain⟨A1,A2,A3,c1,c2,c3⟩:=M
 unfold pcValue at *
 simp only at *
 have HC:=Lib.hid hC
 have e1:(E == 0)=false:=by simpa using h0
 have e2:(E != 0)=true:=by simpa using h0
 clear hC hP hO h0 hE
 go_enter Tryz.func72,Tryz.ntmps72
 go_wp2_with (go_at_call 45;refine (HC.out _ (by repeat (first|exact Below.refl _ _|assumption|refine bel_drewN ?_ _|refine Below.drew ?_|refine bel_alloc ?_ _|refine Below.setCell ?_ (by first|omega|(simp;done)|(simp;omega)) _|refine bel_step ?_ (by assumption)))).mono ?_;rintro e' w1⟨rfl,hb1⟩;have k1:=(Blk.new _ _ _).after hb1;have l1:w.heap.size < w1.heap.size:=k1.lt;clear k1)
 go_ret2
 exact Ret.mk' rfl (by repeat (first|exact Below.refl _ _|assumption|refine bel_drewN ?_ _|refine Below.drew ?_|refine bel_alloc ?_ _|refine Below.setCell ?_ (by first|omega|(simp;done)|(simp;omega)) _|refine bel_step ?_ (by assumption)))
theorem pMeasures_bad (M:PM)(p:Pce)(w:World)(hP:PcAt w w.heap.size M p)(hO:PcOk p)(h0:pceE p≠0):Calls Tryz.prog 37 #[pcValue M p] w (Ret (.tuple #[.slice none 0 0,.int .i64 (pceE p)]) w):=by
 have hC:=fun (w':World)(hb:Below w.heap.size w w')=>pCheck_any M p w' (hP.after hb) hO
 obtain⟨E,hE⟩:∃ E,pceE p=E:=⟨_,rfl⟩
 rw [hE] at hC h0 ⊢
 obtain⟨A1,A2,A3,c1,c2,c3⟩:=M
 unfold pcValue at *
 simp only at *
 have HC:=Lib.hid hC
 have e1:(E == 0)=false:=by simpa using h0
 have e2:(E != 0)=true:=by simpa using h0
 clear hC hP hO h0 hE
 go_enter Tryz.func37,Tryz.ntmps37
 go_wp2_with (go_at_call 45;refine (HC.out _ (by repeat (first|exact Below.refl _ _|assumption|refine bel_drewN ?_ _|refine Below.drew ?_|refine bel_alloc ?_ _|refine Below.setCell ?_ (by first|omega|(simp;done)|(simp;omega)) _|refine bel_step ?_ (by assumption)))).mono ?_;rintro e' w1⟨rfl,hb1⟩;have k1:=(Blk.new _ _ _).after hb1;have l1:w.heap.size < w1.heap.size:=k1.lt;clear k1)
 go_ret2
 exact Ret.mk' rfl (by repeat (first|exact Below.refl _ _|assumption|refine bel_drewN ?_ _|refine Below.drew ?_|refine bel_alloc ?_ _|refine Below.setCell ?_ (by first|omega|(simp;done)|(simp;omega)) _|refine bel_step ?_ (by assumption)))
end Go.Proofs.YtkgnmddakiagbaaGreatDoor
namespace Go.Proofs.YtkgnmddakiagbaaGreatDoor
open Go.RowKit
section
variable {P:Program} {C:Cx} {σ:St} {o:Oper} {d:Tmp} {ops:Array Oper} {rest:List Oper} {Q:Exit→St→Prop} {mem:List Bool} {Mc:List (Nat×AO)} {nk0 k:Nat}
theorem DMK.ldr {rows:List (List AV)} {i j:Nat} {r:List AV} {av:AV} (hd:memB C.N ops mem Mc k nk0 σ.t o=some (d,true)) (h:ldrV P ⟨onlyT σ.t (o.looksAt ops),Mc,nk0⟩ o.op=some (rows,i,j)) (hi:rows[i]?=some r) (hj:r[j]?=some av) (ho2:av.own=false)
  (K:DMK P C ops mem Mc nk0 (k+1) rest (σ.put d av) Q):DMK P C ops mem Mc nk0 k (o::rest) σ Q:=DMK.v0 hd (ldrV_of h hi hj ho2) K
theorem DMK.vl {av:AV} (hd:memB C.N ops mem Mc k nk0 σ.t o=some (d,true)) (h:WV P C o ⟨onlyT σ.t (o.looksAt ops),Mc,nk0⟩ av)
  (K:DMK P C ops mem Mc nk0 (k+1) rest (σ.put d av) Q):DMK P C ops mem Mc nk0 k (o::rest) σ Q:=DMK.v0 hd h K
theorem DMK.ixs {q:Nat} {rows:List (List AV)} {z:Int} (hd:memB C.N ops mem Mc k nk0 σ.t o=some (d,true)) (h:ixsV P ⟨onlyT σ.t (o.looksAt ops),Mc,nk0⟩ o.op=some (q,rows,z)) (h0:0≤z∧z<rows.length)
  (K:DMK P C ops mem Mc nk0 (k+1) rest (σ.put d (.pt q z.toNat 0)) Q):DMK P C ops mem Mc nk0 k (o::rest) σ Q:=DMK.v0 hd (ixsV_of h h0.1 h0.2) K
end
end Go.Proofs.YtkgnmddakiagbaaGreatDoor
namespace Go.Proofs.YtkgnmddakiagbaaGreatDoor
open Go.RowKit
set_option maxRecDepth 100000
set_option maxHeartbeats 8000000
theorem rRight2_FS (v:Int)(d t:Bool):Ctr Tryz.prog 153 [.ag [.sc (.int .i64 v),.sc (.bool d),.sc (.bool t)]] (.sc (.bool (sgOk v d t))):=by
 intro w F vs hF hR
 match vs,hR.1 with
 | [x],_ =>
  obtain⟨cs,rfl,h1,h2⟩:∃ cs:Array Value,x=.agg cs∧cs.size=3∧∀ (i:Nat)av u,[AV.sc (.int .i64 v),.sc (.bool d),.sc (.bool t)][i]?=some av→cs[i]?=some u→RP F av u:=by
   cases hR.2 0 _ x rfl rfl with|ag l cs a b=>exact⟨cs,rfl,a,b⟩
  have g:∀ i (h:i<3),cs[i]?=some (cs[i]'(by omega)):=fun i h=>Array.getElem?_eq_getElem (by omega)
  have e:cs=#[.int .i64 v,.bool d,.bool t]:=by
   apply Array.ext (by simp [h1])
   intro i hi hi2
   match i,(show i<3 by omega)with
   | 0,_=>exact (h2 0 _ _ rfl (g 0 (by omega))).sc_eq
   | 1,_=>exact (h2 1 _ _ rfl (g 1 (by omega))).sc_eq
   | 2,_=>exact (h2 2 _ _ rfl (g 2 (by omega))).sc_eq
  subst e
  exact (right_any v d t w).mono fun e w'⟨he,hb⟩=>⟨_,F,he,hb,fun _ _ h=>h,fun p u x=>by rw [hb.cell (cell_block (hF p u x))];exact hF p u x,fun _ _ h=>.inl h,.sc _⟩
theorem ev_of_rp {F:View} {w:World} {e:Ev} {v:Value} (hF:∀ p u,F p=some u→w.cell? p=some u)(r:RP F (.ag (eEv e)) v):∃ S c,v=evVal e S c:=by
 obtain⟨cs,rfl,h1,h2⟩:∃ cs:Array Value,v=.agg cs∧cs.size=6∧∀ (i:Nat) av u,(eEv e)[i]?=some av→cs[i]?=some u→RP F av u:=by
  cases r with|ag l cs a b=>exact⟨cs,rfl,a,b⟩
 have g:∀ i (h:i<6),cs[i]?=some (cs[i]'(by omega)):=fun i h=>Array.getElem?_eq_getElem (by omega)
 obtain⟨A,c,e5,_,_⟩:=stps_of_rp hF (h2 5 _ _ rfl (g 5 (by omega)))
 refine⟨A,c,?_⟩
 unfold evVal
 congr 1
 apply Array.ext (by simp [h1])
 intro i hi hi2
 match i,(show i<6 by omega) with
 | 0,_=>exact (h2 0 _ _ rfl (g 0 (by omega))).sc_eq
 | 1,_=>exact (h2 1 _ _ rfl (g 1 (by omega))).sc_eq
 | 2,_=>exact (h2 2 _ _ rfl (g 2 (by omega))).sc_eq
 | 3,_=>exact (h2 3 _ _ rfl (g 3 (by omega))).sc_eq
 | 4,_=>exact (h2 4 _ _ rfl (g 4 (by omega))).sc_eq
 | 5,_=>exact e5
theorem rest_FS (e:Ev):Ctr Tryz.prog 130 [.ag (eEv e)] (.sc (.bool (restB e))):=by
 intro w F vs hF hR
 match vs,hR.1 with
 | [v],_ =>
  obtain⟨S,c,rfl⟩:=ev_of_rp hF (hR.2 0 _ v rfl rfl)
  exact (rRest_any e S c w).mono fun e w'⟨he,hb⟩=>⟨_,F,he,hb,fun _ _ h=>h,fun p u x=>by rw [hb.cell (cell_block (hF p u x))];exact hF p u x,fun _ _ h=>.inl h,.sc _⟩
theorem rLong_FS (p:Pce) (hO:PcOk p) (i x:Int):Ctr Tryz.prog 154 [ePce p,.sc (.int .i64 i),.sc (.int .i64 x)] (.sc (.int .i64 (longestN p.evs i x))) :=
 Ctr.of_pc (pre:=[]) (post:=[.sc (.int .i64 i),.sc (.int .i64 x)]) rfl rfl (fun _=>.sc _) fun w M hM=>rLongest_any M p i x w hM hO
end Go.Proofs.YtkgnmddakiagbaaGreatDoor
namespace Go.Proofs.YtkgnmddakiagbaaGreatDoor
open Go.RowKit
set_option maxRecDepth 100000
set_option maxHeartbeats 4000000
def longB (p:Pce):Bool:=bigB p || decide (60<p.evs.length)
theorem long_FS (p:Pce):Ctr Tryz.prog 20 [ePce p] (.sc (.bool (longB p))):=by
 refine Ctr.intro Tryz.func20 rfl Tryz.ntmps20 (Nat.le_of_ble_eq_true rfl) (bd_all rfl) fun w0 F0=>?_;dsimp only [St.init,number,Nat.reduceAdd]
 repeat refine W.go rfl ?_
 refine (?_:WL _ _ _ _ _ _)
 dsimp only [St.put,Nat.reduceAdd]
 refine WL.vl rfl (WV.call rfl (callF Tryz.func11 rfl rfl) rfl rfl (big_FS p)) ?_
 repeat refine WL.ev rfl ?_
 refine (?_:WL _ _ _ _ _ _)
 dsimp only [St.put,Nat.reduceAdd]
 refine WL.partG rfl rfl rfl rfl (fun hp=>?_) (fun hp=>?_)
 ·repeat (first|refine WL.ev rfl ?_|refine WL.opno rfl rfl rfl rfl rfl rfl rfl ?_)
  refine (?_:W _ _ _ _ _)
  dsimp only [St.put,Nat.reduceAdd]
  exact W.ret (fin1 rfl rfl (sc_bool (by unfold longB;rw [hp];rfl)) rfl)
 ·repeat (first|refine WL.ev rfl ?_|refine WL.gyes rfl rfl rfl rfl ?_|refine WL.len rfl rfl (by first|exact List.length_map _|exact List.length_replicate|rfl) ?_)
  refine (?_:W _ _ _ _ _)
  dsimp only [St.put,Nat.reduceAdd]
  refine W.ret (fin1 rfl rfl (sc_bool ?_) rfl)
  unfold longB
  rw [hp,Bool.false_or]
  show decide _=decide _
  rw [decide_eq_decide];omega
theorem pcOk_of3 {p:Pce} (h:longB p=false):PcOk p:=pcOk_of2 (p:=p) (by unfold longB at h;simp only [Bool.or_eq_false_iff]at h;exact h.1)
end Go.Proofs.YtkgnmddakiagbaaGreatDoor
