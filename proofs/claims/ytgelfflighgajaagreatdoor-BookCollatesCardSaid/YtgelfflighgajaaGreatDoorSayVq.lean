/- What a system lacks, gathered: the program's closure. -/
import Derived.Test.YtgelfflighgajaaGreatDoorChPVq
import Derived.Test.YtgelfflighgajaaGreatDoorEVVq
set_option maxHeartbeats 1600000
set_option maxRecDepth 100000
set_option linter.unusedVariables false
set_option linter.unusedSimpArgs false
namespace Go.Proofs.YtgelfflighgajaaGreatDoor
open Go.RowKit
def eStp (x:Stp):List AV:=[.sc (.int .i64 x.1),.sc (.int .i64 x.2.1),.sc (.int .i64 x.2.2.1),.sc (.int .i64 x.2.2.2.1),.sc (.int .i64 x.2.2.2.2)]
def eStps (l:List Stp):AV:=.ls 5 (l.map eStp)
def eEv (e:Ev):List AV:=[.sc (.bool e.bar),.sc (.int .i64 e.val),.sc (.bool e.dot),.sc (.bool e.three),.sc (.bool e.tie),eStps e.stops]
def eCrs (x:Int×Int×Bool):List AV:=[.sc (.int .i64 x.1),.sc (.int .i64 x.2.1),.sc (.bool x.2.2)]
def eInt (x:Int):List AV:=[.sc (.int .i64 x)]
def eIns (cs:List (Int×Int×Bool))(st:List Int):List AV:=[.ls 3 (cs.map eCrs),.ls 1 (st.map eInt)]
def ePce (p:Pce):AV:=.ag [.ls 3 (p.cs.map eCrs),.ls 1 (p.st.map eInt),.ls 6 (p.evs.map eEv)]
theorem map_at {α β:Type} {f:α→β} {l:List α} {k:Nat} (h:k<l.length):(l.map f)[((k:Nat):Int).toNat]?=some (f l[k]):=by rw [Int.toNat_natCast];simp [h]
theorem map_atZ {α β:Type} {f:α→β} {l:List α} {z:Int} (h0:0≤z)(h:z<l.length):(l.map f)[z.toNat]?=some (f (l[z.toNat]'(by omega))):=by
 have:z.toNat<l.length:=by omega
 simp [this]
theorem take_map_succ {α β:Type} {f:α→β} {l:List α} {k:Nat} (h:k<l.length):(l.take k).map f++[f l[k]]=(l.take (k+1)).map f:=by
 rw [List.take_succ_eq_append_getElem h,List.map_append];rfl
theorem bd_all {l:List AV} (h:l.all AV.pu2=true):∀ (i:Nat) av,l[i]?=some av→Bd 0 av:=fun i av x=>pu2_bd (List.all_eq_true.1 h av (List.mem_of_getElem? x)) 0
theorem fin1 {P:Program} {fn:Func} {C:Cx} {σ:St} {t:Tmp} {av res:AV} (h:fn.results=#[.tmp t]) (ht:look t σ.t=some av) (he:av=res) (hp:res.pu2=true):QFin P fn C res .ret σ :=
 ⟨.inr rfl,Fin.one h (he ▸ ht) (pu2_bd hp 0)⟩
theorem fin2 {P:Program} {fn:Func} {C:Cx} {σ:St} {t u:Tmp} {a1 a2 r1 r2:AV} (h:fn.results=#[.tmp t,.tmp u]) (h1:look t σ.t=some a1) (h2:look u σ.t=some a2) (e1:a1=r1) (e2:a2=r2) (p1:r1.pu2=true) (p2:r2.pu2=true):QFin P fn C (.tu [r1,r2]) .ret σ :=
 ⟨.inr rfl,Fin.two h (e1 ▸ h1) (e2 ▸ h2) (pu2_bd p1 0) (pu2_bd p2 0)⟩
theorem sc_bool {a b:Bool} (h:a=b):AV.sc (.bool a)=.sc (.bool b):=by rw [h]
theorem sc_int {k:IntKind} {a b:Int} (h:a=b):AV.sc (.int k a)=.sc (.int k b):=by rw [h]
end Go.Proofs.YtgelfflighgajaaGreatDoor
namespace Go.Proofs.YtgelfflighgajaaGreatDoor
def rR(s n:Int):List UInt8:=if n=1∧s≠3 then [46]else if n=2∧s=1 then [58]else if n=3∧s=1 then [39]else []
def rG(s n:Int):List UInt8 :=
 if s=1∧1≤n∧n≤4 then cut [44,94,35,40] (n-1) n else if s=2∧n=1 then [116] else if(s=2∨s=4)∧n=3 then [35] else []
def rH(s n L:Int):List UInt8:=if s=1 then 95::dig2 n.toNat else if(s=2∨s=4)∧n=L then [42]else []
def pH(s n L:Int):List UInt8:=if n=0 then []else rH s n L
def okR(s n:Int):Bool:=n == 0 || !(rR s n).isEmpty
def okG(s n:Int):Bool:=n == 0 || !(rG s n).isEmpty
def okH(s n L:Int):Bool:=n == 0 || !(rH s n L).isEmpty
def cellS(s c f r g h L:Int):List UInt8:=pS s c f++rR s r++rG s g++pH s h L
def cellOk(s c f r g h L:Int):Bool:=pOk s c f && okR s r && okG s g && okH s h L
theorem rR_len(s n:Int):(rR s n).length≤1:=by
 unfold rR;split
 ·decide
 ·split
  ·decide
  ·split<;>decide
theorem rG_len(s n:Int):(rG s n).length≤4:=by
 unfold rG;split
 ·exact cut_length _ _ _
 ·split
  ·decide
  ·split<;>decide
theorem dig2_len(n:Nat):(dig2 n).length≤2:=by unfold dig2;split<;>simp
theorem rH_len(s n L:Int):(rH s n L).length≤3:=by
 unfold rH;split
 ·have:=dig2_len n.toNat;simp;omega
 ·split<;>decide
theorem pH_len(s n L:Int):(pH s n L).length≤3:=by
 unfold pH;split
 ·decide
 ·exact rH_len s n L
theorem symLenAll:((List.range' 1 4).all fun s=>(List.range' 1 14).all fun c=>(List.range 19).all fun f=>decide ((pS (s:Nat) (c:Nat) (f:Nat)).length≤4∧(rS (s:Nat) (c:Nat) (f:Nat)).length≤4))=true:=by
 decide +kernel
theorem pS_len (s c f:Int)(hs:1≤s∧s≤4)(hc:1≤c∧c≤14)(hf:0≤f∧f≤18):(pS s c f).length≤4∧(rS s c f).length≤4:=by
 obtain⟨s,rfl⟩:=Int.eq_ofNat_of_zero_le (show 0≤s by omega)
 obtain⟨c,rfl⟩:=Int.eq_ofNat_of_zero_le (show 0≤c by omega)
 obtain⟨f,rfl⟩:=Int.eq_ofNat_of_zero_le hf.1
 have h:=symLenAll
 rw [List.all_eq_true]at h
 have h1:=h s (List.mem_range'_1.2 (by omega))
 rw [List.all_eq_true]at h1
 have h2:=h1 c (List.mem_range'_1.2 (by omega))
 rw [List.all_eq_true]at h2
 exact of_decide_eq_true (h2 f (List.mem_range.2 (by omega)))
end Go.Proofs.YtgelfflighgajaaGreatDoor
namespace Go.Proofs.YtgelfflighgajaaGreatDoor
open Go.RowKit
section
variable {P:Program} {C:Cx} {ops:Array Oper} {o:Oper} {rest:List Oper} {σ:St} {Q:Exit→St→Prop} {d:Tmp} {mem:List Bool} {Mc:List (Nat×AO)} {nk0 k:Nat}
def memB (N:Nat) (ops:Array Oper) (mem:List Bool) (Mc:List (Nat×AO)) (k nk:Nat) (t:List (Nat×AV)) (o:Oper):Option (Tmp×Bool) :=
 match o.dst with
 | some d =>
  bif !(mem.getD k false) && Nat.blt d N && msInn nk Mc && tsInn nk (onlyT t (o.looksAt ops))then
   match guardK ops o ⟨onlyT t (o.looksAt ops),Mc,nk⟩with
   | some b=>some (d,b)
   | none=>none
  else none
 | none=>none
theorem memB_of {nk:Nat} {t:List (Nat×AV)} {b:Bool} (h:memB C.N ops mem Mc k nk t o=some (d,b)):mem.getD k false=false∧o.dst=some d∧Nat.blt d C.N=true∧msInn nk Mc=true∧tsInn nk (onlyT t (o.looksAt ops))=true∧guardK ops o ⟨onlyT t (o.looksAt ops),Mc,nk⟩=some b:=by
 unfold memB at h
 split at h
 ·rename_i x hds
  cases hb:!(mem.getD k false) && Nat.blt x C.N && msInn nk Mc && tsInn nk (onlyT t (o.looksAt ops))with
  | false=>rw [hb]at h;cases h
  | true =>
   rw [hb]at h
   simp only [cond_true]at h
   simp only [Bool.and_eq_true,Bool.not_eq_true']at hb
   split at h
   ·rename_i b' hg
    cases h
    exact ⟨hb.1.1.1,hds,hb.1.1.2,hb.1.2,hb.2,hg⟩
   ·cases h
 ·cases h
theorem DMK.v0 {av:AV} (hd:memB C.N ops mem Mc k nk0 σ.t o=some (d,true)) (h:WV P C o ⟨onlyT σ.t (o.looksAt ops),Mc,nk0⟩ av) (r:DMK P C ops mem Mc nk0 (k+1) rest (σ.put d av) Q):DMK P C ops mem Mc nk0 k (o::rest) σ Q:=by
 obtain ⟨a,b,c,e,f,g⟩:=memB_of hd
 exact DMK.val a b c (.inl rfl) ⟨e,f,.inl ⟨g,h⟩⟩ r
theorem DMK.v1 {av:AV} (hd:memB C.N ops mem Mc k σ.nk σ.t o=some (d,true)) (hb:behindB ops mem k=true) (h:WV P C o ⟨onlyT σ.t (o.looksAt ops),Mc,σ.nk⟩ av) (r:DMK P C ops mem Mc nk0 (k+1) rest (σ.put d av) Q):DMK P C ops mem Mc nk0 k (o::rest) σ Q:=by
 obtain ⟨a,b,c,e,f,g⟩:=memB_of hd
 exact DMK.val a b c (.inr ⟨rfl,hb⟩) ⟨e,f,.inl ⟨g,h⟩⟩ r
theorem DMK.st {av:AV} (hd:memB C.N ops mem Mc k nk0 σ.t o=some (d,true)) (h:stepV P ⟨onlyT σ.t (o.looksAt ops),Mc,nk0⟩ o.op=some av) (r:DMK P C ops mem Mc nk0 (k+1) rest (σ.put d av) Q):DMK P C ops mem Mc nk0 k (o::rest) σ Q:=DMK.v0 hd (stepV_of rfl h) r
theorem DMK.s1 {av:AV} (hd:memB C.N ops mem Mc k σ.nk σ.t o=some (d,true)) (hb:behindB ops mem k=true) (h:stepV P ⟨onlyT σ.t (o.looksAt ops),Mc,σ.nk⟩ o.op=some av) (r:DMK P C ops mem Mc nk0 (k+1) rest (σ.put d av) Q):DMK P C ops mem Mc nk0 k (o::rest) σ Q:=DMK.v1 hd hb (stepV_of rfl h) r
theorem DMK.ar {φ:Prop} {z:Int} (hd:memB C.N ops mem Mc k nk0 σ.t o=some (d,true)) (h:sideV ⟨onlyT σ.t (o.looksAt ops),Mc,nk0⟩ o.op=some (φ,z)) (hφ:φ) (r:DMK P C ops mem Mc nk0 (k+1) rest (σ.put d (.sc (.int .i64 z))) Q):DMK P C ops mem Mc nk0 k (o::rest) σ Q:=DMK.v0 hd (sideV_of h hφ) r
theorem DMK.idx {rows:List (List AV)} {z:Int} {x:List AV} (hd:memB C.N ops mem Mc k nk0 σ.t o=some (d,true)) (h:idxV P ⟨onlyT σ.t (o.looksAt ops),Mc,nk0⟩ o.op=some (rows,z)) (h0:0≤z) (hr:rows[z.toNat]?=some x) (r:DMK P C ops mem Mc nk0 (k+1) rest (σ.put d (.pr x)) Q):DMK P C ops mem Mc nk0 k (o::rest) σ Q:=DMK.v0 hd (idxV_of h h0 hr) r
def wrB(mem:List Bool)(N k:Nat)(o:Oper):Option Tmp :=
 match o.dst,o.guard with
 | some d,none=>bif mem.getD k false && Nat.blt d N then some d else none
 | _,_=>none
theorem wrB_of {N:Nat} (h:wrB mem N k o=some d):mem.getD k false=true∧o.dst=some d∧o.guard=none∧Nat.blt d N=true:=by
 unfold wrB at h
 split at h
 ·rename_i x h1 h2
  cases hb:mem.getD k false && Nat.blt x N with
  | false=>rw [hb]at h;cases h
  | true =>
   rw [hb]at h
   cases h
   simp only [Bool.and_eq_true]at hb
   exact⟨hb.1,h1,h2,hb.2⟩
 ·cases h
theorem DMK.bd {T m:Nat} {parts:Array (Nat×Operand)} {ob:AO} (hd:wrB mem C.N k o=some d) (ho:o.op=.buildSlice T m parts) (h:buildE P σ T m parts.toList=some ob) (hs:msSub Mc ((σ.nk,ob)::σ.M)) (r:DMK P C ops mem Mc nk0 (k+1) rest ⟨(d,.sl σ.nk)::σ.t,(σ.nk,ob)::σ.M,σ.nk+1⟩ Q):DMK P C ops mem Mc nk0 k (o::rest) σ Q:=by
 obtain ⟨a,b,c,e⟩:=wrB_of hd
 unfold buildE at h
 split at h
 ·rename_i el hT
  split at h
  ·rename_i n z avs hn hz hx
   cases hb:numB 0 parts.toList && Nat.beq parts.toList.length m && Nat.ble (m*n) 16777216 && Nat.ble m 16777216 && rowsB n avs with
   | false=>rw [hb] at h;cases h
   | true =>
    rw [hb] at h
    simp only [Bool.and_eq_true] at hb
    cases h
    exact DMK.wr a b (Nat.ble_eq_true_of_le (Nat.le_succ _)) hs (DoesM.build c ho hT hn hz hb.1.1.1.1 (Nat.eq_of_beq_eq_true hb.1.1.1.2) hb.1.1.2 hb.1.2 b e hx hb.2 rfl rfl rfl rfl) r
  ·cases h
 ·cases h
theorem DMK.ap {x:AppD} (hd:wrB mem C.N k o=some d) (h:appV P σ o.op=some x) (hl:x.a.length+x.b.length≤1000000000) (hs:msSub Mc ((σ.nk,.row x.T x.n (x.a++x.b))::rem x.k σ.M)) (r:DMK P C ops mem Mc nk0 (k+1) rest ⟨(d,.sl σ.nk)::σ.t,(σ.nk,.row x.T x.n (x.a++x.b))::rem x.k σ.M,σ.nk+1⟩ Q):DMK P C ops mem Mc nk0 k (o::rest) σ Q:=by
 obtain ⟨a,b,c,e⟩:=wrB_of hd
 unfold appV at h
 split at h
 ·rename_i x y T T' ho
  split at h
  ·rename_i el q av2 hT hx hy
   split at h
   ·rename_i i e' n rows hi hk
    split at h
    ·rename_i z rows2 hz hs2
     cases hb:Nat.beq T T' && Nat.beq el e' && Nat.beq i.size n && Nat.beq z.cells.size n && Nat.blt 0 n && Nat.ble i.bytes 100000 with
     | false=>rw [hb] at h;cases h
     | true =>
      rw [hb] at h
      simp only [Bool.and_eq_true] at hb
      cases h
      obtain ⟨⟨⟨⟨⟨b1,b2⟩,b3⟩,b4⟩,b5⟩,b6⟩:=hb
      obtain rfl:=Nat.eq_of_beq_eq_true b1
      obtain rfl:=Nat.eq_of_beq_eq_true b2
      exact DMK.wr a b (Nat.ble_eq_true_of_le (Nat.le_succ _)) hs (DoesM.append c ho hT hi hz (Nat.eq_of_beq_eq_true b3) rfl (Nat.eq_of_beq_eq_true b4) b5 b e hx hk hy hs2 rfl hl b6 rfl rfl rfl) r
    ·cases h
   ·cases h
  ·cases h
 ·cases h
end
def onlyM (M:List (Nat×AO)):List Nat→List (Nat×AO)
 | []=>[]
 | x::r =>
  match look x M with
  | some o=>(x,o)::onlyM M r
  | none=>onlyM M r
def memOf(l:List Oper):List Bool:=l.map fun o =>
 match o.op with
 | .buildSlice _ _ _=>true
 | .call { callee:=.builtin .append,.. }=>true
 | _=>false
theorem W.dm {P:Program} {C:Cx} {σ:St} {Q:Exit→St→Prop} {id:Nat} {l:List Oper} (ms:List Nat) (hm:P.follows .mixedOrders=true) (hB:Region.lexB .any l.toArray=true) (hch:chainB l.toArray (memOf l)=true) (hMc:msSub (onlyM σ.M ms) σ.M)
  (h:DMK P C l.toArray (memOf l) (onlyM σ.M ms) σ.nk 0 l σ Q):W P C (.region id l.toArray true) σ Q:=W.drawMK (memOf l) (onlyM σ.M ms) hm hB hch hMc h
structure StoD where
 k:Nat
 i:Nat
 j:Nat
 T:TypeId
 n:Nat
 rows:List (List AV)
 l:List AV
def stoV (P:Program) (σ:St):Op→Option StoD
 | .store T x y =>
  match σ.ev x,σ.ev y with
  | some (.pt k i j),some av =>
   match sizeB P T,look k σ.M with
   | some m,some (.row T' n rows)=>bif av.cellB && Nat.beq av.cells.length m && av.cells.all AV.oneB && av.cells.all AV.pu0 then some ⟨k,i,j,T',n,rows,av.cells⟩else none
   | _,_=>none
  | _,_=>none
 | _=>none
section
variable {P:Program} {C:Cx} {ops:Array Oper} {o:Oper} {rest:List Oper} {σ:St} {Q:Exit→St→Prop} {d:Tmp}
theorem WL.sto {x:StoD} {r:List AV} {t:List (Nat×AV)} {M M':List (Nat×AO)} {nk:Nat} (hg:o.guard=none) (hds:o.dst=none) (h:stoV P ⟨t,M,nk⟩ o.op=some x) (hM:remS x.k M=some M') (hr:x.rows[x.i]?=some r) (hj:x.j+x.l.length≤r.length)
  (k:WL P C ops rest ⟨t,(x.k,.row x.T x.n (x.rows.set x.i (putL x.j x.l r)))::M',nk⟩ Q):WL P C ops (o::rest) ⟨t,M,nk⟩ Q:=by
 rw [remS_eq hM] at k
 clear hM
 refine WL.op hg ?_ k
 unfold stoV at h
 split at h
 ·rename_i T x y ho
  split at h
  ·rename_i k i j av hx hy
   split at h
   ·rename_i m T' n rows hm hk
    cases hb:av.cellB && Nat.beq av.cells.length m && av.cells.all AV.oneB && av.cells.all AV.pu0 with
    | false=>rw [hb] at h;cases h
    | true =>
     rw [hb] at h
     simp only [Bool.and_eq_true] at hb
     cases h
     refine wo_rem (WO.store (σ:=⟨t,M,nk⟩) ho hds hm hx hk hy hb.1.1.1 rfl (Nat.eq_of_beq_eq_true hb.1.1.2) hb.1.2 ?_)
     simp only at hr hj
     simp only [AO.put,hr]
     rw [if_pos ⟨hj,hb.2⟩]
   ·cases h
  ·cases h
 ·cases h
def mmV (σ:St):Op→Option (IntKind×Int)
 | .call { callee:=.builtin .min,args:=⟨[x,y]⟩,.. } =>
  match σ.ev x,σ.ev y with
  | some (.sc (.int k m)),some (.sc (.int _ n))=>some (k,if n<m then n else m)
  | _,_=>none
 | .call { callee:=.builtin .max,args:=⟨[x,y]⟩,.. } =>
  match σ.ev x,σ.ev y with
  | some (.sc (.int k m)),some (.sc (.int _ n))=>some (k,if n > m then n else m)
  | _,_=>none
 | _=>none
theorem WL.mm {k:IntKind} {z z':Int} (hd:dstB C.N o=some d)(h:mmV σ o.op=some (k,z))(hz:z=z')(K:WL P C ops rest (σ.put d (.sc (.int k z'))) Q):WL P C ops (o::rest) σ Q:=by
 subst hz
 refine WL.vl hd ?_ K
 unfold mmV at h
 split at h
 ·rename_i x y ts ho
  split at h
  ·rename_i k m k' n hx hy
   cases h
   exact WV.sc fun G a w ok=>by unfold execOp;simp [ho,resolve,invoke,builtin,ok.evs hx,ok.evs hy,Builtin.min_,Builtin.min2]
  ·cases h
 ·rename_i x y ts ho
  split at h
  ·rename_i k m k' n hx hy
   cases h
   exact WV.sc fun G a w ok=>by unfold execOp;simp [ho,resolve,invoke,builtin,ok.evs hx,ok.evs hy,Builtin.max_,Builtin.max2]
  ·cases h
 ·cases h
def isCmp:Op→Bool
 | .binOp .lss _ _ _ _=>true
 | .binOp .leq _ _ _ _=>true
 | .binOp .gtr _ _ _ _=>true
 | .binOp .geq _ _ _ _=>true
 | .binOp .eql _ _ _ _=>true
 | _=>false
def isNeq:Op→Bool
 | .binOp .neq _ _ _ _=>true
 | _=>false
theorem WL.bt {φ:Prop} [i:Decidable φ] (hc:isCmp o.op=true)(hd:dstB C.N o=some d)(h:stepV P σ o.op=some (.sc (.bool (decide φ))))(hφ:φ)(k:WL P C ops rest (σ.put d (.sc (.bool true))) Q):WL P C ops (o::rest) σ Q:=by
 rw [decide_eq_true hφ] at h
 exact WL.vl hd (stepV_of rfl h) k
theorem WL.bf {φ:Prop} [i:Decidable φ] (hc:isCmp o.op=true)(hd:dstB C.N o=some d)(h:stepV P σ o.op=some (.sc (.bool (decide φ))))(hφ:¬ φ)(k:WL P C ops rest (σ.put d (.sc (.bool false))) Q):WL P C ops (o::rest) σ Q:=by
 rw [decide_eq_false hφ] at h
 exact WL.vl hd (stepV_of rfl h) k
theorem WL.nt {φ:Prop} [i:Decidable φ] (hc:isNeq o.op=true)(hd:dstB C.N o=some d)(h:stepV P σ o.op=some (.sc (.bool (!decide φ))))(hφ:¬ φ)(k:WL P C ops rest (σ.put d (.sc (.bool true))) Q):WL P C ops (o::rest) σ Q:=by
 rw [decide_eq_false hφ] at h
 exact WL.vl hd (stepV_of rfl h) k
theorem WL.nf {φ:Prop} [i:Decidable φ] (hc:isNeq o.op=true)(hd:dstB C.N o=some d)(h:stepV P σ o.op=some (.sc (.bool (!decide φ))))(hφ:φ)(k:WL P C ops rest (σ.put d (.sc (.bool false))) Q):WL P C ops (o::rest) σ Q:=by
 rw [decide_eq_true hφ] at h
 exact WL.vl hd (stepV_of rfl h) k
theorem WL.e1 {t t':List (Nat×AV)} {M M':List (Nat×AO)} {nk nk':Nat} (h:opE P C.N t M nk o=some (t',M',nk')) (k:WL P C ops rest ⟨t',M',nk'⟩ Q):WL P C ops (o::rest) ⟨t,M,nk⟩ Q :=
 WL.op (opE_of h).1 (opE_of h).2 k
def cutV (P:Program) (σ:St):Op→Option (List UInt8×Int×Int)
 | .slice T x (some y) (some z) none =>
  match P.underlying T,σ.ev x,σ.ev y,σ.ev z with
  | some .string,some (.sc (.string ⟨⟨s⟩⟩)),some (.sc (.int _ i)),some (.sc (.int _ j))=>some (s,i,j)
  | _,_,_,_=>none
 | .slice T x none (some z) none =>
  match P.underlying T,σ.ev x,σ.ev z with
  | some .string,some (.sc (.string ⟨⟨s⟩⟩)),some (.sc (.int _ j))=>some (s,0,j)
  | _,_,_=>none
 | .slice T x (some y) none none =>
  match P.underlying T,σ.ev x,σ.ev y with
  | some .string,some (.sc (.string ⟨⟨s⟩⟩)),some (.sc (.int _ i))=>some (s,i,s.length)
  | _,_,_=>none
 | _=>none
theorem cut_run {w:World} {T:TypeId} {s t:List UInt8} {lo hi:Option Value} (hT:P.underlying T=some .string)(h:(Instr.slice T (.string (bs s)) lo hi none).run P w=.ok (.string (bs t)) w) :
  ((Instr.sliceAt T (.string (bs s)) lo hi none).run P w).andThen (fun a w'=>Sem.run P (pure (Next.value a)) w')=.ok (.value (.string (bs t))) w:=by
 have:(Instr.sliceAt T (.string (bs s)) lo hi none).run P w=(Instr.slice T (.string (bs s)) lo hi none).run P w:=by
  unfold Instr.sliceAt
  rw [Sem.run_bind,run_underlying hT w];rfl
 rw [this,h];rfl
theorem cutV_of {s:List UInt8} {i j:Int} (h:cutV P σ o.op=some (s,i,j))(hb:0≤i∧i≤j∧j≤s.length):WV P C o σ (.sc (.string (bs (cut s i j)))):=by
 unfold cutV at h
 split at h
 ·rename_i T x y z ho
  split at h
  ·rename_i s' k i' k' j' hT hx hy hz
   cases h
   refine WV.sc fun G a w ok=>?_
   unfold execOp
   simp only [ho,Option.map_some,Option.map_none,ok.evs hx,ok.evs hy,ok.evs hz,Sem.run_bind]
   have:=run_cut (P:=P) w T s k k' i j hT hb.1 hb.2.1 hb.2.2
   exact cut_run hT this
  ·cases h
 ·rename_i T x z ho
  split at h
  ·rename_i s' k' j' hT hx hz
   cases h
   refine WV.sc fun G a w ok=>?_
   unfold execOp
   simp only [ho,Option.map_some,Option.map_none,ok.evs hx,ok.evs hz,Sem.run_bind]
   have:=run_cut_to (P:=P) w T s k' j hT (by omega) hb.2.2
   exact cut_run hT this
  ·cases h
 ·rename_i T x y ho
  split at h
  ·rename_i s' k i' hT hx hy
   cases h
   refine WV.sc fun G a w ok=>?_
   unfold execOp
   simp only [ho,Option.map_some,Option.map_none,ok.evs hx,ok.evs hy,Sem.run_bind]
   have:=run_cut_from (P:=P) w T s k i hT hb.1 hb.2.1
   have e:cut s i s.length=s.drop i.toNat:=by unfold cut;rw [List.take_of_length_le (by simp)]
   rw [e]
   exact cut_run hT this
  ·cases h
 ·cases h
end
end Go.Proofs.YtgelfflighgajaaGreatDoor
namespace Go.Proofs.YtgelfflighgajaaGreatDoor
open Go.RowKit
def BldRet (T e b:Nat)(φ:Nat→Prop)(l:List UInt8)(v:Value)(w:World):Ending→World→Prop:=fun r w' =>
 r=.returned v∧Kept φ w w'∧BldIs w' T e b (fun x=>φ x∨(w.heap.size≤x∧x<w'.heap.size)) l
def BldW (P:Program) (f:FuncId) (T e:TypeId):Prop:=∀ (w:World) (b:Nat) (φ:Nat→Prop) (l s:List UInt8),φ b→BldIs w T e b φ l→l.length+s.length≤1000000000 →
 Calls P f #[.pointer (some ⟨b,0,none⟩),.string (bs s)] w (BldRet T e b φ (l++s) (.tuple #[.int .i64 s.length,.nilIface]) w)
def BldS (P:Program) (f:FuncId) (T e:TypeId):Prop:=∀ (w:World) (b:Nat) (φ:Nat→Prop) (l:List UInt8),φ b→BldIs w T e b φ l→l≠[] →
 Calls P f #[.pointer (some ⟨b,0,none⟩)] w (BldRet T e b φ l (.string (bs l)) w)
def dstOk(N:Nat):Option Tmp→Bool
 | some d=>Nat.blt d N
 | none=>true
section
variable {P:Program} {C:Cx} {σ σ':St} {G G':Gh} {a:Act} {w w':World} {o:Oper} {d:Tmp}
theorem dstOk_of {N:Nat} {d:Option Tmp} (h:dstOk N d=true):∀ x,d=some x→x<N:=fun x hx=>by subst hx;exact of_blt h
theorem Ok.bldCall (ok:Ok C σ G a w) {k:Nat} {T e:TypeId} {l l':List UInt8} (hk:look k σ.M=some (.bld T e l)) (hkept:Kept (G.fp k) w w')
  (hb:BldIs w' T e (G.b k) (fun x=>G.fp k x∨(w.heap.size≤x∧x<w'.heap.size)) l'):∃ G',Ok C (σ.upd k (.bld T e l')) G' a w':=by
 have hob:=ok.ob k _ hk
 have hle:∀ nk,G.le { G with fp:=fun i x=>if i=k then G.fp k x∨(w.heap.size≤x∧x<w'.heap.size) else G.fp i x } nk:=fun nk=>⟨fun _ _ h=>h,fun _ _=>rfl,fun _ _=>rfl,fun _ _=>rfl⟩
 have hfo:∀ i,i≠k→({ G with fp:=fun i x=>if i=k then G.fp k x∨(w.heap.size≤x∧x<w'.heap.size) else G.fp i x }:Gh).fp i=G.fp i:=fun i hi=>by funext x;exact if_neg hi
 have hl:∀ k' o,look k' (σ.upd k (.bld T e l')).M=some o→(k'=k∧o=.bld T e l')∨(k'≠k∧look k' σ.M=some o):=fun k' o hx=>by
  by_cases e:k'=k
  ·subst e
   rw [show look k' (σ.upd k' (.bld T _ l')).M=some _ from look_set_same] at hx
   cases hx
   exact .inl ⟨rfl,rfl⟩
  ·rw [show look k' (σ.upd k (.bld T _ l')).M=look k' σ.M from look_set_other e] at hx
   exact .inr ⟨e,hx⟩
 have fpx:∀ k' o x,look k' (σ.upd k (.bld T e l')).M=some o→(if k'=k then G.fp k x∨(w.heap.size≤x∧x<w'.heap.size) else G.fp k' x)→(∃ o',look k' σ.M=some o'∧G.fp k' x)∨(k'=k∧w.heap.size≤x∧x<w'.heap.size):=fun k' o x h1 h2=>by
  rcases hl k' o h1 with⟨rfl,_⟩|⟨e,y⟩
  ·rw [if_pos rfl] at h2
   rcases h2 with h2|h2
   ·exact .inl ⟨_,hk,h2⟩
   ·exact .inr ⟨rfl,h2⟩
  ·rw [if_neg e] at h2
   exact .inl ⟨o,y,h2⟩
 have hF:∀ p u,G.F p=some u→w'.heap[p.block]?=w.heap[p.block]?:=fun p u h=>hkept.block _ (cell_block (ok.fw p u h)) fun hx=>ok.dF k _ _ p u hk hx h rfl
 refine ⟨{ G with fp:=fun i x=>if i=k then G.fp k x∨(w.heap.size≤x∧x<w'.heap.size) else G.fp i x },ok.sz,ok.df,fun i av x=>⟨(ok.tm i av x).1,(ok.tm i av x).2.1,(ok.tm i av x).2.2.mono (hle σ.nk) (ok.tm i av x).2.1⟩,ok.bel.on hkept fun x hx=>(ok.my k _ x hk hx).1,
  fun p u h=>(World.cell?_of_block (hF p u h)).trans (ok.fw p u h),ok.f0,ok.f1,?_,?_,?_,?_⟩
 ·intro k' o x
  rcases hl k' o x with⟨rfl,rfl⟩|⟨e,y⟩
  ·refine ⟨hob.1,trivial,?_⟩
   refine ⟨?_,?_⟩
   ·show (if k'=k' then G.fp k' (G.b k')∨_ else G.fp k' (G.b k'))
    rw [if_pos rfl];exact .inl hob.2.2.1
   ·show BldIs w' T _ (G.b k') (fun x=>if k'=k' then G.fp k' x∨(w.heap.size≤x∧x<w'.heap.size) else G.fp k' x) l'
    rw [show (fun x=>if k'=k' then G.fp k' x∨(w.heap.size≤x∧x<w'.heap.size) else G.fp k' x)=(fun x=>G.fp k' x∨(w.heap.size≤x∧x<w'.heap.size)) from funext fun x=>if_pos rfl]
    exact hb
  ·obtain ⟨h1,h2,h3⟩:=ok.ob k' o y
   exact ⟨h1,h2,h3.keep (hle σ.nk) h1 h2 (hfo k' e) fun x hx=>hkept.block x (ok.my k' o x y hx).2 fun hx2=>e (ok.dj k' o k _ x y hk hx hx2)⟩
 ·intro k' o x h1 h2
  rcases fpx k' o x h1 h2 with⟨o',y,h3⟩|⟨_,h3,h4⟩
  ·exact ⟨(ok.my k' o' x y h3).1,Nat.lt_of_lt_of_le (ok.my k' o' x y h3).2 hkept.size⟩
  ·exact ⟨.inl (Nat.le_trans ok.bel.size h3),h4⟩
 ·intro k1 o1 k2 o2 x h1 h2 h3 h4
  rcases fpx k1 o1 x h1 h3 with⟨o1',y1,h5⟩|⟨e1,h5,_⟩
  ·rcases fpx k2 o2 x h2 h4 with⟨o2',y2,h6⟩|⟨e2,h6,_⟩
   ·exact ok.dj k1 o1' k2 o2' x y1 y2 h5 h6
   ·have:=(ok.my k1 o1' x y1 h5).2;omega
  ·rcases fpx k2 o2 x h2 h4 with⟨o2',y2,h6⟩|⟨e2,h6,_⟩
   ·have:=(ok.my k2 o2' x y2 h6).2;omega
   ·rw [e1,e2]
 ·intro k1 o1 x p u h1 h2 h3
  rcases fpx k1 o1 x h1 h2 with⟨o1',y1,h5⟩|⟨_,h5,_⟩
  ·exact ok.dF k1 o1' x p u y1 h5 h3
  ·have:=cell_block (ok.fw p u h3);omega
theorem Tr.bld (k:Nat) {T:TypeId} (e:TypeId) (hk:look k σ.M=some (.box T [.sc (.pointer none),.sc (.slice none 0 0)])):Tr C σ (σ.upd k (.bld T e [])):=fun G a w ok=>by
 obtain ⟨g1,g2,g3,cs,Φ,g4,g5,g6,g7,g8⟩:=ok.ob k _ hk
 have hs:cs.size=2:=g5
 have e0:cs[0]=.pointer none:=((g8 0 _ _ rfl (Array.getElem?_eq_getElem (by omega))).r rfl).sc_eq
 have e1:cs[1]=.slice none 0 0:=((g8 1 _ _ rfl (Array.getElem?_eq_getElem (by omega))).r rfl).sc_eq
 have ecs:cs=#[.pointer none,.slice none 0 0]:=by
  apply Array.ext (by simp [hs])
  intro i h1 h2
  match i,(show i<2 by omega)with
  | 0,_=>exact e0
  | 1,_=>exact e1
 subst ecs
 exact ⟨G,ok.reob hk ⟨g1,trivial,g3,.pointer none,.slice none 0 0,.inl rfl,g4,World.ownsRowF_nil _ _ _ _,fun g hg=>by cases hg⟩⟩
theorem WO.bldW {f:FuncId} {k:Nat} {x y:Operand} {ts:Array TypeId} {T e:TypeId} {l s l':List UInt8} (ho:o.op=.call { callee:=.value (.func f),args:=#[x,y],argTypes:=ts }) (hc:∀ vs w,(callFunc f vs).run P w=.ok (.enter f vs) w)
  (hx:σ.ev x=some (.pt k 0 0)) (hk:look k σ.M=some (.bld T e l)) (hy:σ.ev y=some (.sc (.string (bs s)))) (hd:dstOk C.N o.dst=true) (h:BldW P f T e) (hl:l.length+s.length≤1000000000) (hl':l++s=l') :
  WO P C o σ ((σ.upd k (.bld T e l')).set o.dst (.tu [.sc (.int .i64 s.length),.sc .nilIface])):=by
 intro G a w ok N Q' hN
 subst hl'
 obtain ⟨p,ep,p1,p2,p3⟩:=(ok.evr hx).2.pt_of
 obtain ⟨h1,h2⟩:=(ok.ob k _ hk).2.2
 obtain rfl:=addr_eq p1 p2 p3
 rw [Nat.zero_mul] at ep
 unfold Oper.wp execOp
 have ev:a.eval (.func f)=.func (.func f) #[] #[]:=rfl
 have e3:(#[]++(#[x,y]:Array Operand).map a.eval++#[]:Array Value)=#[.pointer (some ⟨G.b k,0,none⟩),.string (bs s)]:=by simp [ep,ok.evs hy]
 simp only [ho,resolve,ev,Deferred.ofValue,invoke,Sem.run_bind,Sem.run_pure,Result.andThen_ok,hc,Oper.upon,e3]
 refine (h w (G.b k) (G.fp k) l s h1 h2 hl).mono fun r w1 ⟨he,hkept,hb⟩=>?_
 subst he
 obtain ⟨G',ok'⟩:=ok.bldCall hk hkept hb
 exact hN _ _ _ (ok'.set (.tu _ _ rfl fun i av u p q=>by
  match i with
  | 0=>cases p;cases q;exact .pu _ _ (.sc _)
  | 1=>cases p;cases q;exact .pu _ _ (.sc _)
  | i+2=>simp at p) (.tu _ fun i x hx=>by
  match i with
  | 0=>cases hx;exact .sc _
  | 1=>cases hx;exact .sc _
  | i+2=>simp at hx) (dstOk_of hd))
theorem WO.bldS {f:FuncId} {k:Nat} {x:Operand} {ts:Array TypeId} {T e:TypeId} {l:List UInt8} (ho:o.op=.call { callee:=.value (.func f),args:=#[x],argTypes:=ts }) (hc:∀ vs w,(callFunc f vs).run P w=.ok (.enter f vs) w)
  (hx:σ.ev x=some (.pt k 0 0)) (hk:look k σ.M=some (.bld T e l)) (hd:dstOk C.N o.dst=true) (h:BldS P f T e) (hl:l≠[]) :
  WO P C o σ ((σ.upd k (.bld T e l)).set o.dst (.sc (.string (bs l)))):=by
 intro G a w ok N Q' hN
 obtain ⟨p,ep,p1,p2,p3⟩:=(ok.evr hx).2.pt_of
 obtain ⟨h1,h2⟩:=(ok.ob k _ hk).2.2
 obtain rfl:=addr_eq p1 p2 p3
 rw [Nat.zero_mul] at ep
 unfold Oper.wp execOp
 have ev:a.eval (.func f)=.func (.func f) #[] #[]:=rfl
 have e3:(#[]++(#[x]:Array Operand).map a.eval++#[]:Array Value)=#[.pointer (some ⟨G.b k,0,none⟩)]:=by simp [ep]
 simp only [ho,resolve,ev,Deferred.ofValue,invoke,Sem.run_bind,Sem.run_pure,Result.andThen_ok,hc,Oper.upon,e3]
 refine (h w (G.b k) (G.fp k) l h1 h2 hl).mono fun r w1 ⟨he,hkept,hb⟩=>?_
 subst he
 obtain ⟨G',ok'⟩:=ok.bldCall hk hkept hb
 exact hN _ _ _ (ok'.set (.pu _ _ (.sc _)) (.sc _) (dstOk_of hd))
def bwV (σ:St) (f:FuncId):Op→Option (Nat×TypeId×TypeId×List UInt8×List UInt8)
 | .call { callee:=.value (.func g),args:=⟨[x,y]⟩,argTypes:=_ } =>
  match σ.ev x,σ.ev y with
  | some (.pt k 0 0),some (.sc (.string ⟨⟨s⟩⟩)) =>
   match look k σ.M with
   | some (.bld T e l)=>bif Nat.beq f g then some (k,T,e,l,s)else none
   | _=>none
  | _,_=>none
 | _=>none
def bsV (σ:St)(f:FuncId):Op→Option (Nat×TypeId×TypeId×List UInt8)
 | .call { callee:=.value (.func g),args:=⟨[x]⟩,argTypes:=_ } =>
  match σ.ev x with
  | some (.pt k 0 0) =>
   match look k σ.M with
   | some (.bld T e l)=>bif Nat.beq f g then some (k,T,e,l)else none
   | _=>none
  | _=>none
 | _=>none
variable {ops:Array Oper} {rest:List Oper} {Q:Exit→St→Prop}
theorem WL.bw {f:FuncId} {k:Nat} {T e:TypeId} {l s l':List UInt8} {t:List (Nat×AV)} {M M':List (Nat×AO)} {nk:Nat} (hd:dstB C.N o=some d) (hv:bwV ⟨t,M,nk⟩ f o.op=some (k,T,e,l,s)) (hM:remS k M=some M')
  (hc:∀ vs w,(callFunc f vs).run P w=.ok (.enter f vs) w) (h:BldW P f T e) (hl:l.length+s.length≤1000000000) (hl':l++s=l')
  (K:WL P C ops rest ⟨(d,.tu [.sc (.int .i64 s.length),.sc .nilIface])::t,(k,.bld T e l')::M',nk⟩ Q):WL P C ops (o::rest) ⟨t,M,nk⟩ Q:=by
 rw [remS_eq hM] at K
 clear hM
 obtain ⟨hg,hds,hdb⟩:=dstB_of hd
 refine WL.op hg ?_ K
 unfold bwV at hv
 split at hv
 ·rename_i g x y ts ho
  split at hv
  ·rename_i k' s' hx hy
   split at hv
   ·rename_i T' e' l2 hk
    cases hb:Nat.beq f g with
    | false=>rw [hb] at hv;cases hv
    | true =>
     rw [hb] at hv
     cases hv
     obtain rfl:=Nat.eq_of_beq_eq_true hb
     have:=WO.bldW (σ:=⟨t,M,nk⟩) (s:=s) ho hc hx hk hy (by rw [hds];exact hdb) h hl hl'
     rw [hds] at this
     exact wo_rem this
   ·cases hv
  ·cases hv
 ·cases hv
theorem WL.bs {f:FuncId} {k:Nat} {T e:TypeId} {l:List UInt8} {t:List (Nat×AV)} {M M':List (Nat×AO)} {nk:Nat} (hd:dstB C.N o=some d) (hv:bsV ⟨t,M,nk⟩ f o.op=some (k,T,e,l)) (hM:remS k M=some M')
  (hc:∀ vs w,(callFunc f vs).run P w=.ok (.enter f vs) w) (h:BldS P f T e) (hl:l≠[])
  (K:WL P C ops rest ⟨(d,.sc (.string (bs l)))::t,(k,.bld T e l)::M',nk⟩ Q):WL P C ops (o::rest) ⟨t,M,nk⟩ Q:=by
 rw [remS_eq hM] at K
 clear hM
 obtain ⟨hg,hds,hdb⟩:=dstB_of hd
 refine WL.op hg ?_ K
 unfold bsV at hv
 split at hv
 ·rename_i g x ts ho
  split at hv
  ·rename_i k' hx
   split at hv
   ·rename_i T' e' l2 hk
    cases hb:Nat.beq f g with
    | false=>rw [hb] at hv;cases hv
    | true =>
     rw [hb] at hv
     cases hv
     obtain rfl:=Nat.eq_of_beq_eq_true hb
     have:=WO.bldS (σ:=⟨t,M,nk⟩) ho hc hx hk (by rw [hds];exact hdb) h hl
     rw [hds] at this
     exact wo_rem this
   ·cases hv
  ·cases hv
 ·cases hv
end
end Go.Proofs.YtgelfflighgajaaGreatDoor
namespace Go.Proofs.YtgelfflighgajaaGreatDoor
open Go.RowKit
abbrev Lck:=Int×Int×Int
def lckCells(x:Lck):List Value:=[.int .i64 x.1,.int .i64 x.2.1,.int .i64 x.2.2]
theorem lck_len(l:List Lck):∀ r∈l.map lckCells,r.length=3:=by intro r h;obtain⟨x,_,rfl⟩:=List.mem_map.1 h;rfl
theorem lck_one(l:List Lck):∀ r∈l.map lckCells,∀ u∈r,u.oneCell'=true:=by
 intro r h u hu;obtain⟨x,_,rfl⟩:=List.mem_map.1 h
 simp only [lckCells,List.mem_cons,List.not_mem_nil,or_false]at hu
 rcases hu with rfl|rfl|rfl<;>rfl
theorem infoLack:(Tryz.prog.info? 308).map (fun i=>(i.zero,i.size,i.bytes))=some (some (.agg #[.int .i64 0,.int .i64 0,.int .i64 0]),3,24):=by kernel_rfl
def SayAt (w:World)(B0 b:Nat)(l:List Lck):Prop :=
 ∃ Q d,Blk w b 204 #[.slice Q l.length d]∧w.ownsRow B0 308 3 (.slice Q l.length d) l.length (l.map lckCells).flatten
theorem SayAt.start(w:World) (B0 b:Nat) (h:Blk w b 204 #[.slice none 0 0]):SayAt w B0 b []:=⟨none,0,h,⟨by simp,.inl ⟨rfl,rfl⟩⟩⟩
theorem SayAt.after {w w':World} {B0 b:Nat} {l:List Lck} (h:SayAt w B0 b l)(hb:Below w.heap.size w w'):SayAt w' B0 b l:=by
 obtain⟨Q,d,h1,h2⟩:=h
 exact⟨Q,d,h1.after hb,own_keep h2 fun g _ hlt=>hb.block g hlt⟩
def SayKeeps(b:Nat)(w w':World):Prop:=Below b w w'∧w.heap.size≤w'.heap.size∧∀ (g:Nat)(t:TypeId)(cs:Array Value),Blk w g t cs→g≠b→t≠308→Blk w' g t cs
def SayPost (B0 b:Nat)(l:List Lck)(w:World)(e:Ending)(w':World):Prop:=e=.returned (.tuple #[])∧SayAt w' B0 b l∧SayKeeps b w w'
theorem own_ne {w:World} {base g:Nat} {e t:TypeId} {size n:Nat} {v:Value} {xs:List Value} {cs:Array Value} (h:w.ownsRow base e size v n xs)(hg:Blk w g t cs)(hne:t≠e):v.ownBlock≠some g:=by
 rcases h.2 with⟨rfl,_⟩|⟨g',cap,cur,rfl,_,hh,_⟩
 ·simp [Value.ownBlock]
 ·intro he
  have:g'=g:=by simpa [Value.ownBlock]using he
  subst this
  unfold Blk at hg
  rw [hh]at hg
  injection hg with hg
  injection hg with _ ht
  exact hne ht.symm
theorem say_ok (c what:Int) (b be B0:Nat) (l:List Lck) (w:World) (h:SayAt w B0 b l) :
  Calls Tryz.prog 214 #[.bool true,.int .i64 c,.int .i64 what,.pointer (some ⟨b,0,none⟩),.pointer (some ⟨be,0,none⟩)] w (SayPost B0 b l w):=by
 have H:=Lib.hid h
 clear h
 go_enter Tryz.func214,Tryz.ntmps214
 go_wp2
 exact bodyPost_end (v:=.tuple #[]) (by simp [results,Tryz.results214,go_sem]) rfl ⟨rfl,H.out,Below.refl _ _,Nat.le_refl _,fun g t cs h _ _=>h⟩
theorem say_no (c what ev:Int) (b be B0:Nat) (l:List Lck) (w:World) (h:SayAt w B0 b l) (hev:w.cell? ⟨be,0,none⟩=some (.int .i64 ev)) (hb:b<B0) (hB:B0≤w.heap.size) (hl:l.length≤32000) :
    Calls Tryz.prog 214 #[.bool false,.int .i64 c,.int .i64 what,.pointer (some ⟨b,0,none⟩),.pointer (some ⟨be,0,none⟩)] w (SayPost B0 b (l++[(ev,c,what)]) w):=by
  obtain ⟨i0,hi0,hz0,hz1,hz2⟩:=info_parts infoLack
  obtain ⟨Q,d,hQ,hown⟩:=h
  have HQ:=Lib.hid hQ
  have HO:=Lib.hid hown
  have hbl:b<w.heap.size:=hQ.lt
  have hbe:be<w.heap.size:=World.block_lt_of_cell? w _ hev
  have q0:w.cell? ⟨b,0,none⟩=some (.slice Q l.length d):=hQ.cell 0
  have f0:=hQ.frozen 0
  clear hQ hown
  go_enter Tryz.func214,Tryz.ntmps214
  go_wp2_with (at_builtin
               refine wpList_append_rd rfl (.tmp 10) (.tmp 15) _ rfl B0 308 i0 _ 3 24 Tryz.underlying204 hi0 hz0 hz1 hz2 rfl (by omega) (.slice Q l.length d) l.length (l.map lckCells) rfl (own_keep HO.out fun g _ hlt=>Below.heap_alloc _ _ _ hlt) (lck_len _) (by simp) _ (some ⟨w.heap.size,0,none⟩) [lckCells (ev,c,what)] 1 1 rfl rfl (rd_block (blk_new' rfl) rfl) (lck_len [(ev,c,what)]) (lck_one [(ev,c,what)]) (by show l.length+1≤maxLen;unfold maxLen;omega) (by show (l.length+1)*24≤_;omega) (by simp;omega) ?_
               intro Q' d' w3 hown3 hg3 hat3
               have hne:(Value.slice Q l.length d).ownBlock≠some b:=fun e=>by have:=(own_lt HO.out _ e).1;omega
               have kb:Blk w3 b 204 #[.slice Q l.length d]:=blk_grown (HQ.out.alloc _) hg3 (fun e=>hne e.symm)
               have z0:w3.cell? ⟨b,0,none⟩=some (.slice Q l.length d):=kb.cell 0
               have zf0:=kb.frozen 0
               have KB:=Lib.hid kb
               clear kb)
  have hsz3:w.heap.size+1≤w3.heap.size:=by have:=hg3.size;simpa using this
  refine bodyPost_end (v:=.tuple #[]) (by simp [results,Tryz.results214,go_sem]) rfl ⟨rfl,⟨Q',d',?_,?_⟩,?_,?_,?_⟩
  · rw [List.length_append]
    exact KB.out.set_ 0 _
  · rw [List.length_append,List.map_append]
    exact own_keep hown3 fun g hg hlt=>Below.heap_setCell _ _ _ _ (by have:=(own_lt hown3 g hg).1;show g≠b;omega)
  · refine Below.setCell (p:=⟨b,0,none⟩) ?_ (Nat.le_refl b) _
    refine Below.grown ((Below.refl _ _).alloc (by omega) _) hg3 (by simp;omega) (fun g hgv=>by have:=(own_lt HO.out g hgv).1;omega)
  · simp [World.setCell];omega
  · intro g t cs hg hgb ht
    refine Blk.far (p:=⟨b,0,none⟩) ?_ hgb _
    exact blk_grown (hg.alloc _) hg3 (fun e=>own_ne HO.out hg ht e.symm)
end Go.Proofs.YtgelfflighgajaaGreatDoor
