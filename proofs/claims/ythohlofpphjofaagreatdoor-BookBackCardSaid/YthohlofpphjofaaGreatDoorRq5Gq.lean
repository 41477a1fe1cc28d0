/- Lines, numbers: the reference. -/
import Derived.Test.YthohlofpphjofaaGreatDoorLkEGq
set_option maxHeartbeats 8000000
set_option maxRecDepth 100000
set_option linter.unusedVariables false
set_option linter.unusedSimpArgs false
namespace Go.Proofs.YthohlofpphjofaaGreatDoor
theorem ak2 {p:Prop}(h:p:=by repeat (first|exact trivial|refine ⟨⟨?_,?_,?_⟩,?_⟩|rfl|exact congrArg (fun q=>some (AO.row _ _ q)) hset)):p:=h
theorem ae0 {p:Prop}(h:p:=by
 refine wz ?_
 refine W.tr (Tr.amd (t:=4) 3 rfl) ?_
 exact oO):p:=h
theorem aeK {p:Prop}(h:p:=by
 go_wp2_with (go_at_call 51;refine (HC.out _ jD).mono ?_;rintro e' w1⟨rfl,hb1⟩;have k1:=(Blk.new _ _ _).after hb1;have l1:w.heap.size < w1.heap.size:=k1.lt;clear k1)
 exact pG):p:=h
theorem jJ {p:Prop}(h:p:=by
 exact W.ret (finM rfl rfl rfl rfl rfl)):p:=h
theorem wE {p:Prop}(h:p:=by
 refine amB ?_
 exact W.ret vJ):p:=h
section
open Go.RowKit
abbrev Sf:=Int×Int×Int×Int
abbrev Ln:=Int×Int
def lookA (k:Ln):List (Ln×Int)→Int
 | []=>0
 | x::r=>if k=x.1 then x.2 else lookA k r
def Ep (k:Ln)(v:Int):List (Ln×Int)→List (Ln×Int)
 | []=>[(k,v)]
 | x::r=>if k=x.1 then (k,v)::r else x::Ep k v r
theorem Hw (k q:Ln)(v:Int):∀ l,lookA q (Ep k v l)=if q=k then v else lookA q l
 | []=>by simp [Ep,lookA]
 | x::r=>by
  unfold Ep
  by_cases h:k=x.1
  ·rw [if_pos h]
   unfold lookA
   by_cases hq:q=k
   ·simp [hq]
   ·rw [if_neg hq,if_neg hq,if_neg (fun e=>hq (e.trans h.symm))]
  ·rw [if_neg h]
   unfold lookA
   by_cases hq:q=x.1
   ·rw [if_pos hq,if_pos hq,if_neg (fun e=>h (e.symm.trans hq))]
   ·rw [if_neg hq,if_neg hq,Hw k q v r]
def BH (l:List (Ln×Int)):List (Ln×Value):=l.map fun x=>(x.1,.int .i64 x.2)
def tJ(k:Ln):Value:=.agg #[.int .i64 k.1,.int .i64 k.2]
theorem Hu (k:Ln):∀ (l:List (Ln×Int)) (i:Nat),((locK k i (BH l)).map (·.2)).getD (.int .i64 0)=.int .i64 (lookA k l)
 | [],i=>rfl
 | x::r,i=>by
  show ((if k=x.1 then some (i,Value.int .i64 x.2)else locK k (i+1) (BH r)).map (·.2)).getD _=_
  unfold lookA
  by_cases h:k=x.1
  ·rw [if_pos h,if_pos h];rfl
  ·rw [if_neg h,if_neg h];exact Hu k r (i+1)
theorem Rj (k:Ln)(l:List (Ln×Int)):lookK (.int .i64 0) k (BH l)=.int .i64 (lookA k l):=Hu k l 0
theorem IZ (k:Ln) (v:Int):∀ l:List (Ln×Int),updK k (.int .i64 v) (BH l)=BH (Ep k v l)
 | []=>rfl
 | x::r=>by
  show (if k=x.1 then (k,Value.int .i64 v)::BH r else (x.1,Value.int .i64 x.2)::updK k (.int .i64 v) (BH r))=BH (if k=x.1 then (k,v)::r else x::Ep k v r)
  by_cases h:k=x.1
  ·rw [if_pos h,if_pos h];rfl
  ·rw [if_neg h,if_neg h,IZ k v r];rfl
def aol(key:Int)(b:UInt8):Int :=
 if 0≤Lib.indexByte [3,0,4,1] b∧Lib.indexByte [3,0,4,1] b<key then 1 else if 0≤Lib.indexByte [6,2,5,1] b∧Lib.indexByte [6,2,5,1] b<0-key then -1 else 0
def byteOf(l:Int):UInt8:=(l % 256).toNat.toUInt8
def aav (key:Int)(alt:List (Ln×Int))(k:Ln):Int:=if 0<lookA k alt then lookA k alt-2 else aol key (byteOf k.1)
def Jz(al:Int):Int:=if al=1 then 1 else if al=-1 then 2 else 3
def mX (alt:List (Ln×Int)):Prop:=∀ k,0≤lookA k alt∧lookA k alt≤3
theorem mX.nil:mX []:=fun k=>⟨ni 0,by show(0:Int)≤3;decide⟩
theorem mX.upd {alt:List (Ln×Int)} (h:mX alt)(k:Ln) {v:Int} (hv:0≤v∧v≤3):mX (Ep k v alt):=fun q=>by
 rw [Hw]
 split
 ·exact hv
 ·exact h q
theorem Po (M:PM)(p:aN)(w:World)(hP:oI w w.heap.size M p)(hO:fH p)(h0:aO p≠0):Calls Tryz.prog 79 #[dL M p] w (Ret (.tuple #[.slice none 0 0,.int .i64 (aO p)]) w):=by
 have hC:=fun (w':World)(hb:Below w.heap.size w w')=>nV M p w' (hP.after hb) hO
 obtain⟨E,hE⟩:∃ E,aO p=E:=⟨_,rfl⟩
 rw [hE] at hC h0 ⊢
 obtain⟨A1,A2,A3,c1,c2,c3⟩:=M
 unfold dL at *
 simp only at *
 have HC:=Lib.hid hC
 have e1:(E == 0)=false:=by simpa using h0
 have e2:(E != 0)=true:=by simpa using h0
 clear hC hP hO h0 hE
 go_enter Tryz.func79,Tryz.ntmps79
 exact aeK
theorem Gu (M:PM)(p:aN)(w:World)(hP:oI w w.heap.size M p)(hO:fH p)(h0:aO p≠0):Calls Tryz.prog 116 #[dL M p] w (Ret (.tuple #[.slice none 0 0,.int .i64 (aO p)]) w):=by
 have hC:=fun (w':World)(hb:Below w.heap.size w w')=>nV M p w' (hP.after hb) hO
 obtain⟨E,hE⟩:∃ E,aO p=E:=⟨_,rfl⟩
 rw [hE] at hC h0 ⊢
 obtain⟨A1,A2,A3,c1,c2,c3⟩:=M
 unfold dL at *
 simp only at *
 have HC:=Lib.hid hC
 have e1:(E == 0)=false:=by simpa using h0
 have e2:(E != 0)=true:=by simpa using h0
 clear hC hP hO h0 hE
 go_enter Tryz.func116,Tryz.ntmps116
 exact aeK
theorem Tj {w:World} {base e n cap B:Nat} {g:Nat} {l:List Int} (h:w.ownsRow base e 1 (.slice (some ⟨g,0,none⟩) n cap) n (l.map fun x=>.int .i64 x)) (hn:l.length=n) (hg:g<B):Rd w B 1 (some ⟨g,0,none⟩) (l.map gG):=by
 intro _
 refine ⟨⟨g,0,none⟩,rfl,hg,fun k r hr j y hy=>?_⟩
 rw [bC] at hr
 cases hk:l[k]? with
 | none=>simp [hk] at hr
 | some x =>
  simp only [hk,kG,Option.some.injEq] at hr
  subst hr
  have hkl:=(List.getElem?_eq_some_iff.1 hk).1
  match j with
  | 0 =>
   cases hy
   have:=h.cellAt k aj
   rw [bC,hk] at this
   have e:(⟨g,0,none⟩:Addr).add (k*1+0)=⟨g,k,none⟩:=by
    by_cases hz:k=0
    ·subst hz;rfl
    ·simp [Addr.add,hz]
   rw [e]
   exact jy
  | j+1=>simp [gG] at hy
theorem wZ (p:aN) (hO:fH p):Ctr Tryz.prog 79 [eF p] (.tu [.ls 1 (if aO p=0 then (iw p.evs p.evs.length).map eInt else []),.sc (.int .i64 (aO p))]):=by
 intro w F vs hF hR
 match vs,hR.1 with
 | [v],_ =>
  obtain ⟨M,rfl,hM⟩:=DW hF (hR.2 0 _ v rfl rfl)
  by_cases h0:aO p=0
  ·rw [if_pos h0,h0]
   refine (SK M p w hM hO h0).mono fun e w' ⟨v,he,hrow,hb⟩=>?_
   obtain ⟨g,cap,rfl⟩:∃ g cap,v=.slice (some ⟨g,0,none⟩) (p.evs.length+1) cap:=by
    rcases hrow.2 with⟨_,h⟩|⟨g,cap,cur,e,_⟩
    ·omega
    ·exact ⟨g,cap,e⟩
   have hlt:=hrow.lt g rfl
   have hcap:p.evs.length+1≤cap:=by
    rcases hrow.2 with⟨h,_⟩|⟨g',cap',cur,e,_,_,h,_⟩
    ·cases h
    ·cases e;exact h
   have hlen:(iw p.evs p.evs.length).length=p.evs.length+1:=l9 _ _
   refine ⟨_,newF F w w',he,hb,uY hF,uX hF hb,qw,.tu _ _ rfl fun i av u a b=>?_⟩
   match i with
   | 0 =>
    cases a;cases b
    have:=yB (F:=F) (w:=w) (Tj (B:=w'.heap.size) hrow hlen hlt.2) (fun ad e=>by cases e;exact hlt.1) (c:=cap) aj (e:=eInt) (fun _=>rfl) JM
    rw [hlen] at this
    exact this
   | 1=>cases a;cases b;exact .sc _
   | i+2=>simp at a
  ·rw [if_neg h0]
   refine (Po M p w hM hO h0).mono fun e w' ⟨he,hb⟩=>?_
   refine ⟨_,newF F w w',he,hb,uY hF,uX hF hb,qw,.tu _ _ rfl fun i av u a b=>?_⟩
   match i with
   | 0=>cases a;cases b;exact .ls 1 [] none 0 ⟨0,0,none⟩ (fun _ _=>undef) (by simp) (by simp) (by simp) (by simp) (by simp)
   | 1=>cases a;cases b;exact .sc _
   | i+2=>simp at a
def akv (p:aN):List (List AV):=if aO p=0 then (iw p.evs p.evs.length).map eInt else []
def Nu (p:aN):AV:=.ag [.ls 3 (p.cs.map aW),.ls 1 (p.st.map eInt),.ls 6 (p.evs.map iq),.ls 1 (akv p)]
theorem Yb (p:aN) (hO:fH p):Ctr Tryz.prog 233 [eF p] (.tu [Nu p,.sc (.int .i64 (aO p))]):=by
 refine jc Tryz.func233 Tryz.ntmps233 fun w0 F0=>?_;dsimp only [St.init,number,Nat.reduceAdd]
 refine qP ?_
 refine WL.vl rfl (WV.call rfl (callF Tryz.func79 rfl rfl) rfl rfl (wZ p hO)) ?_
 refine qP ?_
 exact dY
theorem Tr.amd {C:Cx} {σ:St} {t:Tmp} (n:Nat) (h:look t σ.t=some (.sc (.slice none 0 0))):Tr C σ (σ.put t (.ls n [])):=fun G a w ok=>by
 refine ⟨G,ok.sz,ok.df,fun i av hi=>?_,ok.bel,ok.fw,ok.f0,ok.f1,ok.ob,ok.my,ok.dj,ok.dF⟩
 by_cases e:i=t
 ·subst e
  rw [show look i (σ.put i (.ls n [])).t=some (.ls n []) from look_set_same] at hi
  cases hi
  obtain ⟨h1,h2,h3⟩:=ok.tm i _ h
  refine ⟨h1,.ls _ _,?_⟩
  rw [h3.sc_eq]
  exact .pu _ _ (.ls n [] none 0 ⟨0,0,none⟩ (fun _ _=>undef) (by simp) (by simp) (fun h=>absurd h (by simp)) (fun i r j av h=>by simp at h) (fun i r j av h=>by simp at h))
 ·rw [show look i (σ.put t (.ls n [])).t=look i σ.t from look_set_other e] at hi
  exact ok.tm i av hi
theorem Ag (s:Int):Ctr Tryz.prog 50 [.sc (.int .u8 s)] (.tu [.sc (aU s),.sc (.bool (decide (1≤s∧s≤4)))]):=by
 refine Ctr.vS (xs:=[.int .u8 s]) (v:=.tuple #[aU s,.bool (decide (1≤s∧s≤4))]) rfl (fun F=>.tu _ _ rfl fun i av u a b=>?_) fun w=>?_
 ·exact adG
 ·by_cases h:1≤s∧s≤4
  ·rcases bI h with rfl|rfl|rfl|rfl
   ·exact (aoc w).mono fun e w' ⟨he,hw⟩=>⟨he,hw ▸ Below.refl _ _⟩
   ·exact (aod w).mono fun e w' ⟨he,hw⟩=>⟨he,hw ▸ Below.refl _ _⟩
   ·exact (aoe w).mono fun e w' ⟨he,hw⟩=>⟨he,hw ▸ Below.refl _ _⟩
   ·exact (aof w).mono fun e w' ⟨he,hw⟩=>⟨he,hw ▸ Below.refl _ _⟩
  ·have e:aU s=.nilIface:=by
    unfold aU
    rw [if_neg (by omega),if_neg (by omega),if_neg (by omega),if_neg (by omega)]
   rw [e,dW h]
   exact (akt s w aj).mono fun e w' ⟨he,hw⟩=>⟨he,hw ▸ Below.refl _ _⟩
theorem uZ (p:aN) (hO:fH p):Ctr Tryz.prog 51 [eF p] (.sc (.int .i64 (aO p))) :=
 Ctr.V3 (pre:=[]) (post:=[]) rfl rfl (fun _=>.sc _) fun w M hM=>nV M p w hM hO
def jB(s:Int)(p:aN):List MW:=if(1≤s∧s≤4)∧aO p=0 then oU s p p.evs.length else []
def tq(s:Int)(p:aN):Int:=if 1≤s∧s≤4 then aO p else 30
theorem BO {s:Int} {p:aN} (h:¬ (1≤s∧s≤4)):jB s p=[]∧tq s p=30:=⟨if_neg fun x=>h x.1,if_neg h⟩
theorem BP {s:Int} {p:aN} (h:1≤s∧s≤4)(h2:aO p≠0):jB s p=[]∧tq s p=aO p:=⟨if_neg fun x=>h2 x.2,if_pos h⟩
theorem mQ {s:Int} {p:aN} (h:1≤s∧s≤4) (h2:aO p=0):jB s p=oU s p p.evs.length∧tq s p=0:=⟨if_pos ⟨h,h2⟩,by rw [← h2];exact if_pos h⟩
theorem YU (s:Int) (p:aN) (hO:fH p):Ctr Tryz.prog 59 [.sc (.int .u8 s),eF p] (.tu [.ls 3 ((jB s p).map uV),.sc (.int .i64 (tq s p))]):=by
 refine jc Tryz.func59 Tryz.ntmps59 fun w0 F0=>?_;dsimp only [St.init,number,Nat.reduceAdd]
 have hn3:=hO.n3
 refine wz ?_
 refine WL.vl rfl (WV.call rfl (callF Tryz.func50 rfl rfl) rfl rfl (Ag s)) ?_
 refine wz ?_
 (refine W.cond rfl (fun hif=>?_) (fun hif=>?_)<;>(try simp only [bD,bK,dM,dN,dn,dO] at hif))
 ·have hs:¬ (1≤s∧s≤4):=by simpa using hif
  rw [(BO hs).1,(BO hs).2]
  exact ae0
 have hs:1≤s∧s≤4:=by simpa using hif
 refine wz ?_
 refine WL.vl rfl (WV.call rfl (callF Tryz.func51 rfl rfl) rfl rfl (uZ p hO)) ?_
 refine wz ?_
 (refine W.cond rfl (fun hif=>?_) (fun hif=>?_)<;>(try simp only [bD,bK,dM,dN,dn,dO] at hif))
 ·have h0:aO p≠0:=by simpa using hif
  rw [(BP hs h0).1,(BP hs h0).2]
  exact ae0
 have h0:aO p=0:=by simpa using hif
 rw [(mQ hs h0).1,(mQ hs h0).2]
 refine wz ?_
 refine W.tr (Tr.nil (t:=9) 136 3 rfl rfl) ?_
 refine W.loop (fun k:Nat=>k≤p.evs.length) (fun k=>⟨[(3,.pt 0 0 0),(6,.sc (aU s)),(9,.sl 1),(25,.sc (.int .i64 p.evs.length)),(26,.sc (.int .i64 k))],[(0,.box 30 (eF p).cells),(1,.row 136 3 ((oU s p k).map uV))],2⟩) (fun k=>p.evs.length - k) 0 aj (zqt id) fun k hk=>?_
 refine wz ?_
 (refine W.cond rfl (fun hif=>?_) (fun hif=>?_)<;>(try simp only [bD,bK,dM,dN,dn,dO] at hif))
 ·have hk2:k < p.evs.length:=by omega
  have hl1:=Ht s hO k hk
  have hl2:=zo s p k p.evs[k] (hO.n4 k hk2)
  have hrow:(oU s p k).map uV++(jO s p k p.evs[k]).map uV=(oU s p (k+1)).map uV:=by rw [xY s p hk2,gK]
  refine wz ?_
  refine WL.vl rfl (WV.call rfl (callF Tryz.func114 rfl rfl) rfl rfl (Pz s hs p k hk2 hO (oh h0 k hk2))) ?_
  refine wz ?_
  exact ⟨k+1,by omega,by omega,mP (fun q=>bif Nat.beq q 1 then 2 else q) (by repeat (first|exact trivial|refine ⟨⟨?_,?_,?_⟩,?_⟩|exact congrArg (fun r=>some (AO.row _ _ r)) hrow|rfl)) rfl⟩
 ·have he:k=p.evs.length:=by omega
  subst he
  refine wz ?_
  refine W.tr (Tr.freeze 1 rfl) ?_
  exact oO
theorem BQ (s:Int) (p:aN) (hO:fH p):Ctr Tryz.prog 19 [.sc (.int .u8 s),eF p] (.sc (.bool (tq s p == 0 && ((jB s p).length:Int) == 0))):=by
 refine jc Tryz.func19 Tryz.ntmps19 fun w0 F0=>?_;dsimp only [St.init,number,Nat.reduceAdd]
 refine AX ?_
 refine WL.vl rfl (WV.call rfl (callF Tryz.func59 rfl rfl) rfl rfl (YU s p hO)) ?_
 refine AX ?_
 have hl:(jB s p).length≤27000:=by
  unfold jB
  split
  ·exact Ht s hO _ (Nat.le_refl _)
  ·simp
 refine WL.partG rfl rfl rfl rfl (fun hp=>?_) (fun hp=>?_)
 ·have e:tq s p=0:=nC hp
  refine AX ?_
  refine W.ret (fin1 rfl rfl (o9 ?_) rfl)
  rw [e];rfl
 ·have e:tq s p≠0:=yK hp
  refine AX ?_
  refine W.ret (fin1 rfl rfl (o9 ?_) rfl)
  rw [show (tq s p == 0)=false by simpa using e];rfl
def bg (t:List UInt8):List AV:=[.sc (.string (bs t))]
theorem Ctg.agU {B:World→View→Prop} {P:Program} {f:FuncId} {args:List AV} {xs:List Value} {T:TypeId} {L:List (List UInt8)} (hs:scs args=some xs)
  (h:∀ w F,B w F→Calls P f xs.toArray w fun e w'=>e=.returned (.slice (some ⟨w.heap.size,0,none⟩) L.length L.length)∧w'=w.alloc (.cells (L.map fun l=>Value.string (bs l)).toArray T)):Ctg B P f args (.ls 1 (L.map bg)):=by
 intro w F vs hB hF hR
 have:vs=xs:=scs_of (G:=⟨F,fun _=>0,fun _=>0,fun _=>undef,fun _ _=>False⟩) hs hR.1 fun i av u a b=>.pu _ _ (hR.2 i av u a b)
 subst this
 refine (h w F hB).mono fun e w' ⟨he,hw⟩=>?_
 have hb:Below w.heap.size w w':=by subst hw;exact bel_alloc (Below.refl _ _) _
 have hcell:∀ (i:Nat) l,L[i]?=some l→w'.cell? ⟨w.heap.size,i,none⟩=some (.string (bs l)):=fun i l hl=>by
  have hh:w'.heap[w.heap.size]?=some (.cells (L.map fun l=>Value.string (bs l)).toArray T):=by
   subst hw
   show (w.heap.push _)[w.heap.size]?=_
   simp
  rw [Lib.cell_of_heap hh]
  simp [hl]
 refine ⟨_,newF F w w',he,hb,uY hF,uX hF hb,qw,?_⟩
 have hlen:L.length=(L.map bg).length:=by simp
 rw [hlen]
 refine .ls 1 (L.map bg) _ _ ⟨w.heap.size,0,none⟩ (fun i j=>((L[i]?).map fun l=>Value.string (bs l)).getD undef) (by simp) (fun r hr=>?_) (fun _=>rfl) (fun i r j av hr hav=>?_) (fun i r j av hr hav=>?_)
 ·obtain ⟨l,_,rfl⟩:=List.mem_map.1 hr;rfl
 ·rw [bC] at hr
  cases hx:L[i]? with
  | none=>simp [hx] at hr
  | some l =>
   rw [hx] at hr
   obtain rfl:bg l=r:=by simpa using hr
   match j,hav with
   | 0,hav =>
    refine ⟨?_,by simp [Value.oneCell']⟩
    unfold newF
    have e:Addr.add (⟨w.heap.size,0,none⟩:Addr) (i*1+0)=⟨w.heap.size,i,none⟩:=by
     simp [Addr.add]
     intro h;exact h.symm
    rw [e,if_neg (by show ¬ w.heap.size<w.heap.size;omega),hcell i l hx]
    simp
   | j+1,hav=>simp [bg] at hav
 ·rw [bC] at hr
  cases hx:L[i]? with
  | none=>simp [hx] at hr
  | some l =>
   rw [hx] at hr
   obtain rfl:bg l=r:=by simpa using hr
   match j,hav with
   | 0,hav =>
    obtain rfl:AV.sc (.string (bs l))=av:=by simpa [bg] using hav
    simp [hx]
    exact .sc _
   | j+1,hav=>simp [bg] at hav
theorem Am:∀ (w:List UInt8)(n:Nat),(∀ b∈w,48≤b.toNat∧b.toNat≤57)→o7 n w=some (w.foldl (fun a b=>10*a+(b.toNat-48)) n)
 | [],n,_=>rfl
 | b::r,n,h=>by
  rw [o7,if_pos (h b (by simp)),Am r _ fun x hx=>h x uQ];rfl
theorem Ap:∀ (w:List UInt8) (n:Nat) (k:Nat) (hk:k<w.length),¬ (48≤w[k].toNat∧w[k].toNat≤57)→o7 n w=none
 | b::r,n,0,_,h=>by rw [o7,if_neg uT]
 | b::r,n,k+1,hk,h=>by
  rw [o7]
  split
  ·exact Ap r _ k sW uT
  ·rfl
def lT (w:List UInt8)(k:Nat):Nat:=(w.take k).foldl (fun a b=>10*a+(b.toNat-48)) 0
theorem yC {w:List UInt8} {k:Nat} (hk:k<w.length):lT w (k+1)=10*lT w k+(w[k].toNat-48):=by
 unfold lT
 rw [gq hk,Ew];rfl
end
end Go.Proofs.YthohlofpphjofaaGreatDoor
