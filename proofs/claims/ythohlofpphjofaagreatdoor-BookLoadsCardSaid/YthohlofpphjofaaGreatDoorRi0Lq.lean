/- The text of an instrument, read: plain words (for NotationReads: instrument.Parse on both sides). -/
import Derived.Test.YthohlofpphjofaaGreatDoorRMkLq
import Derived.Test.YthohlofpphjofaaGreatDoorSpLq
set_option maxHeartbeats 4000000
set_option maxRecDepth 100000
set_option linter.unusedVariables false
set_option linter.unusedSimpArgs false
namespace Go.Proofs.YthohlofpphjofaaGreatDoor
section
variable {p:Prop}
theorem ami(h:p:=by
 .obtain ⟨u,hu,q1,q2⟩:=hcell j av hj;rw [hu];exact q2.mono hF):p:=h
theorem amg(h:p:=by
 rcases List.mem_cons.1 hy with rfl|k;.exact h
 .exact hn y k):p:=h
theorem al8(h:p:=by
 unfold Instr.sliceAt;rw [Sem.run_bind,run_underlying hT w];exact hrun):p:=h
theorem alM(h:p:=by
 have e:y7 σ.M (.pt k 0 0)=.pt k 0 0:=by simp only [y7,hk]
 rw [e] at hp;cases hp):p:=h
theorem anE(h:p:=by
 rw [hds];exact hN _ _ _ (ok'.set (d:=some d) (av:=.sl σ.nk) (tY rfl) (.sl _ (vw _)) λx hx=>by cases hx;exact dn hdb)):p:=h
theorem aso(h:p:=by
 have:=WO.qQ (P:=P) (C:=C) (σ:=⟨t,σ.M,σ.nk⟩) (xs:=⟨xs⟩) hB ks ho hc ((kC H (hmem y (by simp))).trans hy) hf ((Gp H λq hq=>hmem q (QX _ hq)).trans hx) rfl h hks ha hp (Yk (σ:=σ) (σ':=⟨t,σ.M,σ.nk⟩) (ρ:=rhoC ks nk σ.nk) rfl hM) hq.1.1.1 hq.1.1.2 hq.1.2 hq.2 hr (by rw [b];exact e);rw [b] at this;exact this):p:=h
theorem anz(h:p:=by exact ⟨ok'.sz,ok'.df,ok'.tm,ok'.bel,ok'.fw,ok'.f0,ok'.f1,λi x hx=>ok'.ob i x ((hl i).symm.trans hx),λi x y hx=>ok'.my i x y ((hl i).symm.trans hx),λi x i' x' y hx hx'=>ok'.dj i x i' x' y ((hl i).symm.trans hx) ((hl i').symm.trans hx'),λi x y p u hx=>ok'.dF i x y p u ((hl i).symm.trans hx)⟩):p:=h
theorem kT(h:p:=by exact W.ret (fin2 rfl rfl rfl rfl rfl rfl rfl)):p:=h
end
section
open Go.RowKit
section
variable {P:Program} {C:Cx} {σ σ':St} {o:Oper} {d:Tmp} {ops:Array Oper} {rest:List Oper} {Q:Exit→St→Prop}
structure as3 where
 e:TypeId
 z:Value
 m:Int
 n:Int
def auu (P:Program) (σ:St):Op->Option as3
 | .makeSlice T x y =>match P.underlying T,σ.ev x,σ.ev y with
  | some (.slice e),some (.sc (.int _ m)),some (.sc (.int _ n)) =>match P.info? e with
   | some i =>match i.zero with
    | some z=>bif z.oneCell' && Nat.beq i.size 1 && Nat.ble i.bytes 1000 then some ⟨e,z,m,n⟩else none| none=>none
   | none=>none
  | _,_,_=>none
 | _=>none
theorem WO.mks {x:as3} {q:Nat} (hd:ji C.N o=some d) (h:auu P σ o.op=some x) (hmn:x.m=x.n) (hn:0<=x.n/\x.n<=1000000) (hq:σ.nk=q):WO P C o σ (((σ.new (.row x.e 1 (List.replicate x.n.toNat [.sc x.z]))).put d (.sl q))):=by
 intro G a w ok N Q' hN;obtain ⟨_,hds,hdb⟩:=gK hd;unfold auu at h;split at h
 .rename_i T x1 y1 ho;split at h
  .rename_i e k1 m k2 n hT hx hy;split at h
   .rename_i i hi;split at h
    .rename_i z hz;cases hb:z.oneCell' && Nat.beq i.size 1 && Nat.ble i.bytes 1000 with
     | false=>rw [hb] at h;cases h| true =>
      rw [hb] at h;cases h;simp only [gG] at hb;obtain ⟨⟨b1,b2⟩,b3⟩:=hb;obtain rfl:m=n:=hmn;obtain ⟨n,rfl⟩:∃ n:Nat,m=n:=⟨m.toNat,(Int.toNat_of_nonneg hn.1).symm⟩;have hn2:n<=1000000:=by grind
      have hzc:z.cells=#[z]:=by cases z<;>first|rfl|cases b1
      have hby:i.bytes*n<=281474976710656:=by
       have:=Uu (bG b3) hn2;omega
      obtain ⟨w',hrun,hown,hgr⟩:=run_make_full (P:=P) w 0 T e i z 1 hT hi hz (dG b2) k1 k2 n hby Oh (iT _);rw [hzc,NQ,toList_madeCells_one] at hown;subst hq;have hbl:w'.heap[w.heap.size]?≠none:=by
       rcases hown.2 with⟨e1,_⟩|⟨g,cap,cur,e1,_,hh,_⟩;all_goals simp_all
      have hlt:w.heap.size<w'.heap.size:=by simp_all
      have ok':=ok.newObj (S:=λ_=>False) (w':=w') (b:=w.heap.size) (n:=1) (h:=.slice (some ⟨w.heap.size,0,none⟩) n n) (φ:=λx=>x=w.heap.size) (ob:=.row e 1 (List.replicate n [.sc z])) ⟨hgr.os,hgr.tape,hgr.output,hgr.size,λx h1 _=>hgr.block x h1 (by simp)⟩ (λ_ h=>h.elim) (λ_ _ _ _ _ h=>h) (λ_ _ _ h=>h) ⟨uZ,(λg hg=>by rw [fB] at hg;rw [su];exact (Option.some.inj hg).symm),by
        rw [fB,qH];refine ⟨λr hr=>by rw [vF hr];rfl,List.replicate n [z],λ_ _ _=>False,by simpa using hown,by simp,λr hr u hu=>?_,λg hg=>(Option.some.inj hg).symm,λ_ _ _ h=>h.elim,λ_ _ _ _ _ h=>h.elim,λi r r' h1 h2=>?_,λi r r' j av u h1 h2 h3 h4=>?_⟩;.rw [vF hr,CO] at hu;rw [hu];exact b1
        .exact alD
        .rw [vF (cZ h1)] at h3;rw [vF (cZ h2)] at h4;cases j with
         | zero=>cases h3;cases h4;exact .sc _| succ j=>simp at h3⟩ trivial (λx hx=>by
        subst hx;exact ⟨.inl ok.bel.size,hlt,λk o h1 h2=>by have:=(ok.my k o _ h1 h2).2;omega,λp u h1 h2=>by have:=aQ (ok.fw p u h1);omega⟩);refine lN ?_;simp only [ho,ok.evs hx,ok.evs hy,Sem.run_bind,hrun,Sem.run_pure,Result.andThen_ok,Oper.upon];exact anE
    .cases h
   .cases h
  .cases h
 .cases h
theorem WL.mks {x:as3} {m:Nat} {t:List (Nat×AV)} {M:List (Nat×AO)} {nk:Nat} (hd:ji C.N o=some d) (h:auu P ⟨t,M,nk⟩ o.op=some x) (hmn:x.m=x.n) (hm:x.n.toNat=m) (hn:0<=x.n/\x.n<=1000000) (k:WL P C ops rest ⟨(d,.sl nk)::t,(nk,.row x.e 1 (List.replicate m [.sc x.z]))::M,nk+1⟩ Q):WL P C ops (o::rest) ⟨t,M,nk⟩ Q:=by
 subst hm;exact WL.op (gK hd).1 (WO.mks hd h hmn hn rfl) k
def adk (P:Program)(σ:St):Op->Option (Nat×List (List AV)×Int×Int)
 | .slice T x lo hi none =>match P.underlying T,σ.ev x with
  | some (.slice e),some (.ls n rows) =>match fZ P e with
   | some m =>bif Nat.beq m n then match lo,hi with
     | none,none=>some (n,rows,0,rows.length)| some y,none =>match σ.ev y with
      | some (.sc (.int _ i))=>some (n,rows,i,rows.length)| _=>none
     | none,some z =>match σ.ev z with
      | some (.sc (.int _ j))=>some (n,rows,0,j)| _=>none
     | some y,some z =>match σ.ev y,σ.ev z with
      | some (.sc (.int _ i)),some (.sc (.int _ j))=>some (n,rows,i,j)| _,_=>none else none| none=>none
  | _,_=>none
 | _=>none
def prt {α:Type} (l:List α)(i j:Int):List α:=(l.take j.toNat).drop i.toNat
theorem DV {T e n:Nat} (hT:P.underlying T=some (.slice e)) (hn:fZ P e=some n) (A:Option Addr) (len cap:Nat) (lo hi:Option Value) (i j:Int) (w:World)(hlo:(∃ k,lo=some (.int k i))\/(lo=none/\i=0)) (hhi:(∃ k,hi=some (.int k j))\/(hi=none/\j=len)) (hb:0<=i/\i<=j/\j<=len) (hc:len<=cap) :(Instr.slice T (.slice A len cap) lo hi none).run P w=.ok (.slice (if cap=i.toNat then A else A.map (·.add (i.toNat*n))) (j.toNat-i.toNat) (cap-i.toNat)) w:=by
 obtain ⟨i,rfl⟩:∃ q:Nat,i=q:=⟨i.toNat,by omega⟩;obtain ⟨j,rfl⟩:∃ q:Nat,j=q:=⟨j.toNat,by omega⟩;have h1:0<=(j:Int)/\(j:Int)<=(cap:Int):=by omega
 have h2:0<=(i:Int)/\(i:Int)<=(j:Int):=by omega
 rcases hlo with⟨k,rfl⟩|⟨rfl,hi⟩<;>rcases hhi with⟨k',rfl⟩|⟨rfl,hj⟩;·simp_all[Instr.slice,run_underlying,Instr.sliceBounds,Instr.sliceBound,asIntOf,kL]
 ·obtain rfl:j=len:=by omega
  simp [Instr.slice,run_underlying hT,Instr.sliceBounds,Instr.sliceBound,asIntOf,kL hn,show i<=j by omega]
 ·obtain rfl:i=0:=by omega
  simp [Instr.slice,run_underlying hT,Instr.sliceBounds,Instr.sliceBound,asIntOf,kL hn,show j<=cap by omega]
 simp_all[Instr.slice,run_underlying,Instr.sliceBounds,kL]
theorem xP {n:Nat} {rows:List (List AV)} {i j:Int} (h:adk P σ o.op=some (n,rows,i,j)) (hb:0<=i/\i<=j/\j<=rows.length):WV P C o σ (.ls n (prt rows i j)):=by
 unfold adk at h;split at h
 ·rename_i T x lo hi ho;split at h
  ·rename_i e n' rows' hT hx;split at h
   ·rename_i m hm;cases hbq:Nat.beq m n' with
    | false=>simp_all| true =>
     rw [hbq] at h;obtain rfl:=dG hbq;simp only [cond_true] at h;have key:(n=m/\rows=rows')/\∀ G a w,Ok C σ G a w->((∃ k,lo.map a.eval=some (.int k i))\/(lo.map a.eval=none/\i=0))/\((∃ k,hi.map a.eval=some (.int k j))\/(hi.map a.eval=none/\j=rows'.length)):=by
      split at h;·cases h;exact ⟨⟨rfl,rfl⟩,λG a w ok=>⟨.inr ⟨rfl,rfl⟩,.inr ⟨rfl,rfl⟩⟩⟩
      ·split at h;·rename_i k i' hy;cases h;exact ⟨⟨rfl,rfl⟩,λG a w ok=>⟨.inl ⟨k,by simp [ok.evs hy]⟩,.inr ⟨rfl,rfl⟩⟩⟩
       ·cases h
      ·split at h;·rename_i k i' hy;cases h;exact ⟨⟨rfl,rfl⟩,λG a w ok=>⟨.inr ⟨rfl,rfl⟩,.inl ⟨k,by simp [ok.evs hy]⟩⟩⟩
       ·cases h
      ·split at h;·rename_i k i' k' j' hy hz;cases h;exact ⟨⟨rfl,rfl⟩,λG a w ok=>⟨.inl ⟨k,by simp [ok.evs hy]⟩,.inl ⟨k',by simp [ok.evs hz]⟩⟩⟩
       ·cases h
     obtain ⟨⟨rfl,rfl⟩,hlh⟩:=key;refine WV.val (λ_ _ _ _=>.ls _ _) λG a w ok=>?_;obtain ⟨A,cap,ad,u,e1,h1,h2,h3,h4,h5⟩:=(ok.l9 hx).2.E8.Ce;obtain ⟨q1,q2⟩:=hlh G a w ok;have hrun:=DV (P:=P) hT hm A rows.length cap (lo.map a.eval) (hi.map a.eval) i j w q1 q2 hb h5;have hlen:(prt rows i j).length=j.toNat-i.toNat:=by unfold prt;simp;omega
     have hrow:∀ (q:Nat) r,(prt rows i j)[q]?=some r->rows[i.toNat+q]?=some r/\q<j.toNat-i.toNat:=λq r hq=>by
      have hlt:=(List.getElem?_eq_some_iff.1 hq).1;unfold prt at hq;rw [Nv,List.getElem?_take] at hq;split at hq;·exact ⟨hq,by omega⟩
      ·cases hq
     refine ⟨.slice (if cap=i.toNat then A else A.map (·.add (i.toNat*n))) (prt rows i j).length (cap-i.toNat),?_,.pu _ _ (.ls n _ _ _ (ad.add (i.toNat*n)) (λq s=>u (i.toNat+q) s) (by rw [hlen];omega) (λr hr=>?_) (λhp=>?_) (λq r s av a1 a2=>?_) λq r s av a1 a2=>?_)⟩
     ·unfold execOp;simp only [ho,e1,NV];rw [hlen];have hsa:∀ v,(Instr.sliceAt T (.slice A rows.length cap) (lo.map a.eval) (hi.map a.eval) none).run P w=.ok v w↔(Instr.slice T (.slice A rows.length cap) (lo.map a.eval) (hi.map a.eval) none).run P w=.ok v w:=λv=>by
       unfold Instr.sliceAt;rw [Sem.run_bind,run_underlying hT w];rfl
      rw [Sem.run_bind,(hsa _).2 hrun];rfl
     ·obtain ⟨q,hq,rfl⟩:=oz hr;exact h1 _ (cZ (hrow q _ (aO hq)).1)
     all_goals grind[yw]
   ·cases h
  ·cases h
 ·cases h
theorem WL.y8 {n:Nat} {rows rows':List (List AV)} {i j:Int} (hd:ji C.N o=some d)(h:adk P σ o.op=some (n,rows,i,j))(hb:0<=i/\i<=j/\j<=rows.length)(he:prt rows i j=rows')(k:WL P C ops rest (σ.put d (.ls n rows')) Q):WL P C ops (o::rest) σ Q:=by
 subst he;exact WL.vl hd (xP h hb) k
theorem DK.y8 {n:Nat} {rows rows':List (List AV)} {i j:Int} (hd:OM C.N ops σ o=some d)(h:adk P (σ.only (o.looksAt ops)) o.op=some (n,rows,i,j))(hb:0<=i/\i<=j/\j<=rows.length)(he:prt rows i j=rows')(k:DK P C ops rest (σ.put d (.ls n rows')) Q):DK P C ops (o::rest) σ Q:=by
 subst he;exact DK.vl hd (xP h hb) k
def ate (P:Program)(σ:St):Op->Option (IntKind×Int)
 | .convert S T x =>match P.underlying T,σ.ev x with
  | some (.int k),some (.sc (.int _ n))=>some (k,n)| _,_=>none
 | _=>none
theorem aob {k:IntKind} {n:Int} (h:ate P σ o.op=some (k,n))(hs:∀ S T x,o.op=.convert S T x->(P.underlying S).isSome=true):WV P C o σ (.sc (.int k (k.wrap n))):=by
 unfold ate at h;split at h
 .rename_i S T x ho;split at h
  .rename_i k' k2 n' hT hx;cases h;have:=hs S T x ho;cases hS:P.underlying S with
   | none=>rw [hS]at this;cases this| some d=>exact WV.sc λG a w ok=>by unfold execOp;simp [ho,ok.evs hx,convert,run_underlying hS,run_underlying hT,Conv.intToInt]
  .cases h
 .cases h
def ay7(P:Program):Op->Bool
 | .convert S _ _=>(P.underlying S).isSome| _=>true
theorem WL.cvt {k:IntKind} {n m:Int} (hd:ji C.N o=some d)(h:ate P σ o.op=some (k,n))(hs:ay7 P o.op=true)(hm:k.wrap n=m)(K:WL P C ops rest (σ.put d (.sc (.int k m))) Q):WL P C ops (o::rest) σ Q:=by
 subst hm;exact WL.vl hd (aob h λS T x e=>by rw [e] at hs;exact hs) K
theorem aoR {q i j len n:Nat} {z:Int} (h:ae0 P σ o.op=some (.pt q i j,len,n,z))(h0:0<=z/\z<len):WV P C o σ (.pt q i (j+z.toNat*n)) :=KO h h0 (λnk b=>by cases b with|pt _ _ _ hk=>exact .pt _ _ _ hk) λG a w ok v r=>by
  obtain⟨p,e,p1,p2,p3⟩:=r.lu;obtain⟨q1,q2,q3⟩:=RU (j:=z.toNat*n) p p1 p3;exact⟨p,e,.pt q i _ _ q1 au q3⟩
theorem WL.idp {q i j len n m:Nat} {z:Int} (hd:ji C.N o=some d)(h:ae0 P σ o.op=some (.pt q i j,len,n,z))(h0:0<=z/\z<len)(hm:j+z.toNat*n=m)(k:WL P C ops rest (σ.put d (.pt q i m)) Q):WL P C ops (o::rest) σ Q:=by
 subst hm;exact WL.vl hd (aoR h h0) k
def aul (P:Program)(σ:St):Op->Option (List AV×Nat)
 | .load T x =>match zn P T,σ.ev x with
  | some false,some (.pt k 0 j) =>match look k σ.M with
   | some (.box _ cells)=>some (cells,j)| _=>none
  | _,_=>none
 | _=>none
theorem ao7 {cells:List AV} {j:Nat} {av:AV} (h:aul P σ o.op=some (cells,j))(hj:cells[j]?=some av)(ho2:av.own=false):WV P C o σ av:=by
 unfold aul at h;split at h
 .rename_i T x ho;split at h
  .rename_i k j' hT hx;split at h
   .rename_i T' cells' hk;cases h;exact WV.ais ho hT hx hk (l:=cells.drop j) rfl CX ho2
   .cases h
  .cases h
 .cases h
theorem WL.ldx {cells:List AV} {j:Nat} {av:AV} (hd:ji C.N o=some d)(h:aul P σ o.op=some (cells,j))(hj:cells[j]?=some av)(ho2:av.own=false)(k:WL P C ops rest (σ.put d av) Q):WL P C ops (o::rest) σ Q:=WL.vl hd (ao7 h hj ho2) k
def aio (P:Program)(σ:St):Op->Option (List (List AV)×Nat×Nat)
 | .load T x =>match zn P T,σ.ev x with
  | some false,some (.pt k i j) =>match look k σ.M with
   | some (.row _ _ rows)=>some (rows,i,j)| _=>none
  | _,_=>none
 | _=>none
theorem JO {rows:List (List AV)} {i j:Nat} {r:List AV} {av:AV} (h:aio P σ o.op=some (rows,i,j))(hi:rows[i]?=some r)(hj:r[j]?=some av)(ho2:av.own=false):WV P C o σ av:=by
 unfold aio at h;split at h;all_goals grind[WV.ais,AO.from_]
theorem WL.ldr {rows:List (List AV)} {i j:Nat} {r:List AV} {av:AV} (hd:ji C.N o=some d)(h:aio P σ o.op=some (rows,i,j))(hi:rows[i]?=some r)(hj:r[j]?=some av)(ho2:av.own=false)(k:WL P C ops rest (σ.put d av) Q):WL P C ops (o::rest) σ Q:=WL.vl hd (JO h hi hj ho2) k
theorem DK.ldr {rows:List (List AV)} {i j:Nat} {r:List AV} {av:AV} (hd:OM C.N ops σ o=some d)(h:aio P (σ.only (o.looksAt ops)) o.op=some (rows,i,j))(hi:rows[i]?=some r)(hj:r[j]?=some av)(ho2:av.own=false)(k:DK P C ops rest (σ.put d av) Q):DK P C ops (o::rest) σ Q:=DK.vl hd (JO h hi hj ho2) k
def stxV (P:Program)(σ:St):Op->Option (Nat×TypeId×List AV×Nat×AV)
 | .store T x y =>match σ.ev x,σ.ev y with
  | some (.pt k 0 j),some av =>match fZ P T,look k σ.M with
   | some 1,some (.box T' cells)=>bif av.xO then some (k,T',cells,j,av)else none| _,_=>none
  | _,_=>none
 | _=>none
theorem aap {av:AV} (h:av.xO=true):av.l7=true/\av.cells=[av]:=by cases av<;>first|exact⟨rfl,rfl⟩|exact⟨h,rfl⟩|cases h
theorem ajr(j:Nat)(av:AV):∀ cells:List AV,j<cells.length->jL j [av] cells=cells.set j av:=by
 intro cells h;exact abY
theorem WL.stx {q j:Nat} {T':TypeId} {cells:List AV} {av:AV} {t:List (Nat×AV)} {M M':List (Nat×AO)} {nk:Nat} (hg:o.guard=none) (hds:o.dst=none) (h:stxV P ⟨t,M,nk⟩ o.op=some (q,T',cells,j,av)) (hM:zu q M=some M') (hj:j < cells.length)(k:WL P C ops rest ⟨t,(q,.box T' (cells.set j av))::M',nk⟩ Q):WL P C ops (o::rest) ⟨t,M,nk⟩ Q:=by
 rw [jE hM] at k;clear hM;refine WL.op hg ?_ k;unfold stxV at h;split at h
 .rename_i T x y ho;split at h
  .rename_i k' j' Vf hx hy;split at h
   .rename_i T2 cells' hm hk;cases hb:Vf.xO with
    | false=>rw [hb] at h;cases h| true =>
     rw [hb] at h;cases h;obtain ⟨c1,c2⟩:=aap hb;refine yT (WO.store (σ:=⟨t,M,nk⟩) ho hds hm hx hk hy c1 c2 rfl (by simp [hb]) ?_);grind[AO.put,pY,ajr]
   .cases h
  .cases h
 .cases h
end
def zN {α:Type} [DecidableEq α] (k:α):Nat->List (α×Value)->Option (Nat×Value)
 | _,[]=>none| i,x::r=>if k=x.1 then some (i,x.2) else zN k (i+1) r
def ait {α:Type} [DecidableEq α] (z:Value)(k:α)(l:List (α×Value)):Value:=((zN k 0 l).map (·.2)).getD z
def Ns {α:Type} [DecidableEq α] (k:α)(v:Value):List (α×Value)->List (α×Value)
 | []=>[(k,v)]| x::r=>if k=x.1 then (k,v)::r else x::Ns k v r
structure anV (P:Program) (kt:TypeId) {α:Type} [DecidableEq α] (enc:α->Value):Prop where
 chk:∀ w b k,(Instr.checkKey b 10000 kt (enc k)).run P w=.ok () w
 fnd:∀ w k (es:List MapEntry) (l:List (α×Value)),es.map (λe=>(e.key,e.val))=l.map (λx=>(enc x.1,x.2))->(Instr.findKey kt (enc k) es).run P w=.ok (zN k 0 l) w
 bits:∀ k,Instr.sameBits 10000 (enc k) (enc k)=true
def aqQ {α:Type} (enc:α->Value)(l:List (α×Value))(w:World)(b:Nat):Prop :=∃ es clock,w.heap[b]?=some (.map es clock)/\es.toList.map (λe=>(e.key,e.val))=l.map λx=>(enc x.1,x.2)
def uH {α:Type} (enc:α->Value)(l:List (α×Value)):Opq :=⟨λw b v φ=>v=.map (some b)/\φ b/\aqQ enc l w b,λw w' b v φ h⟨h1,h2,es,c,h3,h4⟩=>⟨h1,h2,es,c,(h b h2).trans h3,h4⟩⟩
theorem KZ {α:Type} [DecidableEq α] (k:α):∀ (l:List (α×Value))(i n:Nat),zN k (i+n) l=(zN k i l).map λx=>(x.1+n,x.2)
 | [],i,n=>rfl| x::r,i,n=>by
  unfold zN;split;.rfl
  .rw [show i+n+1=(i+1)+n by omega];exact KZ k r (i+1) n
theorem Yn {α:Type} [DecidableEq α] (k:α)(v:Value):∀ (l:List (α×Value))(i:Nat),zN k i l=none->Ns k v l=l++[(k,v)]
 | [],i,_=>rfl| x::r,i,h=>by
  unfold zN at h;split at h;.cases h
  .rename_i hne;unfold Ns;rw [if_neg hne,Yn k v r (i+1) h];rfl
theorem Yo {α:Type} [DecidableEq α] (enc:α->Value)(k:α)(v:Value):∀ (l:List (α×Value))(es:List MapEntry)(i:Nat)(u:Value),zN k 0 l=some (i,u)->es.map (λe=>(e.key,e.val))=l.map (λx=>(enc x.1,x.2)) ->(es.modify i λe=>{ e with key:=enc k,val:=v }).map (λe=>(e.key,e.val))=(Ns k v l).map (λx=>(enc x.1,x.2))/\((es[i]?).map (·.key))=some (enc k)
 | [],es,i,u,h,_=>by cases h| x::r,[],i,u,_,he=>by cases he| x::r,e::es,i,u,h,he=>by
  simp only [AB,List.cons.injEq,Prod.mk.injEq]at he;unfold zN at h;unfold Ns;by_cases hk:k=x.1;·grind
  ·rw [if_neg hk]at h ⊢;rw [show (0+1:Nat)=0+1 from rfl,KZ]at h;cases hq:zN k 0 r with
   | none=>rw [hq]at h;cases h| some y =>
    rw [hq]at h;simp only [oG,Option.some.injEq,Prod.mk.injEq]at h;obtain⟨rfl,rfl⟩:=h;obtain⟨h1,h2⟩:=Yo enc k v r es y.1 y.2 hq he.2;simp_all
section
variable {P:Program} {C:Cx} {σ σ':St} {G G':Gh} {a:Act} {w w':World} {o:Oper} {d:Tmp} {ops:Array Oper} {rest:List Oper} {Q:Exit→St→Prop}
theorem Ok.Uj (ok:Ok C σ G a w) {k g:Nat} {ob ob':AO} (hk:look k σ.M=some ob) (hg:G.fp k g) (hkept:Kept (λx=>x=g) w w') (hob:o8 G w' k ob') (hbd:ob'.bd σ.nk) :Ok C (σ.upd k ob') G a w':=by
 have hl:∀ k' o,look k' (σ.upd k ob').M=some o->(k'=k/\o=ob')\/(k'≠k/\look k' σ.M=some o):=λk' o hx=>by exact anC
 have hne:∀ k' o x,k'≠k->look k' σ.M=some o->G.fp k' x->x≠g:=λk' o x e h1 h2 h3=>by subst h3;exact e (ok.dj k' o k ob x h1 hk h2 hg)
 have some_:∀ k' o,look k' (σ.upd k ob').M=some o->∃ o',look k' σ.M=some o':=λk' o h=>by grind
 refine ⟨ok.sz,ok.df,ok.tm,ok.bel.on hkept (λx hx=>by subst hx;exact (ok.my k ob x hk hg).1),λp u h=>?_,ok.f0,ok.f1,?_,?_,?_,?_⟩;.rw [World.cell?_of_block (hkept.block p.block (aQ (ok.fw p u h)) (ok.dF k ob g p u hk hg h))];exact ok.fw p u h
 .intro k' o x;rcases hl k' o x with⟨rfl,rfl⟩|⟨e,y⟩;.exact ⟨(ok.ob k' ob hk).1,hbd,hob⟩
  .exact ⟨(ok.ob k' o y).1,(ok.ob k' o y).2.1,(ok.ob k' o y).2.2.keep (Gh.le.refl _ _) (ok.ob k' o y).1 (ok.ob k' o y).2.1 rfl λx hx=>hkept.block x (ok.my k' o x y hx).2 (hne k' o x e y hx)⟩
 .intro k' o x h1 h2;obtain ⟨o',y⟩:=some_ k' o h1;exact ⟨(ok.my k' o' x y h2).1,oD (ok.my k' o' x y h2).2 hkept.size⟩
 .intro k1 o1 k2 o2 x h1 h2 h3 h4;exact alv
 .intro k1 o1 x p u h1 h2 h3;exact amk
theorem WO.mkm {T:TypeId} {q:Nat} {α:Type} (enc:α->Value) (hd:ji C.N o=some d) (ho:o.op=.makeMap T none) (hq:σ.nk=q):WO P C o σ ((σ.new (.opq (uH enc []))).put d (.sl q)):=by
 intro G a w ok N Q' hN;obtain ⟨_,hds,hdb⟩:=gK hd;have hbl:∀ x,x<w.heap.size->(w.alloc (.map #[] 0)).heap[x]?=w.heap[x]?:=λx hx=>Below.heap_alloc w _ x hx;have ok':=ok.newObj (S:=λ_=>False) (w':=w.alloc (.map #[] 0)) (b:=w.heap.size) (n:=0) (h:=.map (some w.heap.size)) (φ:=λx=>x=w.heap.size) (ob:=.opq (uH enc [])) (Kept.below ((Below.refl _ _).alloc (Nat.le_refl _) _)) (λ_ h=>h.elim) (λ_ _ _ _ _ h=>h) (λ_ _ _ h=>h) (by
   show (uH enc []).Q _ _ _ _;rw [su,fB,qH];exact ⟨rfl,rfl,#[],0,(MapKept.heap_alloc w _).1,rfl⟩) trivial (λx hx=>by
   subst hx;exact ⟨.inl ok.bel.size,by simp,λk o h1 h2=>by have:=(ok.my k o _ h1 h2).2;omega,λp u h1 h2=>by have:=aQ (ok.fw p u h1);omega⟩);subst hq;refine lN ?_;simp only [ho,Instr.makeMap,NV,Sem.run_bind,Sem.run_pure,run_newObj,Result.andThen_ok];show N (a.put o.dst _) _;rw [hds];exact hN _ _ _ (ok'.set (d:=some d) (av:=.sl σ.nk) (tY rfl) (.sl _ (vw _)) λx hx=>by simp_all)
theorem WL.mkm {T:TypeId} {t:List (Nat×AV)} {M:List (Nat×AO)} {nk:Nat} {α:Type} (enc:α->Value) (hd:ji C.N o=some d) (ho:o.op=.makeMap T none) (k:WL P C ops rest ⟨(d,.sl nk)::t,(nk,.opq (uH enc []))::M,nk+1⟩ Q):WL P C ops (o::rest) ⟨t,M,nk⟩ Q :=WL.op (gK hd).1 (WO.mkm enc hd ho rfl) k
theorem Tm {α:Type} {enc:α->Value} {l:List (α×Value)} (ok:Ok C σ G a w) {q:Nat} {x:Operand} (hx:σ.ev x=some (.sl q)) (hq:look q σ.M=some (.opq (uH enc l))) :a.eval x=.map (some (G.b q))/\G.fp q (G.b q)/\aqQ enc l w (G.b q):=by
 obtain ⟨h1,h2,h3⟩:(uH enc l).Q w (G.b q) (G.h q) (G.fp q):=(ok.ob q _ hq).2.2;exact ⟨(ok.l9 hx).2.lH.1.trans h1,h2,h3⟩
theorem WV.mlk {α:Type} [DecidableEq α] {enc:α->Value} {T kt et:TypeId} {l:List (α×Value)} {q:Nat} {x y:Operand} {av:AV} {k:α} {z:Value} (K:anV P kt enc)(ho:o.op=.lookup T x y false)(hT:P.underlying T=some (.map kt et))(hz:(P.info? et).bind (·.zero)=some z)(hx:σ.ev x=some (.sl q))(hq:look q σ.M=some (.opq (uH enc l)))(hy:σ.ev y=some av)(hk:∀ G v,R G av v->v=enc k):WV P C o σ (.sc (ait z k l)) :=WV.sc λG a w ok=>by
  obtain⟨e1,e2,es,clock,e3,e4⟩:=Tm ok hx hq;have e5:=hk G _ (ok.l9 hy).2;have e6:=K.fnd w k es.toList l e4;unfold execOp;simp only [ho,e1,e5,Instr.lookup,Sem.run_bind,run_underlying hT,Result.andThen_ok,Sem.run_pure,MapKept.run_getObj_map e3,K.chk,e6];unfold ait;cases hl:zN k 0 l with
  | none =>cases hi:P.info? et<;>simp_all[zeroValue,typeInfo]| some r=>simp
theorem WO.mup {α:Type} [DecidableEq α] {enc:α->Value} {T kt et:TypeId} {l:List (α×Value)} {q:Nat} {x y z:Operand} {av:AV} {k:α} {u:Value} (K:anV P kt enc) (hds:o.dst=none) (ho:o.op=.mapUpdate T x y z) (hT:P.underlying T=some (.map kt et))(hx:σ.ev x=some (.sl q)) (hq:look q σ.M=some (.opq (uH enc l))) (hy:σ.ev y=some av) (hk:∀ G v,R G av v->v=enc k) (hu:σ.ev z=some (.sc u)):WO P C o σ (σ.upd q (.opq (uH enc (Ns k u l)))):=by
 intro G a w ok N Q' hN;obtain ⟨e1,e2,es,clock,e3,e4⟩:=Tm ok hx hq;have e5:=hk G _ (ok.l9 hy).2;have e6:=K.fnd w k es.toList l e4;have hlt:G.b q < w.heap.size:=(Array.getElem?_eq_some_iff.1 e3).1;have fin:∀ (es':Array MapEntry) (c':Nat),es'.toList.map (λe=>(e.key,e.val))=(Ns k u l).map (λx=>(enc x.1,x.2))->Ok C (σ.upd q (.opq (uH enc (Ns k u l)))) G a { w with heap:=w.heap.setIfInBounds (G.b q) (.map es' c') }:=λes' c' h =>ok.Uj hq e2 ⟨rfl,rfl,rfl,by simp,λx _ hx=>sO (λe=>hx e.symm)⟩ ⟨(ok.ob q _ hq).2.2.1,e2,es',c',(MapKept.heap_set e3).1,h⟩ trivial;refine lN ?_;simp only [ho,e1,e5,ok.evs hu,Instr.mapUpdate,Sem.run_bind,run_underlying hT,Result.andThen_ok,Sem.run_pure,MapKept.run_getObj_map e3,K.chk,e6];cases hl:zN k 0 l with
 | none =>
  simp only [MapKept.run_setObj_map _ e3,Result.andThen_ok,Sem.run_bind,Sem.run_pure,Oper.upon];rw [hds];refine hN G a _ (fin _ _ ?_);grind[Yn]| some r =>
  obtain ⟨i,v0⟩:=r;obtain ⟨f1,f2⟩:=Yo enc k u l es.toList i v0 hl e4;have f3:(es[i]?).map (·.key)=some (enc k):=by rw [← Array.getElem?_toList];exact f2
  simp only [f3,QZ,Instr.keyThatStays,K.bits,if_true,Sem.run_pure,Result.andThen_ok,Sem.run_bind,MapKept.run_setObj_map _ e3,Oper.upon];rw [hds];refine hN G a _ (fin _ _ ?_);simp_all
theorem WL.mup {α:Type} [DecidableEq α] {enc:α->Value} {T kt et:TypeId} {l l':List (α×Value)} {q:Nat} {x y z:Operand} {av:AV} {k:α} {u:Value} {t:List (Nat×AV)} {M M':List (Nat×AO)} {nk:Nat} (K:anV P kt enc) (hg:o.guard=none) (hds:o.dst=none) (ho:o.op=.mapUpdate T x y z) (hT:P.underlying T=some (.map kt et))(hx:(⟨t,M,nk⟩:St).ev x=some (.sl q)) (hq:look q M=some (.opq (uH enc l))) (hy:(⟨t,M,nk⟩:St).ev y=some av) (hk:∀ G v,R G av v->v=enc k) (hu:(⟨t,M,nk⟩:St).ev z=some (.sc u)) (hM:zu q M=some M') (hl:Ns k u l=l')(r:WL P C ops rest ⟨t,(q,.opq (uH enc l'))::M',nk⟩ Q):WL P C ops (o::rest) ⟨t,M,nk⟩ Q:=by
 subst hl;rw [jE hM] at r;exact WL.op hg (yT (WO.mup (σ:=⟨t,M,nk⟩) K hds ho hT hx hq hy hk hu)) r
theorem WO.mcl {α:Type} {enc:α->Value} {T kt et:TypeId} {l:List (α×Value)} {q:Nat} {x:Operand} (ho:o.op=.call { callee:=.builtin .clear,args:=#[x],argTypes:=#[T] }) (hT:P.underlying T=some (.map kt et))(hx:σ.ev x=some (.sl q)) (hq:look q σ.M=some (.opq (uH enc l))) (hd:Il C.N o.dst=true):WO P C o σ ((σ.upd q (.opq (uH enc []))).set o.dst (.tu [])):=by
 intro G a w ok N Q' hN;obtain ⟨e1,e2,es,clock,e3,e4⟩:=Tm ok hx hq;have hlt:G.b q<w.heap.size:=(Array.getElem?_eq_some_iff.1 e3).1;have ok':Ok C (σ.upd q (.opq (uH enc []))) G a { w with heap:=w.heap.setIfInBounds (G.b q) (.map #[] clock) } :=ok.Uj hq e2 ⟨rfl,rfl,rfl,by simp,λx _ hx=>sO (λe=>hx e.symm)⟩ ⟨(ok.ob q _ hq).2.2.1,e2,#[],clock,(MapKept.heap_set e3).1,rfl⟩ trivial;refine lN ?_;have hargs:(#[x]:Array Operand).map a.eval=#[.map (some (G.b q))]:=by simp [e1]
 simp only [ho,resolve,invoke,builtin,Sem.run_bind,Sem.run_pure,Result.andThen_ok,hargs];have hcl:(Builtin.clear_ #[T] o.type #[.map (some (G.b q))]).run P w=.ok (.tuple #[]) { w with heap:=w.heap.setIfInBounds (G.b q) (.map #[] clock) }:=by simp [Builtin.clear_,run_underlying hT,MapKept.run_getObj_map e3,MapKept.run_setObj_map _ e3]
 simp only [hcl,Result.andThen_ok,Sem.run_bind,Sem.run_pure,Oper.upon];exact hN G _ _ (ok'.set (av:=.tu []) (.tu _ _ rfl λi av u h=>by simp at h) (.tu _ λi x h=>by simp at h) (zB hd))
theorem WL.mcl {α:Type} {enc:α->Value} {T kt et:TypeId} {l:List (α×Value)} {q:Nat} {x:Operand} {t:List (Nat×AV)} {M M':List (Nat×AO)} {nk:Nat} (hg:o.guard=none) (ho:o.op=.call { callee:=.builtin .clear,args:=#[x],argTypes:=#[T] }) (hT:P.underlying T=some (.map kt et))(hx:(⟨t,M,nk⟩:St).ev x=some (.sl q)) (hq:look q M=some (.opq (uH enc l))) (hd:Il C.N o.dst=true) (hM:zu q M=some M') (r:WL P C ops rest ((⟨t,(q,.opq (uH enc []))::M',nk⟩:St).set o.dst (.tu [])) Q):WL P C ops (o::rest) ⟨t,M,nk⟩ Q:=by
 rw [jE hM] at r;refine WL.op hg ?_ r;intro G a w ok N Q' hN;refine WO.mcl (σ:=⟨t,M,nk⟩) (enc:=enc) ho hT hx hq hd G a w ok N Q' λG' a' w' ok'=>hN G' a' w' ?_;have hl:∀ i,look i ((q,AO.opq (uH enc []))::rem q M)=look i ((q,AO.opq (uH enc []))::M):=λi=>by grind[aB,ah,mV]
 cases hdst:o.dst with
 | none =>
  rw [hdst] at ok';exact anz| some d =>
  rw [hdst] at ok';exact anz
end
section
variable {P:Program} {C:Cx} {σ:St} {o:Oper} {d:Tmp} {ops:Array Oper} {rest:List Oper} {Q:Exit→St→Prop} {mem:List Bool} {Mc:List (Nat×AO)} {dB k:Nat}
theorem W.ay9 {id:Nat} {L:List Oper} (k0:Nat)(mem:List Bool)(ms:List Nat)(hm:P.follows .mixedOrders=true)(hB:Region.lexB .any L.toArray=true)(hT:adI L.toArray k0=true)(hB2:Region.lexB .any (L.take k0).toArray=true)(hch:chainB (L.take k0).toArray mem=true)(SG:bD (nY σ.M ms) σ.M)(h:nD P C (L.take k0).toArray mem (nY σ.M ms) σ.nk 0 (L.take k0) σ (λe s=>e=.normal/\WL P C L.toArray (L.drop k0) s Q)):W P C (.region id L.toArray true) σ Q :=W.xw k0 hm hB hT (let⟨_,a,b⟩:=h;WA.drawM mem (nY σ.M ms) hB2 hch SG a b)
theorem nD.al {T:TypeId} {z:Value} {l:List AV} (hd:wrB mem C.N k o=some d) (ho:o.op=.alloc T) (hz:(P.info? T).bind (·.zero)=some z) (hl:z.cells.toList.map .sc=l) (hs:bD Mc ((σ.nk,.box T l)::σ.M))(r:nD P C ops mem Mc dB (k+1) rest ⟨(d,.pt σ.nk 0 0)::σ.t,(σ.nk,.box T l)::σ.M,σ.nk+1⟩ Q):nD P C ops mem Mc dB k (o::rest) σ Q:=by
 obtain ⟨a,b,c,e⟩:=yU hd;exact nD.wr a b (pY (xZ _)) hs ⟨c,λt _=>WO.alloc (σ:=⟨t,σ.M,σ.nk⟩) ho hz b e hl rfl⟩ r
theorem Tr.afe {t:Tmp} (n:Nat) (h:look t σ.t=some (.sc (.slice none 0 0))):Tr C σ (σ.put t (.ls n [])):=λG a w ok =>⟨G,ok.aaN h (.ls _ _) λv hv=>by rw [hv.fM];exact .pu _ _ (.ls n [] none 0 ⟨0,0,none⟩ (λ_ _=>undef) (by simp) (by simp) (by simp) (by simp) (by simp))⟩
def jJ:World->View->Prop:=λ_ _=>True
theorem mG:RN jJ 0:=⟨λ_ _ _=>iT _,λ_ _ _ _ _ _ _=>trivial⟩
theorem dD(C:Cx):Holds jJ 0 C:=⟨λ_ _ _ _=>trivial,λ_ _=>iT _⟩
end
section
variable {P:Program} {C:Cx} {σ σ':St} {G G':Gh} {a:Act} {w w':World} {o:Oper} {d:Tmp} {ops:Array Oper} {rest:List Oper} {Q:Exit→St→Prop}
theorem yD {α:Type} {n:Nat}:∀ (l:List (List α))(j:Nat),(∀ r∈l,r.length=n)->(l.take j).flatten=l.flatten.take (j*n)
 | [],j,_=>by simp| x::r,0,_=>by simp| x::r,j+1,h=>by
  have hx:=h x (by simp);have e1:x.take (j*n+n)=x:=ou au;rw [List.take_succ_cons,NR,NR,yD r j λy hy=>h y CY,Rf,List.take_append,hx,e1,Nat.add_sub_cancel]
theorem cO.pre {T n:Nat} {rows:List (List AV)} {A:Option Addr} {len cap:Nat} {φ:Nat->Prop} {X:Nat->Nat->(Nat->Prop)->AV->Value->Prop} (h:cO w T n rows (.slice A len cap) φ X) {j:Nat} (hj:j<=rows.length):cO w T n (rows.take j) (.slice A j cap) φ X:=by
 obtain ⟨hrl,vs,Φ,h4,h5,h7,hgf,OT,KN,h8,h6⟩:=h;have hvl:∀ r∈vs,r.length=n:=by
  intro r' hr';exact anD
 have tk:∀ {α:Type} {l:List α} {i:Nat} {x:α},(l.take j)[i]?=some x->l[i]?=some x:=λ{α l i x} h=>by grind
 have eo:(Value.slice A j cap).ownBlock=(Value.slice A len cap).ownBlock:=by cases A<;>rfl
 refine ⟨λr hr=>hrl r (NM hr),vs.take j,Φ,⟨?_,?_⟩,by simp [h5],λr hr=>h7 r (NM hr),by rw [eo];exact hgf,by rw [eo];exact OT,KN,λi r r' a b=>h8 i r r' (tk a) (tk b),λi r r' s av u a b=>h6 i r r' s av u (tk a) (tk b)⟩;.grind[nS]
 .have hl:(vs.take j).length=j:=by simp;omega
  rw [hl,yD vs j hvl];rcases h4.2 with⟨e1,e2⟩|⟨g,cap',cur,e1,hb,hh,hnc,hcm,hcs,ht⟩;all_goals grind[Ur]
theorem Tr.mv {t:Tmp} {q:Nat} {T':TypeId} {n:Nat} {rows:List (List AV)} (ht:look t σ.t=some (.sl q)) (hk:look q σ.M=some (.row T' n rows)):Tr C σ (((σ.drop q).new (.row T' n rows)).put t (.sl σ.nk)):=λG a w ok=>by
 obtain ⟨hn',hg,hR⟩:=(ok.ob q _ hk).2.2;have ok':=(ok.Kt q).newObj (S:=λ_=>False) (w':=w) (b:=G.b q) (n:=n) (h:=G.h q) (φ:=G.fp q) (ob:=.row T' n rows) (Kept.refl _ w) (λ_ h=>h.elim) (λ_ _ _ _ _ h=>h) (λ_ _ _ h=>h) ⟨uZ,(λg hgg=>by simp_all[fB,su]),by rw [fB,qH];exact hR⟩ trivial (λx hx=>⟨(ok.my q _ x hk hx).1,(ok.my q _ x hk hx).2,λi oi hi h2=>(iq hi).1 (ok.dj i oi q _ x (iq hi).2 hk h2 hx),λp u=>ok.dF q _ x p u hk hx⟩);refine ⟨_,ok'.aaN (av:=.sl q) ht (.sl _ (vw _)) λv hv=>?_⟩;have hlt:q<σ.nk:=(ok.ob q _ hk).1;have hv2:v=G.h q:=hv.lH.1.trans (if_neg (show ¬ q=σ.nk by omega));have h3:v.oneCell'=true:=hv.lH.2;rw [hv2] at h3 ⊢;exact tY h3
def opT:Op->Option TypeId
 | .slice T _ _ _ _=>some T| _=>none
def auN (P:Program)(σ:St):Op->Option (Nat×TypeId×Nat×List (List AV)×Int)
 | .slice T x none (some y) none =>match P.underlying T,σ.ev x,σ.ev y with
  | some (.slice e),some (.sl k),some (.sc (.int _ j)) =>match fZ P e,look k σ.M with
   | some m,some (.row T' n rows)=>bif Nat.beq m n then some (k,T',n,rows,j) else none| _,_=>none
  | _,_,_=>none
 | _=>none
theorem WO.pre {q:Nat} {T':TypeId} {n:Nat} {rows:List (List AV)} {j:Int} (hd:ji C.N o=some d) (h:auN P σ o.op=some (q,T',n,rows,j)) (hj:0<=j/\j<=rows.length):WO P C o σ (((σ.drop q).new (.row T' n (rows.take j.toNat))).put d (.sl σ.nk)):=by
 intro G a w ok N Q' hN;obtain ⟨_,hds,hdb⟩:=gK hd;unfold auN at h;split at h
 ·rename_i T x y ho;split at h
  ·rename_i e k kj j' hT hx hy;split at h
   ·rename_i m T2 n' rows' hm hk;cases hb:Nat.beq m n' with
    | false=>rw [hb] at h;cases h| true =>
     rw [hb] at h;cases h;obtain rfl:=dG hb;obtain ⟨hn',hg,hR⟩:=(ok.ob q _ hk).2.2;obtain ⟨A,c,hv⟩:=hR.len;have ex:a.eval x=.slice A rows.length c:=(ok.l9 hx).2.lH.1.trans hv;have hcap:rows.length<=c:=by
      obtain ⟨_,vs,Φ,h4,h5,_⟩:=hR;rcases h4.2 with ⟨e1,e2⟩|⟨g,cap,cur,e1,_,_,hnc,_⟩;·omega
      ·rw [hv] at e1;injection e1 with a1 a2 a3;omega
     rw [hv] at hg hR;have hR':=hR.pre (j:=j.toNat) au;have hrun:=DV (P:=P) hT hm A rows.length c none (some (a.eval y)) 0 j w (.inr ⟨rfl,rfl⟩) (.inl ⟨kj,by rw [ok.evs hy]⟩) ⟨wz 0,hj.1,hj.2⟩ hcap;have hA:(if c=(0:Int).toNat then A else A.map (·.add ((0:Int).toNat*m)))=A:=by
      simp only [Int.toNat_zero,AP,add_zero'];split;·rfl
      ·cases A<;>rfl
     rw [hA] at hrun;simp only [Int.toNat_zero,CP] at hrun;have ok':=(ok.Kt q).newObj (S:=λ_=>False) (w':=w) (b:=G.b q) (n:=m) (h:=.slice A j.toNat c) (φ:=G.fp q) (ob:=.row T' m (rows.take j.toNat)) (Kept.refl _ w) (λ_ h=>h.elim) (λ_ _ _ _ _ h=>h) (λ_ _ _ h=>h) ⟨uZ,(λg hgg=>by
       rw [fB] at hgg;rw [su];refine hg g ?_;rw [show (Value.slice A rows.length c).ownBlock=(Value.slice A j.toNat c).ownBlock by cases A<;>rfl,hgg]),by rw [fB,qH];exact hR'⟩ trivial (λx hx=>⟨(ok.my q _ x hk hx).1,(ok.my q _ x hk hx).2,λi oi hi h2=>(iq hi).1 (ok.dj i oi q _ x (iq hi).2 hk h2 hx),λp u=>ok.dF q _ x p u hk hx⟩);refine lN ?_;have hsa:(Instr.sliceAt T (.slice A rows.length c) none (some (a.eval y)) none).run P w=.ok (.slice A j.toNat c) w:=by exact al8
     simp only [ho,ex,NV,oG,Sem.run_bind,hsa,Sem.run_pure,Result.andThen_ok,Oper.upon];exact anE
   ·cases h
  ·cases h
 ·cases h
theorem WL.pre {q:Nat} {T':TypeId} {n:Nat} {rows:List (List AV)} {j:Int} {t:List (Nat×AV)} {M M':List (Nat×AO)} {nk:Nat} (hd:ji C.N o=some d) (h:auN P ⟨t,M,nk⟩ o.op=some (q,T',n,rows,j)) (hM:zu q M=some M') (hj:0<=j/\j<=rows.length)(k:WL P C ops rest ⟨(d,.sl nk)::t,(nk,.row T' n (rows.take j.toNat))::M',nk+1⟩ Q):WL P C ops (o::rest) ⟨t,M,nk⟩ Q:=by
 rw [jE hM] at k;exact WL.op (gK hd).1 (WO.pre hd h hj) k
theorem Ok.axQ (h:Ok C σ G a w) {d:Tmp} (hd:look d σ.t=none)(v:Value):Ok C σ G (a.put (some d) v) w:=by
 refine⟨?_,h.df,?_,h.bel,h.fw,h.f0,h.f1,h.ob,h.my,h.dj,h.dF⟩;.exact alV
 .intro i x hx;show i<C.N/\Bd σ.nk x/\R G x ((a.tmps.setIfInBounds d v).getD i undef);have hne:d≠i:=λe=>by simp_all
  have e:(a.tmps.setIfInBounds d v).getD i undef=a.tmps.getD i undef:=by simp_all
  rw [e];exact h.tm i x hx
theorem Ph(z:Value)(n:Nat):(Builtin.zeroCells #[z] n).toList=List.replicate n z:=by
 apply List.ext_getElem?;grind[Builtin.zeroCells]
theorem cO.clr {T:Nat} {rows:List (List AV)} {F:View} {g cap:Nat} {φ:Nat->Prop} {z:Value} (hz:z.oneCell'=true) (h:cO w T 1 rows (.slice (some ⟨g,0,none⟩) rows.length cap) φ (XP F)) {i:Nat} (hi:i<rows.length) :∃ cur,w.heap[g]?=some (.cells cur T (0,0))/\rows.length<=cur.size/\φ g /\cO (w.setRow g (cur.toList.take i++List.replicate (rows.length-i) z++cur.toList.drop (i+(rows.length-i))).toArray) T 1 (rows.take i++List.replicate (rows.length-i) [.sc z]) (.slice (some ⟨g,0,none⟩) rows.length cap) φ (XP F):=by
 obtain ⟨hrl,vs,Φ,h4,h5,h7,hgf,OT,KN,h8,h6⟩:=h;have hvl:∀ r∈vs,r.length=1:=by
  intro r' hr';exact anD
 rcases h4.2 with⟨e1,e2⟩|⟨g',cap',cur,e1,hb,hh,hnc,hcm,hcs,ht⟩;.cases e1
 .injection e1 with a1 a2 a3;injection a1 with a1;injection a1 with a1;subst a1 a3;rw [NQ] at hcs ht;refine ⟨cur,hh,by omega,hgf g rfl,?_⟩;have hfl:(vs.take i++List.replicate (rows.length-i) [z]).flatten=cur.toList.take i++List.replicate (rows.length-i) z:=by
   rw [List.flatten_append,yD vs i hvl,NQ,← ht,List.take_take,show min i vs.length=i by omega];congr 1;have:∀ n:Nat,(List.replicate n [z]).flatten=List.replicate n z:=λn=>by induction n with
    | zero=>rfl| succ n ih=>rw [Um,NR,ih,Um];rfl
   exact this _
  have hlen:(vs.take i++List.replicate (rows.length-i) [z]).length=rows.length:=by simp;omega
  have hlr:(rows.take i++List.replicate (rows.length-i) [AV.sc z]).length=rows.length:=by simp;omega
  have part:∀ {α:Type} {l:List α} {m:Nat} {y x:α} {q:Nat},i<=l.length->(l.take i++List.replicate m y)[q]?=some x->(q<i/\l[q]?=some x)\/(i<=q/\x=y):=λ{α l m y x q} hl hq=>by
   by_cases e:q<i
   .rw [xY (by simp;omega),Uo e] at hq;exact .inl ⟨e,hq⟩
   .rw [wC (by simp;omega)] at hq;exact .inr ⟨by omega,vF (cZ hq)⟩
  refine ⟨λr hr=>?_,vs.take i++List.replicate (rows.length-i) [z],λq s x=>q<i/\Φ q s x,⟨?_,.inr ⟨g,cap,_,?_,hb,setRow_heap w _ _ _ _ _ hh,by omega,hcm,?_,?_⟩⟩,by rw [hlen,hlr],λr hr u hu=>?_,hgf,λq s x hx=>OT q s x hx.2,λq s q' s' x h1 h2=>KN q s q' s' x h1.2 h2.2,λq r r' a b=>?_,λq r r' s av u a b c e=>?_⟩
  .rcases List.mem_append.1 hr with hr|hr;.exact hrl r (NM hr)
   .rw [vF hr];rfl
  .rw [nS (size:=1) λr hr=>?_];rcases List.mem_append.1 hr with hr|hr;.exact hvl r (NM hr)
   .rw [vF hr];rfl
  .rw [hlen]
  .simp;omega
  .rw [hlen,NQ,hfl];have hl2:(cur.toList.take i++List.replicate (rows.length-i) z).length=rows.length:=by simp;omega
   simp only [];rw [List.take_append,hl2,ou (by omega),Nat.sub_self,List.take_zero,xX]
  .rcases List.mem_append.1 hr with hr|hr;.exact h7 r (NM hr) u hu
   .rw [vF hr,CO] at hu;subst hu;exact hz
  .rcases part au a with⟨a1,a2⟩|⟨a1,a2⟩
   .rcases part au b with⟨b1,b2⟩|⟨b1,b2⟩;.exact h8 q r r' a2 b2
    .omega
   .rcases part au b with⟨b1,b2⟩|⟨b1,b2⟩;.omega
    .subst a2 b2;rfl
  .rcases part au a with⟨a1,a2⟩|⟨a1,a2⟩
   .rcases part au b with⟨b1,b2⟩|⟨b1,b2⟩;.exact h6 q r r' s av u a2 b2 c e
    .omega
   .rcases part au b with⟨b1,b2⟩|⟨b1,b2⟩;.omega
    .subst a2 b2;cases s with
     | zero=>cases c;cases e;exact .sc _| succ s=>simp at c
def awt (P:Program)(σ:St):Op->Option (Nat×TypeId×List (List AV)×Int×Value)
 | .slice T x (some y) none none =>match P.underlying T,σ.ev x,σ.ev y with
  | some (.slice e),some (.sl k),some (.sc (.int _ j)) =>match fZ P e,look k σ.M,(P.info? e).bind (·.zero) with
   | some 1,some (.row T' 1 rows),some z=>bif z.oneCell' then some (k,T',rows,j,z) else none| _,_,_=>none
  | _,_,_=>none
 | _=>none
theorem QT {σ:St} {k:Nat} {ob:AO} (ok':Ok C (σ.upd k ob) G a w):Ok C ⟨σ.t,(k,ob)::rem k σ.M,σ.nk⟩ G a w:=by
 have hl:∀ i,look i ((k,ob)::rem k σ.M)=look i ((k,ob)::σ.M):=λi=>by grind[aB,ah,mV]
 exact anz
theorem WL.clr {o1 o2:Oper} {d:Tmp} {T:TypeId} {q:Nat} {T':TypeId} {rows:List (List AV)} {j:Int} {z:Value} {t:List (Nat×AV)} {M M':List (Nat×AO)} {nk:Nat} (hd:ji C.N o1=some d) (h:awt P ⟨t,M,nk⟩ o1.op=some (q,T',rows,j,z)) (ho1:opT o1.op=some T) (hl:look d t=none)(hg2:o2.guard=none) (hd2:o2.dst=none) (ho2:o2.op=.call { callee:=.builtin .clear,args:=#[.tmp d],argTypes:=#[T] }) (hM:zu q M=some M') (hj:0<=j/\j<=rows.length)(k:WL P C ops rest ⟨t,(q,.row T' 1 (rows.take j.toNat++List.replicate (rows.length - j.toNat) [.sc z]))::M',nk⟩ Q):WL P C ops (o1::o2::rest) ⟨t,M,nk⟩ Q:=by
 rw [jE hM] at k;obtain ⟨hg1,hds,hdb⟩:=gK hd;intro G a w ok;refine wpList_plain hg1 λK hK=>?_;unfold awt at h;split at h
 ·rename_i T0 x y ho;rw [ho] at ho1;obtain rfl:T0=T:=Option.some.inj ho1;split at h
  ·rename_i e k0 kj j' hT hx hy;split at h
   ·rename_i T2 rows' z' hm hk hz;cases hb:z'.oneCell' with
    | false=>rw [hb] at h;cases h| true =>
     rw [hb] at h;cases h;obtain ⟨hn',hg,hR⟩:=(ok.ob q _ hk).2.2;obtain ⟨A,c,hv⟩:=hR.len;have ex:a.eval x=.slice A rows.length c:=(ok.l9 hx).2.lH.1.trans hv;have hcap:rows.length<=c:=by
      obtain ⟨_,vs,Φ,h4,h5,_⟩:=hR;rcases h4.2 with ⟨e1,e2⟩|⟨g,cap,cur,e1,_,_,hnc,_⟩;all_goals grind
     have hrun:=DV (P:=P) hT hm A rows.length c (some (a.eval y)) none j rows.length w (.inl ⟨kj,by rw [ok.evs hy]⟩) (.inr ⟨rfl,rfl⟩) ⟨hj.1,hj.2,wz _⟩ hcap;rw [gy,NQ] at hrun;have hsa:(Instr.sliceAt T0 (.slice A rows.length c) (some (a.eval y)) none none).run P w=.ok (.slice (if c=j.toNat then A else A.map (·.add j.toNat)) (rows.length - j.toNat) (c - j.toNat)) w:=by exact al8
     refine lN ?_;simp only [ho,ex,NV,oG,Sem.run_bind,hsa,Sem.run_pure,Result.andThen_ok,Oper.upon];rw [hds];refine hK _ _ ?_;obtain ⟨v1,hv1⟩:∃ v1,(Value.slice (if c=j.toNat then A else A.map (·.add j.toNat)) (rows.length - j.toNat) (c - j.toNat))=v1:=⟨_,rfl⟩;rw [hv1];have ok1:=ok.axQ (d:=d) hl v1;have hev:(a.put (some d) v1).eval (.tmp d)=v1:=by
      show (a.tmps.setIfInBounds d v1).getD d undef=v1;have hlt:d < a.tmps.size:=by rw [ok.sz];exact dn hdb
      simp [dU,hlt]
     refine wpList_plain hg2 λK2 hK2=>?_;have fin:∀ (w2:World) G2,Ok C ⟨t,(q,.row T' 1 (rows.take j.toNat++List.replicate (rows.length - j.toNat) [.sc z]))::rem q M,nk⟩ G2 (a.put (some d) v1) w2->(Builtin.clear_ #[T0] o2.type #[v1]).run P w=.ok (.tuple #[]) w2->o2.wp P (a.put (some d) v1) w K2 (Post C Q):=λw2 G2 ok2 hr=>by
      refine lN ?_;have hargs:(#[Operand.tmp d]:Array Operand).map (a.put (some d) v1).eval=#[v1]:=by simp [hev]
      simp only [ho2,resolve,invoke,builtin,Sem.run_bind,Sem.run_pure,Result.andThen_ok,hargs,hr,Oper.upon];rw [hd2];exact hK2 _ _ (k G2 _ w2 ok2)
     by_cases hlt:j.toNat < rows.length
     ·obtain ⟨g,hgA⟩:∃ g,A=some ⟨g,0,none⟩:=by
       obtain ⟨_,vs,Φ,h4,h5,_⟩:=hR;rcases h4.2 with ⟨e1,e2⟩|⟨g,cap,cur,e1,_⟩;·omega
       ·rw [hv] at e1;injection e1 with a1 a2 a3;exact ⟨g,a1⟩
      subst hgA;rw [hv] at hR hg;obtain ⟨cur,hh,hcs,hφ,hR2⟩:=hR.clr hb hlt;have hgb:g=G.b q:=hg g rfl;rw [if_neg (by omega)] at hv1;have hadd:(Option.map (λx:Addr=>x.add j.toNat) (some ⟨g,0,none⟩))=some (⟨g,j.toNat,none⟩:Addr):=by simp only [oG,uw,oC]
      rw [hadd] at hv1;have hst:=run_storeCells_at P g j.toNat T' (List.replicate (rows.length - j.toNat) z) 0 cur w hh (by simp;omega) (λv hv=>by rw [vF hv];exact hb);rw [NU,Yt] at hst;have hzz:∃ i,P.info? e=some i/\i.zero=some z:=by cases hi:P.info? e with
       | none=>simp [hi] at hz| some i=>exact ⟨i,rfl,by simpa [hi] using hz⟩
      obtain ⟨i0,hi0,hz0⟩:=hzz;have hzc:z.cells=#[z]:=by cases z<;>first|rfl|cases hb
      obtain ⟨cs,hcs2⟩:∃ cs,(cur.toList.take j.toNat++List.replicate (rows.length - j.toNat) z++cur.toList.drop (j.toNat+(rows.length - j.toNat))).toArray=cs:=⟨_,rfl⟩;rw [hcs2] at hst hR2;refine fin (w.setRow g cs) G (QT (ok1.Uj (σ:=⟨t,M,nk⟩) (ob':=.row T' 1 (rows.take j.toNat++List.replicate (rows.length - j.toNat) [.sc z])) hk (by exact hφ) (Ir w g cs) ⟨hn',?_,?_⟩ trivial)) ?_;·rw [hv];exact hg
      ·rw [hv];exact hR2
      ·subst hv1;obtain ⟨m,hm0⟩:∃ m,rows.length - j.toNat=m+1:=⟨rows.length - j.toNat - 1,by omega⟩;rw [hm0] at hst ⊢;simp [Builtin.clear_,run_underlying hT,zeroValue,typeInfo,hi0,hz0,hzc,Ph,hst]
     ·have e0:rows.length - j.toNat=0:=by omega
      have et:rows.take j.toNat++List.replicate (rows.length - j.toNat) [AV.sc z]=rows:=by rw [e0,ou (by omega)];simp
      refine fin w G ?_ ?_
      ·rw [et];exact QT (σ:=⟨t,M,nk⟩) (k:=q) (ob:=.row T' 1 rows) (ok1.aaM hk ⟨(ok.ob q _ hk).1,trivial,hn',hg,hR⟩)
      ·rw [← hv1,e0];split<;>(cases A<;>simp [Builtin.clear_,run_underlying hT])
   ·cases h
  ·cases h
 ·cases h
end
section
variable {B:World→View→Prop} {gl:Nat} {P:Program} {C:Cx} {σ:St} {o:Oper} {d:Tmp} {ops:Array Oper} {rest:List Oper} {Q:Exit→St→Prop} {mem:List Bool} {Mc:List (Nat×AO)} {dB k:Nat}
theorem Yk {σ σ':St} (h:σ'.M=σ.M) {ρ:Nat->Nat} {nk:Nat}:∀ {M:List (Nat×AO)},Vl σ ρ nk M->Vl σ' ρ nk M
 | [],_=>trivial| x::r,⟨h1,h2⟩=>⟨by rw [h];exact h1,Yk h h2⟩
theorem nD.ct (hB:Holds B gl C) {f:FuncId} {args args':List AV} {res res':AV} {M M' M2:List (Nat×AO)} {nk bP n2:Nat} (ks:List Nat) (hd:wrB mem C.N k o=some d) (he:Vq σ o.op=some (f,args')) (hc:∀ vs w,(callFunc f vs).run P w=.ok (.enter f vs) w)(h:jr B gl P f args M nk res M' bP) (hks:ksB ks nk σ.nk=true) (ha:args.map (AV.ren (rhoC ks nk σ.nk))=args') (hp:args.all (AV.inn nk)=true) (hM:Vl σ (rhoC ks nk σ.nk) nk M)(hq:(Nat.ble nk bP && M'.all (λx=>x.2.inn bP) && M'.all (λx=>Nat.blt x.1 bP) && res.inn bP)=true) (hr:res.ren (rhoC ks nk σ.nk)=res') (hM2:DR (rhoC ks nk σ.nk) M'++Fb ks σ.M=M2) (hn2:σ.nk+(bP-nk)=n2) (hs:bD Mc M2)(r:nD P C ops mem Mc dB (k+1) rest ⟨(d,res')::σ.t,M2,n2⟩ Q):nD P C ops mem Mc dB k (o::rest) σ Q:=by
 subst hM2 hn2;obtain ⟨a,b,c,e⟩:=yU hd;simp only [gG] at hq;unfold Vq at he;split at he
 .rename_i y xs ts ho;split at he
  .rename_i fv qP hy hx;split at he
   .rename_i f' caps hf;cases he;refine nD.wr a b (pY (Ri _ _)) hs ⟨c,λt H=>?_⟩ r;have hmem:∀ q∈y::xs,q∈o.op.operands.toList:=λq hq=>by rw [ho];simp [Op.operands,Call.operands] at hq ⊢;exact hq
    exact aso
   .cases he
  .cases he
 .cases he
theorem W.dm3 {id:Nat} {l:List Oper} (mem:List Bool)(ms:List Nat)(hm:P.follows .mixedOrders=true)(hB:Region.lexB .any l.toArray=true)(hch:chainB l.toArray mem=true)(SG:bD (nY σ.M ms) σ.M)(h:nD P C l.toArray mem (nY σ.M ms) σ.nk 0 l σ Q):W P C (.region id l.toArray true) σ Q:=W.ahu mem (nY σ.M ms) hm hB hch SG h
theorem DK.bt {φ:Prop} [i:Decidable φ] (hc:V6 o.op=true)(h:stepD P C.N ops σ o=some (d,.sc (.bool (decide φ))))(hφ:φ)(k:DK P C ops rest (σ.put d (.sc (.bool true))) Q):DK P C ops (o::rest) σ Q:=by
 rw [bQ hφ] at h;exact DK.st h k
theorem DK.bf {φ:Prop} [i:Decidable φ] (hc:V6 o.op=true)(h:stepD P C.N ops σ o=some (d,.sc (.bool (decide φ))))(hφ:¬ φ)(k:DK P C ops rest (σ.put d (.sc (.bool false))) Q):DK P C ops (o::rest) σ Q:=by
 rw [bW hφ] at h;exact DK.st h k
end
def Ez (M:List (Nat×AO)):AV->AV
 | .sl k=>match look k M with
  | some (.row _ n rows)=>.ls n rows| _=>.sl k
 | av=>av
section
variable {B:World→View→Prop} {gl:Nat} {P:Program} {C:Cx} {ops:Array Oper} {rest:List Oper} {σ σ':St} {G G':Gh} {a:Act} {w w':World} {o:Oper} {d:Tmp} {Q:Exit→St→Prop}
theorem Tf (ok:Ok C σ G a w) {av:AV} {v:Value} (h:R G av v) (hp:(Ez σ.M av).pu2=true):RP (λq=>w.cell? q) (Ez σ.M av) v:=by
 have hF:G.F.le λq=>w.cell? q:=λp u x=>ok.fw p u x;have std:Ez σ.M av=av->RP (λq=>w.cell? q) (Ez σ.M av) v:=λe=>by
  rw [e] at hp ⊢;exact RP.mono hF ((qB hp 0).rp h)
 cases av with
 | sl k =>cases hk:look k σ.M with
  | none=>exact std (by simp only [Ez,hk])| some ob =>cases ob with
   | row T n rows =>
    have e:Ez σ.M (.sl k)=.ls n rows:=by simp only [Ez,hk]
    rw [e,h.lH.1];obtain ⟨_,_,hob⟩:=ok.ob k _ hk;have:=cO.fix (F':=λq=>w.cell? q) id hob.2.2 (λ_ _=>rfl) λi r j av u ψ _ _ _ x=>RP.mono hF x;exact lS| _=>exact std (by simp only [Ez,hk])
 | _=>exact std rfl
theorem Aw:∀ w F F',View.le F F'->jJ w F->jJ w F':=λ_ _ _ _ h=>h
def avg (P:Program) (σ:St):Op->Option (List UInt8×Int)
 | .index T x y =>match P.underlying T,σ.ev x,σ.ev y with
  | some .string,some (.sc (.string ⟨⟨s⟩⟩)),some (.sc (.int _ i))=>some (s,i)| _,_,_=>none
 | _=>none
theorem apY {T:TypeId} {s:List UInt8} {k:IntKind} {i:Int} (hT:P.underlying T=some .string) (h0:0<=i) (h1:i<s.length) :(Instr.index T (.string (bs s)) (.int k i)).run P w=.ok (.int .u8 ((s.getD i.toNat 0).toNat:Int)) w:=by
 have hl:i.toNat<s.length:=by omega
 have e:(bs s)[i.toNat]?=some (s.getD i.toNat 0):=by
  rw [dL,aO hl];have hs:i.toNat<(bs s).size:=by rw [dI];exact hl
  rw [getElem?_pos (bs s) i.toNat hs];rfl
 simp [Instr.index,asIntOf,run_underlying hT,h0,e]
theorem ap6 {s:List UInt8} {i:Int} (h:avg P σ o.op=some (s,i)) (hb:0<=i/\i<s.length):WV P C o σ (.sc (.int .u8 ((s.getD i.toNat 0).toNat:Int))):=by
 unfold avg at h;split at h
 .rename_i T x y ho;split at h
  .rename_i s' k i' hT hx hy;cases h;refine WV.sc λG a w ok=>?_;unfold execOp;simp only [ho,ok.evs hx,ok.evs hy,Sem.run_bind];have h6:(Instr.index T (.string ⟨⟨s⟩⟩) (.int k i)).run P w=.ok (.int .u8 ((s.getD i.toNat 0).toNat:Int)) w:=apY hT hb.1 hb.2;rw [h6];rfl
  .cases h
 .cases h
theorem WL.six {s:List UInt8} {i:Int} (hd:ji C.N o=some d)(h:avg P σ o.op=some (s,i))(hb:0<=i/\i<s.length)(k:WL P C ops rest (σ.put d (.sc (.int .u8 ((s.getD i.toNat 0).toNat:Int)))) Q):WL P C ops (o::rest) σ Q :=WL.vl hd (ap6 h hb) k
end
def onB:AV->Bool
 | .sc v=>v.oneCell'| .ls _ _=>true| _=>false
def y7 (M:List (Nat×AO)):AV->AV
 | .pt k 0 0=>match look k M with
  | some (.box _ cells)=>bif cells.all onB then .pr cells else .pt k 0 0| _=>.pt k 0 0
 | av=>Ez M av
def aip (M:List (Nat×AO)):AV->AV
 | .fn f l=>.fn f (l.map (y7 M))| av=>y7 M av
section
variable {B:World→View→Prop} {gl:Nat} {P:Program} {C:Cx} {ops:Array Oper} {rest:List Oper} {σ σ':St} {G G':Gh} {a:Act} {w w':World} {o:Oper} {d:Tmp} {Q:Exit→St→Prop}
theorem ai1 {av:AV} {u:Value} (h:onB av=true)(r:R G av u):u.oneCell'=true/\RP G.F av u/\av.own=false:=by cases av with
 | sc v =>
  obtain rfl:=r.fM;exact⟨h,.sc _,rfl⟩| ls n rows =>
  have h2:RP G.F (.ls n rows) u:=(qB (av:=.ls n rows) rfl 0).rp r;obtain⟨A,cap,ad,u',rfl,_⟩:=h2.Ce;exact⟨rfl,h2,rfl⟩| _=>cases h
theorem WE (ok:Ok C σ G a w) {av:AV} {v:Value} (h:R G av v) (hp:(y7 σ.M av).pu2=true):RP (λq=>w.cell? q) (y7 σ.M av) v:=by
 have hF:G.F.le λq=>w.cell? q:=λp u x=>ok.fw p u x;cases av with
 | pt k i j =>cases i with
  | succ i=>exact Tf ok h hp| zero =>cases j with
   | succ j=>exact Tf ok h hp| zero =>cases hk:look k σ.M with
    | none =>exact alM| some ob =>cases ob with
     | box T cells =>
      have e:y7 σ.M (.pt k 0 0)=bif cells.all onB then .pr cells else .pt k 0 0:=by simp only [y7,hk]
      rw [e] at hp ⊢;cases hc:cells.all onB with
      | false=>rw [hc] at hp;cases hp| true =>
       obtain ⟨p,rfl,h1,h2,h3⟩:=h.lu;have hcell:∀ (j:Nat) av,cells[j]?=some av->∃ u,w.cell? (p.add j)=some u/\u.oneCell'=true/\RP G.F av u:=λj av hj=>by
        have hb:=List.all_eq_true.1 hc av (cZ hj);have ho:av.own=false:=by cases av<;>first|rfl|cases hb
        obtain ⟨u,hu,hr,_⟩:=ok.cell (i:=0) (j:=0) (l:=cells) hk rfl hj h1 h2 h3 ho;obtain ⟨q1,q2,_⟩:=ai1 hb hr;exact ⟨u,hu,q1,q2⟩
       show RP _ (.pr cells) _;refine .pr cells p (λj=>(w.cell? (p.add j)).getD undef) (λj av hj=>?_) (λj av hj=>?_)
       .obtain ⟨u,hu,q1,q2⟩:=hcell j av hj;rw [hu];exact ⟨rfl,q1⟩
       exact ami
     | _ =>exact alM
 | _=>exact Tf ok h hp
theorem aiq (ok:Ok C σ G a w) {av:AV} {v:Value} (h:R G av v) (hp:(aip σ.M av).pu2=true):RP (λq=>w.cell? q) (aip σ.M av) v:=by cases av with
 | fn f l =>
  obtain ⟨cs,rfl,h1,h2⟩:=h.Cb;show RP _ (.fn f (l.map (y7 σ.M))) _;refine .fn f _ cs (by rw [h1,bK]) λi av u a b=>?_;rw [dw] at a;cases hi:l[i]? with
  | none=>simp [hi] at a| some av0 =>
   simp only [hi,oG,Option.some.injEq] at a;subst a;refine WE ok (h2 i av0 u hi b) ?_;have hall:(l.map (y7 σ.M)).all AV.ajp=true:=hp;have h3:(y7 σ.M av0).ajp=true:=List.all_eq_true.1 hall _ (cZ (by rw [dw,hi];rfl));generalize y7 σ.M av0=q at h3 ⊢;cases q<;>first|rfl|cases h3
 | _=>exact WE ok h hp
theorem WV.air (hB:Holds B gl C) {f:FuncId} {y:Operand} {fv:AV} {xs:Array Operand} {ts:Array TypeId} {qP caps args args':List AV} {res:Value} (ho:o.op=.call { callee:=.value y,args:=xs,argTypes:=ts }) (hc:∀ vs w,(callFunc f vs).run P w=.ok (.enter f vs) w)(hy:σ.ev y=some fv) (hf:aeI fv=some (f,caps)) (hx:σ.evs xs.toList=some qP) (Gt:qP++caps=args) (hl:args.map (aip σ.M)=args') (hp:args'.all AV.pu2=true) (hst:∀ w F F',View.le F F'->B w F->B w F') (h:jB B P f args' (.sc res)):WV P C o σ (.sc res):=by
 intro G a w ok N Q' hN;obtain ⟨cs,ey,h1,h2⟩:=JK hf (ok.l9 hy).2;obtain ⟨e1,e2⟩:=ok.aom hx h1 h2 Gt;subst hl;have hF:G.F.le λq=>w.cell? q:=λp u x=>ok.fw p u x;refine RZ ho hc ey (h w (λq=>w.cell? q) _ (hst w _ _ hF (hB.1 w G.F ok.bel ok.f0)) (λ_ _ x=>x) ⟨by rw [e1,bK],λi av u p q=>?_⟩) λe w1 ⟨v,F',he,hb,h1,h2,h3,h4⟩=>?_
 .rw [dw] at p;cases hi:args[i]? with
  | none=>simp [hi] at p| some av0 =>
   simp only [hi,oG,Option.some.injEq] at p;subst p;exact aiq ok (e2 i av0 u hi q) (List.all_eq_true.1 hp _ (cZ (by rw [dw,hi];rfl)))
 .have hv:=h4.fM;subst hv;exact ⟨_,he,hN _ { G with F:=G.F } w1 (λBX a'' DF=>DF.called hb (λ_ _ x=>x) (λp u x=>by rw [hb.cell (aQ (ok.fw p u x))];exact ok.fw p u x) (λ_ _ x=>.inl x)) (.pu _ _ (.sc _)) (RP.bd (F:=G.F) (.sc _) _)⟩
end
def plV:AV->Option Value
 | .sc v=>some v| .ag l =>match JW l with
  | some xs=>some (.agg xs.toArray)| none=>none
 | _=>none
def plL:List AV->Option (List Value)
 | []=>some []| x::r =>match plV x,plL r with
  | some v,some l=>some (v::l)| _,_=>none
theorem aaB {F:View} {av:AV} {u v:Value} (h:plV av=some v) (r:RP F av u):u=v:=by cases av with
 | sc x=>cases h;exact r.fM| ag l =>cases hs:JW l with
  | none=>simp [plV,hs] at h| some xs =>
   simp [plV,hs] at h;subst h;obtain ⟨cs,rfl,h1,h2⟩:=(R.pu (G:=⟨F,λ_=>0,λ_=>0,λ_=>undef,λ_ _=>False⟩) _ _ r).Ed;have e:cs.toList=xs:=DX (G:=⟨F,λ_=>0,λ_=>0,λ_=>undef,λ_ _=>False⟩) hs yh (λi av u p q=>h2 i av u p wF);subst e;simp
 | _=>cases h
theorem aaA {F:View}:∀ {l:List AV} {xs vs:List Value},plL l=some xs->vs.length=l.length->(∀ (i:Nat) av u,l[i]?=some av->vs[i]?=some u->RP F av u)->vs=xs
 | [],xs,vs,h,hl,_=>by cases h;exact sN hl| x::r,xs,[],h,hl,_=>by cases hl| x::r,xs,v::vs,h,hl,hq=>by
  unfold plL at h;split at h
  .rename_i u l h1 h2;cases h;rw [aaB h1 (hq 0 x v rfl rfl),aaA (F:=F) (vs:=vs) h2 (by simpa using hl) λi av u a b=>hq (i+1) av u (by simpa using a) (by simpa using b)]
  .cases h
theorem bC.kD {P:Program} {f:FuncId} {args:List AV} {xs:List Value} {res:AV} {v:Value} (hs:plL args=some xs)(hv:∀ F,RP F res v)(h:∀ w,Calls P f xs.toArray w (iZ v w)):bC P f args res:=by
 intro w F vs hF hR;have:=aaA hs hR.1 hR.2;exact asW
section
variable {P:Program} {C:Cx} {ops:Array Oper} {rest:List Oper} {σ:St} {o:Oper} {d:Tmp} {Q:Exit→St→Prop}
theorem DK.cs {φ:Prop} [i:Decidable φ] (hc:V6 o.op=true)(h:stepD P C.N ops σ o=some (d,.sc (.bool (decide φ))))(h1:φ->DK P C ops rest (σ.put d (.sc (.bool true))) Q)(h2:¬ φ->DK P C ops rest (σ.put d (.sc (.bool false))) Q):DK P C ops (o::rest) σ Q :=if hφ:φ then DK.bt hc h hφ (h1 hφ) else DK.bf hc h hφ (h2 hφ)
end
theorem O1 {w:World} {B e size n:Nat} {v:Value} {xs:List Value} (h:w.ownsRowF B e size v n xs):w.ownsRowF 0 e size v n xs:=by
 refine ⟨h.1,?_⟩;rcases h.2 with x|⟨g,cap,cur,fz,e,hb,r⟩;.exact .inl x
 .exact .inr ⟨g,cap,cur,fz,e,iT _,r⟩
theorem Vm {P:Program} (w:World) (t u ty e:TypeId) (i:TypeInfo) (ht:P.underlying t=some (.slice e)) (hu:P.underlying u=some .string) (hi:P.info? e=some i) (hz:i.zero=some (.int .u8 0)) (hs1:i.size=1) (hby:i.bytes=1)(v:Value) (n:Nat) (xs:List Value) (hown:w.ownsRowF 0 e 1 v n xs) (s:ByteArray) (hb:n+s.size<=1000000000) :∃ v' w',(Builtin.append_ #[t,u] ty #[v,.string s]).run P w=.ok v' w'/\w'.ownsRowF 0 e 1 v' (n+s.size) (xs++Lib.strCells s)/\w.grownBy w' v.ownBlock/\∀ g,v'.ownBlock=some g->v.ownBlock=some g\/w.heap.size<=g:=by
 rcases hown.2 with⟨rfl,rfl⟩|⟨g,cap,cur,fz,rfl,hbg,hg,hfz,hnc,hcm,hcs,htake⟩
 .obtain ⟨v',w',h1,h2,h3,_⟩:=Lib.run_append_own_stringF (P:=P) w w.heap.size t u ty e i ht hu hi hz hs1 hby (.slice none 0 0) 0 xs ⟨hown.1,.inl ⟨rfl,rfl⟩⟩ s Oh au (Nat.le_refl _);exact ⟨v',w',h1,O1 h2,h3,λg hg=>.inr (h2.lt g hg).1⟩
 .obtain ⟨v',w',h1,h2,h3,_⟩:=Lib.run_append_own_stringF (P:=P) w 0 t u ty e i ht hu hi hz hs1 hby _ n xs hown s Oh au (iT _);refine ⟨v',w',h1,h2,h3,λg' hg'=>?_⟩;have hxl:xs.length=n:=by simpa using hown.1
  have hcs1:cur.size=cap:=by simpa using hcs
  by_cases hroom:n+s.size<=cap
  .have hr:=Lib.run_append_room_stringF (P:=P) w t u ty e i ht hu hi hs1 g n cap cur fz hg (by simpa using hfz) s hroom (by omega);rw [hr] at h1;cases h1;exact .inl hg'
  .have hr:=Lib.run_append_grow_string (P:=P) w t u ty e i (.int .u8 0) ht hu hi hz ⟨g,0,none⟩ n cap xs (by rw [hs1];simpa using hxl) (hown.cells (g:=g) rfl) s (by omega) (by omega) (by rw [hby];exact growslice_fits (by omega) (by omega));rw [hr] at h1;cases h1;simp [Value.ownBlock] at hg';right;omega
theorem O8 {P:Program} {o:Oper} {a:Act} {w w':World} {x y:Operand} {T U:TypeId} {s:ByteArray} {v v':Value} {N:Act->World->Prop} {Q':Exit->Act->World->Prop} (ho:o.op=.call { callee:=.builtin .append,args:=#[x,y],argTypes:=#[T,U] })(ex:a.eval x=v)(ey:a.eval y=.string s)(hrun:(Builtin.append_ #[T,U] o.type #[v,.string s]).run P w=.ok v' w')(hN:N (a.put o.dst v') w'):o.wp P a w N Q':=by
 refine lN ?_;have hargs:(#[x,y]:Array Operand).map a.eval=#[v,.string s]:=by simp [ex,ey]
 simp only [ho,resolve,invoke,builtin,Sem.run_bind,Sem.run_pure,Result.andThen_ok,hargs,hrun,Oper.upon];exact hN
theorem Yc (s:List UInt8):Lib.strCells (bs s)=Lib.byteCells s:=by
 unfold Lib.strCells Lib.byteCells;rfl
theorem acp:(Tryz.prog.info? 103).map (·.size)=some 2:=by kernel_rfl
theorem an2:liesAt Tryz.prog Tryz.prog.depth 103 (2/Tryz.prog.cellsOf 103) 0 103 1=true:=by kernel_rfl
theorem ahi:(Tryz.prog.info? 5).map (λi=>(i.zero,i.size,i.bytes))=some (some (.int .u8 0),1,1):=by kernel_rfl
theorem Vp:Tryz.prog.cellsOf 5=1:=by kernel_rfl
theorem OL (b:Nat) (w:World) (h0:w.cell? ⟨b,0,none⟩=some (.pointer (some ⟨b,0,none⟩))) :Calls Tryz.prog 109 #[.pointer (some ⟨b,0,none⟩)] w λe w'=>e=.returned (.tuple #[])/\w'=w:=by
 obtain ⟨j,hj,_⟩:=Option.map_eq_some_iff.1 acp;go_enter Tryz.func109,Tryz.ntmps109;go_wp2;rw [Lib.run_neq_ptr_same w _ Tryz.underlying100 hj];go_wp2;go_end0;exact ⟨rfl,rfl⟩
theorem J8 (b:Nat) (w:World) (h0:w.cell? ⟨b,0,none⟩=some (.pointer none)) (hsh:w.shape? b=some (103,2)) (hfz:w.frozen? ⟨b,0,none⟩=false) :Calls Tryz.prog 109 #[.pointer (some ⟨b,0,none⟩)] w λe w'=>e=.returned (.tuple #[])/\w'=w.setCell ⟨b,0,none⟩ (.pointer (some ⟨b,0,none⟩)):=by
 obtain ⟨j,hj,hjs⟩:=Option.map_eq_some_iff.1 acp;go_enter Tryz.func109,Tryz.ntmps109;go_wp2;rw [Lib.run_to_unsafe w ⟨b,0,none⟩ Tryz.underlying100 Tryz.underlying263 hj (by rw [hjs];decide) hsh (Nat.zero_lt_succ 1)];simp only [Result.andThen];rw [Oper.upon_value];go_wp2;rw [run_callFunc_extern Tryz.func175 aK aK aK (e:=Extern.AbiNoEscape.same) aK];rw [Lib.run_noEscape];simp only [Result.andThen];rw [Oper.upon_value];go_wp2;rw [Lib.run_from_unsafe w ⟨b,0,none⟩ Tryz.underlying263 Tryz.underlying100 hj hsh an2];simp only [Result.andThen];rw [Oper.upon_value];go_wp2;go_end0;exact ⟨rfl,rfl⟩
theorem ahg (w:World) (b:Nat) (p v:Value) (hp:p=.pointer none\/p=.pointer (some ⟨b,0,none⟩)) (hbk:w.heap[b]?=some (.cells #[p,v] 103 (0,0))) :Calls Tryz.prog 109 #[.pointer (some ⟨b,0,none⟩)] w λe w'=>e=.returned (.tuple #[])/\w'.heap[b]?=some (.cells #[.pointer (some ⟨b,0,none⟩),v] 103 (0,0))/\Kept (λx=>x=b) w w'/\w'.heap.size=w.heap.size:=by
 have c0:w.cell? ⟨b,0,none⟩=some p:=by rw [Lib.cell_of_heap hbk];rfl
 rcases hp with rfl|rfl
 .refine (J8 b w c0 (by simp [World.shape?,hbk]) (Lib.frozen_of_heap hbk 0)).mono ?_;rintro e w' ⟨rfl,rfl⟩;refine ⟨rfl,heap_setCell_same w b 0 _ _ _ hbk,⟨rfl,rfl,rfl,by simp [World.setCell],λk hk hne=>heap_setCell_other w _ k _ hne⟩,by simp [World.setCell]⟩
 .refine (OL b w c0).mono ?_;rintro e w' ⟨rfl,rfl⟩;exact ⟨rfl,hbk,Kept.refl _ _,rfl⟩
theorem acr:asZ Tryz.prog 53 103 5:=by
 intro w b φ l s hφ h hl;obtain ⟨p,v,hp,hbk,hown,hfp⟩:=h;obtain ⟨i0,hi,hz0,hz1,hz2⟩:=info_parts (P:=Tryz.prog) ahi;have hblt:b < w.heap.size:=(Array.getElem?_eq_some_iff.1 hbk).1;go_enter Tryz.func53,Tryz.ntmps53;go_wp2_with (go_at_call 109;refine (ahg w b p v hp hbk).mono ?_);rintro e w1 ⟨rfl,hb1,hk1,hs1⟩;have hown1:w1.ownsRowF 0 5 1 v l.length (Lib.byteCells l):=wQ hown λg hg=>hk1.block g (hown.lt g hg).2 (λe=>(hfp g hg).2 e);have c0:w1.cell? ⟨b,0,none⟩=some (.pointer (some ⟨b,0,none⟩)):=by rw [Lib.cell_of_heap hb1];rfl
 have c1:w1.cell? ⟨b,1,none⟩=some v:=by rw [Lib.cell_of_heap hb1];rfl
 obtain ⟨v',w2,hrun,hown',hgrow,hnew⟩:=Vm (P:=Tryz.prog) w1 101 9 101 5 i0 Tryz.underlying101 Tryz.underlying9 hi hz0 hz1 hz2 v l.length _ hown1 (bs s) Rt;obtain ⟨ao,n',cap,rfl⟩:∃ ao n' cap,v'=.slice ao n' cap:=by
  rcases hown'.2 with ⟨hv,_⟩|⟨g,cap,cur,fz,hv,_⟩;.exact ⟨_,_,_,hv⟩
  .exact ⟨_,_,_,hv⟩
 have hb2:w2.heap[b]?=some (.cells #[.pointer (some ⟨b,0,none⟩),v] 103 (0,0)):=by
  rw [hgrow.block b (by omega) (λe=>(hfp b e.symm).2 rfl)];exact hb1
 have d0:w2.cell? ⟨b,0,none⟩=some (.pointer (some ⟨b,0,none⟩)):=by rw [Lib.cell_of_heap hb2];rfl
 have d1:w2.cell? ⟨b,1,none⟩=some v:=by rw [Lib.cell_of_heap hb2];rfl
 have f1:w2.frozen? ⟨b,1,none⟩=false:=Lib.frozen_of_heap hb2 1;have hsz:w.heap.size<=w2.heap.size:=by have:=hgrow.size;omega
 have hvb:∀ g,(Value.slice ao n' cap).ownBlock=some g->φ g\/(w.heap.size<=g/\g < w2.heap.size):=λg hg=>by
  rcases hnew g hg with h|h;.exact .inl (hfp g h).1
  .exact .inr ⟨by omega,(hown'.lt g hg).2⟩
 have axi:∀ g,(Value.slice ao n' cap).ownBlock=some g->g≠b:=λg hg e=>by
  rcases hnew g hg with h|h;.exact (hfp g h).2 e
  .omega
 go_wp2_with (at_builtin;refine wpList_plain rfl λK hK=>O8 rfl rfl rfl hrun (hK _ _ ?_));go_ret2;refine ⟨by rw [dI];rfl,⟨?_,?_,?_,by simp [World.setCell];exact hsz,λk hk hn=>?_⟩,.pointer (some ⟨b,0,none⟩),.slice ao n' cap,.inr rfl,?_,?_,λg hg=>⟨?_,axi g hg⟩⟩;.exact hgrow.os.trans hk1.os
 .exact hgrow.tape.trans hk1.tape
 .exact hgrow.output.trans hk1.output
 .have hkb:k≠b:=λe=>hn (e ▸ hφ);simp only [World.setCell,aby];rw [if_neg (λh=>hkb h.symm),hgrow.block k (by omega) (λe=>hn (hfp k e.symm).1)];exact hk1.block k hk hkb
 .exact heap_setCell_same w2 b 1 _ _ _ hb2
 .have:=wQ (w':=w2.setCell ⟨b,1,none⟩ (.slice ao n' cap)) hown' λg hg=>by
   simp only [World.setCell,aby];rw [if_neg (λh=>axi g hg h.symm)]
  rw [dI] at this;simpa [Yc,Lib.byteCells,dS] using this
 .rcases hvb g hg with h|h;.exact .inl h
  .exact .inr ⟨h.1,by simpa [World.setCell] using h.2⟩
theorem RX:asY Tryz.prog 55 103 5:=by
 intro w b φ l hφ h h0;obtain ⟨p,v,hp,hbk,hown,hfp⟩:=h;have hl0:l.length≠0:=by simpa using h0
 obtain ⟨g,cap,cur,fz,rfl,hbg,hg,hfz,hnc,hcm,hcs,htake⟩:∃ g cap cur fz,v=.slice (some ⟨g,0,none⟩) l.length cap/\0<=g/\w.heap[g]?=some (.cells cur 5 fz)/\fz.2<=l.length*1/\l.length<=cap/\cap<=maxLen/\cur.size=cap*1/\cur.toList.take (l.length*1)=Lib.byteCells l:=by
  rcases hown.2 with⟨_,hz⟩|⟨g,cap,cur,fz,hv,r⟩;.exact absurd hz hl0
  .exact ⟨g,cap,cur,fz,hv,r⟩
 have hgb:g≠b:=(hfp g rfl).2;have c1:w.drew.cell? ⟨b,1,none⟩=some (.slice (some ⟨g,0,none⟩) l.length cap):=by
  have:w.drew.heap[b]?=some (.cells #[p,.slice (some ⟨g,0,none⟩) l.length cap] 103 (0,0)):=hbk;rw [Lib.cell_of_heap this];rfl
 have hUS:(Builtin.unsafeString_ #[191,3] 9 #[.pointer (some ⟨g,0,none⟩),.int .i64 l.length]).run Tryz.prog w.drew=.ok (.string ⟨l.toArray⟩) (w.drew.freeze ⟨g,0,none⟩ l.length):=by
  have hg':w.drew.heap[g]?=some (.cells cur 5 fz):=hg;refine Lib.run_unsafeString_row w.drew 191 3 9 5 Tryz.underlying191 Vp g cur.size (by simp [World.shape?,hg']) l h0 (by omega) (by unfold maxLen at hcm;omega) ?_;intro j x hx;exact hown.cells (g:=g) rfl j (.int .u8 x.toNat) (by simp [Lib.byteCells,hx])
 have hSD:(Builtin.unsafeSliceData_ #[101] 191 #[.slice (some ⟨g,0,none⟩) l.length cap]).run Tryz.prog w.drew=.ok (.pointer (some ⟨g,0,none⟩)) w.drew :=Lib.run_unsafeSliceData_row _ _ _ _ _ _ au;have hother:∀ k,k≠g->(w.drew.freeze ⟨g,0,none⟩ l.length).heap[k]?=w.heap[k]?:=λk hk=>by
  unfold World.freeze;rw [if_neg hl0];simp only [aby];rw [if_neg (λh=>hk h.symm)];rfl
 have hsize:(w.drew.freeze ⟨g,0,none⟩ l.length).heap.size=w.heap.size:=by
  unfold World.freeze;rw [if_neg hl0];simp only [Array.size_modify];rfl
 have hkept:Kept φ w (w.drew.freeze ⟨g,0,none⟩ l.length):=by
  refine ⟨?_,?_,?_,Nat.le_of_eq hsize.symm,λk hk hn=>hother k λe=>hn (e ▸ (hfp g rfl).1)⟩;all_goals (unfold World.freeze;rw [if_neg hl0];rfl)
 have azC:J3 (w.drew.freeze ⟨g,0,none⟩ l.length) 103 5 b (λx=>φ x\/(w.heap.size<=x/\x<(w.drew.freeze ⟨g,0,none⟩ l.length).heap.size)) l:=by
  have hA:Lib.BuilderAtF 103 5 0 b p (Lib.byteCells l) w.drew:=⟨iT _,_,hbk,by rw [Lib.byteCells_length];exact hown,λe=>(hfp b e).2 rfl⟩;obtain ⟨_,v2,hb2,hown2,_⟩:=hA.froze (g:=g) (cap:=cap) (by rw [Lib.byteCells_length];exact c1);rw [Lib.byteCells_length] at hb2 hown2;rw [hother b (λe=>hgb e.symm),hbk] at hb2;have ev:v2=.slice (some ⟨g,0,none⟩) l.length cap:=by
   simp only [Option.some.injEq,Obj.cells.injEq] at hb2;have:=hb2.1;simp at this;exact this.symm
  subst ev;exact ⟨p,_,hp,(hother b (λe=>hgb e.symm)).trans hbk,hown2,λx hx=>⟨.inl (hfp x hx).1,(hfp x hx).2⟩⟩
 have mixed:Tryz.prog.follows .mixedOrders=true:=by kernel_rfl
 go_enter Tryz.func55,Tryz.ntmps55;go_wp2;go_region_o;all_goals (go_wp2;go_ret;exact ⟨rfl,hkept,azC⟩)
def jM(b:UInt8):Nat:=([67,68,69,70,71,65,66]:List UInt8).idxOf b
def lD:List UInt8->Int×List UInt8
 | b::r=>if b=35 then(1,r)else if b=98 then(-1,r)else(0,b::r)| []=>(0,[])
def rY (r:List UInt8):Option Int :=if r=[45,49]then some (-1)else match r with
 | [b]=>if 48<=b.toNat/\b.toNat<=57 then some ((b.toNat:Int)-48)else none| _=>none
def fE (t:List UInt8):(Int×Int×Int)×Int :=match t with
 | []=>((0,0,0),4)| c::r =>if 7<=jM c then ((0,0,0),4)else match rY (lD r).2 with
  | none=>((0,0,0),4)| some o=>if jQ (jM c) (lD r).1 o=true then (((jM c:Nat),(lD r).1,o),0)else ((0,0,0),10)
def MI (t:List UInt8):Option (List UInt8×List UInt8) :=match aZ 47 t with
 | a::b::r=>some (a,t.drop (a.length+1))| _=>none
def eP(b:List UInt8):List UInt8×Bool:=if b.getLast?=some 43 then(b.dropLast,true)else(b,false)
def fK (t:List UInt8):(Int×Int×Bool)×Int :=match MI t with
 | none=>((0,0,false),4)| some (a,b) =>if (fE a).2=4 then ((0,0,false),4)else match bU (eP b).1 with
  | none=>((0,0,false),4)| some n=>if (fE a).2≠0 then ((0,0,false),(fE a).2)else ((BR (fE a).1.1 (fE a).1.2.1 (fE a).1.2.2,(n:Int),(eP b).2),0)
theorem aaP(r:List UInt8):(lD r).2.length<=r.length:=by
 unfold lD;grind
theorem af2 {a b:List UInt8} (h:bZ 47 a):MI (a++47::b)=some (a,b):=by
 unfold MI;rw [XZ 47 a b h];obtain⟨x,y,hxy⟩:∃ x y,aZ 47 b=x::y:=by
  have:=yQ 47 b;match hw:aZ 47 b with
  | []=>simp_all| x::y=>exact⟨x,y,rfl⟩
 simp_all
theorem af4 {t:List UInt8} (h:bZ 47 t):MI t=none:=by simp_all[MI,aaU]
theorem MJ:∀ t:List UInt8,(∃ a b,t=a++47::b/\bZ 47 a)\/bZ 47 t
 | []=>.inr λb hb=>by cases hb| x::r=>by
  by_cases h:x=47;.exact .inl ⟨[],r,by simp [h],λb hb=>by cases hb⟩
  .rcases MJ r with⟨a,b,e,hn⟩|hn
   .refine .inl ⟨x::a,b,by simp [e],λy hy=>?_⟩;exact amg
   .refine .inr λy hy=>?_;exact amg
theorem aaQ (a b:List UInt8):eP (a++47::b)=(a++47::(eP b).1,(eP b).2):=by
 unfold eP;cases b<;>grind
theorem aaR {t:List UInt8} (h:bZ 47 t):bZ 47 (eP t).1:=by
 unfold eP;split;.exact λb hb=>h b (List.dropLast_subset _ hb)
 .exact h
def oQ:List (List UInt8)->Option (List (List UInt8)×List (List UInt8))
 | []=>none| w::r=>if w=[58]then some ([],r)else (oQ r).map λx=>(w::x.1,x.2)
def qF:List (List UInt8)->Int
 | []=>0| w::r=>if (fK w).2≠0 then (fK w).2 else qF r
def wS:List (List UInt8)->Int
 | []=>0| w::r=>if (bU w).isSome then wS r else 4
def oU (t:List UInt8):(List (Int×Int×Bool)×List Int)×Int :=match oQ (aZ 32 t)with
 | none=>(([],[]),4)| some (a,b)=>if qF a≠0 then (([],[]),qF a)else if wS b≠0 then (([],[]),wS b)else ((a.map λw=>(fK w).1,b.map λw=>(((bU w).getD 0:Nat):Int)),0)
end
end Go.Proofs.YthohlofpphjofaaGreatDoor
