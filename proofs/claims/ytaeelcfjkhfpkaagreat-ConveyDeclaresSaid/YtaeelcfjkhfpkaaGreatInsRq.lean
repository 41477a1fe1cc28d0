/- Check of an instrument: the program. -/
import Derived.Test.YtaeelcfjkhfpkaaGreatFARq
import Derived.Test.YtaeelcfjkhfpkaaGreatCpIRq
set_option maxHeartbeats 1600000
set_option maxRecDepth 100000
set_option linter.unusedVariables false
set_option linter.unusedSimpArgs false
namespace Go.Proofs.YtaeelcfjkhfpkaaGreat
section
open Go.RowKit
section
variable {P:Program} {C:Cx} {σ σ':St} {o:Oper} {d:Tmp} {ops:Array Oper} {rest:List Oper} {Q:Exit→St→Prop}
structure MksD where
 e:TypeId
 z:Value
 m:Int
 n:Int
def mksV (P:Program) (σ:St):Op→Option MksD
 | .makeSlice T x y =>
  match P.underlying T,σ.ev x,σ.ev y with
  | some (.slice e),some (.sc (.int _ m)),some (.sc (.int _ n)) =>
   match P.info? e with
   | some i =>
    match i.zero with
    | some z=>bif z.oneCell' && Nat.beq i.size 1 && Nat.ble i.bytes 1000 then some ⟨e,z,m,n⟩else none
    | none=>none
   | none=>none
  | _,_,_=>none
 | _=>none
def partV (P:Program)(σ:St):Op→Option (Nat×List (List AV)×Int×Int)
 | .slice T x lo hi none =>
  match P.underlying T,σ.ev x with
  | some (.slice e),some (.ls n rows) =>
   match sizeB P e with
   | some m =>
    bif Nat.beq m n then
     match lo,hi with
     | none,none=>some (n,rows,0,rows.length)
     | some y,none =>
      match σ.ev y with
      | some (.sc (.int _ i))=>some (n,rows,i,rows.length)
      | _=>none
     | none,some z =>
      match σ.ev z with
      | some (.sc (.int _ j))=>some (n,rows,0,j)
      | _=>none
     | some y,some z =>
      match σ.ev y,σ.ev z with
      | some (.sc (.int _ i)),some (.sc (.int _ j))=>some (n,rows,i,j)
      | _,_=>none
    else none
   | none=>none
  | _,_=>none
 | _=>none
def prt {α:Type} (l:List α)(i j:Int):List α:=(l.take j.toNat).drop i.toNat
theorem run_sliceS {T e n:Nat} (hT:P.underlying T=some (.slice e)) (hn:sizeB P e=some n) (A:Option Addr) (len cap:Nat) (lo hi:Option Value) (i j:Int) (w:World)
  (hlo:(∃ k,lo=some (.int k i))∨(lo=none∧i=0)) (hhi:(∃ k,hi=some (.int k j))∨(hi=none∧j=len)) (hb:0≤i∧i≤j∧j≤len) (hc:len≤cap) :
  (Instr.slice T (.slice A len cap) lo hi none).run P w=.ok (.slice (if cap=i.toNat then A else A.map (·.add (i.toNat*n))) (j.toNat-i.toNat) (cap-i.toNat)) w:=by
 obtain ⟨i,rfl⟩:∃ q:Nat,i=q:=⟨i.toNat,by omega⟩
 obtain ⟨j,rfl⟩:∃ q:Nat,j=q:=⟨j.toNat,by omega⟩
 have h1:0≤(j:Int)∧(j:Int)≤(cap:Int):=by omega
 have h2:0≤(i:Int)∧(i:Int)≤(j:Int):=by omega
 rcases hlo with⟨k,rfl⟩|⟨rfl,hi⟩<;>rcases hhi with⟨k',rfl⟩|⟨rfl,hj⟩
 ·have h3:(i:Int)≤(j:Int):=by omega
  have h4:(j:Int)≤(cap:Int):=by omega
  simp [Instr.slice,run_underlying hT,Instr.sliceBounds,Instr.sliceBound,asIntOf,run_sizeB hn,show i≤j by omega,show j≤cap by omega]
 ·obtain rfl:j=len:=by omega
  simp [Instr.slice,run_underlying hT,Instr.sliceBounds,Instr.sliceBound,asIntOf,run_sizeB hn,show i≤j by omega]
 ·obtain rfl:i=0:=by omega
  simp [Instr.slice,run_underlying hT,Instr.sliceBounds,Instr.sliceBound,asIntOf,run_sizeB hn,show j≤cap by omega]
 ·obtain rfl:i=0:=by omega
  obtain rfl:j=len:=by omega
  simp [Instr.slice,run_underlying hT,Instr.sliceBounds,run_sizeB hn]
theorem partV_of {n:Nat} {rows:List (List AV)} {i j:Int} (h:partV P σ o.op=some (n,rows,i,j)) (hb:0≤i∧i≤j∧j≤rows.length):WV P C o σ (.ls n (prt rows i j)):=by
 unfold partV at h
 split at h
 ·rename_i T x lo hi ho
  split at h
  ·rename_i e n' rows' hT hx
   split at h
   ·rename_i m hm
    cases hbq:Nat.beq m n' with
    | false=>rw [hbq] at h;cases h
    | true =>
     rw [hbq] at h
     obtain rfl:=Nat.eq_of_beq_eq_true hbq
     simp only [cond_true] at h
     have key:(n=m∧rows=rows')∧∀ G a w,Ok C σ G a w→((∃ k,lo.map a.eval=some (.int k i))∨(lo.map a.eval=none∧i=0))∧((∃ k,hi.map a.eval=some (.int k j))∨(hi.map a.eval=none∧j=rows'.length)):=by
      split at h
      ·cases h;exact ⟨⟨rfl,rfl⟩,fun G a w ok=>⟨.inr ⟨rfl,rfl⟩,.inr ⟨rfl,rfl⟩⟩⟩
      ·split at h
       ·rename_i k i' hy;cases h;exact ⟨⟨rfl,rfl⟩,fun G a w ok=>⟨.inl ⟨k,by simp [ok.evs hy]⟩,.inr ⟨rfl,rfl⟩⟩⟩
       ·cases h
      ·split at h
       ·rename_i k i' hy;cases h;exact ⟨⟨rfl,rfl⟩,fun G a w ok=>⟨.inr ⟨rfl,rfl⟩,.inl ⟨k,by simp [ok.evs hy]⟩⟩⟩
       ·cases h
      ·split at h
       ·rename_i k i' k' j' hy hz;cases h;exact ⟨⟨rfl,rfl⟩,fun G a w ok=>⟨.inl ⟨k,by simp [ok.evs hy]⟩,.inl ⟨k',by simp [ok.evs hz]⟩⟩⟩
       ·cases h
     obtain ⟨⟨rfl,rfl⟩,hlh⟩:=key
     refine WV.val (fun _ _ _ _=>.ls _ _) fun G a w ok=>?_
     obtain ⟨A,cap,ad,u,e1,h1,h2,h3,h4,h5⟩:=(ok.evr hx).2.pu_of.ls_of
     obtain ⟨q1,q2⟩:=hlh G a w ok
     have hrun:=run_sliceS (P:=P) hT hm A rows.length cap (lo.map a.eval) (hi.map a.eval) i j w q1 q2 hb h5
     have hlen:(prt rows i j).length=j.toNat-i.toNat:=by unfold prt;simp;omega
     have hrow:∀ (q:Nat) r,(prt rows i j)[q]?=some r→rows[i.toNat+q]?=some r∧q<j.toNat-i.toNat:=fun q r hq=>by
      have hlt:=(List.getElem?_eq_some_iff.1 hq).1
      unfold prt at hq
      rw [List.getElem?_drop,List.getElem?_take] at hq
      split at hq
      ·exact ⟨hq,by omega⟩
      ·cases hq
     refine ⟨.slice (if cap=i.toNat then A else A.map (·.add (i.toNat*n))) (prt rows i j).length (cap-i.toNat),?_,.pu _ _ (.ls n _ _ _ (ad.add (i.toNat*n)) (fun q s=>u (i.toNat+q) s) (by rw [hlen];omega) (fun r hr=>?_) (fun hp=>?_) (fun q r s av a1 a2=>?_) fun q r s av a1 a2=>?_)⟩
     ·unfold execOp
      simp only [ho,e1,Option.map_none]
      rw [hlen]
      have hsa:∀ v,(Instr.sliceAt T (.slice A rows.length cap) (lo.map a.eval) (hi.map a.eval) none).run P w=.ok v w↔(Instr.slice T (.slice A rows.length cap) (lo.map a.eval) (hi.map a.eval) none).run P w=.ok v w:=fun v=>by
       unfold Instr.sliceAt
       rw [Sem.run_bind,run_underlying hT w];rfl
      rw [Sem.run_bind,(hsa _).2 hrun];rfl
     ·obtain ⟨q,hq,rfl⟩:=List.getElem_of_mem hr
      exact h1 _ (List.mem_of_getElem? (hrow q _ (List.getElem?_eq_getElem hq)).1)
     ·rw [hlen] at hp
      rw [if_neg (by omega),h2 (by omega)];rfl
     ·obtain ⟨b1,b2⟩:=hrow q r a1
      have:=h3 _ r s av b1 a2
      rw [add_of_add,← Nat.add_assoc,← Nat.add_mul];exact this
     ·exact h4 _ r s av (hrow q r a1).1 a2
   ·cases h
  ·cases h
 ·cases h
theorem WL.part_ {n:Nat} {rows rows':List (List AV)} {i j:Int} (hd:dstB C.N o=some d)(h:partV P σ o.op=some (n,rows,i,j))(hb:0≤i∧i≤j∧j≤rows.length)(he:prt rows i j=rows')(k:WL P C ops rest (σ.put d (.ls n rows')) Q):WL P C ops (o::rest) σ Q:=by
 subst he
 exact WL.vl hd (partV_of h hb) k
def cvtV (P:Program)(σ:St):Op→Option (IntKind×Int)
 | .convert S T x =>
  match P.underlying T,σ.ev x with
  | some (.int k),some (.sc (.int _ n))=>some (k,n)
  | _,_=>none
 | _=>none
theorem cvtV_of {k:IntKind} {n:Int} (h:cvtV P σ o.op=some (k,n))(hs:∀ S T x,o.op=.convert S T x→(P.underlying S).isSome=true):WV P C o σ (.sc (.int k (k.wrap n))):=by
 unfold cvtV at h
 split at h
 ·rename_i S T x ho
  split at h
  ·rename_i k' k2 n' hT hx
   cases h
   have:=hs S T x ho
   cases hS:P.underlying S with
   | none=>rw [hS]at this;cases this
   | some d=>exact WV.sc fun G a w ok=>by unfold execOp;simp [ho,ok.evs hx,convert,run_underlying hS,run_underlying hT,Conv.intToInt]
  ·cases h
 ·cases h
def cvtB(P:Program):Op→Bool
 | .convert S _ _=>(P.underlying S).isSome
 | _=>true
theorem WL.cvt {k:IntKind} {n m:Int} (hd:dstB C.N o=some d)(h:cvtV P σ o.op=some (k,n))(hs:cvtB P o.op=true)(hm:k.wrap n=m)(K:WL P C ops rest (σ.put d (.sc (.int k m))) Q):WL P C ops (o::rest) σ Q:=by
 subst hm
 exact WL.vl hd (cvtV_of h fun S T x e=>by rw [e] at hs;exact hs) K
def ldxV (P:Program)(σ:St):Op→Option (List AV×Nat)
 | .load T x =>
  match aggB P T,σ.ev x with
  | some false,some (.pt k 0 j) =>
   match look k σ.M with
   | some (.box _ cells)=>some (cells,j)
   | _=>none
  | _,_=>none
 | _=>none
def ldrV (P:Program)(σ:St):Op→Option (List (List AV)×Nat×Nat)
 | .load T x =>
  match aggB P T,σ.ev x with
  | some false,some (.pt k i j) =>
   match look k σ.M with
   | some (.row _ _ rows)=>some (rows,i,j)
   | _=>none
  | _,_=>none
 | _=>none
theorem ldrV_of {rows:List (List AV)} {i j:Nat} {r:List AV} {av:AV} (h:ldrV P σ o.op=some (rows,i,j)) (hi:rows[i]?=some r) (hj:r[j]?=some av) (ho2:av.own=false):WV P C o σ av:=by
 unfold ldrV at h
 split at h
 ·rename_i T x ho
  split at h
  ·rename_i k i' j' hT hx
   split at h
   ·rename_i T' n rows' hk
    cases h
    exact WV.load1 ho hT hx hk (l:=r.drop j) (by simp [AO.from_,hi]) (by simpa using hj) ho2
   ·cases h
  ·cases h
 ·cases h
theorem WL.ldr {rows:List (List AV)} {i j:Nat} {r:List AV} {av:AV} (hd:dstB C.N o=some d)(h:ldrV P σ o.op=some (rows,i,j))(hi:rows[i]?=some r)(hj:r[j]?=some av)(ho2:av.own=false)(k:WL P C ops rest (σ.put d av) Q):WL P C ops (o::rest) σ Q:=WL.vl hd (ldrV_of h hi hj ho2) k
end
end
section
open Go.RowKit
theorem highest_any (A1 A2:Option Addr) (cs:List (Int×Int×Bool)) (st:List Int) (n1 n2 c1 c2 B:Nat) (p f:Int) (o:Bool) (w:World) (hI:InsAt w B A1 A2 cs st) (hB:B≤w.heap.size)
  (hn2:n2=st.length) (hp:0≤p∧p≤127) (hf:0≤f∧f≤st.length) (hl:st.length≤18) (hst:∀ k (h:k < st.length),1≤st[k]∧st[k]≤127) :
  Calls Tryz.prog 127 #[.agg #[.slice A1 n1 c1,.slice A2 n2 c2],.agg #[.int .i64 p,.int .i64 f,.bool o]] w (Ret (.int .i64 (topOf st (p,f,o))) w):=by
 by_cases hz:0 < f
 ·obtain ⟨k,rfl⟩:∃ k:Nat,f=(k:Int)+1:=⟨f.toNat - 1,by omega⟩
  have hk:k < st.length:=by omega
  obtain ⟨ad,rfl,hb,hc⟩:=hI.step hk
  have hbd:=hst k hk
  obtain ⟨x,hx⟩:∃ x,st[k]=x:=⟨_,rfl⟩
  rw [hx] at hc hbd
  have hc2:∀ o o':Obj,((w.alloc o).alloc o').cell? (ad.add k)=some (.int .i64 x):=fun o o'=>by
   rw [World.cell?_alloc_lt _ _ _ (by rw [block_of_add];simp;omega),World.cell?_alloc_lt _ _ _ (by rw [block_of_add];omega),hc]
  clear hc
  have e:topOf st (p,(k:Int)+1,o)=p+x+if o then 12 else 0:=by
   unfold topOf
   simp only [if_pos hz]
   have:((k:Int)+1).toNat - 1=k:=by omega
   rw [this,List.getD_eq_getElem?_getD,List.getElem?_eq_getElem hk,hx];rfl
  rw [e]
  have hk2:k < n2:=by omega
  clear e hx hst hI hn2 hf
  cases o
  all_goals
   go_enter Tryz.func127,Tryz.ntmps127
   go_wp2
   go_ret
   exact Ret.mk' (by simp) zqb
 ·obtain rfl:f=0:=by omega
  have e:topOf st (p,0,o)=p+if o then 12 else 0:=by unfold topOf;simp
  rw [e]
  clear e hst hI hn2 hf
  cases o
  all_goals
   go_enter Tryz.func127,Tryz.ntmps127
   go_wp2
   go_ret
   exact Ret.mk' (by simp) zqb
theorem insE_many {cs:List (Int×Int×Bool)} {st:List Int} (h:14<cs.length∨18<st.length):insE cs st=2:=if_pos h
theorem insE_none {cs:List (Int×Int×Bool)} {st:List Int} (h:¬ (14<cs.length∨18<st.length))(h1:cs.length=0):insE cs st=11:=by unfold insE;rw [if_neg h,if_pos h1]
theorem insE_steps {cs:List (Int×Int×Bool)} {st:List Int} (h:¬ (14<cs.length∨18<st.length))(h1:stepsBad 0 st=true):insE cs st=11:=by unfold insE;rw [if_neg h,h1];simp
theorem insE_crs {cs:List (Int×Int×Bool)} {st:List Int} (h:¬ (14<cs.length∨18<st.length))(h1:¬ cs.length=0)(h2:stepsBad 0 st=false):insE cs st=crsE st cs:=by unfold insE;rw [if_neg h,if_neg h1,h2];simp
theorem insCheck (A1 A2:Option Addr) (cs:List (Int×Int×Bool)) (st:List Int) (n1 n2 c1 c2:Nat) (w:World) (hI:InsAt w w.heap.size A1 A2 cs st) (hn1:n1=cs.length) (hn2:n2=st.length) :
  Calls Tryz.prog 93 #[.agg #[.slice A1 n1 c1,.slice A2 n2 c2]] w (Ret (.int .i64 (insE cs st)) w):=by
 by_cases hm1:14 < n1
 ·rw [insE_many (.inl (by omega))]
  clear hn1 hn2 hI
  go_enter Tryz.func93,Tryz.ntmps93
  go_wp2
  go_ret
  exact Ret.mk' rfl zqb
 ·by_cases hm2:18 < n2
  ·rw [insE_many (.inr (by omega))]
   clear hn1 hn2 hI
   go_enter Tryz.func93,Tryz.ntmps93
   go_wp2
   go_ret
   exact Ret.mk' rfl zqb
  ·by_cases hz:n1=0
   ·rw [insE_none (by omega) (by omega)]
    subst hz
    clear hn1 hn2 hI
    go_enter Tryz.func93,Tryz.ntmps93
    go_wp2
    go_ret
    exact Ret.mk' rfl zqb
   ·have hnz:0 < n1:=by omega
    have HI:=Lib.hid hI
    have HN1:=Lib.hid hn1
    have HN2:=Lib.hid hn2
    have HE1:=Lib.hid (fun h=>insE_steps (cs:=cs) (st:=st) zqo h)
    have HE2:=Lib.hid (fun h=>insE_crs (cs:=cs) (st:=st) zqo zqo h)
    have h18:st.length≤18:=by omega
    have hi1:n2≤18:=by omega
    have hi2:n1≤14:=by omega
    clear hI hn1 hn2 hz hm1 hm2
    go_enter Tryz.func93,Tryz.ntmps93
    go_wp2
    go_loop [3,25] (fun last i=>∃ (k:Nat) (x:Int),k≤n2∧i=.int .i64 k∧last=.int .i64 x∧stepsBad 0 st=stepsBad x (st.drop k)) (fun _ i=>n2 - (intOf i).toNat)
    case atStart=>exact ⟨0,0,Nat.zero_le _,rfl,rfl,rfl⟩
    case round =>
     obtain ⟨k,x,hk,rfl,rfl,hs⟩:=hrel
     have HS:=Lib.hid hs
     clear hs
     by_cases hlt:k < n2
     ·have hk2:k < st.length:=by have:=HN2.out;omega
      obtain ⟨ad,hA,hb,hc⟩:=HI.out.step hk2
      subst hA
      have hs2:=HS.out.trans (stepsBad_at hk2)
      obtain ⟨y,hy⟩:∃ y,st[k]=y:=⟨_,rfl⟩
      rw [hy] at hc hs2
      have hc2:∀ o:Obj,(w.alloc o).cell? (ad.add k)=some (.int .i64 y):=fun o=>by
       rw [World.cell?_alloc_lt _ _ _ (by rw [block_of_add];omega),hc]
      clear hc hy
      by_cases hb1:y≤x
      ·have HE:=Lib.hid (HE1.out (hs2.trans (by simp [hb1])))
       clear hs2
       go_wp2
       go_ret
       exact Ret.mk' (by rw [HE.out];rfl) zqb
      ·by_cases hb2:127 < y
       ·have HE:=Lib.hid (HE1.out (hs2.trans (by simp [hb2])))
        clear hs2
        go_wp2
        go_ret
        exact Ret.mk' (by rw [HE.out];rfl) zqb
       ·have HS3:=Lib.hid (hs2.trans (show _=stepsBad y (st.drop (k+1)) by simp [hb1,hb2]))
        clear hs2
        go_wp2
        go_round
        case rel=>exact ⟨k+1,y,by omega,by go_num,rfl,HS3.out⟩
        case measure=>simp [intOf];omega
     ·have hsF:stepsBad 0 st=false:=by
       have h:=HS.out
       rw [h,List.drop_eq_nil_of_le (by have:=HN2.out;omega)];rfl
      have HE:=Lib.hid (HE2.out hsF)
      have HBD:=Lib.hid (stepsBad_bd zqo hsF)
      clear hsF
      go_wp2
      go_loopw [41] (fun i wr=>∃ k:Nat,k≤n1∧i=.int .i64 k∧crsE st cs=crsE st (cs.drop k)∧Below w.heap.size w wr∧Blk wr w.heap.size 26 #[.slice A1 n1 c1,.slice A2 n2 c2]) (fun i _=>n1 - (intOf i).toNat)
      case atStart=>exact ⟨0,Nat.zero_le _,rfl,rfl,zqb,Blk.new _ _ _⟩
      case round =>
       obtain ⟨j,hj,rfl,hs,hbel,hblk⟩:=hrel
       have HC:=Lib.hid hs
       have HB:=Lib.hid hblk
       have hlt3:w.heap.size < wr.heap.size:=hblk.lt
       have q0:wr.cell? ⟨w.heap.size,0,none⟩=some (.slice A1 n1 c1):=hblk.cell 0
       have q1:wr.cell? ⟨w.heap.size,1,none⟩=some (.slice A2 n2 c2):=hblk.cell 1
       clear hs hblk
       by_cases hlt2:j < n1
       ·have hj2:j < cs.length:=by have:=HN1.out;omega
        have HI2:=Lib.hid (HI.out.below hbel)
        obtain ⟨ad,hA,hb,hc0,hc1,hc2⟩:=HI2.out.crs hj2
        subst hA
        have hs2:=HC.out.trans (crsE_at hj2)
        obtain ⟨⟨p,f,o⟩,hx⟩:∃ x,cs[j]=x:=⟨_,rfl⟩
        rw [hx] at hc0 hc1 hc2 hs2
        simp only at hc0 hc1 hc2 hs2
        have HI3:=Lib.hid (fun o=>HI2.out.alloc (hbel.size) o)
        have hbel4:∀ o:Obj,Below w.heap.size w (wr.alloc o):=fun o=>hbel.alloc hbel.size o
        have HB4:=Lib.hid (fun o=>HB.out.alloc o)
        have hn3:(st.length:Int)=n2:=by have:=HN2.out;omega
        by_cases b1:f < 0
        ·have HE3:=Lib.hid (HE.out.trans (hs2.trans (if_pos (.inl b1))))
         clear hs2
         go_wp2
         go_ret
         exact Ret.mk' (by rw [HE3.out];rfl) zqb
        ·by_cases b2:(n2:Int) < f
         ·have HE3:=Lib.hid (HE.out.trans (hs2.trans (if_pos (.inr zqo))))
          clear hs2 hn3
          go_wp2
          go_ret
          exact Ret.mk' (by rw [HE3.out];rfl) zqb
         ·rw [if_neg (by omega)] at hs2
          by_cases b3:p < 0
          ·have HE3:=Lib.hid (HE.out.trans (hs2.trans (if_pos (.inl (.inl b3)))))
           clear hs2 hn3
           go_wp2
           go_ret
           exact Ret.mk' (by rw [HE3.out];rfl) zqb
          ·by_cases b4:127 < p
           ·have HE3:=Lib.hid (HE.out.trans (hs2.trans (if_pos (.inl (.inr b4)))))
            clear hs2 hn3
            go_wp2
            go_ret
            exact Ret.mk' (by rw [HE3.out];rfl) zqb
           ·have HT:=fun (w':World) (hI:InsAt w' w.heap.size (some ad) A2 cs st) (hB:w.heap.size≤w'.heap.size)=>highest_any (some ad) A2 cs st n1 n2 c1 c2 w.heap.size p f o w' hI hB HN2.out zqo zqo h18 HBD.out
            have hsz:=hbel.size
            by_cases b5:127 < topOf st (p,f,o)
            ·have HE3:=Lib.hid (HE.out.trans (hs2.trans (if_pos (.inr b5))))
             clear hs2 hn3
             generalize topOf st (p,f,o)=T at *
             have HTT:=Lib.hid HT
             clear HT
             go_wp2_with (go_at_call 127;refine (HTT.out _ (HI3.out _) (by simp;omega)).mono ?_;rintro e w2 ⟨rfl,hb2⟩)
             go_ret
             exact Ret.mk' (by rw [HE3.out];rfl) zqb
            ·rw [if_neg (by omega)] at hs2
             have HS4:=Lib.hid hs2
             clear hs2 hn3
             generalize topOf st (p,f,o)=T at *
             have HTT:=Lib.hid HT
             clear HT
             go_wp2_with (go_at_call 127;refine (HTT.out _ (HI3.out _) (by simp;omega)).mono ?_;rintro e w2 ⟨rfl,hb2⟩;have K1:=Lib.hid ((HB4.out _).after hb2))
             go_roundw
             case rel=>exact ⟨j+1,by omega,by go_num,HS4.out,zqb,K1.out⟩
             case measure=>simp [intOf];omega
       ·have HE3:=Lib.hid (HE.out.trans (HC.out.trans (show crsE st (cs.drop j)=0 from by rw [List.drop_eq_nil_of_le (by have:=HN1.out;omega)];rfl)))
        go_wp2
        go_ret
        exact Ret.mk' (by rw [HE3.out];rfl) zqb
end
end Go.Proofs.YtaeelcfjkhfpkaaGreat
