/- Cell of the reference: what can be said; the whole contract. -/
import Derived.Lib.ByteType
import Derived.Test.YthehkchjdkdbiaaGreatDoorEH0Hq
import Derived.Test.YthehkchjdkdbiaaGreatDoorRCellHq
set_option maxHeartbeats 4000000
set_option maxRecDepth 100000
set_option linter.unusedVariables false
set_option linter.unusedSimpArgs false
namespace Go.Proofs.YthehkchjdkdbiaaGreatDoor
section
open Go.RowKit
section
variable {B:World→View→Prop} {gl:Nat} {P:Program} {C:Cx} {ops:Array Oper} {rest:List Oper} {σ:St} {o:Oper} {d:Tmp} {Q:Exit→St→Prop}
def ineV (P:Program)(σ:St):Op→Option Bool
 | .binOp .neq T x (.const .nilIface) _ =>
  match P.underlying T,σ.ev x with
  | some (.interface _),some (.sc .nilIface)=>some false
  | some (.interface _),some (.sc (.iface _ _))=>some true
  | _,_=>none
 | _=>none
def sb8V (σ:St):Op→Option (Int×Int)
 | .binOp .sub _ x y _ =>
  match σ.ev x,σ.ev y with
  | some (.sc (.int .u8 m)),some (.sc (.int .u8 n))=>some (m,n)
  | _,_=>none
 | _=>none
theorem sb8V_of {m n:Int} (h:sb8V σ o.op=some (m,n))(hb:0≤m-n∧m-n≤255):WV P C o σ (.sc (.int .u8 (m-n))):=by
 unfold sb8V at h
 split at h
 ·rename_i T x y Ty ho
  split at h
  ·rename_i m n hx hy
   cases h
   have e:IntKind.u8.wrap (m-n)=m-n:=by
    have e:(m-n) % 256=m-n:=Int.emod_eq_of_lt hb.1 zqo
    simp [IntKind.wrap,IntKind.bits,IntKind.signed,e]
   exact WV.sc fun G a w ok=>by unfold execOp;simp [ho,ok.evs hx,ok.evs hy,eqGuard,binOp,Op.intArith,e]
  ·cases h
 ·cases h
theorem WL.sb8 {m n:Int} (hd:dstB C.N o=some d)(h:sb8V σ o.op=some (m,n))(hb:0≤m-n∧m-n≤255)(k:WL P C ops rest (σ.put d (.sc (.int .u8 (m-n)))) Q):WL P C ops (o::rest) σ Q:=WL.vl hd (sb8V_of h hb) k
end
end
section
open Go.RowKit
def eTx (t:List UInt8):List AV:=[.sc (.string (bs t))]
theorem Ctg.of_strs {B:World→View→Prop} {P:Program} {f:FuncId} {args:List AV} {xs:List Value} {T:TypeId} {L:List (List UInt8)} (hs:scs args=some xs)
  (h:∀ w F,B w F→Calls P f xs.toArray w fun e w'=>e=.returned (.slice (some ⟨w.heap.size,0,none⟩) L.length L.length)∧w'=w.alloc (.cells (L.map fun l=>Value.string (bs l)).toArray T)):Ctg B P f args (.ls 1 (L.map eTx)):=by
 intro w F vs hB hF hR
 have:vs=xs:=scs_of (G:=⟨F,fun _=>0,fun _=>0,fun _=>undef,fun _ _=>False⟩) hs hR.1 fun i av u a b=>.pu _ _ (hR.2 i av u a b)
 subst this
 refine (h w F hB).mono fun e w' ⟨he,hw⟩=>?_
 have hb:Below w.heap.size w w':=by subst hw;exact bel_alloc (Below.refl _ _) _
 have hcell:∀ (i:Nat) l,L[i]?=some l→w'.cell? ⟨w.heap.size,i,none⟩=some (.string (bs l)):=fun i l hl=>by
  have hh:w'.heap[w.heap.size]?=some (.cells (L.map fun l=>Value.string (bs l)).toArray T):=by
   subst hw
   show (w.heap.push _)[w.heap.size]?=_
   simp
  rw [Lib.cell_of_heap hh]
  simp [hl]
 refine ⟨_,newF F w w',he,hb,newF_le hF,newF_fw hF hb,newF_new,?_⟩
 have hlen:L.length=(L.map eTx).length:=by simp
 rw [hlen]
 refine .ls 1 (L.map eTx) _ _ ⟨w.heap.size,0,none⟩ (fun i j=>((L[i]?).map fun l=>Value.string (bs l)).getD undef) (by simp) (fun r hr=>?_) (fun _=>rfl) (fun i r j av hr hav=>?_) (fun i r j av hr hav=>?_)
 ·obtain ⟨l,_,rfl⟩:=List.mem_map.1 hr;rfl
 ·rw [List.getElem?_map] at hr
  cases hx:L[i]? with
  | none=>simp [hx] at hr
  | some l =>
   rw [hx] at hr
   obtain rfl:eTx l=r:=by simpa using hr
   match j,hav with
   | 0,hav =>
    refine ⟨?_,by simp [Value.oneCell']⟩
    unfold newF
    have e:Addr.add (⟨w.heap.size,0,none⟩:Addr) (i*1+0)=⟨w.heap.size,i,none⟩:=by
     simp [Addr.add]
     intro h;exact h.symm
    rw [e,if_neg (by show ¬ w.heap.size<w.heap.size;omega),hcell i l hx]
    simp
   | j+1,hav=>simp [eTx] at hav
 ·rw [List.getElem?_map] at hr
  cases hx:L[i]? with
  | none=>simp [hx] at hr
  | some l =>
   rw [hx] at hr
   obtain rfl:eTx l=r:=by simpa using hr
   match j,hav with
   | 0,hav =>
    obtain rfl:AV.sc (.string (bs l))=av:=by simpa [eTx] using hav
    simp [hx]
    exact .sc _
   | j+1,hav=>simp [eTx] at hav
end
section
open Go.RowKit
def rq_sP (c:UInt8)(e:Nat)(t:List UInt8)(k:Nat):Bool:=decide (k=e)|| (t.getD k 0 == c)
def rq_sF(c:UInt8)(e:Nat)(t:List UInt8):Nat→Nat
 | 0=>0
 | k+1=>if rq_sP c e t k then k+1 else rq_sF c e t k
def rq_sR (c:UInt8) (e:Nat) (t:List UInt8):Nat→List (List UInt8)
 | 0=>[]
 | k+1=>if rq_sP c e t k then rq_sR c e t k++[cut t ((rq_sF c e t k:Nat):Int) ((k:Nat):Int)]else rq_sR c e t k
theorem rq_sF_le(c:UInt8)(e:Nat)(t:List UInt8):∀ k,rq_sF c e t k≤k
 | 0=>Nat.le_refl _
 | k+1=>by
  have:=rq_sF_le c e t k
  unfold rq_sF;split<;>omega
theorem rq_sR_len(c:UInt8)(e:Nat)(t:List UInt8):∀ k,(rq_sR c e t k).length≤k
 | 0=>Nat.le_refl _
 | k+1=>by
  have:=rq_sR_len c e t k
  unfold rq_sR;split
  ·simp;omega
  ·omega
theorem rq_s_hit {c:UInt8} {e:Nat} {t:List UInt8} {k:Nat} (h:rq_sP c e t k=true):rq_sF c e t (k+1)=k+1∧rq_sR c e t (k+1)=rq_sR c e t k++[cut t ((rq_sF c e t k:Nat):Int) ((k:Nat):Int)] :=
 ⟨if_pos h,if_pos h⟩
theorem rq_s_no {c:UInt8} {e:Nat} {t:List UInt8} {k:Nat} (h:rq_sP c e t k=false):rq_sF c e t (k+1)=rq_sF c e t k∧rq_sR c e t (k+1)=rq_sR c e t k :=
 ⟨if_neg (by simp [h]),if_neg (by simp [h])⟩
theorem rq_fold (c:UInt8) (t:List UInt8) (k:Nat):rq_joinC c ((t.take k).foldl (rq_spS c) ([],[])).1 ((t.take k).foldl (rq_spS c) ([],[])).2=t.take k:=(rq_sp_join c (t.take k) [] []).trans rfl
theorem rq_cur_cut (c:UInt8) (t:List UInt8) {k:Nat} (h:k≤t.length):((t.take k).foldl (rq_spS c) ([],[])).2.length≤k∧cut t ((k-((t.take k).foldl (rq_spS c) ([],[])).2.length:Nat):Int) ((k:Nat):Int)=((t.take k).foldl (rq_spS c) ([],[])).2:=by
 have hj:=rq_fold c t k
 obtain ⟨ls,hls⟩:∃ z,((t.take k).foldl (rq_spS c) ([],[])).1=z:=⟨_,rfl⟩
 obtain ⟨cu,hcu⟩:∃ z,((t.take k).foldl (rq_spS c) ([],[])).2=z:=⟨_,rfl⟩
 rw [hls,hcu]at hj
 rw [hcu]
 obtain ⟨X,hX⟩:∃ z,(ls.flatMap fun l=>l++[c])=z:=⟨_,rfl⟩
 have e:t.take k=X++cu:=by rw [← hj,← hX];rfl
 have hl:k=X.length+cu.length:=by
  have:=congrArg List.length e
  rw [List.length_take,List.length_append]at this;omega
 refine ⟨by omega,?_⟩
 unfold cut
 rw [Int.toNat_natCast,Int.toNat_natCast,show k-cu.length=X.length by omega,show k-X.length=cu.length by omega]
 have e2:t=X++cu++t.drop k:=by rw [← e,List.take_append_drop]
 rw [e2,List.append_assoc,List.drop_left,List.take_left]
theorem rq_s_inv {c:UInt8} {e:Nat} {t:List UInt8}:∀ k,k≤t.length→k≤e→rq_sR c e t k=((t.take k).foldl (rq_spS c) ([],[])).1∧rq_sF c e t k=k-((t.take k).foldl (rq_spS c) ([],[])).2.length
 | 0,_,_=>by simp [rq_sR,rq_sF]
 | k+1,h,he=>by
  obtain ⟨h1,h2⟩:=rq_s_inv (c:=c) (e:=e) (t:=t) k zqo zqo
  have hc:=rq_cur_cut c t (k:=k) zqo
  have hk:k<t.length:=by omega
  rw [List.take_succ_eq_append_getElem hk,List.foldl_append]
  obtain ⟨s,hs⟩:∃ z,(t.take k).foldl (rq_spS c) ([],[])=z:=⟨_,rfl⟩
  rw [hs] at h1 h2 hc ⊢
  have hg:t.getD k 0=t[k]:=by rw [List.getD_eq_getElem?_getD,List.getElem?_eq_getElem hk];rfl
  by_cases hb:t[k]=c
  ·have hp:rq_sP c e t k=true:=by unfold rq_sP;rw [hg,hb];simp
   rw [(rq_s_hit hp).1,(rq_s_hit hp).2,h1,h2,hc.2]
   simp [rq_spS,hb]
  ·have hp:rq_sP c e t k=false:=by unfold rq_sP;rw [hg];simp [hb];omega
   rw [(rq_s_no hp).1,(rq_s_no hp).2,h1,h2]
   simp [rq_spS,hb]
theorem rq_sP_ge {c:UInt8} {e:Nat} {t:List UInt8} {k:Nat} (hk:k<t.length)(hke:k≠e):rq_sP c e t k=decide (((t.getD k 0).toNat:Int)=(c.toNat:Int)):=by
 unfold rq_sP
 rw [decide_eq_false hke,Bool.false_or]
 by_cases h:t.getD k 0=c
 ·rw [h];simp
 ·have:(t.getD k 0).toNat≠c.toNat:=fun e=>h (UInt8.toNat_inj.1 e)
  rw [decide_eq_false (by omega)];simpa using h
theorem rq_words_end (t:List UInt8):rq_sR 32 t.length t (t.length+1)=rq_wds 32 t:=by
 have hp:rq_sP 32 t.length t t.length=true:=by unfold rq_sP;simp
 obtain ⟨h1,h2⟩:=rq_s_inv (c:=32) (e:=t.length) (t:=t) t.length (Nat.le_refl _) (Nat.le_refl _)
 have hc:=rq_cur_cut 32 t (k:=t.length) (Nat.le_refl _)
 rw [(rq_s_hit hp).2,h2,hc.2,h1,List.take_length];rfl
theorem rq_lines_end (t:List UInt8):rq_sR 10 (t.length+1) t t.length=(rq_spl 10 t).1∧rq_sF 10 (t.length+1) t t.length=t.length-(rq_spl 10 t).2.length∧(rq_spl 10 t).2.length≤t.length∧cut t ((t.length-(rq_spl 10 t).2.length:Nat):Int) (t.length:Int)=(rq_spl 10 t).2:=by
 obtain ⟨h1,h2⟩:=rq_s_inv (c:=10) (e:=t.length+1) (t:=t) t.length (Nat.le_refl _) zqo
 have hc:=rq_cur_cut 10 t (k:=t.length) (Nat.le_refl _)
 rw [List.take_length] at h1 h2 hc
 exact ⟨h1,h2,hc.1,hc.2⟩
theorem rWords_FS (t:List UInt8) (hl:t.length≤1000000):Ctr Tryz.prog 97 [.sc (.string (bs t))] (.ls 1 ((rq_wds 32 t).map eTx)):=by
 rw [← rq_words_end]
 refine zqe Tryz.func97 Tryz.ntmps97 fun w0 F0=>?_;dsimp only [St.init,number,Nat.reduceAdd]
 refine zqg50 ?_
 refine W.tr (Tr.nil (t:=3) 9 1 rfl rfl) ?_
 refine W.loop (fun k:Nat=>k≤t.length+1) (fun k=>⟨[(0,.sc (.string (bs t))),(3,.sl 0),(4,.sc (.int .i64 (rq_sF 32 t.length t k:Nat))),(5,.sc (.int .i64 k))],[(0,.row 9 1 ((rq_sR 32 t.length t k).map eTx))],1⟩) (fun k=>t.length+1 - k) 0 zqo (zqt id) fun k hk=>?_
 have hf:=rq_sF_le 32 t.length t k
 have hr:=rq_sR_len 32 t.length t k
 by_cases hlt:k < t.length+1
 rotate_left
 ·obtain rfl:k=t.length+1:=by omega
  refine zqg50 ?_
  refine W.tr (Tr.freeze 0 rfl) ?_
  exact W.ret zqr
 have ek:((k:Nat):Int).toNat=k:=Int.toNat_natCast k
 have hmap:∀ x,((rq_sR 32 t.length t k++[x]).map eTx)=(rq_sR 32 t.length t k).map eTx++[eTx x]:=fun x=>by rw [List.map_append];rfl
 by_cases he:k=t.length
 ·have hp:rq_sP 32 t.length t k=true:=by unfold rq_sP;simp [he]
  obtain ⟨h1,h2⟩:=rq_s_hit hp
  clear hp
  obtain ⟨fr,hfr⟩:∃ z,rq_sF 32 t.length t k=z:=⟨_,rfl⟩
  rw [hfr] at hf h2 ⊢
  have hc:0≤((fr:Nat):Int)∧((fr:Nat):Int)≤(k:Int)∧(k:Int)≤(t.length:Int):=by omega
  refine zqg50 ?_
  refine WL.cut rfl rfl hc ?_
  refine zqg50 ?_
  refine ⟨k+1,by omega,by omega,?_⟩
  rw [h1,h2,hmap]
  exact (zqu (fun q=>bif Nat.beq q 0 then 2 else q) (by repeat (first|exact trivial|refine ⟨⟨?_,?_,?_⟩,?_⟩|rfl|exact congrArg (fun q=>some (AO.row _ _ q)) (by first|rfl|(simp;done)|(simp [eInt];done)|(simp [eLk];done)))) rfl)
 have hlt2:k < t.length:=by omega
 have hpe:=rq_sP_ge (c:=32) hlt2 he
 obtain ⟨by_,hby⟩:∃ z,((t.getD k 0).toNat:Int)=z:=⟨_,rfl⟩
 rw [hby] at hpe
 by_cases hb:by_=32
 ·obtain ⟨h1,h2⟩:=rq_s_hit (hpe.trans (decide_eq_true hb))
  obtain ⟨fr,hfr⟩:∃ z,rq_sF 32 t.length t k=z:=⟨_,rfl⟩
  rw [hfr] at hf h2 ⊢
  have hc:0≤((fr:Nat):Int)∧((fr:Nat):Int)≤(k:Int)∧(k:Int)≤(t.length:Int):=by omega
  refine zqg50 ?_
  refine WL.six rfl rfl ⟨by omega,by omega⟩ ?_
  simp only [ek,hby]
  refine zqg50 ?_
  refine WL.cut rfl rfl hc ?_
  refine zqg50 ?_
  refine ⟨k+1,by omega,by omega,?_⟩
  rw [h1,h2,hmap]
  exact (zqu (fun q=>bif Nat.beq q 0 then 2 else q) (by repeat (first|exact trivial|refine ⟨⟨?_,?_,?_⟩,?_⟩|rfl|exact congrArg (fun q=>some (AO.row _ _ q)) (by first|rfl|(simp;done)|(simp [eInt];done)|(simp [eLk];done)))) rfl)
 ·obtain ⟨h1,h2⟩:=rq_s_no (hpe.trans (decide_eq_false hb))
  obtain ⟨fr,hfr⟩:∃ z,rq_sF 32 t.length t k=z:=⟨_,rfl⟩
  rw [hfr] at hf h1 ⊢
  refine zqg50 ?_
  refine WL.six rfl rfl ⟨by omega,by omega⟩ ?_
  simp only [ek,hby]
  refine zqg50 ?_
  refine ⟨k+1,by omega,by omega,?_⟩
  rw [h1,h2]
  exact (zqu (fun q=>q) (by repeat (first|exact trivial|refine ⟨⟨?_,?_,?_⟩,?_⟩|rfl|exact congrArg (fun q=>some (AO.row _ _ q)) (by first|rfl|(simp;done)|(simp [eInt];done)|(simp [eLk];done)))) rfl)
end
section
open Go.RowKit
attribute [local go_sem]mk_bs bs_size bs_toList bs_append bs_extract
attribute [local simp]run_cut run_cut_to run_cut_from run_add_bs
theorem own_form {w:World} {base:Nat} {e:TypeId} {size n:Nat} {v:Value} {xs:List Value} (h:w.ownsRow base e size v n xs):∃ a cap,v=.slice a n cap:=by
 rcases h.2 with⟨rfl,rfl⟩|⟨g,cap,cur,rfl,_⟩
 ·exact⟨_,_,rfl⟩
 ·exact⟨_,_,rfl⟩
theorem wants_len (s c f r g h L:Int)(w:World)(hs:1≤s∧s≤4)(hc:1≤c∧c≤14)(hf:0≤f∧f≤18)(hr:0≤r∧r≤3)(hg:0≤g∧g≤4)(hh:0≤h∧h≤99)(hne:rS s c f≠[]) :
  Calls Tryz.prog 132 #[.int .u8 s,.agg #[.int .i64 c,.int .i64 f,.int .i64 r,.int .i64 g,.int .i64 h],.int .i64 L] w fun e w'=>∃ a cap,e=.returned (.slice a (wantsL s c f r g h L).length cap)∧Below w.heap.size w w':=by
 refine (wants_some s c f r g h L w hs hc hf hr hg hh hne).mono ?_
 rintro e w'⟨v,rfl,hown,hb⟩
 obtain⟨a,cap,rfl⟩:=own_form hown
 exact⟨a,cap,rfl,hb⟩
theorem wants_ok(s c f r g h L:Int)(hs:1≤s∧s≤4)(hc:1≤c∧c≤14)(hf:0≤f∧f≤18)(hne:rS s c f≠[]) :
  ((wantsL s c f r g h L).length=0∧cellOk s c f r g h L=true)∨(0<(wantsL s c f r g h L).length∧cellOk s c f r g h L=false):=by
 obtain⟨l1,_⟩:=sym_law s c f hs hc hf
 have hp:pOk s c f=true:=by rw [l1];simpa using hne
 unfold wantsL cellOk
 rw [if_neg hne,hp]
 cases okR s r<;>cases okG s g<;>cases okH s h L<;>simp
end
end Go.Proofs.YthehkchjdkdbiaaGreatDoor
