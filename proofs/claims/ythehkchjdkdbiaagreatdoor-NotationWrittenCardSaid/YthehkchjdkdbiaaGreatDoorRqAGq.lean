/- Strings in new memory as a contract over trees. -/
import Derived.Test.YthehkchjdkdbiaaGreatDoorSpGq
import Derived.Test.YthehkchjdkdbiaaGreatDoorEH0Gq
set_option maxHeartbeats 4000000
set_option maxRecDepth 100000
set_option linter.unusedVariables false
set_option linter.unusedSimpArgs false
namespace Go.Proofs.YthehkchjdkdbiaaGreatDoor
section
open Go.RowKit
def tabB (w:World) (F:View):Prop :=
 (∀ (i:Nat)v,ftL[i]?=some v→F ⟨0,i,none⟩=some (.int .i64 v))∧(∀ (i:Nat)v,bsL[i]?=some v→F ⟨1,i,none⟩=some (.int .i64 v)) ∧
 Lib.TabIs Tryz.prog w "internal/strconv.uint64pow10" .u64 Lib.pow10Tab
def gloB:Nat:=5+1
theorem pow10_at:Tryz.prog.globalNamed "internal/strconv.uint64pow10"=some 5:=by kernel_rfl
theorem var_some {w:World} {cs:Array Value} (h:w.var? Tryz.prog "internal/strconv.uint64pow10"=some cs):gloB≤w.heap.size:=by
 unfold World.var? at h
 rw [pow10_at]at h
 rcases Nat.lt_or_ge 5 w.heap.size with h1|h1
 ·exact h1
 ·simp [Array.getElem?_eq_none h1]at h
theorem stabB:Stab tabB gloB:=⟨fun w F h=>var_some h.2.2,fun w w' F F' hb hF h=>⟨fun i v x=>hF _ _ (h.1 i v x),fun i v x=>hF _ _ (h.2.1 i v x),by
 have h3:=h.2.2
 unfold Lib.TabIs World.var? at h3 ⊢
 rw [pow10_at]at h3 ⊢
 simp only [Option.bind_some]at h3 ⊢
 rw [hb _ (Nat.lt_succ_self _)];exact h3⟩⟩
theorem tab_fifths {z:Int} (h:0≤z∧z≤6):∀ w F,tabB w F→F ⟨0,z.toNat,none⟩=some (.int .i64 (ftV z)):=fun w F hB=>hB.1 _ _ (ftV_at h)
theorem tab_bases {z:Int} (h:0≤z∧z≤6):∀ w F,tabB w F→F ⟨1,z.toNat,none⟩=some (.int .i64 (basV z)):=fun w F hB=>hB.2.1 _ _ (basV_at h)
theorem Ctg.of_sc {B:World→View→Prop} {P:Program} {f:FuncId} {args:List AV} {xs:List Value} {res:AV} {v:Value} (hs:scs args=some xs)(hv:∀ F,RP F res v)(h:∀ w F,B w F→Calls P f xs.toArray w (Ret v w)):Ctg B P f args res:=by
 intro w F vs hB hF hR
 have:vs=xs:=scs_of (G:=⟨F,fun _=>0,fun _=>0,fun _=>undef,fun _ _=>False⟩) hs hR.1 fun i av u a b=>.pu _ _ (hR.2 i av u a b)
 subst this
 exact (h w F hB).mono fun e w'⟨he,hb⟩=>⟨v,F,he,hb,fun _ _ h=>h,fun p u x=>by rw [hb.cell (cell_block (hF p u x))];exact hF p u x,fun _ _ h=>.inl h,hv F⟩
theorem itoa_G (n:Int)(h:I64 n):Ctg tabB Tryz.prog 108 [.sc (.int .i64 n)] (.sc (.string (bs (Lib.itoa n)))) :=
 Ctg.of_sc (v:=.string (bs (Lib.itoa n))) rfl (fun _=>.sc _) fun w F hB=>(Tryz.strconv_Itoa n h.1 (by have:=h.2;omega) w hB.2.2).mono fun e w'⟨he,k,os,hw⟩=>⟨he,by
  subst hw
  refine⟨rfl,rfl,rfl,?_,fun i hi=>?_⟩
  ·show w.heap.size≤(w.heap++os).size
   rw [Array.size_append];omega
  ·show (w.heap++os)[i]?=w.heap[i]?
   rw [Array.getElem?_append_left hi]⟩
end
section
open Go.RowKit
def rm_at(ok:Bool)(sg t:List UInt8):Bool:=ok && sg.isPrefixOf t
def rm_R (s:Int) (t:List UInt8):Int×List UInt8 :=
 if rm_at (okR s 3) (rR s 3) t then (3,t.drop (rR s 3).length) else if rm_at (okR s 2) (rR s 2) t then (2,t.drop (rR s 2).length) else if rm_at (okR s 1) (rR s 1) t then (1,t.drop (rR s 1).length) else (0,t)
def rm_G (s:Int) (t:List UInt8):Int×List UInt8 :=
 if rm_at (okG s 4) (rG s 4) t then (4,t.drop (rG s 4).length) else if rm_at (okG s 3) (rG s 3) t then (3,t.drop (rG s 3).length) else if rm_at (okG s 2) (rG s 2) t then (2,t.drop (rG s 2).length) else if rm_at (okG s 1) (rG s 1) t then (1,t.drop (rG s 1).length) else (0,t)
def rm_H (s:Int)(fp:Bool)(t:List UInt8):Option Int :=
 if t=[]then some 0 else
 match (List.range 15).find? fun n=>fp && (decide (s=1) && (t == 95::dig2 (n+1)))with
 | some n=>some ((n:Int)+1)
 | none=>if (fp && decide (s=2∨s=4) && (t == [42]))=true then some (-1)else none
def rm_mk (s:Int)(fp:Bool)(t:List UInt8):Option (Int×Int×Int):=(rm_H s fp (rm_G s (rm_R s t).2).2).map fun h=>((rm_R s t).1,(rm_G s (rm_R s t).2).1,h)
def rm_hold(s:Int)(h:Nat):Int:=if h=0 then 0 else if s=1 then(h:Int)else -1
theorem rm_all:((List.range 4).all fun s=>(List.range 4).all fun r=>(List.range 5).all fun g=>(List.range 16).all fun h=>[true,false].all fun fp =>
  !(okR ((s:Int)+1) r && okG ((s:Int)+1) g && okH ((s:Int)+1) h 15 && (fp|| h == 0))||
  rm_mk ((s:Int)+1) fp (rR ((s:Int)+1) r++rG ((s:Int)+1) g++pH ((s:Int)+1) h 15) == some ((r:Int),(g:Int),rm_hold ((s:Int)+1) h))=true:=by decide +kernel
theorem rm_back {s:Int} {r g h:Nat} {fp:Bool} (hs:1≤s∧s≤4)(hr:r≤3)(hg:g≤4)(hh:h≤15)(h1:okR s r=true)(h2:okG s g=true)(h3:okH s h 15=true)(hf:0<h→fp=true) :
  rm_mk s fp (rR s r++rG s g++pH s h 15)=some ((r:Int),(g:Int),rm_hold s h):=by
 obtain⟨k,hk⟩:=Int.eq_ofNat_of_zero_le (show 0≤s-1 by omega)
 obtain rfl:s=(k:Int)+1:=by omega
 have h0:=List.all_eq_true.1 (List.all_eq_true.1 (List.all_eq_true.1 (List.all_eq_true.1 (List.all_eq_true.1 rm_all k (List.mem_range.2 (by omega))) r (List.mem_range.2 (by omega))) g (List.mem_range.2 (by omega))) h (List.mem_range.2 (by omega))) fp (by cases fp<;>simp)
 rw [h1,h2,h3] at h0
 have h4:(fp|| h == 0)=true:=by
  by_cases e:h=0
  ·simp [e]
  ·rw [hf (by omega)];rfl
 rw [h4] at h0
 simpa using h0
theorem rm_at_of {ok:Bool} {sg t:List UInt8} (h:rm_at ok sg t=true):ok=true∧t=sg++t.drop sg.length:=by
 unfold rm_at at h
 simp only [Bool.and_eq_true,List.isPrefixOf_iff_prefix]at h
 obtain⟨h1,u,hu⟩:=h
 refine⟨h1,?_⟩
 rw [← hu,List.drop_left]
theorem rm_R_of(s:Int)(t:List UInt8):∃ r:Nat,r≤3∧(rm_R s t).1=(r:Int)∧okR s r=true∧t=rR s r++(rm_R s t).2:=by
 unfold rm_R
 split
 ·rename_i h;obtain⟨a,b⟩:=rm_at_of h;exact⟨3,by omega,rfl,a,b⟩
 ·split
  ·rename_i h;obtain⟨a,b⟩:=rm_at_of h;exact⟨2,by omega,rfl,a,b⟩
  ·split
   ·rename_i h;obtain⟨a,b⟩:=rm_at_of h;exact⟨1,by omega,rfl,a,b⟩
   ·exact⟨0,by omega,rfl,by simp [okR],by simp [rR]⟩
theorem rm_G_of(s:Int)(t:List UInt8):∃ g:Nat,g≤4∧(rm_G s t).1=(g:Int)∧okG s g=true∧t=rG s g++(rm_G s t).2:=by
 unfold rm_G
 split
 ·rename_i h;obtain⟨a,b⟩:=rm_at_of h;exact⟨4,by omega,rfl,a,b⟩
 ·split
  ·rename_i h;obtain⟨a,b⟩:=rm_at_of h;exact⟨3,by omega,rfl,a,b⟩
  ·split
   ·rename_i h;obtain⟨a,b⟩:=rm_at_of h;exact⟨2,by omega,rfl,a,b⟩
   ·split
    ·rename_i h;obtain⟨a,b⟩:=rm_at_of h;exact⟨1,by omega,rfl,a,b⟩
    ·exact⟨0,by omega,rfl,by simp [okG],by simp [rG]⟩
theorem rm_H_of {s:Int} {fp:Bool} {t:List UInt8} {x:Int} (hs:1≤s∧s≤4)(h:rm_H s fp t=some x):∃ n:Nat,n≤15∧okH s n 15=true∧(0<n→fp=true)∧t=pH s n 15∧x=rm_hold s n:=by
 unfold rm_H at h
 split at h
 ·rename_i e
  cases h
  exact⟨0,by omega,by simp [okH],fun k=>absurd k (by omega),by simp [e,pH],rfl⟩
 ·split at h
  ·rename_i n hn
   have h1:=List.find?_some hn
   have h2:=List.mem_range.1 (List.mem_of_find?_eq_some hn)
   cases h
   simp only [Bool.and_eq_true,decide_eq_true_eq,beq_iff_eq]at h1
   obtain⟨a,rfl,b⟩:=h1
   refine⟨n+1,by omega,?_,fun _=>a,?_,?_⟩
   ·simp [okH,rH]
   ·rw [b];simp [pH,rH];omega
   ·simp [rm_hold]
  ·split at h
   ·rename_i h1
    cases h
    simp only [Bool.and_eq_true,decide_eq_true_eq,beq_iff_eq]at h1
    obtain⟨⟨a,b⟩,c⟩:=h1
    refine⟨15,by omega,?_,fun _=>a,?_,?_⟩
    ·rcases b with rfl|rfl<;>decide
    ·rcases b with rfl|rfl<;>exact c
    ·rcases b with rfl|rfl<;>rfl
   ·cases h
theorem rm_of {s:Int} {fp:Bool} {t:List UInt8} {x:Int×Int×Int} (hs:1≤s∧s≤4)(h:rm_mk s fp t=some x) :
  ∃ r g n:Nat,r≤3∧g≤4∧n≤15∧okR s r=true∧okG s g=true∧okH s n 15=true∧(0<n→fp=true)∧t=rR s r++rG s g++pH s n 15∧x=((r:Int),(g:Int),rm_hold s n):=by
 unfold rm_mk at h
 obtain⟨y,hy,rfl⟩:=Option.map_eq_some_iff.1 h
 obtain⟨r,r1,r2,r3,r4⟩:=rm_R_of s t
 obtain⟨g,g1,g2,g3,g4⟩:=rm_G_of s (rm_R s t).2
 obtain⟨n,n1,n2,n3,n4,n5⟩:=rm_H_of hs hy
 refine⟨r,g,n,r1,g1,n1,r3,g3,n2,n3,?_,by rw [r2,g2,n5]⟩
 rw [← n4,List.append_assoc,← g4,← r4]
end
section
open Go.RowKit
def eTx (t:List UInt8):List AV:=[.sc (.string (bs t))]
theorem Ctg.of_strs {B:World→View→Prop} {P:Program} {f:FuncId} {args:List AV} {xs:List Value} {T:TypeId} {L:List (List UInt8)} (hs:scs args=some xs)
  (h:∀ w F,B w F→Calls P f xs.toArray w fun e w'=>e=.returned (.slice (some ⟨w.heap.size,0,none⟩) L.length L.length)∧w'=w.alloc (.cells (L.map fun l=>Value.string (bs l)).toArray T)):Ctg B P f args (.ls 1 (L.map eTx)):=by
 intro w F vs hB hF hR
 have:vs=xs:=scs_of (G:=⟨F,fun _=>0,fun _=>0,fun _=>undef,fun _ _=>False⟩) hs hR.1 fun i av u a b=>.pu _ _ (hR.2 i av u a b)
 subst this
 refine (h w F hB).mono fun e w' ⟨he,hw⟩=>?_
 have hb:Below w.heap.size w w':=by subst hw;exact bel_alloc (Below.refl _ _) _
 have hcell:∀ (i:Nat) l,L[i]?=some l→w'.cell? ⟨w.heap.size,i,none⟩=some (.string (bs l)):=fun i l hl=>by
  have hh:w'.heap[w.heap.size]?=some (.cells (L.map fun l=>Value.string (bs l)).toArray T):=by
   subst hw
   show (w.heap.push _)[w.heap.size]?=_
   simp
  rw [Lib.cell_of_heap hh]
  simp [hl]
 refine ⟨_,newF F w w',he,hb,newF_le hF,newF_fw hF hb,newF_new,?_⟩
 have hlen:L.length=(L.map eTx).length:=by simp
 rw [hlen]
 refine .ls 1 (L.map eTx) _ _ ⟨w.heap.size,0,none⟩ (fun i j=>((L[i]?).map fun l=>Value.string (bs l)).getD undef) (by simp) (fun r hr=>?_) (fun _=>rfl) (fun i r j av hr hav=>?_) (fun i r j av hr hav=>?_)
 ·obtain ⟨l,_,rfl⟩:=List.mem_map.1 hr;rfl
 ·rw [List.getElem?_map] at hr
  cases hx:L[i]? with
  | none=>simp [hx] at hr
  | some l =>
   rw [hx] at hr
   obtain rfl:eTx l=r:=by simpa using hr
   match j,hav with
   | 0,hav =>
    refine ⟨?_,by simp [Value.oneCell']⟩
    unfold newF
    have e:Addr.add (⟨w.heap.size,0,none⟩:Addr) (i*1+0)=⟨w.heap.size,i,none⟩:=by
     simp [Addr.add]
     intro h;exact h.symm
    rw [e,if_neg (by show ¬ w.heap.size<w.heap.size;omega),hcell i l hx]
    simp
   | j+1,hav=>simp [eTx] at hav
 ·rw [List.getElem?_map] at hr
  cases hx:L[i]? with
  | none=>simp [hx] at hr
  | some l =>
   rw [hx] at hr
   obtain rfl:eTx l=r:=by simpa using hr
   match j,hav with
   | 0,hav =>
    obtain rfl:AV.sc (.string (bs l))=av:=by simpa [eTx] using hav
    simp [hx]
    exact .sc _
   | j+1,hav=>simp [eTx] at hav
end
end Go.Proofs.YthehkchjdkdbiaaGreatDoor
