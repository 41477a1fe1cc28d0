/- A walk that knows values as trees: a function that defers one function literal, which recovers. -/
import Derived.Test.YthehkchjdkdbiaaGreatDoorGYGq
import Derived.Lib.TrimU
set_option linter.unusedVariables false
set_option linter.unusedSimpArgs false
namespace Go.Proofs.YthehkchjdkdbiaaGreatDoor
section
open Go.RowKit
theorem nr_asc_sym:((List.range' 1 4).all fun s=>(List.range' 1 14).all fun c=>(List.range 19).all fun f=>(rS (s:Int) (c:Int) (f:Int)).all fun b=>decide (b.toNat<128))=true:=by decide +kernel
theorem nr_asc_mk:((List.range' 1 4).all fun s=>((List.range 4).all fun r=>(rR (s:Int) (r:Int)).all fun b=>decide (b.toNat<128)) && ((List.range 5).all fun g=>(rG (s:Int) (g:Int)).all fun b=>decide (b.toNat<128)) && ((List.range 16).all fun h=>(pH (s:Int) (h:Int) 15).all fun b=>decide (b.toNat<128)))=true:=by decide +kernel
theorem nr_ascii {s crs:Int} {w:List UInt8} {c f r g h:Nat} (hsp:spotErr s crs=0) (a:pcOk s crs 15 w c f r g h):∀ b∈w,b.toNat<128:=by
 have hs:=spotErr_sys hsp
 obtain ⟨a1,a2,a3,a4⟩:=a
 obtain ⟨a5,a6,a7⟩:=stM_ok a4
 obtain ⟨l1,l2⟩:=sym_law s c f hs zqo zqo
 unfold cellOk at a6
 simp only [Bool.and_eq_true] at a6
 obtain ⟨k,rfl⟩:=Int.eq_ofNat_of_zero_le (show 0≤s by omega)
 have h1:=List.all_eq_true.1 (List.all_eq_true.1 (List.all_eq_true.1 (List.all_eq_true.1 nr_asc_sym k (List.mem_range'_1.2 zqo)) c (List.mem_range'_1.2 zqo)) f (List.mem_range.2 zqo))
 have h2:=List.all_eq_true.1 nr_asc_mk k (List.mem_range'_1.2 zqo)
 simp only [Bool.and_eq_true] at h2
 have h3:=List.all_eq_true.1 (List.all_eq_true.1 h2.1.1 r (List.mem_range.2 zqo))
 have h4:=List.all_eq_true.1 (List.all_eq_true.1 h2.1.2 g (List.mem_range.2 zqo))
 have h5:=List.all_eq_true.1 (List.all_eq_true.1 h2.2 h (List.mem_range.2 zqo))
 intro b hb
 rw [← a7] at hb
 unfold cellS at hb
 rw [l2 a6.1.1.1] at hb
 simp only [List.mem_append] at hb
 rcases hb with((x|x)|x)|x
 ·exact of_decide_eq_true (h1 b x)
 ·exact of_decide_eq_true (h3 b x)
 ·exact of_decide_eq_true (h4 b x)
 ·exact of_decide_eq_true (h5 b x)
def nr_NoP(s crs:Int)(w:List UInt8)(pos:Nat):Prop:=∀ c f r g h:Nat,pcOk s crs 15 w c f r g h→pos≤(rS s c f).length
theorem nr_NoP_0(s crs:Int)(w:List UInt8):nr_NoP s crs w 0:=fun _ _ _ _ _ _=>Nat.zero_le _
theorem nr_get {l:List UInt8} {i:Nat} (h:i<l.length):(bs l)[i]'(by rw [bs_size];exact h)=l[i]:=by
 have:(bs l).data.toList=l:=bs_data l
 simp only [ByteArray.getElem_eq_getElem_data]
 rw [← Array.getElem_toList]
 congr 1
theorem nr_NoP_s {s crs:Int} {w:List UInt8} {pos:Nat} (hsp:spotErr s crs=0) (hp:pos<w.length+1) (hN:nr_NoP s crs w pos)
  (hno:pos=0∨∀ c f:Nat,placeOf s crs (w.take pos)=((c:Int),(f:Int),0)→rm_mk s (decide (0<(f:Int))) (w.drop pos)=none):nr_NoP s crs w (pos+(Utf8.decode (bs (w++[32])) pos).2):=by
 intro c f r g h a
 have h1:=hN c f r g h a
 obtain ⟨b1,b2,b3,b4⟩:=rm_complete hsp a
 have hlt:pos<(rS s c f).length:=by
  rcases Nat.lt_or_ge pos (rS s c f).length with k|k
  ·exact k
  ·exfalso
   have e:(rS s c f).length=pos:=by omega
   rw [e] at b3 b4
   rcases hno with h0|hno
   ·omega
   ·rw [hno c f b3] at b4;cases b4
 have hpw:pos<w.length:=by omega
 have hsz:pos<(bs (w++[32])).size:=by rw [bs_size,List.length_append];simp;omega
 have hb:((bs (w++[32]))[pos]'hsz).toNat<128:=by
  rw [nr_get (by rw [List.length_append];simp;omega),List.getElem_append_left hpw]
  exact nr_ascii hsp a _ (List.getElem_mem hpw)
 rw [decode_ascii _ _ hsz hb]
 exact hlt
theorem nr_NoP_end {s crs:Int} {w:List UInt8} {pos:Nat} (hsp:spotErr s crs=0)(hp:w.length+1≤pos)(hN:nr_NoP s crs w pos):nr_cl s crs w=none :=
 nr_cl_none.1 fun c f r g h a=>by
  have h1:=hN c f r g h a
  obtain⟨b1,b2,b3,b4⟩:=rm_complete hsp a
  omega
def eWr (s:Int)(x:N5):List AV:=[.sc (.int .i64 x.1),.sc (.int .i64 x.2.1),.sc (.int .i64 x.2.2.1),.sc (.int .i64 x.2.2.2.1),.sc (.int .i64 0),.sc (.int .i64 (rm_hold s x.2.2.2.2))]
theorem nr_hit {s crs:Int} {w:List UInt8} {n:Nat} {c f:Nat} {x:Int×Int×Int} (hsp:spotErr s crs=0) (h1:1≤n) (hn:n≤w.length) (hp:placeOf s crs (w.take n)=((c:Int),(f:Int),0)) (hm:rm_mk s (decide (0<(f:Int))) (w.drop n)=some x) :
  ∃ y:N5,nr_cl s crs w=some y∧(c:Int)=(y.1:Int)∧(f:Int)=(y.2.1:Int)∧x.1=(y.2.2.1:Int)∧x.2.1=(y.2.2.2.1:Int)∧x.2.2=rm_hold s y.2.2.2.2:=by
 obtain ⟨c',f',r,g,h,e1,e2,a,rfl⟩:=rm_sound hsp h1 hn hp hm
 exact ⟨(c',f',r,g,h),nr_cl_some hsp a,e1,e2,rfl,rfl,rfl⟩
end
section
open Go.RowKit
def nr_crsE(e:Ev):List Int×Bool:=(e.stops.map fun x=>x.1,restB e)
theorem nr_hasB(c:Int)(l:List Stp):hasB c l=(l.map fun x=>x.1).any fun x=>x == c:=by
 unfold hasB;rw [List.any_map];rfl
theorem nr_runL {c:Int}:∀ (k:Nat) {l m:List Ev},l.map nr_crsE=m.map nr_crsE→runL c k l=runL c k m
 | 0,l,m,_=>by simp [runL]
 | k+1,[],[],_=>rfl
 | k+1,[],y::m,h=>by simp at h
 | k+1,x::l,[],h=>by simp at h
 | k+1,x::l,y::m,h=>by
  rw [List.map_cons,List.map_cons] at h
  obtain⟨h1,h2⟩:=List.cons.inj h
  unfold nr_crsE at h1
  obtain⟨h3,h4⟩:=Prod.mk.inj h1
  have ih:=nr_runL (c:=c) k h2
  unfold runL
  rw [h4,nr_hasB,nr_hasB,h3,ih]
theorem nr_longest {l m:List Ev} (h:l.map nr_crsE=m.map nr_crsE) (i c:Int):longestN l i c=longestN m i c:=by
 have hl:l.length=m.length:=by have:=congrArg List.length h;simpa using this
 unfold longestN
 rw [hl,nr_runL 15 (l:=l.drop (i.toNat+1)) (m:=m.drop (i.toNat+1)) (by rw [List.map_drop,List.map_drop,h])]
def nr_stp(w:N5→Int)(n:N5):Stp:=(n.1,n.2.1,n.2.2.1,n.2.2.2.1,w n)
def nr_stK (U V:N5→Int)(k:Nat)(l:List N5):List Stp:=(l.take k).map (nr_stp V)++(l.drop k).map (nr_stp U)
def nr_stN (U:N5→Int)(V:Nat→N5→Int)(E:List NC)(n k:Nat):List Ev :=
 E.mapIdx fun i x=>if i<n then nr_evW x (V i) else if i=n then { nr_evW x U with stops:=nr_stK U (V n) k x.l } else nr_evW x U
section
variable {U:N5→Int} {V:Nat→N5→Int} {E:List NC} {n k:Nat}
theorem nr_stN_len:(nr_stN U V E n k).length=E.length:=List.length_mapIdx
theorem nr_stK_0 (U V:N5→Int)(l:List N5):nr_stK U V 0 l=l.map (nr_stp U):=by unfold nr_stK;simp
theorem nr_stK_all (U V:N5→Int)(l:List N5):nr_stK U V l.length l=l.map (nr_stp V):=by unfold nr_stK;simp
theorem nr_stK_len(U V:N5→Int)(k:Nat)(l:List N5):(nr_stK U V k l).length=l.length:=by
 unfold nr_stK;rw [List.length_append,List.length_map,List.length_map,List.length_take,List.length_drop];omega
theorem nr_stK_get {V:N5→Int} {l:List N5} (h:k<l.length):(nr_stK U V k l)[k]?=some (nr_stp U l[k]):=by
 unfold nr_stK
 have hl:((l.take k).map (nr_stp V)).length=k:=by rw [List.length_map,List.length_take];omega
 rw [List.getElem?_append_right (by omega),hl,Nat.sub_self,List.getElem?_map,List.getElem?_drop,Nat.add_zero,List.getElem?_eq_getElem h];rfl
theorem nr_stK_put {V:N5→Int} {l:List N5} (h:k<l.length):(nr_stK U V k l).set k (nr_stp V l[k])=nr_stK U V (k+1) l:=by
 unfold nr_stK
 have hl:((l.take k).map (nr_stp V)).length=k:=by rw [List.length_map,List.length_take];omega
 rw [List.set_append_right _ _ (by omega),hl,Nat.sub_self,List.drop_eq_getElem_cons h,List.map_cons,List.set_cons_zero,List.take_succ_eq_append_getElem h,List.map_append,List.append_assoc];rfl
theorem nr_stK_same {V:N5→Int} {l:List N5} (h:k<l.length) (e:V l[k]=U l[k]):nr_stK U V (k+1) l=nr_stK U V k l:=by
 rw [← nr_stK_put h]
 have h1:=nr_stK_get (U:=U) (V:=V) h
 have hk:k<(nr_stK U V k l).length:=by rw [nr_stK_len];exact h
 rw [List.getElem?_eq_getElem hk] at h1
 have h2:=Option.some.inj h1
 have h3:nr_stp V l[k]=nr_stp U l[k]:=by unfold nr_stp;rw [e]
 rw [h3,← h2,List.set_getElem_self]
theorem nr_stN_0 (U:N5→Int)(V:Nat→N5→Int)(E:List NC):nr_stN U V E 0 0=E.map fun x=>nr_evW x U:=by
 apply List.ext_getElem (by rw [nr_stN_len,List.length_map])
 intro i h1 h2
 simp only [nr_stN,List.getElem_mapIdx,List.getElem_map,Nat.not_lt_zero,if_false]
 split
 ·rw [nr_stK_0];rfl
 ·rfl
theorem nr_stN_all (U:N5→Int)(V:Nat→N5→Int)(E:List NC):nr_stN U V E E.length 0=E.mapIdx fun i x=>nr_evW x (V i):=by
 apply List.ext_getElem (by rw [nr_stN_len,List.length_mapIdx])
 intro i h1 h2
 have hi:i<E.length:=by rw [List.length_mapIdx]at h2;exact h2
 simp only [nr_stN,List.getElem_mapIdx]
 rw [if_pos hi]
theorem nr_stN_next (h:n<E.length):nr_stN U V E n E[n].l.length=nr_stN U V E (n+1) 0:=by
 apply List.ext_getElem (by rw [nr_stN_len,nr_stN_len])
 intro i h1 h2
 simp only [nr_stN,List.getElem_mapIdx]
 by_cases e1:i<n
 ·rw [if_pos e1,if_pos (by omega)]
 ·rw [if_neg e1]
  by_cases e2:i=n
  ·subst e2
   rw [if_pos rfl,if_pos (by omega),nr_stK_all];rfl
  ·rw [if_neg e2,if_neg (by omega)]
   split
   ·rw [nr_stK_0];rfl
   ·rfl
theorem nr_stN_at (h:n<E.length):(nr_stN U V E n k)[n]?=some { nr_evW E[n] U with stops:=nr_stK U (V n) k E[n].l }:=by
 rw [List.getElem?_eq_getElem (by rw [nr_stN_len];exact h)]
 simp only [nr_stN,List.getElem_mapIdx]
 simp
theorem nr_stN_set (h:n<E.length)(f:Ev→List AV)(j:Nat):((nr_stN U V E n j).map f).set n (f { nr_evW E[n] U with stops:=nr_stK U (V n) k E[n].l })=(nr_stN U V E n k).map f:=by
 rw [← List.map_set]
 congr 1
 apply List.ext_getElem (by rw [List.length_set,nr_stN_len,nr_stN_len])
 intro i h1 h2
 rw [List.getElem_set]
 simp only [nr_stN,List.getElem_mapIdx]
 by_cases e:n=i
 ·subst e
  rw [if_pos rfl,if_neg (Nat.lt_irrefl n),if_pos rfl]
 ·rw [if_neg e]
  by_cases e2:i<n
  ·rw [if_pos e2,if_pos e2]
  ·rw [if_neg e2,if_neg (fun h=>e h.symm),if_neg e2,if_neg (fun h=>e h.symm)]
theorem nr_evW_crs (x:NC)(w w':N5→Int):nr_crsE (nr_evW x w)=nr_crsE (nr_evW x w'):=by
 unfold nr_crsE nr_evW restB
 simp [Function.comp_def]
theorem nr_stK_crs (U V:N5→Int)(k:Nat)(l:List N5):(nr_stK U V k l).map (fun x=>x.1)=l.map fun x=>(x.1:Int):=by
 unfold nr_stK
 rw [List.map_append,List.map_map,List.map_map]
 have:∀ w:N5→Int,((fun x:Stp=>x.1) ∘ nr_stp w)=fun x=>(x.1:Int):=fun w=>rfl
 rw [this,this,← List.map_append,List.take_append_drop]
theorem nr_stN_crs:(nr_stN U V E n k).map nr_crsE=(E.map nr_ev0).map nr_crsE:=by
 apply List.ext_getElem (by simp [nr_stN_len])
 intro i h1 h2
 rw [List.getElem_map,List.getElem_map,List.getElem_map]
 simp only [nr_stN,List.getElem_mapIdx]
 split
 ·exact nr_evW_crs _ _ _
 ·split
  ·unfold nr_crsE restB nr_ev0 nr_evW
   dsimp only
   rw [nr_stK_crs,nr_stK_len]
   simp [Function.comp_def]
  ·exact nr_evW_crs _ _ _
theorem nr_stN_long (i:Nat)(c:Int):longestN (nr_stN U V E n k) i c=longestN (E.map nr_ev0) i c:=nr_longest nr_stN_crs _ _
theorem nr_stN_stops {i:Nat} (h:i<E.length):((nr_stN U V E n k)[i]'(by rw [nr_stN_len];exact h)).stops.length=E[i].l.length:=by
 simp only [nr_stN,List.getElem_mapIdx]
 split
 ·exact List.length_map _
 ·split
  ·exact nr_stK_len _ _ _ _
  ·exact List.length_map _
end
theorem nr_getD {E:List NC} {i:Nat} (h:i<E.length):(E[i]?).getD ⟨false,0,0,false,[]⟩=E[i]:=by rw [List.getElem?_eq_getElem h];rfl
theorem nr_hB_at {s:Int} {E:List NC} {i k:Nat} (hi:i<E.length) (h0:∀ j (hj:j<E.length),j<i→E[j].l.any (nr_hE s E j)=false) (hk:k<E[i].l.length) (h1:nr_hE s E i E[i].l[k]=true):nr_hB s E=some i:=by
 unfold nr_hB
 have e:List.range E.length=List.range i++i::List.range' (i+1) (E.length-(i+1)):=by
  obtain ⟨d,hd⟩:∃ d,E.length-(i+1)=d:=⟨_,rfl⟩
  rw [hd,show E.length=i+(d+1) by omega,List.range_eq_range',List.range_eq_range',← List.range'_append_1,List.range'_succ]
  simp
 rw [e,List.find?_append,List.find?_eq_none.2 fun j hj=>by
  have hj2:=List.mem_range.1 hj
  rw [nr_getD (by omega),h0 j (by omega) hj2];decide]
 rw [Option.none_or,List.find?_cons_of_pos]
 rw [nr_getD hi]
 exact List.any_eq_true.2 ⟨_,List.getElem_mem hk,h1⟩
theorem nr_hB_none {s:Int} {E:List NC} (h0:∀ j (hj:j<E.length),E[j].l.any (nr_hE s E j)=false):nr_hB s E=none:=by
 unfold nr_hB
 rw [List.find?_eq_none]
 intro j hj
 have hj2:=List.mem_range.1 hj
 rw [nr_getD hj2,h0 j hj2];decide
theorem nr_any_s {α:Type} {f:α→Bool} {l:List α} (h:∀ k(hk:k<l.length),f l[k]=false):l.any f=false:=by
 rw [List.any_eq_false]
 intro x hx
 obtain⟨k,hk,rfl⟩:=List.mem_iff_getElem.1 hx
 rw [h k hk];decide
end
section
open Go.RowKit
section
variable {s:Int} {n:Nat} {W:List (List UInt8)}
theorem nr_wd_on {i:Nat} {w:List UInt8} {x:N5} (hi:i<n) (h:nr_wd s n i w=some (some x)):x.1=i+1:=by
 unfold nr_wd at h
 rw [if_pos hi] at h
 split at h
 ·cases h
 ·obtain ⟨y,hy,e⟩:=Option.map_eq_some_iff.1 h
  cases e
  exact nr_cl_crs (c:=i+1) zqo hy
theorem nr_wd_out {i:Nat} {w:List UInt8} {x:N5} (hi:n≤i)(h:nr_wd s n i w=some (some x)):s=4∨6<x.1:=by
 unfold nr_wd at h
 rw [if_neg (by omega)]at h
 obtain⟨y,hy,e⟩:=Option.map_eq_some_iff.1 h
 cases e
 exact nr_cl_out hy
theorem nr_wd_out_some {i:Nat} {w:List UInt8} (hi:n≤i)(h:(nr_wd s n i w).isSome=true):∃ x,nr_wd s n i w=some (some x):=by
 unfold nr_wd at h ⊢
 rw [if_neg (by omega)]at h ⊢
 cases hc:nr_cl s 0 w with
 | none=>rw [hc]at h;cases h
 | some x=>exact⟨x,rfl⟩
theorem nr_x_note {k:Nat} (h:k<W.length) {x:N5} (hx:nr_wd s n k W[k]=some (some x)):nr_x s n W k=[x]:=by rw [nr_x_at h,hx];rfl
theorem nr_x_dash {k:Nat} (h:k<W.length)(hx:nr_wd s n k W[k]=some none):nr_x s n W k=[]:=by rw [nr_x_at h,hx];rfl
theorem nr_x_on {i:Nat} (hi:i<n) {y:N5} (hy:y∈nr_x s n W i):y.1=i+1:=by
 unfold nr_x at hy
 cases hw:nr_wd s n i ((W[i]?).getD [])with
 | none=>rw [hw]at hy;cases hy
 | some o =>
  rw [hw]at hy
  cases o with
  | none=>cases hy
  | some z =>
   obtain rfl:y=z:=by simpa using hy
   exact nr_wd_on hi hw
theorem nr_x_out {i:Nat} (hi:n≤i) {y:N5} (hy:y∈nr_x s n W i):s=4∨6<y.1:=by
 unfold nr_x at hy
 cases hw:nr_wd s n i ((W[i]?).getD [])with
 | none=>rw [hw]at hy;cases hy
 | some o =>
  rw [hw]at hy
  cases o with
  | none=>cases hy
  | some z =>
   obtain rfl:y=z:=by simpa using hy
   exact nr_wd_out hi hw
theorem nr_L_mem {k:Nat} {y:N5}:y∈nr_L s n W k↔∃ i,i<k∧y∈nr_x s n W i:=by
 unfold nr_L
 rw [List.mem_flatMap]
 exact⟨fun⟨i,h1,h2⟩=>⟨i,List.mem_range.1 h1,h2⟩,fun⟨i,h1,h2⟩=>⟨i,List.mem_range.2 h1,h2⟩⟩
theorem nr_x_one (i:Nat):(nr_x s n W i).length≤1:=by
 unfold nr_x
 cases ((nr_wd s n i ((W[i]?).getD [])).getD none)<;>simp
theorem nr_asc_app {a b:List N5} (ha:nr_asc a) (hb:nr_asc b) (h:∀ x∈a,∀ y∈b,x.1<y.1):nr_asc (a++b):=List.pairwise_append.2 ⟨ha,hb,h⟩
theorem nr_asc_one {l:List N5} (h:l.length≤1):nr_asc l:=by
 match l,h with
 | [],_=>exact List.Pairwise.nil
 | [x],_=>exact List.pairwise_singleton _ _
theorem nr_L_on:∀ {k:Nat},k≤n→nr_asc (nr_L s n W k)
 | 0,_=>List.Pairwise.nil
 | k+1,h=>by
  rw [nr_L_s]
  refine nr_asc_app (nr_L_on zqo) (nr_asc_one (nr_x_one k)) fun x hx y hy=>?_
  obtain ⟨i,hi,hxi⟩:=nr_L_mem.1 hx
  rw [nr_x_on (by omega) hxi,nr_x_on (by omega) hy];omega
noncomputable def nr_last (s:Int)(n:Nat)(W:List (List UInt8))(k:Nat):Nat:=if k≤n then 0 else (((nr_x s n W (k-1)).head?).getD (0,0,0,0,0)).1
theorem nr_last_0 {k:Nat} (h:k≤n):nr_last s n W k=0:=if_pos h
theorem nr_last_s {k:Nat} (h:n≤k) {x:N5} (hx:nr_x s n W k=[x]):nr_last s n W (k+1)=x.1:=by
 unfold nr_last
 rw [if_neg (by omega),Nat.add_sub_cancel,hx];rfl
theorem nr_L_step {k:Nat} (h6:n≤6) (h4:s=4→n=0) (hk:n≤k) (hok:∀ i (h:i<W.length),i<k→(nr_wd s n i W[i]).isSome=true) (hkl:k≤W.length) (ha:nr_asc (nr_L s n W k)) {x:N5} (hx:nr_x s n W k=[x]) :
  nr_asc (nr_L s n W (k+1))↔nr_last s n W k<x.1:=by
 have hx1:=nr_x_bd (s:=s) (n:=n) (W:=W) (i:=k) (x:=x) (by rw [hx];simp)
 rw [nr_L_s,hx]
 by_cases e:k=n
 ·subst e
  rw [nr_last_0 (Nat.le_refl _)]
  refine ⟨fun _=>by omega,fun _=>nr_asc_app ha (nr_asc_one (by simp)) fun y hy z hz=>?_⟩
  obtain rfl:=List.mem_singleton.1 hz
  obtain ⟨i,hi,hyi⟩:=nr_L_mem.1 hy
  have h1:=nr_x_on hi hyi
  rcases nr_x_out (s:=s) (n:=k) (W:=W) (Nat.le_refl k) (by rw [hx];simp:z∈_) with h5|h5
  ·have:=h4 h5;omega
  ·omega
 ·obtain ⟨j,rfl⟩:∃ j,k=j+1:=⟨k-1,by omega⟩
  obtain ⟨y,hy⟩:=nr_wd_out_some (i:=j) zqo (hok j zqo zqo)
  have hyx:=nr_x_note zqo hy
  rw [nr_last_s (by omega) hyx]
  rw [nr_L_s,hyx] at ha ⊢
  constructor
  ·intro h
   exact (List.pairwise_append.1 h).2.2 y (by simp) x (by simp)
  ·intro h
   refine nr_asc_app ha (nr_asc_one (by simp)) fun z hz u hu=>?_
   obtain rfl:=List.mem_singleton.1 hu
   rcases List.mem_append.1 hz with q|q
   ·have:=(List.pairwise_append.1 ha).2.2 z q y (by simp)
    omega
   ·obtain rfl:=List.mem_singleton.1 q
    exact h
theorem nr_asc_pre {a b:List N5} (h:a <+: b)(hb:nr_asc b):nr_asc a:=hb.sublist h.sublist
end
end
section
open Go.RowKit
section
variable {B:World→View→Prop} {gl:Nat} {P:Program} {f:FuncId} {args:List AV} {res:AV} {M M' X:List (Nat×AO)} {nk nk':Nat}
theorem Kept.mono_ {S S':Nat→Prop} {w w':World} (h:Kept S w w')(hs:∀ x,S x→S' x):Kept S' w w':=⟨h.os,h.tape,h.output,h.size,fun i hi hn=>h.block i hi fun x=>hn (hs i x)⟩
theorem Obs.fr {G:Gh} {w:World} (hO:Obs G w (M++X) nk):Obs G w M nk∧∀ k o,look k M=some o→look k (M++X)=some o:=by
 have hM:∀ k o,look k M=some o→look k (M++X)=some o:=fun k o h=>by rw [look_app_,h];rfl
 exact ⟨⟨hO.fw,fun k o h=>hO.ob k o (hM k o h),fun k o x h=>hO.my k o x (hM k o h),fun k o k' o' x h h'=>hO.dj k o k' o' x (hM k o h) (hM k' o' h'),fun k o x p u h=>hO.dF k o x p u (hM k o h)⟩,hM⟩
theorem Cto.frame (h:Cto B gl P f args M nk res M' nk') (hX:∀ k o,look k X=some o→look k M=none∧look k M'=none):Cto B gl P f args (M++X) nk res (M'++X) nk':=by
 intro w G vs hB hlo hO hl hR
 obtain ⟨hO1,hM⟩:=hO.fr
 have hXl:∀ k o,look k X=some o→look k (M++X)=some o:=fun k o h=>by rw [look_app_,(hX k o h).1,h];rfl
 have hf:∀ x,fpM G M x→fpM G (M++X) x:=fun x ⟨k,o,h1,h2⟩=>⟨k,o,hM k o h1,h2⟩
 have hnX:∀ k o x,look k X=some o→G.fp k x→¬ fpM G M x:=fun k o x h1 h2 ⟨k',o',h3,h4⟩=>by
  have:=hO.dj k o k' o' x (hXl k o h1) (hM k' o' h3) h2 h4
  subst this
  rw [(hX k o h1).1] at h3;cases h3
 refine (h w G vs hB (fun x hx=>hlo x (hf x hx)) hO1 hl hR).mono ?_
 rintro e w1 ⟨v,G',he,q1,q2,q3,q4,q5,q6,q7,q8,q9⟩
 let G'':Gh:=⟨G'.F,G'.b,G'.n,G'.h,fun k=>match look k M' with
  | some _=>G'.fp k
  | none=>G.fp k⟩
 have hfM:∀ k o,look k M'=some o→G''.fp k=G'.fp k:=fun k o h=>by
  show (match look k M' with|some _=>G'.fp k|none=>G.fp k)=_
  rw [h]
 have hfX:∀ k,look k M'=none→G''.fp k=G.fp k:=fun k h=>by
  show (match look k M' with|some _=>G'.fp k|none=>G.fp k)=_
  rw [h]
 have hle1:G'.le G'' nk':=⟨fun _ _ h=>h,fun _ _=>rfl,fun _ _=>rfl,fun _ _=>rfl⟩
 have hle0:G.le G'' nk:=⟨q2,fun k hk=>(q6 k hk).1,fun k hk=>(q6 k hk).2.1,fun k hk=>(q6 k hk).2.2⟩
 have hlk:∀ k o,look k (M'++X)=some o→(look k M'=some o)∨(look k M'=none∧look k X=some o):=fun k o h=>by
  rw [look_app_] at h
  cases hm:look k M' with
  | some x=>rw [hm] at h;exact .inl h
  | none=>rw [hm] at h;exact .inr ⟨rfl,h⟩
 have hold:∀ k o x,look k X=some o→G.fp k x→x < w.heap.size:=fun k o x h1 h2=>hO.my k o x (hXl k o h1) h2
 have hnew:∀ k o x,look k M'=some o→G'.fp k x→w.heap.size≤x∨fpM G M x:=q5
 refine ⟨v,G'',he,q1.mono_ hf,q2,fun p u hp=>?_,⟨q4.fw,fun k o hk=>?_,fun k o x hk hx=>?_,fun k o k' o' x hk hk' hx hx'=>?_,fun k o x p u hk hx hp=>?_⟩,fun k o x hk hx=>?_,q6,q7,q8,q9.mono hle1 q8⟩
 ·rcases q3 p u hp with g|g|g
  ·exact .inl g
  ·exact .inr (.inl g)
  ·exact .inr (.inr (hf _ g))
 ·rcases hlk k o hk with g|⟨g1,g2⟩
  ·obtain ⟨a1,a2,a3⟩:=q4.ob k o g
   exact ⟨a1,a2,a3.keep hle1 a1 a2 (hfM k o g) fun _ _=>rfl⟩
  ·obtain ⟨a1,a2,a3⟩:=hO.ob k o (hXl k o g2)
   exact ⟨Nat.lt_of_lt_of_le a1 q7,AO.bd_mono q7 a2,a3.keep hle0 a1 a2 (hfX k g1) fun x hx=>q1.block x (hold k o x g2 hx) (hnX k o x g2 hx)⟩
 ·rcases hlk k o hk with g|⟨g1,g2⟩
  ·rw [hfM k o g] at hx;exact q4.my k o x g hx
  ·rw [hfX k g1] at hx;exact Nat.lt_of_lt_of_le (hold k o x g2 hx) q1.size
 ·rcases hlk k o hk with g|⟨g1,g2⟩<;>rcases hlk k' o' hk' with g'|⟨g1',g2'⟩
  ·rw [hfM k o g] at hx;rw [hfM k' o' g'] at hx';exact q4.dj k o k' o' x g g' hx hx'
  ·rw [hfM k o g] at hx;rw [hfX k' g1'] at hx'
   rcases hnew k o x g hx with z|z
   ·have:=hold k' o' x g2' hx';omega
   ·exact absurd z (hnX k' o' x g2' hx')
  ·rw [hfM k' o' g'] at hx';rw [hfX k g1] at hx
   rcases hnew k' o' x g' hx' with z|z
   ·have:=hold k o x g2 hx;omega
   ·exact absurd z (hnX k o x g2 hx)
  ·rw [hfX k g1] at hx;rw [hfX k' g1'] at hx'
   exact hO.dj k o k' o' x (hXl k o g2) (hXl k' o' g2') hx hx'
 ·rcases hlk k o hk with g|⟨g1,g2⟩
  ·rw [hfM k o g] at hx;exact q4.dF k o x p u g hx hp
  ·rw [hfX k g1] at hx
   rcases q3 p u hp with z|z|z
   ·exact hO.dF k o x p u (hXl k o g2) hx z
   ·have:=hold k o x g2 hx;omega
   ·exact fun e=>hnX k o x g2 hx (e ▸ z)
 ·rcases hlk k o hk with g|⟨g1,g2⟩
  ·rw [hfM k o g] at hx
   rcases hnew k o x g hx with z|z
   ·exact .inl z
   ·exact .inr (hf _ z)
  ·rw [hfX k g1] at hx
   exact .inr ⟨k,o,hXl k o g2,hx⟩
theorem look_two {k:Nat} {o a b:AO} (h:look k [(1,a),(2,b)]=some o):k=1∨k=2:=by
 by_cases e:k=1
 ·exact .inl e
 ·by_cases e2:k=2
  ·exact .inr e2
  ·rw [look_set_other e,look_set_other e2]at h;cases h
theorem Cto.fr2 {o o' a b:AO} (h:Cto B gl P f args [(0,o)] nk res [(0,o')] nk'):Cto B gl P f args [(0,o),(1,a),(2,b)] nk res [(0,o'),(1,a),(2,b)] nk' :=
 Cto.frame (X:=[(1,a),(2,b)]) h fun k ob hk=>by
  rcases look_two hk with rfl|rfl<;>exact⟨rfl,rfl⟩
theorem Ctp.frame {pv:Value} (h:Ctp B gl P f args M nk pv):Ctp B gl P f args (M++X) nk pv:=by
 intro w G vs hB hlo hO hl hR
 obtain⟨hO1,hM⟩:=hO.fr
 have hf:∀ x,fpM G M x→fpM G (M++X) x:=fun x⟨k,o,h1,h2⟩=>⟨k,o,hM k o h1,h2⟩
 exact (h w G vs hB (fun x hx=>hlo x (hf x hx)) hO1 hl hR).mono fun e w1⟨g1,g2,g3⟩=>⟨g1,g2.mono_ hf,g3⟩
end
end
section
open Go.RowKit
def CtoD (P:Program)(f:FuncId)(args:List AV)(M:List (Nat×AO))(nk:Nat)(u u':FrameMode)(M':List (Nat×AO)):Prop :=
 ∀ (w:World)(G:Gh)(vs:List Value),Obs G w M nk→vs.length=args.length→(∀ (i:Nat) av u,args[i]?=some av→vs[i]?=some u→R G av u) →
  CallsD P f vs.toArray u w fun e u2 w'=>u2=u'∧∃ v G',e=.returned v∧Kept (fpM G M) w w'∧View.le G.F G'.F∧(∀ p u,G'.F p=some u→G.F p=some u∨w.heap.size≤p.block∨fpM G M p.block)∧Obs G' w' M' nk ∧
   (∀ k o x,look k M'=some o→G'.fp k x→w.heap.size≤x∨fpM G M x)∧(∀ k,k<nk→G'.b k=G.b k∧G'.n k=G.n k∧G'.h k=G.h k)
theorem CtoD.intro {P:Program} {f:FuncId} {fn:Func} {id:Nat} {o:Oper} {d:Tmp} {c:Code} {args:List AV} {M:List (Nat×AO)} {nk:Nat} {res:AV} {M':List (Nat×AO)} {u u':FrameMode} {rv:Value} (hf:P.funcs[f]?=some fn) (hb:fn.body=some (.seq (.region id #[o] false) c)) {N:Nat} (hN:fn.ntmps=N) (hn:args.length≤N)
  (hp:args.all (AV.inn nk)=true) (hg:o.guard=none) (hd:o.dst=some d) (hdN:Nat.blt d N=true) (ho:∀ (a:Act) w,(execOp a.eval o).run P w=.ok .recover w)
  (hrec:∀ (c₀:Frame) (cs:List Frame),c₀.mode=u→recoverD (c₀::cs)=some (rv,{ c₀ with mode:=u' }::cs)∨(recoverD (c₀::cs)=none∧rv=.nilIface∧u'=u))
  (h:∀ w0 F0 fp pg,W P ⟨w0,F0,N,fp,nk,pg,[]⟩ c ⟨(d,.sc rv)::number 0 args,M,nk⟩ (QFinM P fn ⟨w0,F0,N,fp,nk,pg,[]⟩ res M' nk)):CtoD P f args M nk u u' M':=by
 intro w G vs hO hl hR
 subst hN
 refine callsD_of_wpS hf hb fun c₀ cs hu=>?_
 refine wpS_seq (wpS_region ?_)
 have ok0:Ok ⟨w,G.F,fn.ntmps,fpM G M,nk,G,[]⟩ ⟨number 0 args,M,nk⟩ G { tmps:=vs.toArray++Array.replicate (fn.ntmps - vs.toArray.size) undef,defers:=[] } w :=
  ⟨by simp;omega,⟨rfl,Nat.le_refl _,fun k _=>⟨rfl,rfl,rfl⟩⟩,fun i av hx=>by
   obtain ⟨_,h2⟩:=look_number args 0 i av hx
   simp only [Nat.sub_zero] at h2
   have hi:i < args.length:=(List.getElem?_eq_some_iff.1 h2).1
   have hv:i < vs.length:=by omega
   refine ⟨by show i < fn.ntmps;omega,inn_bd (List.all_eq_true.1 hp av (List.mem_of_getElem? h2)),hR i av _ h2 ?_⟩
   simp [Array.getD_eq_getD_getElem?,Array.getElem?_append_left,hv],
   Kept.refl _ _,hO.fw,fun _ _ h=>h,fun _ _ h=>.inl h,hO.ob,(fun k o x h1 h2=>⟨.inr ⟨k,o,h1,h2⟩,hO.my k o x h1 h2⟩),hO.dj,hO.dF⟩
 have ok1:=ok0.set (d:=some d) (av:=.sc rv) (v:=rv) (.pu _ _ (.sc _)) (.sc _) (fun x hx=>by cases hx;exact of_blt hdN)
 have h1:=h w G.F (fpM G M) G G _ w ok1
 have hw:∀ y,Region.wanted o y=true:=fun y=>by unfold Region.wanted;rw [hg]
 have hfin:∀ u2,u2=u'→Code.wpS P c (bodyPostS P fn c₀ cs fun e u2 w'=>u2=u'∧∃ v G',e=.returned v∧Kept (fpM G M) w w'∧View.le G.F G'.F∧(∀ p u,G'.F p=some u→G.F p=some u∨w.heap.size≤p.block∨fpM G M p.block)∧Obs G' w' M' nk ∧
   (∀ k o x,look k M'=some o→G'.fp k x→w.heap.size≤x∨fpM G M x)∧(∀ k,k < nk→G'.b k=G.b k∧G'.n k=G.n k∧G'.h k=G.h k))
   (({ tmps:=vs.toArray++Array.replicate (fn.ntmps - vs.toArray.size) undef,defers:=[] }:Act).put o.dst rv) ({ c₀ with mode:=u2 }::cs) w:=fun u2 e2=>by
  subst e2
  rw [hd]
  refine wpS_of_wp (wp_mono h1 fun e a w' ⟨σ,G1,⟨he,hfin⟩,ok⟩=>?_)
  obtain ⟨v,G',hr,ok',hbd,hres⟩:=hfin G1 a w' ok
  rcases he with rfl|rfl
  all_goals
   exact ⟨ok'.df.1,_,rfl,v,hr,rfl,v,G',rfl,ok'.bel,ok'.f0,ok'.f1,⟨ok'.fw,ok'.ob,fun k o x h1 h2=>(ok'.my k o x h1 h2).2,ok'.dj,ok'.dF⟩,fun k o x h1 h2=>(ok'.my k o x h1 h2).1,ok'.df.2.2⟩
 show wpOpsS P #[o] _ [0] _ _ _
 unfold wpOpsS
 simp only [List.getElem?_toArray,List.getElem?_cons_zero,hw,if_true,ho]
 rcases hrec c₀ cs hu with e|⟨e,rfl,e2⟩
 ·rw [e]
  exact hfin _ rfl
 ·rw [e]
  exact hfin c₀.mode (hu.trans e2.symm)
def mdOf:Exit→Option FrameMode
 | .normal|.ret=>some .returning
 | .panic ch=>some (.panicking ch)
 | _=>none
section
variable {P:Program} {C:Cx} {σ:St} {G:Gh} {a:Act} {w:World}
theorem wp_dfr (ok:Ok C σ G a w) (hds:C.ds=[]) {id:Nat} {o1 o2:Oper} {Q:Exit→Act→World→Prop} {f:FuncId} {xs:Array Operand} {caps:List AV} {d1:Tmp} (hg1:o1.guard=none) (ho1:o1.op=.makeFunc (.func f) #[] xs) (hd1:o1.dst=some d1) (hN:Nat.blt d1 C.N=true) (hx:σ.evs xs.toList=some caps)
  (hg2:o2.guard=none) (ho2:o2.op=.defer { callee:=.value (.tmp d1),args:=#[],argTypes:=#[] }) (hd2:o2.dst=none)
  (h:∀ G' a' w' cs,Ok ⟨C.w0,C.F0,C.N,C.fp,σ.nk,G',[⟨.fn (.func f) cs,#[]⟩]⟩ (σ.put d1 (.fn f caps)) G' a' w'→cs.size=caps.length→(∀ (i:Nat) av u,caps[i]?=some av→cs[i]?=some u→R G' av u)→Q .normal a' w') :
  (Code.region id #[o1,o2] false).wp P Q a w:=by
 refine wp_region_lit (l:=[o1,o2]) ?_
 refine wpList_plain hg1 fun K hK=>?_
 refine WO.of_wv hd1 hN (WV.mkf ho1 hx) G a w ok K _ fun G' a' w' ok'=>hK _ _ ?_
 refine wpList_plain hg2 fun K' hK'=>?_
 have hs:(σ.put d1 (.fn f caps)).ev (.tmp d1)=some (.fn f caps):=look_set_same
 obtain ⟨cs,e,h1,h2⟩:=(ok'.evr hs).2.fn_of
 unfold Oper.wp execOp
 have e3:(#[]++(#[]:Array Operand).map a'.eval:Array Value)=#[]:=by simp
 simp only [ho2,resolve,e,Deferred.ofValue,Sem.run_bind,Sem.run_pure,Result.andThen_ok,Oper.upon,e3]
 refine hK' _ _ (wpList_nil ?_)
 refine h G' _ w' cs ?_ h1 h2
 rw [hd2]
 exact ⟨ok'.sz,⟨by show _::a'.defers=_;rw [ok'.df.1,hds],Nat.le_refl _,fun k _=>⟨rfl,rfl,rfl⟩⟩,ok'.tm,ok'.bel,ok'.fw,ok'.f0,ok'.f1,ok'.ob,ok'.my,ok'.dj,ok'.dF⟩
theorem Ok.afterD {T:List (Nat×AV)} {Mi Mf:List (Nat×AO)} {nk:Nat} {w':World} {G':Gh} (ok:Ok C ⟨T,Mi,nk⟩ G a w) (h1:Kept (fpM G Mi) w w') (h2:View.le G.F G'.F) (h3:∀ p u,G'.F p=some u→G.F p=some u∨w.heap.size≤p.block∨fpM G Mi p.block) (h4:Obs G' w' Mf nk)
  (h5:∀ k o x,look k Mf=some o→G'.fp k x→w.heap.size≤x∨fpM G Mi x) (h6:∀ k,k<nk→G'.b k=G.b k∧G'.n k=G.n k∧G'.h k=G.h k):Ok C ⟨T,Mf,nk⟩ G' a w':=by
 have hmay:∀ x,w.heap.size≤x∨fpM G Mi x→C.may x:=fun x hx=>hx.elim (fun h=>.inl (Nat.le_trans ok.bel.size h)) fun ⟨k,o,g1,g2⟩=>(ok.my k o x g1 g2).1
 have hle:G.le G' nk:=⟨h2,fun k hk=>(h6 k hk).1,fun k hk=>(h6 k hk).2.1,fun k hk=>(h6 k hk).2.2⟩
 refine ⟨ok.sz,⟨ok.df.1,ok.df.2.1,fun k hk=>?_⟩,fun i av h=>?_,ok.bel.on h1 fun x hx=>hmay x (.inr hx),h4.fw,fun p u x=>h2 p u (ok.f0 p u x),fun p u x=>?_,h4.ob,fun k o x g1 g2=>⟨hmay x (h5 k o x g1 g2),h4.my k o x g1 g2⟩,h4.dj,h4.dF⟩
 ·obtain ⟨g1,g2,g3⟩:=ok.df.2.2 k hk
  obtain ⟨e1,e2,e3⟩:=h6 k (Nat.lt_of_lt_of_le hk ok.df.2.1)
  exact ⟨e1.trans g1,e2.trans g2,e3.trans g3⟩
 ·obtain ⟨g1,g2,g3⟩:=ok.tm i av h
  exact ⟨g1,g2,g3.mono hle g2⟩
 ·rcases h3 p u x with g|g
  ·exact ok.f1 p u g
  ·exact .inr (hmay _ g)
end
def isPt(n:Nat):AV→Bool
 | .pt k _ _=>Nat.blt k n
 | _=>false
theorem Ctg.introD {B:World→View→Prop} {g:Nat} (hS:Stab B g) {P:Program} {f fD:FuncId} {fn:Func} {c0 c1 c2:Code} {id:Nat} {o1 o2:Oper} {args caps:List AV} {res:AV} {xs:Array Operand} {d1:Tmp} {σ0 σ1:St} {T:List (Nat×AV)} {Mi Mf:List (Nat×AO)} {u u':FrameMode} {nk:Nat} (hf:P.funcs[f]?=some fn) (hb:fn.body=some (c0.seq (c1.seq ((Code.region id #[o1,o2] false).seq c2)))) {N:Nat} (hN:fn.ntmps=N) (hn:args.length≤N) (hp:∀ (i:Nat) av,args[i]?=some av→Bd 0 av)
  (hg1:o1.guard=none) (ho1:o1.op=.makeFunc (.func fD) #[] xs) (hd1:o1.dst=some d1) (hdN:Nat.blt d1 N=true) (hx:σ1.evs xs.toList=some caps) (hg2:o2.guard=none) (ho2:o2.op=.defer { callee:=.value (.tmp d1),args:=#[],argTypes:=#[] }) (hd2:o2.dst=none) (hnk:σ1.nk=nk) (hcap:caps.all (isPt nk)=true)
  (hcf:∀ vs w,(callFunc fD vs).run P w=.ok (.enter fD vs) w)
  (h0:∀ w0 F0,Holds B g ⟨w0,F0,N,fun _=>False,0,G0,[]⟩→W P ⟨w0,F0,N,fun _=>False,0,G0,[]⟩ c0 (St.init args) (fun e s=>e=.normal∧Tr ⟨w0,F0,N,fun _=>False,0,G0,[]⟩ s σ0))
  (h1:∀ w0 F0,Holds B g ⟨w0,F0,N,fun _=>False,0,G0,[]⟩→W P ⟨w0,F0,N,fun _=>False,0,G0,[]⟩ c1 σ0 (fun e s=>e=.normal∧Tr ⟨w0,F0,N,fun _=>False,0,G0,[]⟩ s σ1))
  (h2:∀ w0 F0 pg ds,Holds B g ⟨w0,F0,N,fun _=>False,nk,pg,ds⟩→W P ⟨w0,F0,N,fun _=>False,nk,pg,ds⟩ c2 (σ1.put d1 (.fn fD caps)) (fun e s=>mdOf e=some u∧Tr ⟨w0,F0,N,fun _=>False,nk,pg,ds⟩ s ⟨T,Mi,nk⟩))
  (hD:CtoD P fD caps Mi nk u u' Mf) (hs:settle u'=.returning) (hR:∀ C,Fin P fn C ⟨T,Mf,nk⟩ res):Ctg B P f args res:=by
 intro w F vs hB hF hRL
 subst hN hnk
 refine calls_of_wp_defers hf hb ?_
 have hsz:vs.toArray.size=args.length:=by simpa using hRL.1
 have hH:∀ np pg ds,Holds B g ⟨w,F,fn.ntmps,fun _=>False,np,pg,ds⟩:=fun np pg ds=>⟨fun w2 F2 k1 k2=>hS.2 w w2 F F2 (fun i hi=>k1.block i (Nat.lt_of_lt_of_le hi (hS.1 w F hB)) fun h=>h) k2 hB,fun x hx=>hx.elim (fun h=>Nat.le_trans (hS.1 w F hB) h) fun h=>h.elim⟩
 have ok0:Ok ⟨w,F,fn.ntmps,fun _=>False,0,G0,[]⟩ (St.init args) ⟨F,fun _=>0,fun _=>0,fun _=>undef,fun _ _=>False⟩ { tmps:=vs.toArray++Array.replicate (fn.ntmps - vs.toArray.size) undef,defers:=[] } w :=
  ⟨by simp;have:=hRL.1;omega,⟨rfl,Nat.le_refl _,fun k hk=>absurd hk (Nat.not_lt_zero k)⟩,fun i av hx=>by
   obtain ⟨_,h2⟩:=look_number args 0 i av hx
   simp only [Nat.sub_zero] at h2
   have hi:i < args.length:=(List.getElem?_eq_some_iff.1 h2).1
   have hv:i < vs.length:=by rw [hRL.1];exact hi
   refine ⟨by show i < fn.ntmps;omega,hp i av h2,.pu _ _ (hRL.2 i av _ h2 ?_)⟩
   simp [Array.getD_eq_getD_getElem?,Array.getElem?_append_left,hv],
   Kept.refl _ _,hF,fun _ _ h=>h,fun _ _ h=>.inl h,(fun k o h=>by cases h),(fun k o x h=>by cases h),(fun k o k' o' x h=>by cases h),(fun k o x p u h=>by cases h)⟩
 refine wp_seq (wp_mono (h0 w F (hH _ _ _) _ _ _ ok0) fun e a1 w1 ⟨s1,G1',⟨he,hs1⟩,ok1'⟩=>?_)
 subst he
 obtain ⟨G1,ok1⟩:=hs1 _ _ _ ok1'
 refine wp_seq (wp_mono (h1 w F (hH _ _ _) _ _ _ ok1) fun e a2 w2 ⟨s2,G2',⟨he,hs2⟩,ok2'⟩=>?_)
 subst he
 obtain ⟨G2,ok2⟩:=hs2 _ _ _ ok2'
 refine wp_seq (wp_dfr ok2 rfl hg1 ho1 hd1 hdN hx hg2 ho2 hd2 fun G3 a3 w3 cs ok3 hcs hcR=>?_)
 refine wp_mono (h2 w F G3 _ (hH _ _ _) G3 a3 w3 ok3) fun e a4 w4 ⟨s4,G4,⟨he,htr⟩,ok4⟩=>?_
 obtain ⟨G5,ok5⟩:=htr G4 a4 w4 ok4
 have hun:u≠.run:=by
  intro e2;subst e2;cases e<;>cases he
 have hl:Leaves P fn a4.tmps (fun e w'=>∃ v F',e=.returned v∧Below w.heap.size w w'∧View.le F F'∧(∀ p u,F' p=some u→w'.cell? p=some u)∧(∀ p u,F' p=some u→F p=some u∨w.heap.size≤p.block)∧RP F' res v) a4.defers u w4:=by
  rw [ok5.df.1]
  refine leaves_cons (f:=fD) (args:=cs) hun ?_ ?_
  ·simp [invoke,hcf]
  have hO:Obs G5 w4 Mi σ1.nk:=⟨ok5.fw,ok5.ob,fun k o x g1 g2=>(ok5.my k o x g1 g2).2,ok5.dj,ok5.dF⟩
  have hRc:∀ (i:Nat) av u,caps[i]?=some av→cs.toList[i]?=some u→R G5 av u:=fun i av u g1 g2=>by
   have r:=hcR i av u g1 (by simpa using g2)
   have hpt:=List.all_eq_true.1 hcap av (List.mem_of_getElem? g1)
   cases av with
   | pt k i j =>
    have hk:k < σ1.nk:=of_blt hpt
    obtain ⟨p,rfl,e1,e2,e3⟩:=r.pt_of
    obtain ⟨q1,q2,_⟩:=ok5.df.2.2 k hk
    exact .pt k i j p (e1.trans q1.symm) (e2.trans (by rw [q2])) e3
   | _=>cases hpt
  have hc:=hD w4 G5 cs.toList hO (by simpa using hcs) hRc
  rw [Array.toArray_toList] at hc
  refine hc.mono fun e2 u2 w5 ⟨hu2,v,G6,he2,k1,k2,k3,k4,k5,k6⟩=>?_
  subst hu2 he2
  show Leaves P fn a4.tmps _ [] (settle u2) w5
  rw [hs]
  have ok6:=ok5.afterD k1 k2 k3 k4 k5 k6
  obtain ⟨v,F',hr,hle,hfw,hnew,hres⟩:=hR _ G6 a4 w5 ok6
  exact ⟨v,hr,v,F',rfl,ok6.bel.to_below (fun _ h=>h),fun p u x=>hle p u (ok6.f0 p u x),hfw,fun p u x=>(hnew p u x).elim (fun y=>(ok6.f1 p u y).elim .inl fun z=>.inr (z.elim (fun h=>h) fun h=>h.elim)) fun z=>.inr (z.elim (fun h=>h) fun h=>h.elim),hres⟩
 cases e with
 | normal=>cases he;exact hl
 | ret=>cases he;exact hl
 | panic ch=>cases he;exact hl
 | _=>cases he
end
end Go.Proofs.YthehkchjdkdbiaaGreatDoor
