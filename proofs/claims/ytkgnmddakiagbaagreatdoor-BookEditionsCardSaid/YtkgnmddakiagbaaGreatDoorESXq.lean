/- Equal things are found equal, over trees: the reference. -/
import Derived.Test.YtkgnmddakiagbaaGreatDoorFAXq
import Derived.Lib.ItoaNum
import Derived.Laws.StructEq
set_option linter.unusedVariables false
set_option linter.unusedSimpArgs false
namespace Go.Proofs.YtkgnmddakiagbaaGreatDoor
open Go.RowKit
def bsL:List Int:=[0,2,4,5,7,9,11]
def ftL:List Int:=[0,2,4,-1,1,3,5]
def basV(l:Int):Int:=bsL.getD l.toNat 0
def ftV(l:Int):Int:=ftL.getD l.toNat 0
def sndV(l al o:Int):Int:=12*(o+1)+basV l+al
def sndIn(l al o:Int):Prop:=(0≤l∧l≤6)∧(-1≤al∧al≤1)∧-1≤o∧o≤9
instance (l al o:Int):Decidable (sndIn l al o):=by unfold sndIn;exact inferInstance
def sndOk (l al o:Int):Bool:=decide (sndIn l al o) && decide (0≤sndV l al o∧sndV l al o≤127)
def sndR(l al o:Int):Int:=if sndOk l al o=true then sndV l al o else 0
def sndX(l al o:Int):Int:=if sndOk l al o=true then 0 else 10
theorem snd_ok {l al o:Int} (h:sndOk l al o=true):sndR l al o=sndV l al o∧sndX l al o=0:=⟨if_pos h,if_pos h⟩
theorem snd_no {l al o:Int} (h:sndOk l al o=false):sndR l al o=0∧sndX l al o=10:=⟨if_neg (by simp [h]),if_neg (by simp [h])⟩
theorem sndOk_out {l al o:Int} (h:¬ sndIn l al o):sndOk l al o=false:=by unfold sndOk;rw [decide_eq_false h];rfl
theorem sndOk_in {l al o:Int} (h:sndIn l al o):sndOk l al o=decide (0≤sndV l al o∧sndV l al o≤127):=by unfold sndOk;rw [decide_eq_true h];rfl
theorem sndOk_of {l al o:Int} (h:sndOk l al o=true):sndIn l al o∧0≤sndV l al o∧sndV l al o≤127:=by
 unfold sndOk at h
 simpa using h
theorem bs_all:((List.range 7).all fun k=>decide (0≤basV k∧basV k≤11))=true:=by decide
theorem basV_bd {l:Int} (h:0≤l∧l≤6):0≤basV l∧basV l≤11:=by
 obtain⟨k,rfl⟩:=Int.eq_ofNat_of_zero_le h.1
 have:=List.all_eq_true.1 bs_all k (List.mem_range.2 (by omega))
 simpa using this
theorem ft_all:((List.range 7).all fun k=>decide (-1≤ftV k∧ftV k≤5))=true:=by decide
theorem ftV_bd {l:Int} (h:0≤l∧l≤6):-1≤ftV l∧ftV l≤5:=by
 obtain⟨k,rfl⟩:=Int.eq_ofNat_of_zero_le h.1
 have:=List.all_eq_true.1 ft_all k (List.mem_range.2 (by omega))
 simpa using this
theorem basV_at {l:Int} (h:0≤l∧l≤6):bsL[l.toNat]?=some (basV l):=by
 obtain⟨k,rfl⟩:=Int.eq_ofNat_of_zero_le h.1
 have:k<bsL.length:=by simp [bsL];omega
 unfold basV
 rw [Int.toNat_natCast,List.getD_eq_getElem?_getD,List.getElem?_eq_getElem this];rfl
theorem ftV_at {l:Int} (h:0≤l∧l≤6):ftL[l.toNat]?=some (ftV l):=by
 obtain⟨k,rfl⟩:=Int.eq_ofNat_of_zero_le h.1
 have:k<ftL.length:=by simp [ftL];omega
 unfold ftV
 rw [Int.toNat_natCast,List.getD_eq_getElem?_getD,List.getElem?_eq_getElem this];rfl
/-! Which note suits a pitch and a key: in the program's order, in the reference's. -/
def spWin (key l al:Int):Bool:=decide (key-3≤ftV l+7*al∧ftV l+7*al≤key+8)
def spC (p key l al o:Int):Bool:=spWin key l al && (sndOk l al o && decide (sndV l al o=p))
def spO(p l al:Int):Int:=(p-al-basV l+12)/12-2
def spN (p key:Int) (n:Nat):Bool:=spC p key ((n/3:Nat):Int) (((n % 3:Nat):Int)-1) (spO p ((n/3:Nat):Int) (((n % 3:Nat):Int)-1))
def rfN (p key:Int) (n:Nat):Bool:=spC p key ((n % 21/3:Nat):Int) (((n % 3:Nat):Int)-1) (((n/21:Nat):Int)-1)
def spP (p key:Int):Option (Int×Int×Int):=((List.range 21).find? (spN p key)).map fun n=>(((n/3:Nat):Int),((n % 3:Nat):Int)-1,spO p ((n/3:Nat):Int) (((n % 3:Nat):Int)-1))
def spR (p key:Int):Option (Int×Int×Int):=((List.range 231).find? (rfN p key)).map fun n=>(((n % 21/3:Nat):Int),((n % 3:Nat):Int)-1,((n/21:Nat):Int)-1)
set_option maxRecDepth 100000 in
theorem sp_all:((List.range 128).all fun p=>(List.range 9).all fun k=>spP p ((k:Int)-4) == spR p ((k:Int)-4))=true:=by decide +kernel
theorem sp_law {p key:Int} (hp:0≤p∧p≤127)(hk:-4≤key∧key≤4):spR p key=spP p key:=by
 obtain⟨n,rfl⟩:=Int.eq_ofNat_of_zero_le hp.1
 obtain⟨k,hk2⟩:=Int.eq_ofNat_of_zero_le (show 0≤key+4 by omega)
 obtain rfl:key=(k:Int)-4:=by omega
 have:=List.all_eq_true.1 (List.all_eq_true.1 sp_all n (List.mem_range.2 (by omega))) k (List.mem_range.2 (by omega))
 exact (beq_iff_eq.1 this).symm
theorem find_at {N n:Nat} {f:Nat→Bool} (h:∀ m,m<n→f m=false)(hn:f n=true)(hN:n<N):(List.range N).find? f=some n:=by
 rw [List.find?_range_eq_some]
 exact⟨hn,List.mem_range.2 hN,fun m hm=>by simp [h m hm]⟩
theorem find_no {N:Nat} {f:Nat→Bool} (h:∀ m,m<N→f m=false):(List.range N).find? f=none:=by
 rw [List.find?_eq_none]
 intro m hm
 simp [h m (List.mem_range.1 hm)]
theorem spP_of {p key:Int} {r:Int×Int×Int} (h:spP p key=some r):sndOk r.1 r.2.1 r.2.2=true∧sndV r.1 r.2.1 r.2.2=p:=by
 unfold spP at h
 obtain⟨n,h1,rfl⟩:=Option.map_eq_some_iff.1 h
 have:=List.find?_some h1
 unfold spN spC at this
 simp only [Bool.and_eq_true,decide_eq_true_eq]at this
 exact⟨this.2.1,this.2.2⟩
def spX(p key:Int):Int:=if ¬ (0≤p∧p≤127)then 10 else if ¬ (-4≤key∧key≤4)then 1 else if(spP p key).isSome=true then 0 else 10
def spV (p key:Int):Int×Int×Int:=if spX p key=0 then (spP p key).getD (0,0,0)else (0,0,0)
def eSp (r:Int×Int×Int):AV:=.ag [.sc (.int .i64 r.1),.sc (.int .i64 r.2.1),.sc (.int .i64 r.2.2)]
theorem sp_pitch {p key:Int} (h:¬ (0≤p∧p≤127)):spX p key=10∧spV p key=(0,0,0):=by
 have:spX p key=10:=if_pos h
 exact⟨this,by unfold spV;rw [this];rfl⟩
theorem sp_arg {p key:Int} (h:0≤p∧p≤127)(h2:¬ (-4≤key∧key≤4)):spX p key=1∧spV p key=(0,0,0):=by
 have:spX p key=1:=by unfold spX;rw [if_neg (fun k=>k h),if_pos h2]
 exact⟨this,by unfold spV;rw [this];rfl⟩
theorem sp_none {p key:Int} (h:0≤p∧p≤127)(h2:-4≤key∧key≤4)(h3:spP p key=none):spX p key=10∧spV p key=(0,0,0):=by
 have:spX p key=10:=by unfold spX;rw [if_neg (fun k=>k h),if_neg (fun k=>k h2),h3];rfl
 exact⟨this,by unfold spV;rw [this];rfl⟩
theorem sp_some {p key:Int} {r:Int×Int×Int} (h:0≤p∧p≤127)(h2:-4≤key∧key≤4)(h3:spP p key=some r):spX p key=0∧spV p key=r:=by
 have:spX p key=0:=by unfold spX;rw [if_neg (fun k=>k h),if_neg (fun k=>k h2),h3];rfl
 exact⟨this,by unfold spV;rw [if_pos this,h3];rfl⟩
/-! Names. -/
def ltrs:List UInt8:=[67,68,69,70,71,65,66]
/-! The text of an instrument. -/
theorem decDigits_len:∀ (k u:Nat),u<10 ^ (k+1)→(Lib.decDigits u).length≤k+1
 | 0,u,h=>by rw [Lib.decDigits,dif_pos (by simpa using h)];simp
 | k+1,u,h=>by
  rw [Lib.decDigits]
  split
  ·simp
  ·have h2:u/10<10 ^ (k+1):=by rw [Nat.div_lt_iff_lt_mul (by omega)];rw [Nat.pow_succ] at h;exact h
   have:=decDigits_len k (u/10) h2
   rw [List.length_append];simp;omega
theorem itoa_len {n:Int} (h:-9223372036854775808≤n∧n≤9223372036854775807):(Lib.itoa n).length≤20:=by
 unfold Lib.itoa
 split
 ·have:=decDigits_len 18 n.natAbs (by omega)
  simp;omega
 ·have:=decDigits_len 18 n.toNat (by omega)
  omega
theorem itoa_nat (n:Int)(h:0≤n):Lib.itoa n=Lib.decDigits n.toNat:=if_neg (by omega)
theorem itoa_neg (n:Int)(h:n<0):Lib.itoa n=[45]++Lib.itoa (0-n):=by
 unfold Lib.itoa
 rw [if_pos h,if_neg (by omega)]
 rw [show n.natAbs=(0-n).toNat by omega]
 rfl
theorem digit_all:((List.range 10).all fun n=>cut [48,49,50,51,52,53,54,55,56,57] ((n:Nat):Int) (((n:Nat):Int)+1) == [UInt8.ofNat (48+n)])=true:=by decide +kernel
theorem digit_cut (n:Nat) (h:n<10):cut [48,49,50,51,52,53,54,55,56,57] ((n:Nat):Int) (((n:Nat):Int)+1)=[UInt8.ofNat (48+n)]:=by
 have:=List.all_eq_true.1 digit_all n (List.mem_range.2 h)
 simpa using this
theorem itoa_ten (n:Int) (h:10≤n):Lib.itoa n=Lib.itoa (n/10)++cut [48,49,50,51,52,53,54,55,56,57] (n % 10) (n % 10+1):=by
 obtain ⟨k,rfl⟩:=Int.eq_ofNat_of_zero_le (show 0≤n by omega)
 rw [itoa_nat _ (by omega),itoa_nat _ (by omega),Int.toNat_natCast,Lib.decDigits,dif_neg (by omega)]
 have e1:((k:Int)/10).toNat=k/10:=by omega
 have e2:(k:Int) % 10=((k % 10:Nat):Int):=by omega
 rw [e1,e2,digit_cut _ (by omega)]
theorem itoa_one (n:Int) (h:0≤n∧n<10):Lib.itoa n=cut [48,49,50,51,52,53,54,55,56,57] (n % 10) (n % 10+1):=by
 obtain ⟨k,rfl⟩:=Int.eq_ofNat_of_zero_le h.1
 have e2:(k:Int) % 10=((k:Nat):Int):=by omega
 rw [itoa_nat _ (by omega),Int.toNat_natCast,Lib.decDigits,dif_pos (by omega),e2,digit_cut _ (by omega)]
end Go.Proofs.YtkgnmddakiagbaaGreatDoor
namespace Go.Proofs.YtkgnmddakiagbaaGreatDoor
open Go.RowKit
def tabB (w:World) (F:View):Prop :=
 (∀ (i:Nat)v,ftL[i]?=some v→F ⟨0,i,none⟩=some (.int .i64 v))∧(∀ (i:Nat)v,bsL[i]?=some v→F ⟨1,i,none⟩=some (.int .i64 v)) ∧
 Lib.TabIs Tryz.prog w "internal/strconv.uint64pow10" .u64 Lib.pow10Tab
def gloB:Nat:=3+1
theorem pow10_at:Tryz.prog.globalNamed "internal/strconv.uint64pow10"=some 3:=by kernel_rfl
theorem var_some {w:World} {cs:Array Value} (h:w.var? Tryz.prog "internal/strconv.uint64pow10"=some cs):gloB≤w.heap.size:=by
 unfold World.var? at h
 rw [pow10_at]at h
 rcases Nat.lt_or_ge 3 w.heap.size with h1|h1
 ·exact h1
 ·simp [Array.getElem?_eq_none h1]at h
theorem stabB:Stab tabB gloB:=⟨fun w F h=>var_some h.2.2,fun w w' F F' hb hF h=>⟨fun i v x=>hF _ _ (h.1 i v x),fun i v x=>hF _ _ (h.2.1 i v x),by
 have h3:=h.2.2
 unfold Lib.TabIs World.var? at h3 ⊢
 rw [pow10_at]at h3 ⊢
 simp only [Option.bind_some]at h3 ⊢
 rw [hb _ (Nat.lt_succ_self _)];exact h3⟩⟩
theorem tab_fifths {z:Int} (h:0≤z∧z≤6):∀ w F,tabB w F→F ⟨0,z.toNat,none⟩=some (.int .i64 (ftV z)):=fun w F hB=>hB.1 _ _ (ftV_at h)
theorem tab_bases {z:Int} (h:0≤z∧z≤6):∀ w F,tabB w F→F ⟨1,z.toNat,none⟩=some (.int .i64 (basV z)):=fun w F hB=>hB.2.1 _ _ (basV_at h)
theorem Ctg.of_sc {B:World→View→Prop} {P:Program} {f:FuncId} {args:List AV} {xs:List Value} {res:AV} {v:Value} (hs:scs args=some xs)(hv:∀ F,RP F res v)(h:∀ w F,B w F→Calls P f xs.toArray w (Ret v w)):Ctg B P f args res:=by
 intro w F vs hB hF hR
 have:vs=xs:=scs_of (G:=⟨F,fun _=>0,fun _=>0,fun _=>undef,fun _ _=>False⟩) hs hR.1 fun i av u a b=>.pu _ _ (hR.2 i av u a b)
 subst this
 exact (h w F hB).mono fun e w'⟨he,hb⟩=>⟨v,F,he,hb,fun _ _ h=>h,fun p u x=>by rw [hb.cell (cell_block (hF p u x))];exact hF p u x,fun _ _ h=>.inl h,hv F⟩
theorem itoa_G (n:Int)(h:I64 n):Ctg tabB Tryz.prog 76 [.sc (.int .i64 n)] (.sc (.string (bs (Lib.itoa n)))) :=
 Ctg.of_sc (v:=.string (bs (Lib.itoa n))) rfl (fun _=>.sc _) fun w F hB=>(Tryz.strconv_Itoa n h.1 (by have:=h.2;omega) w hB.2.2).mono fun e w'⟨he,k,os,hw⟩=>⟨he,by
  subst hw
  refine⟨rfl,rfl,rfl,?_,fun i hi=>?_⟩
  ·show w.heap.size≤(w.heap++os).size
   rw [Array.size_append];omega
  ·show (w.heap++os)[i]?=w.heap[i]?
   rw [Array.getElem?_append_left hi]⟩
end Go.Proofs.YtkgnmddakiagbaaGreatDoor
namespace Go.Proofs.YtkgnmddakiagbaaGreatDoor
open Go.RowKit
set_option maxHeartbeats 1600000
set_option maxRecDepth 100000
abbrev Lck:=Int×Int×Int
def lckCells(x:Lck):List Value:=[.int .i64 x.1,.int .i64 x.2.1,.int .i64 x.2.2]
theorem lck_len(l:List Lck):∀ r∈l.map lckCells,r.length=3:=by intro r h;obtain⟨x,_,rfl⟩:=List.mem_map.1 h;rfl
theorem lck_one(l:List Lck):∀ r∈l.map lckCells,∀ u∈r,u.oneCell'=true:=by
 intro r h u hu;obtain⟨x,_,rfl⟩:=List.mem_map.1 h
 simp only [lckCells,List.mem_cons,List.not_mem_nil,or_false]at hu
 rcases hu with rfl|rfl|rfl<;>rfl
theorem infoLack:(Tryz.prog.info? 262).map (fun i=>(i.zero,i.size,i.bytes))=some (some (.agg #[.int .i64 0,.int .i64 0,.int .i64 0]),3,24):=by kernel_rfl
def SayAt (w:World)(B0 b:Nat)(l:List Lck):Prop :=
 ∃ Q d,Blk w b 103 #[.slice Q l.length d]∧w.ownsRow B0 262 3 (.slice Q l.length d) l.length (l.map lckCells).flatten
theorem SayAt.start(w:World) (B0 b:Nat) (h:Blk w b 103 #[.slice none 0 0]):SayAt w B0 b []:=⟨none,0,h,⟨by simp,.inl ⟨rfl,rfl⟩⟩⟩
theorem SayAt.after {w w':World} {B0 b:Nat} {l:List Lck} (h:SayAt w B0 b l)(hb:Below w.heap.size w w'):SayAt w' B0 b l:=by
 obtain⟨Q,d,h1,h2⟩:=h
 exact⟨Q,d,h1.after hb,own_keep h2 fun g _ hlt=>hb.block g hlt⟩
def SayKeeps(b:Nat)(w w':World):Prop:=Below b w w'∧w.heap.size≤w'.heap.size∧∀ (g:Nat)(t:TypeId)(cs:Array Value),Blk w g t cs→g≠b→t≠262→Blk w' g t cs
def SayPost (B0 b:Nat)(l:List Lck)(w:World)(e:Ending)(w':World):Prop:=e=.returned (.tuple #[])∧SayAt w' B0 b l∧SayKeeps b w w'
theorem own_ne {w:World} {base g:Nat} {e t:TypeId} {size n:Nat} {v:Value} {xs:List Value} {cs:Array Value} (h:w.ownsRow base e size v n xs)(hg:Blk w g t cs)(hne:t≠e):v.ownBlock≠some g:=by
 rcases h.2 with⟨rfl,_⟩|⟨g',cap,cur,rfl,_,hh,_⟩
 ·simp [Value.ownBlock]
 ·intro he
  have:g'=g:=by simpa [Value.ownBlock]using he
  subst this
  unfold Blk at hg
  rw [hh]at hg
  injection hg with hg
  injection hg with _ ht
  exact hne ht.symm
theorem say_ok (c what:Int) (b be B0:Nat) (l:List Lck) (w:World) (h:SayAt w B0 b l) :
  Calls Tryz.prog 184 #[.bool true,.int .i64 c,.int .i64 what,.pointer (some ⟨b,0,none⟩),.pointer (some ⟨be,0,none⟩)] w (SayPost B0 b l w):=by
 have H:=Lib.hid h
 clear h
 go_enter Tryz.func184,Tryz.ntmps184
 go_wp2
 exact bodyPost_end (v:=.tuple #[]) (by simp [results,Tryz.results184,go_sem]) rfl ⟨rfl,H.out,Below.refl _ _,Nat.le_refl _,fun g t cs h _ _=>h⟩
theorem say_no (c what ev:Int) (b be B0:Nat) (l:List Lck) (w:World) (h:SayAt w B0 b l) (hev:w.cell? ⟨be,0,none⟩=some (.int .i64 ev)) (hb:b<B0) (hB:B0≤w.heap.size) (hl:l.length≤32000) :
    Calls Tryz.prog 184 #[.bool false,.int .i64 c,.int .i64 what,.pointer (some ⟨b,0,none⟩),.pointer (some ⟨be,0,none⟩)] w (SayPost B0 b (l++[(ev,c,what)]) w):=by
  obtain ⟨i0,hi0,hz0,hz1,hz2⟩:=info_parts infoLack
  obtain ⟨Q,d,hQ,hown⟩:=h
  have HQ:=Lib.hid hQ
  have HO:=Lib.hid hown
  have hbl:b<w.heap.size:=hQ.lt
  have hbe:be<w.heap.size:=World.block_lt_of_cell? w _ hev
  have q0:w.cell? ⟨b,0,none⟩=some (.slice Q l.length d):=hQ.cell 0
  have f0:=hQ.frozen 0
  clear hQ hown
  go_enter Tryz.func184,Tryz.ntmps184
  go_wp2_with (at_builtin
               refine wpList_append_rd rfl (.tmp 10) (.tmp 15) _ rfl B0 262 i0 _ 3 24 Tryz.underlying103 hi0 hz0 hz1 hz2 rfl (by omega) (.slice Q l.length d) l.length (l.map lckCells) rfl (own_keep HO.out fun g _ hlt=>Below.heap_alloc _ _ _ hlt) (lck_len _) (by simp) _ (some ⟨w.heap.size,0,none⟩) [lckCells (ev,c,what)] 1 1 rfl rfl (rd_block (blk_new' rfl) rfl) (lck_len [(ev,c,what)]) (lck_one [(ev,c,what)]) (by show l.length+1≤maxLen;unfold maxLen;omega) (by show (l.length+1)*24≤_;omega) (by simp;omega) ?_
               intro Q' d' w3 hown3 hg3 hat3
               have hne:(Value.slice Q l.length d).ownBlock≠some b:=fun e=>by have:=(own_lt HO.out _ e).1;omega
               have kb:Blk w3 b 103 #[.slice Q l.length d]:=blk_grown (HQ.out.alloc _) hg3 (fun e=>hne e.symm)
               have z0:w3.cell? ⟨b,0,none⟩=some (.slice Q l.length d):=kb.cell 0
               have zf0:=kb.frozen 0
               have KB:=Lib.hid kb
               clear kb)
  have hsz3:w.heap.size+1≤w3.heap.size:=by have:=hg3.size;simpa using this
  refine bodyPost_end (v:=.tuple #[]) (by simp [results,Tryz.results184,go_sem]) rfl ⟨rfl,⟨Q',d',?_,?_⟩,?_,?_,?_⟩
  · rw [List.length_append]
    exact KB.out.set_ 0 _
  · rw [List.length_append,List.map_append]
    exact own_keep hown3 fun g hg hlt=>Below.heap_setCell _ _ _ _ (by have:=(own_lt hown3 g hg).1;show g≠b;omega)
  · refine Below.setCell (p:=⟨b,0,none⟩) ?_ (Nat.le_refl b) _
    refine Below.grown ((Below.refl _ _).alloc (by omega) _) hg3 (by simp;omega) (fun g hgv=>by have:=(own_lt HO.out g hgv).1;omega)
  · simp [World.setCell];omega
  · intro g t cs hg hgb ht
    refine Blk.far (p:=⟨b,0,none⟩) ?_ hgb _
    exact blk_grown (hg.alloc _) hg3 (fun e=>own_ne HO.out hg ht e.symm)
end Go.Proofs.YtkgnmddakiagbaaGreatDoor
namespace Go.Proofs.YtkgnmddakiagbaaGreatDoor
open Go.RowKit
def lkIf(ok:Bool)(i c what:Int):List Lck:=if ok then []else [(i,c,what)]
def hasS(s n:Int):Bool:=if s=3 then n != 8 else if s=4 then n == 8 else true
def lackStop (s i:Int)(L:Int→Nat)(x:Stp):List Lck :=
 if pOk s x.1 x.2.1=false then [(i,x.1,1)] else lkIf (okR s x.2.2.1) i x.1 2++(lkIf (okG s x.2.2.2.1) i x.1 3++lkIf (okH s x.2.2.2.2 (L x.1)) i x.1 4)
def lackHead (s i:Int)(e:Ev):List Lck :=
 (if e.val=0 then lkIf (hasS s 6) i 0 6 else [])++((if e.three=true then lkIf (hasS s 5) i 0 5 else [])++(if e.tie=true then lkIf (hasS s 7) i 0 7 else if e.stops.length=0 then lkIf (hasS s 8) i 0 8 else []))
def lackE (s:Int)(p:Pce)(i:Int)(e:Ev):List Lck:=lackHead s i e++e.stops.flatMap (lackStop s i fun c=>longestN p.evs i c)
theorem lkIf_len(ok:Bool)(i c what:Int):(lkIf ok i c what).length≤1:=by unfold lkIf;split<;>simp
theorem lackStop_len (s i:Int)(L:Int→Nat)(x:Stp):(lackStop s i L x).length≤3:=by
 unfold lackStop
 split
 ·simp
 ·have a:=lkIf_len (okR s x.2.2.1) i x.1 2
  have b:=lkIf_len (okG s x.2.2.2.1) i x.1 3
  have c:=lkIf_len (okH s x.2.2.2.2 (L x.1)) i x.1 4
  simp only [List.length_append];omega
theorem flat_len (s i:Int)(L:Int→Nat):∀ l:List Stp,(l.flatMap (lackStop s i L)).length≤3*l.length:=by
 intro l
 induction l with
 | nil=>simp
 | cons x r ih=>have:=lackStop_len s i L x;simp only [List.flatMap_cons,List.length_append,List.length_cons];omega
theorem flat_snoc (s i:Int)(L:Int→Nat)(l:List Stp)(k:Nat)(h:k<l.length):(l.take (k+1)).flatMap (lackStop s i L)=(l.take k).flatMap (lackStop s i L)++lackStop s i L l[k]:=by
 rw [List.take_succ_eq_append_getElem h,List.flatMap_append];simp
theorem say_any (ok:Bool) (c what ev:Int) (b be B0:Nat) (l:List Lck) (w:World) (h:SayAt w B0 b l) (hev:w.cell? ⟨be,0,none⟩=some (.int .i64 ev)) (hb:b<B0) (hB:B0≤w.heap.size) (hl:l.length≤32000) :
  Calls Tryz.prog 184 #[.bool ok,.int .i64 c,.int .i64 what,.pointer (some ⟨b,0,none⟩),.pointer (some ⟨be,0,none⟩)] w (SayPost B0 b (l++lkIf ok ev c what) w):=by
 cases ok
 ·exact say_no c what ev b be B0 l w h hev hb hB hl
 ·have e:l++lkIf true ev c what=l:=by simp [lkIf]
  rw [e];exact say_ok c what b be B0 l w h
structure LkSt (w:World) (P E:Array Value) (i:Int) (l:List Lck) (wx:World):Prop where
 bel:Below w.heap.size w wx
 bp:Blk wx w.heap.size 29 P
 bi:Blk wx (w.heap.size+1) 3 #[.int .i64 i]
 be:Blk wx (w.heap.size+3) 78 E
 say:SayAt wx (w.heap.size+3) (w.heap.size+2) l
theorem LkSt.after {w wx w':World} {P E:Array Value} {i:Int} {l:List Lck} (h:LkSt w P E i l wx)(hb:Below wx.heap.size wx w'):LkSt w P E i l w' :=
 ⟨h.bel.trans (hb.mono h.bel.size),h.bp.after hb,h.bi.after hb,h.be.after hb,h.say.after hb⟩
theorem LkSt.said {w wx w':World} {P E:Array Value} {i:Int} {l l':List Lck} {e:Ending} (h:LkSt w P E i l wx) (hb:SayPost (w.heap.size+3) (w.heap.size+2) l' wx e w'):LkSt w P E i l' w' :=
 ⟨h.bel.trans (hb.2.2.1.mono (by omega)),hb.2.2.2.2 _ _ _ h.bp (by omega) (by decide),hb.2.2.2.2 _ _ _ h.bi (by omega) (by decide),hb.2.2.2.2 _ _ _ h.be (by omega) (by decide),hb.2.1⟩
theorem LkSt.ask {w wx:World} {P E:Array Value} {i:Int} {l:List Lck} (h:LkSt w P E i l wx) (ok:Bool) (c what:Int) (hl:l.length≤32000) :
  Calls Tryz.prog 184 #[.bool ok,.int .i64 c,.int .i64 what,.pointer (some ⟨w.heap.size+2,0,none⟩),.pointer (some ⟨w.heap.size+1,0,none⟩)] wx (SayPost (w.heap.size+3) (w.heap.size+2) (l++lkIf ok i c what) wx) :=
 say_any ok c what i _ _ _ l wx h.say (h.bi.cell 0) (by omega) (Nat.le_of_lt h.be.lt) hl
def StopsIn(e:Ev):Prop :=
 ∀ k(h:k<e.stops.length),(1≤e.stops[k].1∧e.stops[k].1≤14)∧(0≤e.stops[k].2.1∧e.stops[k].2.1≤18)∧(0≤e.stops[k].2.2.1∧e.stops[k].2.2.1≤3)∧(0≤e.stops[k].2.2.2.1∧e.stops[k].2.2.2.1≤4)∧(0≤e.stops[k].2.2.2.2∧e.stops[k].2.2.2.2≤15)
def LkPost (l:List Lck)(W:World)(e:Ending)(w':World):Prop :=
 ∃ A d,e=.returned (.slice A l.length d)∧Below W.heap.size W w'∧Rd w' w'.heap.size 3 A (l.map lckCells)∧(∀ ad,A=some ad→W.heap.size≤ad.block)∧l.length≤d
def lk1 (s i v:Int):List Lck:=if v=0 then lkIf (hasS s 6) i 0 6 else []
def lk2 (s i:Int)(t:Bool):List Lck:=if t=true then lkIf (hasS s 5) i 0 5 else []
def lk3 (s i:Int)(t:Bool)(n:Nat):List Lck:=if t=true then lkIf (hasS s 7) i 0 7 else if n=0 then lkIf (hasS s 8) i 0 8 else []
theorem lk1_len(s i v:Int):(lk1 s i v).length≤1:=by unfold lk1;split;exact lkIf_len _ _ _ _;simp
theorem lk2_len(s i:Int)(t:Bool):(lk2 s i t).length≤1:=by unfold lk2;split;exact lkIf_len _ _ _ _;simp
theorem lk3_len(s i:Int)(t:Bool)(n:Nat):(lk3 s i t n).length≤1:=by
 unfold lk3;split
 ·exact lkIf_len _ _ _ _
 ·split;exact lkIf_len _ _ _ _;simp
theorem lackE_eq (s:Int)(p:Pce)(i:Int)(e:Ev):lackE s p i e=(lk1 s i e.val++(lk2 s i e.three++lk3 s i e.tie e.stops.length))++e.stops.flatMap (lackStop s i fun c=>longestN p.evs i c):=rfl
def lkW (w:World)(P E:Array Value)(i:Int):World:=(((w.alloc (.cells P 29)).alloc (.cells #[.int .i64 i] 3)).alloc (.cells #[.slice none 0 0] 103)).alloc (.cells E 78)
theorem LkSt.start (w:World)(P E:Array Value)(i:Int):LkSt w P E i [] (lkW w P E i):=by
 have n1:∀ (w:World)(o:Obj),(w.alloc o).heap.size=w.heap.size+1:=fun w o=>by simp
 unfold lkW
 have b0:=((((Blk.new w 29 P).alloc (.cells #[.int .i64 i] 3)).alloc (.cells #[.slice none 0 0] 103)).alloc (.cells E 78))
 have b1:=(((Blk.new (w.alloc (.cells P 29)) 3 #[.int .i64 i]).alloc (.cells #[.slice none 0 0] 103)).alloc (.cells E 78))
 have b2:=((Blk.new ((w.alloc (.cells P 29)).alloc (.cells #[.int .i64 i] 3)) 103 #[.slice none 0 0]).alloc (.cells E 78))
 have b3:=(Blk.new (((w.alloc (.cells P 29)).alloc (.cells #[.int .i64 i] 3)).alloc (.cells #[.slice none 0 0] 103)) 78 E)
 rw [n1] at b1
 rw [n1,n1] at b2
 rw [n1,n1,n1] at b3
 exact⟨(by repeat (first|exact Below.refl _ _|assumption|refine bel_drewN ?_ _|refine Below.drew ?_|refine bel_alloc ?_ _|refine Below.setCell ?_ (by first|omega|(simp;done)|(simp;omega)) _|refine bel_step ?_ (by assumption))),b0,b1,b3,SayAt.start _ _ _ b2⟩
end Go.Proofs.YtkgnmddakiagbaaGreatDoor
namespace Go.Proofs.YtkgnmddakiagbaaGreatDoor
open Go.RowKit
set_option maxRecDepth 100000
set_option maxHeartbeats 4000000
def eLk (x:Lck):List AV:=[.sc (.int .i64 x.1),.sc (.int .i64 x.2.1),.sc (.int .i64 x.2.2)]
end Go.Proofs.YtkgnmddakiagbaaGreatDoor
