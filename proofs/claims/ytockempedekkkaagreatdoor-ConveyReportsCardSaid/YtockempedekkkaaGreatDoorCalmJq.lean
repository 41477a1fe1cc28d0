/- A region that draws its order, whose calls make memory and leave all that was there: one walk of the lexical order. -/
import Derived.Test.YtockempedekkkaaGreatDoorE1Jq
import Derived.Test.YtockempedekkkaaGreatDoorProg
import Derived.Deep.RegionHeld3
import Derived.Lib.SplitLaws
import Derived.Lib.AtoiAll
import Derived.Lib.Fields
import Derived.Lib.ItoaNum
import Derived.BigQuiet
set_option maxHeartbeats 1600000
set_option maxRecDepth 100000
set_option linter.unusedVariables false
set_option linter.unusedSimpArgs false
namespace Go.Proofs.YtockempedekkkaaGreatDoor
section
open Go.RowKit
structure InsS (w:World)(B:Nat)(A1 A2:Option Addr)(cs:List (Int×Int×Bool))(st:List Int):Prop where
 out:InsAt w B A1 A2 cs st
end
section
open Go.RowKit
theorem insE_len {cs:List (Int×Int×Bool)} {st:List Int} (h:insE cs st=0):1≤cs.length∧cs.length≤14∧st.length≤18∧stepsBad 0 st=false∧crsE st cs=0:=by
 unfold insE at h
 by_cases h1:14<cs.length∨18<st.length
 ·rw [if_pos h1]at h;cases h
 ·rw [if_neg h1]at h
  by_cases h2:cs.length=0
  ·rw [if_pos h2]at h;cases h
  ·rw [if_neg h2]at h
   by_cases h3:stepsBad 0 st=true
   ·rw [if_pos h3]at h;cases h
   ·rw [if_neg h3]at h
    exact⟨by omega,by omega,by omega,by simpa using h3,h⟩
end
section
open Go.RowKit
def rq_spS (c:UInt8)(s:List (List UInt8)×List UInt8)(b:UInt8):List (List UInt8)×List UInt8:=if b=c then (s.1++[s.2],[])else (s.1,s.2++[b])
def rq_spl (c:UInt8) (t:List UInt8):List (List UInt8)×List UInt8:=t.foldl (rq_spS c) ([],[])
def rq_joinC (c:UInt8)(ls:List (List UInt8))(tl:List UInt8):List UInt8:=ls.flatMap (fun l=>l++[c])++tl
def rq_NoB(c:UInt8)(l:List UInt8):Prop:=∀ b∈l,b≠c
theorem rq_joinC_nil(c:UInt8)(tl:List UInt8):rq_joinC c [] tl=tl:=rfl
theorem rq_joinC_cons (c:UInt8)(l:List UInt8)(ls:List (List UInt8))(tl:List UInt8):rq_joinC c (l::ls) tl=l++c::rq_joinC c ls tl:=by
 unfold rq_joinC;simp
theorem rq_sp_join (c:UInt8):∀ (t:List UInt8) (ls:List (List UInt8)) (cur:List UInt8),rq_joinC c (t.foldl (rq_spS c) (ls,cur)).1 (t.foldl (rq_spS c) (ls,cur)).2=rq_joinC c ls cur++t
 | [],ls,cur=>by simp
 | b::r,ls,cur=>by
  by_cases h:b=c
  ·rw [List.foldl_cons,show rq_spS c (ls,cur) b=(ls++[cur],[]) from if_pos h,rq_sp_join c r]
   simp [rq_joinC,h]
  ·rw [List.foldl_cons,show rq_spS c (ls,cur) b=(ls,cur++[b]) from if_neg h,rq_sp_join c r]
   simp [rq_joinC]
theorem rq_sp_no (c:UInt8):∀ (t:List UInt8) (ls:List (List UInt8)) (cur:List UInt8),(∀ l∈ls,rq_NoB c l)→rq_NoB c cur→(∀ l∈(t.foldl (rq_spS c) (ls,cur)).1,rq_NoB c l)∧rq_NoB c (t.foldl (rq_spS c) (ls,cur)).2
 | [],ls,cur,h1,h2=>⟨h1,h2⟩
 | b::r,ls,cur,h1,h2=>by
  by_cases h:b=c
  ·rw [List.foldl_cons,show rq_spS c (ls,cur) b=(ls++[cur],[]) from if_pos h]
   exact rq_sp_no c r _ _ (fun l hl=>by
    rcases List.mem_append.1 hl with x|x
    ·exact h1 l x
    ·rw [List.mem_singleton.1 x];exact h2) (fun b hb=>by cases hb)
  ·rw [List.foldl_cons,show rq_spS c (ls,cur) b=(ls,cur++[b]) from if_neg h]
   exact rq_sp_no c r _ _ h1 (fun x hx=>by
    rcases List.mem_append.1 hx with y|y
    ·exact h2 x y
    ·rw [List.mem_singleton.1 y];exact h)
theorem rq_sp_run (c:UInt8):∀ (l:List UInt8) (ls:List (List UInt8)) (cur:List UInt8),rq_NoB c l→l.foldl (rq_spS c) (ls,cur)=(ls,cur++l)
 | [],ls,cur,_=>by simp
 | b::r,ls,cur,h=>by
  rw [List.foldl_cons,show rq_spS c (ls,cur) b=(ls,cur++[b]) from if_neg (h b (by simp)),rq_sp_run c r _ _ (fun x hx=>h x (by simp [hx]))]
  simp
theorem rq_sp_uniq (c:UInt8):∀ (ls:List (List UInt8)) (tl:List UInt8) (a:List (List UInt8)),(∀ l∈ls,rq_NoB c l)→rq_NoB c tl→(rq_joinC c ls tl).foldl (rq_spS c) (a,[])=(a++ls,tl)
 | [],tl,a,_,h=>by rw [rq_joinC_nil,rq_sp_run c tl _ _ h];simp
 | l::ls,tl,a,h1,h2=>by
  rw [rq_joinC_cons,List.foldl_append,rq_sp_run c l _ _ (h1 l (by simp)),List.foldl_cons,List.nil_append,show rq_spS c (a,l) c=(a++[l],[]) from if_pos rfl,rq_sp_uniq c ls tl _ (fun x hx=>h1 x (by simp [hx])) h2]
  simp
theorem rq_spl_join (c:UInt8)(t:List UInt8):rq_joinC c (rq_spl c t).1 (rq_spl c t).2=t:=(rq_sp_join c t [] []).trans rfl
theorem rq_spl_no (c:UInt8) (t:List UInt8):(∀ l∈(rq_spl c t).1,rq_NoB c l)∧rq_NoB c (rq_spl c t).2:=rq_sp_no c t [] [] (fun l hl=>by cases hl) (fun b hb=>by cases hb)
theorem rq_spl_uniq {c:UInt8} {ls:List (List UInt8)} {tl:List UInt8} (h1:∀ l∈ls,rq_NoB c l)(h2:rq_NoB c tl):rq_spl c (rq_joinC c ls tl)=(ls,tl):=by
 unfold rq_spl;rw [rq_sp_uniq c ls tl [] h1 h2];simp
theorem rq_index_first (c:UInt8)(r:List UInt8):∀ l:List UInt8,rq_NoB c l→Lib.index (l++c::r) [c]=(l.length:Int)
 | [],_=>by rw [List.nil_append,Lib.index];simp [List.isPrefixOf]
 | b::l,h=>by
  have ih:=rq_index_first c r l (fun x hx=>h x (by simp [hx]))
  have hb:([c]:List UInt8).isPrefixOf (b::(l++c::r))=false:=by simp [List.isPrefixOf,Ne.symm (h b (by simp))]
  rw [List.cons_append,Lib.index,hb,ih]
  simp only [Bool.false_eq_true,if_false,List.length_cons]
  rw [if_neg (by simp)]
  omega
theorem rq_index_none (c:UInt8):∀ l:List UInt8,rq_NoB c l→Lib.index l [c]=-1
 | [],_=>by rw [Lib.index];simp
 | b::l,h=>by
  have ih:=rq_index_none c l (fun x hx=>h x (by simp [hx]))
  have hb:([c]:List UInt8).isPrefixOf (b::l)=false:=by simp [List.isPrefixOf,Ne.symm (h b (by simp))]
  rw [Lib.index,hb,ih]
  simp
theorem rq_cut_at {c:UInt8} {l r:List UInt8} (h:rq_NoB c l):Lib.cut (l++c::r) [c]=(l,r,true):=by
 have hi:=rq_index_first c r l h
 unfold Lib.cut
 rw [if_pos (by omega),hi,Int.toNat_natCast]
 have e1:(l++c::r).take l.length=l:=List.take_left
 have e2:(l++c::r).drop (l.length+[c].length)=r:=by
  rw [show l++c::r=(l++[c])++r by simp,show l.length+[c].length=(l++[c]).length by simp];exact List.drop_left
 rw [e1,e2]
theorem rq_cut_no {c:UInt8} {l:List UInt8} (h:rq_NoB c l):Lib.cut l [c]=(l,[],false):=by
 have hi:=rq_index_none c l h
 unfold Lib.cut
 rw [if_neg (by omega)]
theorem rq_count_no {c:UInt8} {l:List UInt8} (h:rq_NoB c l):Lib.count l [c]=0:=by
 rw [Lib.count_one,List.count_eq_zero]
 exact fun hc=>h c hc rfl
theorem rq_count_join (c:UInt8):∀ (ls:List (List UInt8))(tl:List UInt8),(∀ l∈ls,rq_NoB c l)→rq_NoB c tl→Lib.count (rq_joinC c ls tl) [c]=ls.length
 | [],tl,_,h=>by rw [rq_joinC_nil,rq_count_no h];rfl
 | l::ls,tl,h1,h2=>by
  have ih:=rq_count_join c ls tl (fun x hx=>h1 x (by simp [hx])) h2
  have h0:=rq_count_no (h1 l (by simp))
  rw [Lib.count_one] at ih h0 ⊢
  rw [rq_joinC_cons,List.count_append,h0,List.count_cons_self,ih,List.length_cons];omega
theorem rq_splitK_join (c:UInt8):∀ (ls:List (List UInt8))(tl:List UInt8),(∀ l∈ls,rq_NoB c l)→rq_NoB c tl→Lib.splitK [c] 0 ls.length (rq_joinC c ls tl)=ls++[tl]
 | [],tl,_,_=>rfl
 | l::ls,tl,h1,h2=>by
  have hi:=rq_index_first c (rq_joinC c ls tl) l (h1 l (by simp))
  rw [rq_joinC_cons,List.length_cons,Lib.splitK,hi,if_neg (by simp),Int.toNat_natCast]
  have e1:(l++c::rq_joinC c ls tl).take (l.length+0)=l:=List.take_left
  have e2:(l++c::rq_joinC c ls tl).drop (l.length+[c].length)=rq_joinC c ls tl:=by
   rw [show l++c::rq_joinC c ls tl=(l++[c])++rq_joinC c ls tl by simp,show l.length+[c].length=(l++[c]).length by simp];exact List.drop_left
  rw [e1,e2,rq_splitK_join c ls tl (fun x hx=>h1 x (by simp [hx])) h2];rfl
def rq_wds (c:UInt8)(t:List UInt8):List (List UInt8):=(rq_spl c t).1++[(rq_spl c t).2]
theorem rq_split_wds (c:UInt8)(t:List UInt8):Lib.splitK [c] 0 (Lib.count t [c]) t=rq_wds c t:=by
 obtain⟨h1,h2⟩:=rq_spl_no c t
 have hj:=rq_spl_join c t
 unfold rq_wds
 rw [← rq_splitK_join c _ _ h1 h2,hj,← rq_count_join c _ _ h1 h2,hj]
theorem rq_wds_len(c:UInt8)(t:List UInt8):(rq_wds c t).length=Lib.count t [c]+1:=by
 obtain⟨h1,h2⟩:=rq_spl_no c t
 have:=rq_count_join c _ _ h1 h2
 rw [rq_spl_join]at this
 unfold rq_wds;rw [this];simp
theorem rq_wds_cons (c:UInt8) (l r:List UInt8) (h:rq_NoB c l):rq_wds c (l++c::r)=l::rq_wds c r:=by
 obtain ⟨h1,h2⟩:=rq_spl_no c r
 have hj:=rq_spl_join c r
 have e:l++c::r=rq_joinC c (l::(rq_spl c r).1) (rq_spl c r).2:=by rw [rq_joinC_cons,hj]
 unfold rq_wds
 rw [e,rq_spl_uniq (fun x hx=>by rcases List.mem_cons.1 hx with y|y;exact y ▸ h;exact h1 x y) h2]
 simp
theorem rq_wds_one (c:UInt8) (l:List UInt8) (h:rq_NoB c l):rq_wds c l=[l]:=by
 have:=rq_spl_uniq (ls:=[]) (fun x hx=>by cases hx) h
 unfold rq_wds
 rw [rq_joinC_nil] at this
 rw [this];rfl
theorem rq_wds_bytes (c:UInt8) (t:List UInt8):∀ w∈rq_wds c t,w.length≤t.length:=by
 intro w hw
 have hj:=rq_spl_join c t
 unfold rq_wds at hw
 have hl:t.length=(rq_joinC c (rq_spl c t).1 (rq_spl c t).2).length:=by rw [hj]
 rw [hl]
 unfold rq_joinC
 rcases List.mem_append.1 hw with x|x
 ·obtain ⟨i,hi,rfl⟩:=List.mem_iff_getElem.1 x
  rw [List.length_append]
  have:((rq_spl c t).1[i]++[c]).length≤((rq_spl c t).1.flatMap fun l=>l++[c]).length:=by
   have:=List.sublist_flatten_of_mem (List.mem_map.2 ⟨_,List.getElem_mem hi,rfl⟩:(rq_spl c t).1[i]++[c]∈(rq_spl c t).1.map fun l=>l++[c])
   rw [List.flatMap_def];exact this.length_le
  simp at this ⊢;omega
 ·rw [List.mem_singleton.1 x];simp
theorem rq_wds_join3 {t a b d:List UInt8} (h:rq_wds 32 t=[a,b,d]):t=a++32::(b++32::d)∧rq_NoB 32 a∧rq_NoB 32 b∧rq_NoB 32 d:=by
 have hj:=rq_spl_join 32 t
 obtain⟨h1,h2⟩:=rq_spl_no 32 t
 unfold rq_wds at h
 have hls:(rq_spl 32 t).1=[a,b]∧(rq_spl 32 t).2=d:=by
  have e:[a,b,d]=[a,b]++[d]:=rfl
  rw [e]at h
  have:=List.append_inj' h rfl
  exact⟨this.1,by simpa using this.2⟩
 rw [hls.1,hls.2]at hj
 rw [hls.1]at h1;rw [hls.2]at h2
 refine⟨?_,h1 a (by simp),h1 b (by simp),h2⟩
 rw [← hj];simp [rq_joinC]
def rq_numG (n:Nat):List UInt8→Option Nat
 | []=>some n
 | b::r=>if 48≤b.toNat∧b.toNat≤57 then rq_numG (10*n+(b.toNat-48)) r else none
def rq_numR(w:List UInt8):Option Nat:=if w.length<1∨3<w.length∨(w.getD 0 0=48∧1<w.length)then none else rq_numG 0 w
def rq_dig3 (n:Nat):List UInt8:=if n<10 then [UInt8.ofNat (48+n)]else if n<100 then [UInt8.ofNat (48+n/10),UInt8.ofNat (48+n % 10)]else [UInt8.ofNat (48+n/100),UInt8.ofNat (48+n/10 % 10),UInt8.ofNat (48+n % 10)]
theorem rq_dig3_eq {n:Nat} (h:n<1000):Lib.itoa (n:Int)=rq_dig3 n:=by
 unfold Lib.itoa
 rw [if_neg (by omega),Int.toNat_natCast]
 unfold rq_dig3
 by_cases h1:n<10
 ·rw [if_pos h1,Lib.decDigits_one h1]
 ·rw [if_neg h1]
  by_cases h2:n<100
  ·rw [if_pos h2,Lib.decDigits_two h1 h2]
  ·rw [if_neg h2,Lib.decDigits,dif_neg h1,Lib.decDigits_two (by omega) (by omega)]
   rw [show n/10/10=n/100 by omega];rfl
theorem rq_dig3_all:((List.range 1000).all fun n=>rq_numR (rq_dig3 n) == some n && (rq_dig3 n).all (fun b=>b != 32 && b != 10) && decide ((rq_dig3 n).length≤3))=true:=by decide +kernel
theorem rq_dig3_of {n:Nat} (h:n<1000):rq_numR (rq_dig3 n)=some n∧rq_NoB 32 (rq_dig3 n)∧rq_NoB 10 (rq_dig3 n)∧(rq_dig3 n).length≤3:=by
 have:=List.all_eq_true.1 rq_dig3_all n (List.mem_range.2 h)
 simp only [Bool.and_eq_true,beq_iff_eq,List.all_eq_true,bne_iff_ne,decide_eq_true_eq]at this
 exact⟨this.1.1,fun b hb=>(this.1.2 b hb).1,fun b hb=>(this.1.2 b hb).2,this.2⟩
theorem rq_byte_of {a:UInt8} (h:48≤a.toNat):UInt8.ofNat (48+(a.toNat-48))=a:=by
 rw [show 48+(a.toNat-48)=a.toNat by omega];simp
theorem rq_parse_step {a:UInt8} {r:List UInt8} {acc:Nat} (h:48≤a.toNat∧a.toNat≤57)(hb:acc<1000000):Lib.parseUint10 acc (a::r)=Lib.parseUint10 (acc*10+(a.toNat-48)) r:=by
 rw [Lib.parseUint10,if_pos h,if_neg (by omega),if_neg (by omega)]
theorem rq_atoi_of {a:UInt8} {r:List UInt8} {n:Nat} (h:48≤a.toNat)(hp:Lib.parseUint10 0 (a::r)=.ok n)(hn:n<1000):Lib.atoiAll (a::r)=.ok (n:Int):=by
 unfold Lib.atoiAll
 dsimp only
 rw [if_neg (by omega)]
 unfold Lib.parseMag
 rw [if_neg (by simp),hp]
 dsimp only
 rw [if_neg (by omega),if_neg (by omega),if_neg (by omega)]
theorem rq_num_cases {w:List UInt8} {n:Nat} (h:rq_numR w=some n):n<1000∧rq_dig3 n=w∧Lib.atoiAll w=.ok (n:Int):=by
 unfold rq_numR at h
 split at h
 ·cases h
 rename_i hc
 simp only [not_or,not_and]at hc
 obtain ⟨c1,c2,c3⟩:=hc
 match w,h,c1,c2,c3 with
 | [],h,c1,_,_=>simp at c1
 | [a],h,_,_,_ =>
  simp only [rq_numG]at h
  split at h
  ·rename_i ha
   have e:a.toNat-48=n:=by simpa using h
   refine ⟨by omega,?_,?_⟩
   ·unfold rq_dig3
    rw [if_pos (by omega),← e,rq_byte_of ha.1]
   ·exact rq_atoi_of ha.1 (by rw [rq_parse_step ha (by omega),Lib.parseUint10];congr 1;omega) (by omega)
  ·cases h
 | [a,b],h,_,_,c3 =>
  have h0:a≠48:=fun e=>absurd (c3 (by simp [e])) (by simp)
  have h0':a.toNat≠48:=fun e=>h0 (UInt8.toNat_inj.1 e)
  simp only [rq_numG]at h
  split at h
  ·rename_i ha
   split at h
   ·rename_i hb
    have e:10*(10*0+(a.toNat-48))+(b.toNat-48)=n:=by simpa using h
    refine ⟨by omega,?_,?_⟩
    ·unfold rq_dig3
     rw [if_neg (by omega),if_pos (by omega),show n/10=a.toNat-48 by omega,show n % 10=b.toNat-48 by omega,rq_byte_of ha.1,rq_byte_of hb.1]
    ·exact rq_atoi_of ha.1 (by rw [rq_parse_step ha (by omega),rq_parse_step hb (by omega),Lib.parseUint10];congr 1;omega) (by omega)
   ·cases h
  ·cases h
 | [a,b,c],h,_,_,c3 =>
  have h0:a≠48:=fun e=>absurd (c3 (by simp [e])) (by simp)
  have h0':a.toNat≠48:=fun e=>h0 (UInt8.toNat_inj.1 e)
  simp only [rq_numG]at h
  split at h
  ·rename_i ha
   split at h
   ·rename_i hb
    split at h
    ·rename_i hc
     have e:10*(10*(10*0+(a.toNat-48))+(b.toNat-48))+(c.toNat-48)=n:=by simpa using h
     refine ⟨by omega,?_,?_⟩
     ·unfold rq_dig3
      rw [if_neg (by omega),if_neg (by omega),show n/100=a.toNat-48 by omega,show n/10 % 10=b.toNat-48 by omega,show n % 10=c.toNat-48 by omega,rq_byte_of ha.1,rq_byte_of hb.1,rq_byte_of hc.1]
     ·exact rq_atoi_of ha.1 (by rw [rq_parse_step ha (by omega),rq_parse_step hb (by omega),rq_parse_step hc (by omega),Lib.parseUint10];congr 1;omega) (by omega)
    ·cases h
   ·cases h
  ·cases h
 | a::b::c::d::r,h,_,c2,_=>simp at c2
def rq_nmL:List (List UInt8):=[[110,111,116,101],[114,105,103,104,116],[103,114,97,99,101],[104,111,108,100],[116,104,114,101,101],[115,105,103,110],[116,105,101],[114,101,115,116]]
def rq_nmW (x:Int):List UInt8:=rq_nmL.getD (x-1).toNat []
theorem rq_nmW_all:((List.range 8).all fun k=>(rq_nmW ((k:Nat)+1:Int)).all (fun b=>b != 32 && b != 10) && decide ((rq_nmW ((k:Nat)+1:Int)).length≤5) && rq_nmL.idxOf (rq_nmW ((k:Nat)+1:Int)) == k)=true:=by decide +kernel
theorem rq_nmW_of {x:Int} (h:1≤x∧x≤8):rq_NoB 32 (rq_nmW x)∧rq_NoB 10 (rq_nmW x)∧(rq_nmW x).length≤5∧((rq_nmL.idxOf (rq_nmW x):Nat):Int)+1=x:=by
 obtain⟨k,hk⟩:=Int.eq_ofNat_of_zero_le (show 0≤x-1 by omega)
 have:=List.all_eq_true.1 rq_nmW_all k (List.mem_range.2 zqo)
 rw [show ((k:Nat):Int)+1=x by omega]at this
 simp only [Bool.and_eq_true,beq_iff_eq,List.all_eq_true,bne_iff_ne,decide_eq_true_eq]at this
 exact⟨fun b hb=>(this.1.1 b hb).1,fun b hb=>(this.1.1 b hb).2,this.1.2,by omega⟩
def rq_rkOk (x:Int×Int×Int):Bool:=decide (0≤x.1∧x.1<400∧0≤x.2.1∧x.2.1≤14∧1≤x.2.2∧x.2.2≤8)
def rq_rkT(x:Int×Int×Int):List UInt8:=Lib.itoa x.1++[32]++Lib.itoa x.2.1++[32]++rq_nmW x.2.2
def rq_rpT (l:List (Int×Int×Int)):List UInt8:=l.flatMap fun x=>rq_rkT x++[10]
theorem rq_rpT_at {l:List (Int×Int×Int)} {k:Nat} (h:k<l.length):rq_rpT (l.take (k+1))=rq_rpT (l.take k)++(rq_rkT l[k]++[10]):=by
 unfold rq_rpT
 rw [List.take_succ_eq_append_getElem h,List.flatMap_append];simp
theorem rq_rkT_of {x:Int×Int×Int} (h:rq_rkOk x=true):(rq_rkT x).length≤13∧rq_NoB 10 (rq_rkT x)∧rq_wds 32 (rq_rkT x)=[Lib.itoa x.1,Lib.itoa x.2.1,rq_nmW x.2.2]∧rq_numR (Lib.itoa x.1)=some x.1.toNat∧rq_numR (Lib.itoa x.2.1)=some x.2.1.toNat:=by
 have h:=of_decide_eq_true h
 obtain ⟨e,c,q⟩:=x
 dsimp only at h ⊢
 obtain ⟨i,rfl⟩:=Int.eq_ofNat_of_zero_le h.1
 obtain ⟨j,rfl⟩:=Int.eq_ofNat_of_zero_le h.2.2.1
 obtain ⟨w1,w2,w3,w4⟩:=rq_nmW_of ⟨h.2.2.2.2.1,h.2.2.2.2.2⟩
 have di:=rq_dig3_of (n:=i) zqo
 have dj:=rq_dig3_of (n:=j) zqo
 have ei:=rq_dig3_eq (n:=i) zqo
 have ej:=rq_dig3_eq (n:=j) zqo
 unfold rq_rkT
 dsimp only
 rw [ei,ej]
 refine ⟨by simp only [List.length_append,List.length_cons,List.length_nil];omega,fun b hb=>?_,?_,by rw [di.1];simp,by rw [dj.1];simp⟩
 ·simp only [List.mem_append,List.mem_singleton]at hb
  rcases hb with(((x|x)|x)|x)|x
  ·exact di.2.2.1 b x
  ·rw [x];decide
  ·exact dj.2.2.1 b x
  ·rw [x];decide
  ·exact w2 b x
 ·rw [show rq_dig3 i++[32]++rq_dig3 j++[32]++rq_nmW q=rq_dig3 i++32::(rq_dig3 j++32::rq_nmW q)by simp,rq_wds_cons 32 _ _ di.2.1,rq_wds_cons 32 _ _ dj.2.1,rq_wds_one 32 _ w1]
theorem rq_rpT_len:∀ {l:List (Int×Int×Int)},(∀ x∈l,rq_rkOk x=true)→(rq_rpT l).length≤14*l.length
 | [],_=>by simp [rq_rpT]
 | x::r,h=>by
  have h1:=(rq_rkT_of (h x (by simp))).1
  have h2:=rq_rpT_len (l:=r) (fun y hy=>h y (by simp [hy]))
  unfold rq_rpT at h2 ⊢
  simp only [List.flatMap_cons,List.length_append,List.length_cons,List.length_nil];omega
def rq_rLn:List (List UInt8)→Option (Int×Int×Int)
 | [a,b,d] =>
  match rq_numR a,rq_numR b with
  | some e,some c=>if e<400∧c≤14∧rq_nmL.idxOf d<8 then some ((e:Int),(c:Int),((rq_nmL.idxOf d:Nat):Int)+1)else none
  | _,_=>none
 | _=>none
def rq_pLn:List (List UInt8)→Option (Int×Int×Int)
 | [a,b,d] =>
  match Lib.atoiAll a,Lib.atoiAll b with
  | .ok e,.ok c=>if rq_nmL.idxOf d<8 then some (e,c,((rq_nmL.idxOf d:Nat):Int)+1)else none
  | _,_=>none
 | _=>none
theorem rq_nmW_idx {d:List UInt8} (h:rq_nmL.idxOf d<8):rq_nmW (((rq_nmL.idxOf d:Nat):Int)+1)=d:=by
 have h':rq_nmL.idxOf d<rq_nmL.length:=h
 unfold rq_nmW
 rw [show (((rq_nmL.idxOf d:Nat):Int)+1-1).toNat=rq_nmL.idxOf d by omega,List.getD_eq_getElem?_getD,List.getElem?_eq_getElem h',List.getElem_idxOf h']
 rfl
theorem rq_rLn_ok {t:List UInt8} {x:Int×Int×Int} (h:rq_rLn (rq_wds 32 t)=some x):rq_pLn (rq_wds 32 t)=some x∧rq_rkOk x=true∧rq_rkT x=t:=by
 obtain⟨ws,hw⟩:∃ ws,rq_wds 32 t=ws:=⟨_,rfl⟩
 rw [hw]at h ⊢
 match ws,hw,h with
 | [],_,h=>cases h
 | [_],_,h=>cases h
 | [_,_],_,h=>cases h
 | _::_::_::_::_,_,h=>cases h
 | [a,b,d],hw,h =>
  unfold rq_rLn at h
  dsimp only at h
  cases ha:rq_numR a with
  | none=>rw [ha]at h;simp at h
  | some e =>
   cases hb:rq_numR b with
   | none=>rw [ha,hb]at h;simp at h
   | some c =>
    rw [ha,hb]at h
    dsimp only at h
    split at h
    ·rename_i hc
     obtain rfl:((e:Int),(c:Int),((rq_nmL.idxOf d:Nat):Int)+1)=x:=by simpa using h
     obtain⟨a1,a2,a3⟩:=rq_num_cases ha
     obtain⟨b1,b2,b3⟩:=rq_num_cases hb
     refine⟨?_,decide_eq_true (by dsimp only;omega),?_⟩
     ·unfold rq_pLn
      dsimp only
      rw [a3,b3]
      dsimp only
      rw [if_pos hc.2.2]
     ·unfold rq_rkT
      dsimp only
      rw [rq_dig3_eq a1,rq_dig3_eq b1,a2,b2,rq_nmW_idx hc.2.2,(rq_wds_join3 hw).1]
      simp
    ·cases h
theorem rq_rLn_of {t:List UInt8} {x:Int×Int×Int} (h1:rq_rkOk x=true) (h2:rq_rkT x=t):rq_rLn (rq_wds 32 t)=some x:=by
 obtain ⟨_,_,r1,r2,r3⟩:=rq_rkT_of h1
 have h:=of_decide_eq_true h1
 obtain ⟨_,_,_,w4⟩:=rq_nmW_of ⟨h.2.2.2.2.1,h.2.2.2.2.2⟩
 rw [← h2,r1]
 unfold rq_rLn
 dsimp only
 rw [r2,r3]
 dsimp only
 rw [if_pos ⟨by omega,by omega,by omega⟩,w4]
 obtain ⟨e,c,q⟩:=x
 dsimp only at h ⊢
 rw [Int.toNat_of_nonneg h.1,Int.toNat_of_nonneg h.2.2.1]
def rq_prV (ls:List (List UInt8))(tl:List UInt8):Option (List (Int×Int×Int)):=if tl=[]then ls.mapM fun l=>rq_rLn (rq_wds 32 l)else none
theorem rq_mapM_none {α β:Type} {f:α→Option β}:∀ {l:List α} {x:α},x∈l→f x=none→l.mapM f=none
 | y::r,x,hx,hf=>by
  rw [List.mapM_cons]
  rcases List.mem_cons.1 hx with rfl|h
  ·rw [hf];rfl
  ·cases f y with
   | none=>rfl
   | some z=>rw [rq_mapM_none h hf];rfl
theorem rq_mapM_some {α β:Type} {f:α→Option β}:∀ {l:List α} {g:α→β},(∀ x∈l,f x=some (g x))→l.mapM f=some (l.map g)
 | [],_,_=>rfl
 | y::r,g,h=>by rw [List.mapM_cons,h y (by simp),rq_mapM_some (fun x hx=>h x (by simp [hx]))];rfl
def rq_plX (l:List UInt8):Int×Int×Int:=(rq_pLn (rq_wds 32 l)).getD (0,0,0)
theorem rq_rpT_join (l:List (Int×Int×Int)):rq_rpT l=rq_joinC 10 (l.map rq_rkT) []:=by
 unfold rq_rpT rq_joinC
 rw [List.flatMap_map];simp
theorem rq_prV_yes {ls:List (List UInt8)} (hn:∀ l∈ls,rq_NoB 10 l) (hp:∀ l∈ls,(rq_pLn (rq_wds 32 l)).isSome) (ho:∀ x∈ls.map rq_plX,rq_rkOk x=true) (ht:rq_rpT (ls.map rq_plX)=rq_joinC 10 ls []):rq_prV ls []=some (ls.map rq_plX):=by
 unfold rq_prV
 rw [if_pos rfl]
 refine rq_mapM_some fun l hl=>?_
 refine rq_rLn_of (ho _ (List.mem_map.2 ⟨l,hl,rfl⟩)) ?_
 rw [rq_rpT_join] at ht
 have e1:=rq_spl_uniq (c:=10) (ls:=(ls.map rq_plX).map rq_rkT) (tl:=[]) (fun y hy=>by
  obtain ⟨x,hx,rfl⟩:=List.mem_map.1 hy
  exact (rq_rkT_of (ho x hx)).2.1) (fun b hb=>by cases hb)
 have e2:=rq_spl_uniq (c:=10) (ls:=ls) (tl:=[]) hn (fun b hb=>by cases hb)
 rw [ht,e2] at e1
 have e3:ls=(ls.map rq_plX).map rq_rkT:=(Prod.mk.inj e1).1
 obtain ⟨i,hi,rfl⟩:=List.mem_iff_getElem.1 hl
 have e4:ls[i]?=((ls.map rq_plX).map rq_rkT)[i]?:=by rw [← e3]
 rw [List.getElem?_map,List.getElem?_map,List.getElem?_eq_getElem hi] at e4
 simpa using e4.symm
theorem rq_prV_some {ls:List (List UInt8)} {tl:List UInt8} {xs:List (Int×Int×Int)} (h:rq_prV ls tl=some xs):tl=[]∧xs=ls.map rq_plX∧(∀ l∈ls,(rq_pLn (rq_wds 32 l)).isSome)∧(∀ x∈ls.map rq_plX,rq_rkOk x=true)∧rq_rpT (ls.map rq_plX)=rq_joinC 10 ls []:=by
 unfold rq_prV at h
 split at h
 ·rename_i ht
  have hall:∀ l∈ls,∃ x,rq_rLn (rq_wds 32 l)=some x:=fun l hl=>by
   cases hx:rq_rLn (rq_wds 32 l)with
   | none=>rw [rq_mapM_none hl hx]at h;cases h
   | some x=>exact ⟨x,rfl⟩
  have hx:∀ l∈ls,rq_rLn (rq_wds 32 l)=some (rq_plX l)∧rq_rkOk (rq_plX l)=true∧rq_rkT (rq_plX l)=l∧(rq_pLn (rq_wds 32 l)).isSome:=fun l hl=>by
   obtain ⟨x,hx⟩:=hall l hl
   obtain ⟨h1,h2,h3⟩:=rq_rLn_ok hx
   have e:rq_plX l=x:=by unfold rq_plX;rw [h1];rfl
   rw [e];exact ⟨hx,h2,h3,by rw [h1];rfl⟩
  rw [rq_mapM_some (fun l hl=>(hx l hl).1)]at h
  refine ⟨ht,(Option.some.inj h).symm,fun l hl=>(hx l hl).2.2.2,fun x hx'=>?_,?_⟩
  ·obtain ⟨l,hl,rfl⟩:=List.mem_map.1 hx'
   exact (hx l hl).2.1
  ·rw [rq_rpT_join,List.map_map]
   congr 1
   refine Eq.trans (List.map_congr_left fun l hl=>?_) (List.map_id ls)
   exact (hx l hl).2.2.1
 ·cases h
theorem rq_fields_nm:Lib.fields [110,111,116,101,32,114,105,103,104,116,32,103,114,97,99,101,32,104,111,108,100,32,116,104,114,101,101,32,115,105,103,110,32,116,105,101,32,114,101,115,116]=rq_nmL:=by decide +kernel
end
section
open Go.RowKit
def Calm(W w:World):Prop:=Below W.heap.size W w
theorem wp_region_calm {P:Program} {id:Nat} {Q:Exit→Act→World→Prop} {a:Act} {w:World} {l:List Oper} (W:World) (hm:P.follows .mixedOrders=true) (hB:Region.lexB .any l.toArray=true) (hW:Below W.heap.size W w)
  (h:wpQuiet P l.toArray (Calm W) (fun a'=>∀ w',Calm W w'→Q .normal a' w') l a):(Code.region id l.toArray true).wp P Q a w :=
 wp_region_quiet (C:=Calm W) hm hB (show Below W.heap.size W _ from ⟨hW.os,hW.tape,hW.output,hW.size,hW.block⟩) (by simpa using h)
theorem calm_val {P:Program} {W:World} {o:Oper} {a:Act} {K:Act→Prop} {v:Value} (h:∀ w',Calm W w'→(execOp a.eval o).run P w'=.ok (.value v) w')(hk:K (a.put o.dst v)):o.quiet P a (Calm W) K:=by
 refine⟨v,fun w' hw'=>?_,hk⟩
 unfold Oper.quietAt
 rw [h w' hw']
 exact⟨rfl,rfl⟩
theorem calm_enter {P:Program} {W:World} {o:Oper} {a:Act} {K:Act→Prop} {v:Value} {f:FuncId} {args:Array Value} (h:∀ w',Calm W w'→(execOp a.eval o).run P w'=.ok (.enter f args) w')(hc:∀ w',Calm W w'→Calls P f args w' (Ret v w'))(hk:K (a.put o.dst v)) :
  o.quiet P a (Calm W) K:=by
 refine⟨v,fun w' hw'=>?_,hk⟩
 unfold Oper.quietAt
 rw [h w' hw']
 exact⟨rfl,(hc w' hw').mono fun e w''⟨he,hb⟩=>⟨he,show Below W.heap.size W w'' from Below.trans hw' (hb.mono (Below.size hw'))⟩⟩
theorem calm_cell {W w':World} (h:Calm W w'):(∀ b o,b<W.heap.size→w'.cell? ⟨b,o,none⟩=W.cell? ⟨b,o,none⟩)∧(∀ p:Addr,p.block<W.heap.size→w'.cell? p=W.cell? p) :=
 ⟨fun b o h'=>Below.cell (p:=⟨b,o,none⟩) h h',fun p h'=>Below.cell (p:=p) h h'⟩
end
end Go.Proofs.YtockempedekkkaaGreatDoor
