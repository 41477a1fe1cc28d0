/- The table of an alignment: its rows; the least of a list. -/
import Derived.Test.YtgelfflighgajaaGreatDoorEngOq
import Derived.Test.YtgelfflighgajaaGreatDoorClmOq
set_option maxHeartbeats 8000000
set_option maxRecDepth 100000
set_option linter.unusedVariables false
set_option linter.unusedSimpArgs false
namespace Go.Proofs.YtgelfflighgajaaGreatDoor
section
open Go.RowKit
theorem z0i {z:Int} (h:I64 z:=by unfold I64;omega):I64 z:=h
def sgX(a:Int):List UInt8:=if a=0 then []else if a=1 then [35]else if a=2 then [98]else [61]
def sfT (x:Sf):List UInt8:=cut ltrs x.2.1 (x.2.1+1)++sgX x.2.2.2++Lib.itoa x.2.2.1
def SfOk(x:Sf):Prop:=(0≤x.2.1∧x.2.1≤6)∧I64 x.2.2.1∧(0≤x.2.2.2∧x.2.2.2≤3)
theorem staffed_G (x:Sf) (h:SfOk x):Ctg tabB Tryz.prog 113 [.ag (eSf x)] (.sc (.string (bs (sfT x)))):=by
 obtain ⟨e,l,o,a⟩:=x
 obtain ⟨⟨h1,h2⟩,hI,h3,h4⟩:=h
 dsimp only at h1 h2 hI h3 h4
 have hl3:=itoa_len (n:=o) (by unfold I64 at hI;omega)
 have hI:=itoa_G o hI
 have hT:sfT (e,l,o,a)=cut ltrs l (l+1)++sgX a++Lib.itoa o:=rfl
 have hl1:(cut [67,68,69,70,71,65,66] l (l+1)).length≤1:=cut_ltr (l:=l)
 have hcb:0≤l∧l≤l+1∧l+1≤(ltrs.length:Int):=⟨h1,by omega,by simp [ltrs];omega⟩
 have hsl:(sgX a).length≤1:=by unfold sgX;split<;>(try split)<;>(try split)<;>simp
 have hcat:(cut [67,68,69,70,71,65,66] l (l+1)++sgX a).length≤2:=by rw [List.length_append];omega
 rw [hT]
 obtain ⟨io,hio⟩:∃ z,Lib.itoa o=z:=⟨_,rfl⟩
 rw [hio] at hl3 hI ⊢
 have cases4:(a=0∧sgX a=[])∨(a=1∧sgX a=[35])∨(a=2∧sgX a=[98])∨(a=3∧sgX a=[61]):=by
  have:a=0∨a=1∨a=2∨a=3:=by omega
  rcases this with h|h|h|h<;>subst h<;>simp [sgX]
 rcases cases4 with ⟨ha,hs⟩|⟨ha,hs⟩|⟨ha,hs⟩|⟨ha,hs⟩
 all_goals
  rw [hs] at hcat hsl ⊢
  subst ha
  dsimp only [eSf]
  refine Ctg.intro stabB Tryz.func113 rfl Tryz.ntmps113 (Nat.le_of_ble_eq_true rfl) (bd_all rfl) fun w0 F0 hB=>?_;dsimp only [St.init,number,Nat.reduceAdd]
  repeat refine W.go rfl ?_
  refine (?_:W _ _ _ _ _)
  refine W.drawK zqk zqk ?_
  repeat (first|refine DK.st rfl ?_|refine DK.ar rfl rfl z0i ?_)
  refine DK.vl rfl (cutV_of rfl hcb) ?_
  repeat (first|refine DK.st rfl ?_|refine DK.ixs rfl rfl zqs ?_|refine DK.cat rfl rfl zqs ?_)
  refine DK.vl rfl (WV.callG hB rfl (callF Tryz.func116 rfl rfl) rfl rfl hI) ?_
  repeat (first|refine DK.st rfl ?_|refine DK.cat rfl rfl zqs ?_|refine DK.nil ?_)
  refine (?_:W _ _ _ _ _)
  exact W.ret zqr
theorem joinS_FS (sep:List UInt8) (l:List (List UInt8)) (h1:l.length≤100000) (h2:(Lib.join l sep).length≤100000000):Ctr Tryz.prog 114 [.ls 1 (l.map eStr),.sc (.string (bs sep))] (.sc (.string (bs (Lib.join l sep)))):=by
 intro w F vs hF hR
 match vs,hR.1 with
 | [v,v2],_ =>
  obtain rfl:=(hR.2 1 _ v2 rfl rfl).sc_eq
  obtain ⟨A,c,rfl,hrd,hc⟩:=rd_of_rp (n:=1) (f:=fun t=>[Value.string (bs t)]) hF zqo (fun _=>rfl) (fun x j u h=>by
   match j with
   | 0=>cases h;rfl
   | j+1=>simp at h) (hR.2 0 _ v rfl rfl)
  have fin:∀ e w',e=Ending.returned (.string (bs (Lib.join l sep)))→Below w.heap.size w w'→∃ v F',e=.returned v∧Below w.heap.size w w'∧View.le F F'∧(∀ p u,F' p=some u→w'.cell? p=some u)∧(∀ p u,F' p=some u→F p=some u∨w.heap.size≤p.block)∧RP F' (.sc (.string (bs (Lib.join l sep)))) v :=
   fun e w' he hb=>⟨_,F,he,hb,fun _ _ h=>h,fun p u x=>by rw [hb.cell (cell_block (hF p u x))];exact hF p u x,fun _ _ h=>.inl h,.sc _⟩
  by_cases h0:l.length=0
  ·obtain rfl:=List.eq_nil_of_length_eq_zero h0
   exact (strings_Join_none A c (bs sep) w).mono fun e w' ⟨he,hw⟩=>fin e w' he (hw ▸ Below.refl _ _)
  ·obtain ⟨ad,had,hlt,hcell⟩:=hrd (by simp;omega)
   subst had
   have hsp:ad.spot=none:=by
    have:=hcell 0 _ (List.getElem?_eq_getElem (by simp;omega)) 0 (.string (bs (l[0]'(by omega)))) (by simp)
    rw [Nat.zero_mul,Nat.add_zero,add_zero'] at this
    unfold World.cell? at this
    cases hs:ad.spot with
    | none=>rfl
    | some q =>
     split at this
     ·rw [hs] at this;simp at this
     ·cases this
   obtain ⟨bk,off,sp⟩:=ad
   simp only at hsp hlt
   subst hsp
   have hm:(l.map bs).map (fun b=>b.data.toList)=l:=by
    rw [List.map_map]
    exact (List.map_congr_left fun t _=>rfl).trans (List.map_id l)
   have:=strings_Join bk off c (l.map bs) (bs sep) w (fun j x hx=>?_) hlt (by simp;omega) (by simpa using hc) (by rw [hm,bs_data];omega)
   ·rw [hm,bs_data,List.length_map] at this
    exact this.mono fun e w' ⟨he,hb⟩=>fin e w' he hb
   ·rw [List.getElem?_map] at hx
    cases hq:l[j]? with
    | none=>simp [hq] at hx
    | some t =>
     rw [hq] at hx
     obtain rfl:bs t=x:=by simpa using hx
     have:=hcell j _ (by rw [List.getElem?_map,hq];rfl) 0 (.string (bs t)) rfl
     rw [add_flat,Nat.mul_one,Nat.add_zero] at this
     exact this
end
section
open Go.RowKit
def mAt (MS:List Me):Nat→Nat
 | 0=>0
 | k+1=>nextF MS k (mAt MS k)
def rsT (L:List Sf):Nat→List Sf
 | 0=>L
 | k+1=>(rsT L k).dropWhile fun x=>decide (x.1=(k:Int))
def nmK (L:List Sf)(k:Nat):List (List UInt8):=((rsT L k).takeWhile fun x=>decide (x.1=(k:Int))).map sfT
def evT (L:List Sf)(k:Nat)(e:Ev):List UInt8:=if nmK L k=[] then (if e.tie=true then [126] else [37]) else Lib.join (nmK L k) [43]
def fstK (MS:List Me)(k:Nat):Nat:=(((MS[mAt MS (k+1)-1]?).map fun x:Me=>x.1).getD 0).toNat
def sinK (evs:List Ev)(MS:List Me)(k:Nat):Int:=onsAt evs k-onsAt evs (fstK MS k)
def edR (evs:List Ev)(MS:List Me)(L:List Sf)(c:List UInt8)(k:Nat)(e:Ev):List UInt8 :=
 Lib.itoa (mAt MS (k+1):Nat)++[58]++Lib.itoa (sinK evs MS k)++[32]++evT L k e++[32,59,32]++c++[10]
def edN (s:Int)(p:Pce)(MS:List Me)(L:List Sf)(k:Nat):List UInt8:=(match p.evs[k]? with
 | some e=>edR p.evs MS L (colS s p k e) k e
 | none=>[])
def edB(s:Int)(p:Pce)(MS:List Me)(L:List Sf):Nat→List UInt8
 | 0=>[]
 | k+1=>edB s p MS L k++edN s p MS L k
def edX(s:Int)(p:Pce)(key:Int):Int:=if 1≤s∧s≤4 then(if engX p key≠0 then engX p key else if lksR s p=[]then 0 else 31)else 30
def edT (s:Int) (p:Pce) (key:Int):List UInt8:=if edX s p key=0 then edB s p (mea p.evs p.evs.length) (engL p key) p.evs.length else []
theorem edN_at {s:Int} {p:Pce} {MS:List Me} {L:List Sf} {k:Nat} (h:k<p.evs.length):edN s p MS L k=edR p.evs MS L (colS s p k p.evs[k]) k p.evs[k]:=by unfold edN;rw [List.getElem?_eq_getElem h]
theorem rsT_sub (L:List Sf):∀ k,(∀ x∈rsT L k,x∈L)∧(rsT L k).length≤L.length
 | 0=>⟨fun _ h=>h,Nat.le_refl _⟩
 | k+1=>by
  obtain ⟨h1,h2⟩:=rsT_sub L k
  refine ⟨fun x hx=>h1 x ((List.dropWhile_sublist _).subset hx),?_⟩
  have:=(List.dropWhile_sublist (fun x:Sf=>decide (x.1=(k:Int))) (l:=rsT L k)).length_le
  unfold rsT
  omega
theorem sfT_len {x:Sf} (h:SfOk x):(sfT x).length≤22:=by
 have h1:(cut ltrs x.2.1 (x.2.1+1)).length≤1:=cut_ltr
 have h2:(sgX x.2.2.2).length≤1:=by unfold sgX;split<;>(try split)<;>(try split)<;>simp
 have h3:=itoa_len (n:=x.2.2.1) (by have:=h.2.1;unfold I64 at this;omega)
 unfold sfT
 simp only [List.length_append];omega
theorem joinTail_len (sep:List UInt8)(hs:sep.length≤1):∀ (l:List (List UInt8)),(∀ t∈l,t.length≤22)→(Lib.joinTail sep l).length≤23*l.length
 | [],_=>by simp [Lib.joinTail]
 | a::r,h=>by
  have h1:=h a (by simp)
  have h2:=joinTail_len sep hs r fun t ht=>h t (by simp [ht])
  unfold Lib.joinTail at h2 ⊢
  rw [List.map_cons,List.flatten_cons,List.length_append,List.length_append,List.length_cons]
  omega
theorem join_len (sep:List UInt8)(hs:sep.length≤1)(l:List (List UInt8))(h:∀ t∈l,t.length≤22):(Lib.join l sep).length≤23*l.length:=by
 cases l with
 | nil=>rw [Lib.join_nil];simp
 | cons x r =>
  rw [Lib.join_cons,List.length_append,List.length_cons]
  have h1:=h x (by simp)
  have h2:=joinTail_len sep hs r fun t ht=>h t (by simp [ht])
  omega
theorem nmK_len {L:List Sf} (h:∀ x∈L,SfOk x) (hl:L.length≤8400) (k:Nat):(nmK L k).length≤8400∧∀ t∈nmK L k,t.length≤22:=by
 obtain ⟨h1,h2⟩:=rsT_sub L k
 have h3:=List.takeWhile_sublist (fun x:Sf=>decide (x.1=(k:Int))) (l:=rsT L k)
 refine ⟨?_,fun t ht=>?_⟩
 ·unfold nmK
  rw [List.length_map]
  have:=h3.length_le
  omega
 ·unfold nmK at ht
  obtain ⟨x,hx,rfl⟩:=List.mem_map.1 ht
  exact sfT_len (h x (h1 x (h3.subset hx)))
theorem evT_len {L:List Sf} (h:∀ x∈L,SfOk x) (hl:L.length≤8400) (k:Nat) (e:Ev):(evT L k e).length≤200000:=by
 obtain ⟨h1,h2⟩:=nmK_len h hl k
 have h3:=join_len [43] (by simp) (nmK L k) h2
 unfold evT
 split
 ·split<;>simp
 ·omega
theorem accN_bd(a:Int):0≤accN a∧accN a≤3:=by unfold accN;split<;>(try split)<;>omega
theorem spV_sf {q key:Int} (h:spX q key=0) (ev a:Int) (ha:0≤a∧a≤3):SfOk (ev,(spV q key).1,(spV q key).2.2,a):=by
 have hI:∀ z:Int,-1≤z∧z≤9→I64 z:=fun z hz=>by unfold I64;omega
 unfold spV
 rw [if_pos h]
 cases hp:spP q key with
 | none=>exact ⟨⟨Int.le_refl 0,by show (0:Int)≤6;decide⟩,hI 0 ⟨by decide,by decide⟩,ha⟩
 | some r =>
  have:=(sndOk_of (spP_of hp).1).1
  exact ⟨this.1,hI _ this.2.2,ha⟩
theorem engS_sf {key:Int} {MS:List Me}:∀ (L:List Nt)(s:ES),(∀ n∈L,spX n.2.2.1 key=0)→(∀ x∈s.out,SfOk x)→∀ x∈(L.foldl (engN key MS) s).out,SfOk x
 | [],s,_,h=>h
 | n::r,s,hl,h=>by
  rw [List.foldl_cons]
  refine engS_sf r _ (fun y hy=>hl y (by simp [hy])) fun x hx=>?_
  have hn:=hl n (by simp)
  unfold engN putE at hx
  split at hx
  ·rcases List.mem_append.1 hx with hx|hx
   ·exact h x hx
   ·rw [List.mem_singleton] at hx;subst hx;exact spV_sf hn _ _ (by decide)
  ·rcases List.mem_append.1 hx with hx|hx
   ·exact h x hx
   ·rw [List.mem_singleton] at hx;subst hx;exact spV_sf hn _ _ (accN_bd _)
theorem engL_ok {p:Pce} (hO:PcOk p) {key:Int} (h:engX p key=0):pceE p=0∧(∀ x∈engL p key,SfOk x)∧(engL p key).length≤8400:=by
 have h0:pceE p=0:=by
  by_cases h1:pceE p=0
  ·exact h1
  ·unfold engX at h;rw [if_neg h1] at h;exact absurd h h1
 have hb:engB key (notesR p p.evs.length)=false:=by
  unfold engX at h
  rw [if_pos h0] at h
  split at h
  ·cases h
  ·cases hq:engB key (notesR p p.evs.length) with
   | false=>rfl
   | true=>rw [hq] at h;cases h
 have hall:∀ n∈notesR p p.evs.length,spX n.2.2.1 key=0:=fun n hn=>by
  have:=(List.any_eq_false.1 hb) n hn
  simpa using this
 have e:engL p key=(engS key (mea p.evs p.evs.length) (notesR p p.evs.length)).out:=if_pos h
 rw [e]
 refine ⟨h0,engS_sf _ _ hall (fun x hx=>by cases hx),?_⟩
 have h2:=(engS_ok (key:=key) (MS:=mea p.evs p.evs.length) _ ⟨[],0,[]⟩ hall AltOk.nil).2
 have h3:=notesR_len hO h0
 unfold engS
 rw [h2]
 simp;omega
theorem bumpM_head (t:Int)(x:Me)(r:List Me):∃ y q,bumpM t (x::r)=y::q∧y.1=x.1:=by
 cases r with
 | nil=>exact⟨_,_,rfl,rfl⟩
 | cons z q=>exact⟨_,_,rfl,rfl⟩
theorem mea_head (evs:List Ev):∀ k,∃ x r,mea evs (k+1)=x::r∧x.1=0
 | 0=>by
  obtain ⟨y,q,h1,h2⟩:=bumpM_head (frc 0 (evs.take 1)) (0,0,0) []
  exact ⟨y,q,h1,h2⟩
 | k+1=>by
  obtain ⟨x,r,h1,h2⟩:=mea_head evs k
  rw [mea]
  split
  ·rw [h1]
   obtain ⟨y,q,h3,h4⟩:=bumpM_head (frc 0 (evs.take (k+1+1))) x (r++[(((k+1:Nat):Int),0,0)])
   exact ⟨y,q,h3,h4.trans h2⟩
  ·rw [h1]
   obtain ⟨y,q,h3,h4⟩:=bumpM_head (frc 0 (evs.take (k+1+1))) x r
   exact ⟨y,q,h3,h4.trans h2⟩
theorem take_drop_while {α:Type} {f:α→Bool}:∀ {l:List α} {q:Nat},q≤l.length→(∀ x∈l.take q,f x=true)→(∀ h:q<l.length,f l[q]=false)→l.takeWhile f=l.take q∧l.dropWhile f=l.drop q
 | [],q,h,_,_=>by simp at h;simp
 | x::r,0,h,h1,h2=>by
  have:=h2 (by simp)
  simp at this
  simp [List.takeWhile_cons,List.dropWhile_cons,this]
 | x::r,q+1,h,h1,h2=>by
  have hx:=h1 x (by simp)
  obtain ⟨a,b⟩:=take_drop_while (l:=r) (q:=q) (by simpa using h) (fun y hy=>h1 y (by simp [hy])) (fun hq=>by have:=h2 (by simpa using hq);simpa using this)
  simp [List.takeWhile_cons,List.dropWhile_cons,hx,a,b]
end
section
open Go.RowKit
theorem half_fin:((List.range 7).all fun k=>decide (((384:Int)/2 ^ k)/2=384/2 ^ (k+1)) && decide (6≤(384:Int)/2 ^ k∧(384:Int)/2 ^ k≤384))=true:=by decide +kernel
theorem half_at {k:Nat} (h:k<7):((384:Int)/2 ^ k)/2=384/2 ^ (k+1)∧6≤(384:Int)/2 ^ k∧(384:Int)/2 ^ k≤384:=by
 have h1:=List.all_eq_true.1 half_fin k (List.mem_range.2 h)
 simp only [Bool.and_eq_true,decide_eq_true_eq]at h1
 exact h1
theorem rTicks_FS (v:Int) (d t:Bool):Ctr Tryz.prog 136 [.ag [.sc (.int .i64 v),.sc (.bool d),.sc (.bool t)]] (.sc (.int .i64 (tkV v d t))):=by
 have hR:=rRight2_FS v d t
 by_cases hok:sgOk v d t=true
 rotate_left
 ·have hok:sgOk v d t=false:=by simpa using hok
  have hz:tkV v d t=0:=by
   refine if_pos ?_
   by_cases h1:v < 1
   ·exact .inl h1
   ·by_cases h2:7 < v
    ·exact .inr (.inl h2)
    ·refine .inr (.inr ?_)
     cases hdt:(d && t) with
     | true=>rfl
     | false =>
      exfalso
      unfold sgOk at hok
      rw [hdt,decide_eq_true (show 1≤v by omega),decide_eq_true (show v≤7 by omega)] at hok
      simp at hok
  rw [hok] at hR
  rw [hz]
  refine zqe Tryz.func136 Tryz.ntmps136 fun w0 F0=>?_;dsimp only [St.init,number,Nat.reduceAdd]
  repeat (first|refine W.gob rfl ?_|refine WL.nil ?_|refine WL.e1 rfl ?_)
  refine (?_:WL _ _ _ _ _ _)
  refine WL.vl rfl (zqc Tryz.func137 hR) ?_
  repeat (first|refine W.gob rfl ?_|refine WL.nil ?_|refine WL.e1 rfl ?_|refine WL.opno rfl rfl rfl rfl rfl rfl rfl ?_|refine W.condT rfl ?_)
  refine (?_:W _ _ _ _ _)
  exact W.ret zqr
 rw [hok] at hR
 by_cases hv:v=0
 ·have hz:tkV v d t=0:=if_pos (.inl zqo)
  rw [hz]
  refine zqe Tryz.func136 Tryz.ntmps136 fun w0 F0=>?_;dsimp only [St.init,number,Nat.reduceAdd]
  repeat (first|refine W.gob rfl ?_|refine WL.nil ?_|refine WL.e1 rfl ?_)
  refine (?_:WL _ _ _ _ _ _)
  refine WL.vl rfl (zqc Tryz.func137 hR) ?_
  repeat (first|refine W.gob rfl ?_|refine WL.nil ?_|refine WL.bt rfl rfl rfl zqo ?_|refine WL.e1 rfl ?_|refine WL.gyes rfl rfl rfl rfl ?_|refine W.condT rfl ?_)
  refine (?_:W _ _ _ _ _)
  exact W.ret zqr
 have hv7:1≤v∧v≤7∧(d && t)=false:=by
  unfold sgOk at hok
  simp only [Bool.or_eq_true,Bool.and_eq_true,beq_iff_eq,decide_eq_true_eq,Bool.not_eq_true'] at hok
  rcases hok with h|h
  ·exact absurd h.1.1 hv
  ·exact ⟨h.1.1,h.1.2,h.2⟩
 obtain ⟨hv1,hv2,hdt⟩:=hv7
 have htk:tkV v d t=if d then 384/2 ^ (v - 1).toNat/2*3 else if t then 384/2 ^ (v - 1).toNat/3*2 else 384/2 ^ (v - 1).toNat:=by
  refine if_neg ?_
  rw [hdt]
  rintro (h|h|h)
  ·omega
  ·omega
  ·cases h
 rw [htk]
 refine zqe Tryz.func136 Tryz.ntmps136 fun w0 F0=>?_;dsimp only [St.init,number,Nat.reduceAdd]
 repeat (first|refine W.gob rfl ?_|refine WL.nil ?_|refine WL.e1 rfl ?_)
 refine (?_:WL _ _ _ _ _ _)
 refine WL.vl rfl (zqc Tryz.func137 hR) ?_
 repeat (first|refine W.gob rfl ?_|refine WL.nil ?_|refine WL.bf rfl rfl rfl zqo ?_|refine WL.e1 rfl ?_|refine WL.gyes rfl rfl rfl rfl ?_|refine W.condF rfl ?_)
 refine (?_:W _ _ _ _ _)
 refine W.loop (fun k:Nat=>k≤(v - 1).toNat) (fun k=>⟨[(1,.pt 0 0 0),(3,.sc (.int .i64 (384/2 ^ k))),(4,.sc (.int .i64 ((k+1:Nat):Int)))],[(0,.box 33 [.sc (.int .i64 v),.sc (.bool d),.sc (.bool t)])],1⟩) (fun k=>(v - 1).toNat - k) 0 zqo (zqt id) fun k hk=>?_
 have h7:=half_at (k:=k) zqo
 by_cases hlt:k < (v - 1).toNat
 ·obtain ⟨hh,hh1,hh2⟩:=h7
  obtain ⟨n,hn⟩:∃ n,(384:Int)/2 ^ k=n:=⟨_,rfl⟩
  rw [hn] at hh hh1 hh2 ⊢
  repeat (first|refine W.gob rfl ?_|refine WL.nil ?_|refine WL.bt rfl rfl rfl zqo ?_|refine WL.e1 rfl ?_|refine WL.ar rfl rfl z0i ?_|refine WL.div rfl rfl zqo ?_|refine W.condT rfl ?_)
  refine ⟨k+1,by omega,by omega,?_⟩
  rw [← hh]
  exact (zqt id)
 obtain rfl:k=(v - 1).toNat:=by omega
 obtain ⟨_,hh1,hh2⟩:=h7
 obtain ⟨n,hn⟩:∃ n,(384:Int)/2 ^ (v - 1).toNat=n:=⟨_,rfl⟩
 rw [hn] at hh1 hh2 ⊢
 repeat (first|refine W.gob rfl ?_|refine WL.nil ?_|refine WL.bf rfl rfl rfl zqo ?_|refine WL.e1 rfl ?_|refine W.condF rfl ?_)
 refine (?_:W _ _ _ _ _)
 (refine W.cond rfl (fun hif=>?_) (fun hif=>?_)<;>(try simp only [decide_eq_true_eq,decide_eq_false_iff_not,Int.not_lt,Int.not_le,Bool.not_eq_true',Bool.not_eq_false'] at hif))
 ·rw [hif,if_pos rfl]
  repeat (first|refine W.gob rfl ?_|refine WL.nil ?_|refine WL.e1 rfl ?_|refine WL.ar rfl rfl z0i ?_|refine WL.div rfl rfl zqo ?_)
  refine (?_:W _ _ _ _ _)
  exact W.ret zqr
 rw [hif,if_neg (by decide)]
 repeat (first|refine W.gob rfl ?_|refine WL.nil ?_|refine WL.e1 rfl ?_)
 refine (?_:W _ _ _ _ _)
 (refine W.cond rfl (fun hif=>?_) (fun hif=>?_)<;>(try simp only [decide_eq_true_eq,decide_eq_false_iff_not,Int.not_lt,Int.not_le,Bool.not_eq_true',Bool.not_eq_false'] at hif))
 ·rw [hif,if_pos rfl]
  repeat (first|refine W.gob rfl ?_|refine WL.nil ?_|refine WL.e1 rfl ?_|refine WL.ar rfl rfl z0i ?_|refine WL.div rfl rfl zqo ?_)
  refine (?_:W _ _ _ _ _)
  exact W.ret zqr
 rw [hif,if_neg (by decide)]
 repeat (first|refine W.gob rfl ?_|refine WL.nil ?_|refine WL.e1 rfl ?_)
 refine (?_:W _ _ _ _ _)
 exact W.ret zqr
end
section
open Go.RowKit
theorem eqs_plc (x a y b:Int) (w:World):(Op.equalIn 10000 286 (.agg #[.int .i64 x,.int .i64 a]) (.agg #[.int .i64 y,.int .i64 b])).run Tryz.prog w=.ok (x == y && a == b) w:=by
 rw [run_equalIn_agg w 9999 _ _ _ zqk zqk]
 refine Eq.trans (congrArg (fun fs=>Sem.run _ (Op.eqFields 9999 _ _ fs) w) (rfl:(Tryz.prog.fieldsOf 286).toList=[_,_])) ?_
 by_cases h1:x=y
 ·subst h1
  by_cases h2:a=b
  ·subst h2;simp [go_sem]
  ·simp [go_sem,h2]
 ·simp [go_sem,h1]
theorem place_FS (s:Stp):Ctr Tryz.prog 221 [.ag (eStp s)] (.ag [.sc (.int .i64 s.1),.sc (.int .i64 s.2.1)]):=by
 refine zqe Tryz.func221 Tryz.ntmps221 fun w0 F0=>?_;dsimp only [St.init,number,Nat.reduceAdd]
 repeat refine W.go rfl ?_
 refine (?_:W _ _ _ _ _)
 exact W.ret (fin_cell rfl rfl rfl rfl rfl rfl rfl rfl)
theorem extra1_FS (s t:Stp):Ctr Tryz.prog 220 [.ag (eStp t),.pr (eStp s)] (.sc (.bool (ple s t))):=by
 refine zqe Tryz.func220 Tryz.ntmps220 fun w0 F0=>?_;dsimp only [St.init,number,Nat.reduceAdd]
 repeat refine W.go rfl ?_
 refine (?_:W _ _ _ _ _)
 refine W.drawK zqk zqk ?_
 repeat refine DK.st rfl ?_
 refine DK.vl rfl (WV.call rfl (callF Tryz.func221 rfl rfl) rfl rfl (place_FS s)) ?_
 repeat refine DK.st rfl ?_
 refine DK.vl rfl (WV.call rfl (callF Tryz.func221 rfl rfl) rfl rfl (place_FS t)) ?_
 refine DK.vl rfl (WV.aeq rfl rfl rfl rfl rfl zqk (fun w=>eqs_plc _ _ _ _ w)) ?_
 repeat (first|refine DK.st rfl ?_|refine DK.nil ?_)
 refine (?_:W _ _ _ _ _)
 exact W.ret zqr
def ixP (b:List Stp)(s:Stp):Int:=if hasP b s=true then ((b.findIdx (ple s):Nat):Int)else -1
theorem ixP_at {b:List Stp} {s:Stp} {k:Nat} (hk:k<b.length) (h1:ple s b[k]=true) (h2:∀ i (hi:i<k),ple s (b[i]'(by omega))=false):ixP b s=k:=by
 have hh:hasP b s=true:=List.any_eq_true.2 ⟨b[k],List.getElem_mem hk,h1⟩
 unfold ixP
 rw [if_pos hh,(List.findIdx_eq hk).2 ⟨h1,h2⟩]
theorem ixP_no {b:List Stp} {s:Stp} (h:∀ i(hi:i<b.length),ple s b[i]=false):ixP b s=-1:=by
 have hh:hasP b s=false:=by
  unfold hasP
  rw [List.any_eq_false]
  intro x hx
  obtain⟨i,hi,rfl⟩:=List.getElem_of_mem hx
  simp [h i hi]
 unfold ixP
 rw [hh];rfl
theorem ixP_has (b:List Stp)(s:Stp):decide (0≤ixP b s)=hasP b s:=by
 unfold ixP
 cases h:hasP b s with
 | true=>rw [if_pos rfl];exact decide_eq_true (by omega)
 | false=>rw [if_neg (by simp)];rfl
theorem idxS_FS (b:List Stp) (s:Stp) (hb:b.length≤100000):Ctr Tryz.prog 241 [.ls 5 (b.map eStp),.fn 220 [.pr (eStp s)]] (.sc (.int .i64 (ixP b s))):=by
 refine zqe Tryz.func241 Tryz.ntmps241 fun w0 F0=>?_;dsimp only [St.init,number,Nat.reduceAdd]
 repeat (first|refine W.go rfl ?_|refine WL.ev rfl ?_|refine WL.len rfl rfl zql ?_)
 refine (?_:W _ _ _ _ _)
 refine W.loop (fun k:Nat=>k≤b.length∧∀ i (hi:i < k) (h:i < b.length),ple s b[i]=false) (fun k=>⟨[(0,.ls 5 (b.map eStp)),(1,.fn 220 [.pr (eStp s)]),(7,.sc (.int .i64 b.length)),(8,.sc (.int .i64 k))],[],0⟩) (fun k=>b.length - k) 0 ⟨by omega,fun i hi=>by omega⟩ (zqt id) fun k hk=>?_
 obtain ⟨hk,hno⟩:=hk
 by_cases hlt:k < b.length
 ·repeat (first|refine W.gob rfl ?_|refine WL.nil ?_|refine WL.bt rfl rfl rfl zqo ?_|refine WL.e1 rfl ?_|refine WL.idx rfl rfl zqo zqm ?_|refine W.condT rfl ?_)
  refine (?_:WL _ _ _ _ _ _)
  refine WL.vl rfl (WV.callV (truH _) rfl (callF Tryz.func220 rfl rfl) rfl rfl rfl rfl rfl (extra1_FS s b[k]).g) ?_
  cases he:ple s b[k] with
  | true =>
   rw [ixP_at hlt he fun i hi=>hno i hi (by omega)]
   repeat (first|refine W.gob rfl ?_|refine WL.nil ?_|refine WL.e1 rfl ?_|refine W.condT rfl ?_)
   refine (?_:W _ _ _ _ _)
   exact W.ret zqr
  | false =>
   repeat (first|refine W.gob rfl ?_|refine WL.nil ?_|refine WL.e1 rfl ?_|refine WL.ar rfl rfl z0i ?_|refine W.condF rfl ?_)
   exact ⟨k+1,⟨by omega,fun i hi h=>by
    by_cases e:i=k
    ·subst e;exact he
    ·exact hno i zqo h⟩,by omega,(zqt id)⟩
 ·rw [ixP_no fun i hi=>hno i (by omega) hi]
  repeat (first|refine W.gob rfl ?_|refine WL.nil ?_|refine WL.bf rfl rfl rfl zqo ?_|refine WL.e1 rfl ?_|refine W.condF rfl ?_)
  refine (?_:W _ _ _ _ _)
  exact W.ret zqr
theorem contP_FS (b:List Stp) (s:Stp) (hb:b.length≤100000):Ctr Tryz.prog 219 [.ls 5 (b.map eStp),.fn 220 [.pr (eStp s)]] (.sc (.bool (hasP b s))):=by
 have hI:=idxS_FS b s hb
 have hh:=ixP_has b s
 obtain ⟨z,hz⟩:∃ z,ixP b s=z:=⟨_,rfl⟩
 rw [hz] at hI hh
 refine zqe Tryz.func219 Tryz.ntmps219 fun w0 F0=>?_;dsimp only [St.init,number,Nat.reduceAdd]
 repeat refine W.go rfl ?_
 refine (?_:WL _ _ _ _ _ _)
 refine WL.vl rfl (zqc Tryz.func241 hI) ?_
 repeat refine WL.ev rfl ?_
 refine (?_:W _ _ _ _ _)
 refine W.ret (fin1 rfl rfl (sc_bool ?_) rfl)
 rw [← hh]
theorem extra_FS (a b:List Stp) (ha:a.length≤100000) (hb:b.length≤100000):Ctr Tryz.prog 192 [.ls 5 (a.map eStp),.ls 5 (b.map eStp)] (.sc (.int .i64 (extN a b))):=by
 rw [← extK_all]
 refine zqe Tryz.func192 Tryz.ntmps192 fun w0 F0=>?_;dsimp only [St.init,number,Nat.reduceAdd]
 repeat (first|refine W.go rfl ?_|refine WL.ev rfl ?_|refine WL.len rfl rfl zql ?_)
 refine (?_:W _ _ _ _ _)
 refine W.loop (fun k:Nat=>k≤a.length) (fun k=>⟨[(1,.ls 5 (b.map eStp)),(5,.sc (.int .i64 (extK a b k))),(8,.ls 5 (a.map eStp)),(9,.sc (.int .i64 a.length)),(10,.sc (.int .i64 k))],[],0⟩) (fun k=>a.length - k) 0 zqo (zqt id) fun k hk=>?_
 have hle:=extK_le a b k
 by_cases hlt:k < a.length
 rotate_left
 ·obtain rfl:k=a.length:=by omega
  repeat (first|refine W.gob rfl ?_|refine WL.nil ?_|refine WL.bf rfl rfl rfl zqo ?_|refine WL.e1 rfl ?_|refine W.condF rfl ?_)
  refine (?_:W _ _ _ _ _)
  exact W.ret zqr
 have hs:=extK_succ (b:=b) hlt
 have hC:=contP_FS b a[k] hb
 repeat (first|refine W.gob rfl ?_|refine WL.nil ?_|refine WL.bt rfl rfl rfl zqo ?_|refine WL.e1 rfl ?_|refine WL.idx rfl rfl zqo zqm ?_|refine W.condT rfl ?_)
 refine (?_:WL _ _ _ _ _ _)
 refine WL.vl rfl (WV.mkf rfl rfl) ?_
 refine WL.vl rfl (WV.lendV (truH _) rfl (callF Tryz.func219 rfl rfl) rfl rfl rfl rfl rfl rfl truST hC.g) ?_
 obtain ⟨E,hE⟩:∃ E,extK a b k=E:=⟨_,rfl⟩
 rw [hE] at hs hle ⊢
 cases hh:hasP b a[k] with
 | true =>
  rw [hh,if_pos rfl] at hs
  repeat (first|refine W.gob rfl ?_|refine WL.nil ?_|refine WL.e1 rfl ?_|refine WL.ar rfl rfl z0i ?_|refine W.condF rfl ?_)
  refine ⟨k+1,by omega,by omega,?_⟩
  rw [hs]
  exact (zqt id)
 | false =>
  rw [hh,if_neg (by simp)] at hs
  repeat (first|refine W.gob rfl ?_|refine WL.nil ?_|refine WL.e1 rfl ?_|refine WL.ar rfl rfl z0i ?_|refine W.condT rfl ?_)
  refine ⟨k+1,by omega,by omega,?_⟩
  rw [hs]
  exact (zqt id)
theorem pTicks_FS (v:Int)(d t:Bool):Ctr Tryz.prog 178 [.ag [.sc (.int .i64 v),.sc (.bool d),.sc (.bool t)]] (.sc (.int .i64 (tkV v d t))) :=
 Ctr.of_pl rfl (fun _=>.sc _) fun w=>ticks_any v d t w
theorem pDist_FS (a b:Ev) (ha:a.stops.length≤20) (hb:b.stops.length≤20):Ctr Tryz.prog 133 [.ag (eEv a),.ag (eEv b)] (.sc (.int .i64 (dstE a b))):=by
 have h1:=extra_FS a.stops b.stops zqo zqo
 have h2:=extra_FS b.stops a.stops zqo zqo
 have l1:=extN_le a.stops b.stops
 have l2:=extN_le b.stops a.stops
 have t1:=pTicks_FS a.val a.dot a.three
 have t2:=pTicks_FS b.val b.dot b.three
 have hd:dstE a b=extN a.stops b.stops+extN b.stops a.stops+(if tkV a.val a.dot a.three=tkV b.val b.dot b.three then 0 else 1)+(if a.tie=b.tie then 0 else 1):=rfl
 obtain ⟨x,hx⟩:∃ x,extN a.stops b.stops=x:=⟨_,rfl⟩
 obtain ⟨y,hy⟩:∃ y,extN b.stops a.stops=y:=⟨_,rfl⟩
 obtain ⟨t,ht⟩:∃ t,tkV a.val a.dot a.three=t:=⟨_,rfl⟩
 obtain ⟨u,hu⟩:∃ u,tkV b.val b.dot b.three=u:=⟨_,rfl⟩
 rw [hx] at h1 l1 hd
 rw [hy] at h2 l2 hd
 rw [ht] at t1 hd
 rw [hu] at t2 hd
 refine zqe Tryz.func133 Tryz.ntmps133 fun w0 F0=>?_;dsimp only [St.init,number,Nat.reduceAdd]
 repeat refine W.go rfl ?_
 refine (?_:W _ _ _ _ _)
 refine W.drawK zqk zqk ?_
 repeat refine DK.st rfl ?_
 refine DK.vl rfl (zqc Tryz.func192 h1) ?_
 repeat refine DK.st rfl ?_
 refine DK.vl rfl (zqc Tryz.func192 h2) ?_
 repeat (first|refine DK.st rfl ?_|refine DK.ar rfl rfl z0i ?_|refine DK.nil ?_)
 repeat refine W.go rfl ?_
 refine (?_:W _ _ _ _ _)
 refine W.drawK zqk zqk ?_
 repeat refine DK.st rfl ?_
 refine DK.vl rfl (zqc Tryz.func178 t1) ?_
 repeat refine DK.st rfl ?_
 refine DK.vl rfl (zqc Tryz.func178 t2) ?_
 repeat (first|refine DK.st rfl ?_|refine DK.nil ?_)
 refine (?_:W _ _ _ _ _)
 by_cases htu:t=u
 ·rw [if_pos htu] at hd
  subst htu
  (refine W.cond rfl (fun hif=>?_) (fun hif=>?_)<;>(try simp only [decide_eq_true_eq,decide_eq_false_iff_not,Int.not_lt,Int.not_le,Bool.not_eq_true',Bool.not_eq_false'] at hif))
  ·exact absurd hif (by simp)
  repeat refine W.go rfl ?_
  refine (?_:W _ _ _ _ _)
  (refine W.cond rfl (fun hif=>?_) (fun hif=>?_)<;>(try simp only [decide_eq_true_eq,decide_eq_false_iff_not,Int.not_lt,Int.not_le,Bool.not_eq_true',Bool.not_eq_false'] at hif))
  ·have hne:¬ a.tie=b.tie:=by simpa using hif
   rw [if_neg hne] at hd
   rw [hd]
   repeat (first|refine W.go rfl ?_|refine WL.ev rfl ?_|refine WL.ar rfl rfl z0i ?_)
   refine (?_:W _ _ _ _ _)
   exact W.ret (fin1 rfl rfl (sc_int zqo) rfl)
  ·have hne:a.tie=b.tie:=by simpa using hif
   rw [if_pos hne] at hd
   rw [hd]
   repeat refine W.go rfl ?_
   refine (?_:W _ _ _ _ _)
   exact W.ret (fin1 rfl rfl (sc_int zqo) rfl)
 ·rw [if_neg htu] at hd
  (refine W.cond rfl (fun hif=>?_) (fun hif=>?_)<;>(try simp only [decide_eq_true_eq,decide_eq_false_iff_not,Int.not_lt,Int.not_le,Bool.not_eq_true',Bool.not_eq_false'] at hif))
  rotate_left
  ·exact absurd hif (by simpa using htu)
  repeat (first|refine W.go rfl ?_|refine WL.ev rfl ?_|refine WL.ar rfl rfl z0i ?_)
  refine (?_:W _ _ _ _ _)
  (refine W.cond rfl (fun hif=>?_) (fun hif=>?_)<;>(try simp only [decide_eq_true_eq,decide_eq_false_iff_not,Int.not_lt,Int.not_le,Bool.not_eq_true',Bool.not_eq_false'] at hif))
  ·have hne:¬ a.tie=b.tie:=by simpa using hif
   rw [if_neg hne] at hd
   rw [hd]
   repeat (first|refine W.go rfl ?_|refine WL.ev rfl ?_|refine WL.ar rfl rfl z0i ?_)
   refine (?_:W _ _ _ _ _)
   exact W.ret (fin1 rfl rfl (sc_int zqo) rfl)
  ·have hne:a.tie=b.tie:=by simpa using hif
   rw [if_pos hne] at hd
   rw [hd]
   repeat refine W.go rfl ?_
   refine (?_:W _ _ _ _ _)
   exact W.ret (fin1 rfl rfl (sc_int zqo) rfl)
def hasK(b:List Stp)(s:Stp)(k:Nat):Bool:=(b.take k).any fun t=>ple s t
theorem hasK_succ {b:List Stp} {s:Stp} {k:Nat} (h:k<b.length):hasK b s (k+1)=(hasK b s k|| ple s b[k]):=by
 unfold hasK
 rw [List.take_succ_eq_append_getElem h,List.any_append];simp
theorem hasK_all(b:List Stp)(s:Stp):hasK b s b.length=hasP b s:=by unfold hasK hasP;rw [List.take_length]
theorem outside_FS (x y:Ev) (ha:x.stops.length≤20) (hb:y.stops.length≤20):Ctr Tryz.prog 135 [.ag (eEv x),.ag (eEv y)] (.sc (.int .i64 (extN x.stops y.stops))):=by
 rw [← extK_all]
 refine zqe Tryz.func135 Tryz.ntmps135 fun w0 F0=>?_;dsimp only [St.init,number,Nat.reduceAdd]
 repeat refine W.go rfl ?_
 refine (?_:W _ _ _ _ _)
 refine W.loop (fun k:Nat=>k≤x.stops.length) (fun k=>⟨[(2,.pt 0 0 0),(3,.pt 1 0 0),(5,.sc (.int .i64 (extK x.stops y.stops k))),(6,.sc (.int .i64 k))],[(0,.box 36 (eEv x)),(1,.box 36 (eEv y))],2⟩) (fun k=>x.stops.length - k) 0 zqo (zqt id) fun k hk=>?_
 have hle:=extK_le x.stops y.stops k
 by_cases hlt:k < x.stops.length
 rotate_left
 ·obtain rfl:k=x.stops.length:=by omega
  repeat (first|refine W.gob rfl ?_|refine WL.nil ?_|refine WL.bf rfl rfl rfl zqo ?_|refine WL.e1 rfl ?_|refine WL.len rfl rfl zql ?_|refine W.condF rfl ?_)
  refine (?_:W _ _ _ _ _)
  exact W.ret zqr
 have hs:=extK_succ (b:=y.stops) hlt
 obtain ⟨E,hE⟩:∃ E,extK x.stops y.stops k=E:=⟨_,rfl⟩
 rw [hE] at hs hle ⊢
 repeat (first|refine W.gob rfl ?_|refine WL.nil ?_|refine WL.bt rfl rfl rfl zqo ?_|refine WL.e1 rfl ?_|refine WL.len rfl rfl zql ?_|refine W.condT rfl ?_)
 refine (?_:W _ _ _ _ _)
 refine W.loop (fun j:Nat=>j≤y.stops.length) (fun j=>⟨[(2,.pt 0 0 0),(3,.pt 1 0 0),(5,.sc (.int .i64 E)),(6,.sc (.int .i64 k)),(7,.sc (.bool (hasK y.stops x.stops[k] j))),(8,.sc (.int .i64 j))],[(0,.box 36 (eEv x)),(1,.box 36 (eEv y))],2⟩) (fun j=>y.stops.length - j) 0 zqo (zqt id) fun j hj=>?_
 by_cases hjl:j < y.stops.length
 ·have hsu:=hasK_succ (s:=x.stops[k]) hjl
  cases hb2:hasK y.stops x.stops[k] j with
  | true =>
   rw [hb2,Bool.true_or] at hsu
   repeat (first|refine W.gob rfl ?_|refine WL.nil ?_|refine WL.bt rfl rfl rfl zqo ?_|refine WL.e1 rfl ?_|refine WL.len rfl rfl zql ?_|refine W.condT rfl ?_)
   refine (?_:W _ _ _ _ _)
   refine W.drawK zqk zqk ?_
   repeat (first|refine DK.tt rfl (by first|(simp;done)|fail) ?_|refine DK.st rfl ?_|refine DK.nil ?_)
   repeat (first|refine W.gob rfl ?_|refine WL.nil ?_|refine WL.e1 rfl ?_|refine WL.ar rfl rfl z0i ?_)
   refine ⟨j+1,by omega,by omega,?_⟩
   rw [hsu]
   exact (zqt id)
  | false =>
   rw [hb2,Bool.false_or] at hsu
   unfold ple at hsu
   by_cases h1:(x.stops[k]).1=(y.stops[j]).1
   ·by_cases h2:(x.stops[k]).2.1=(y.stops[j]).2.1
    ·have:hasK y.stops x.stops[k] (j+1)=true:=by rw [hsu];simp [h1,h2]
     repeat (first|refine W.gob rfl ?_|refine WL.nil ?_|refine WL.bt rfl rfl rfl zqo ?_|refine WL.e1 rfl ?_|refine WL.len rfl rfl zql ?_|refine W.condT rfl ?_)
     refine (?_:W _ _ _ _ _)
     refine W.drawK zqk zqk ?_
     repeat (first|refine DK.bt rfl rfl (by omega) ?_|refine DK.tt rfl (by first|(simp;done)|fail) ?_|refine DK.ff rfl (by first|(simp;done)|fail) ?_|refine DK.st rfl ?_|refine DK.idx rfl rfl (by omega) zqm ?_|refine DK.nil ?_)
     repeat (first|refine W.gob rfl ?_|refine WL.nil ?_|refine WL.e1 rfl ?_|refine WL.ar rfl rfl z0i ?_)
     refine ⟨j+1,by omega,by omega,?_⟩
     rw [this]
     exact (zqt id)
    ·have:hasK y.stops x.stops[k] (j+1)=false:=by rw [hsu];simp [h2]
     repeat (first|refine W.gob rfl ?_|refine WL.nil ?_|refine WL.bt rfl rfl rfl zqo ?_|refine WL.e1 rfl ?_|refine WL.len rfl rfl zql ?_|refine W.condT rfl ?_)
     refine (?_:W _ _ _ _ _)
     refine W.drawK zqk zqk ?_
     repeat (first|refine DK.bt rfl rfl (by omega) ?_|refine DK.bf rfl rfl (by omega) ?_|refine DK.tt rfl (by first|(simp;done)|fail) ?_|refine DK.ff rfl (by first|(simp;done)|fail) ?_|refine DK.st rfl ?_|refine DK.idx rfl rfl (by omega) zqm ?_|refine DK.nil ?_)
     repeat (first|refine W.gob rfl ?_|refine WL.nil ?_|refine WL.e1 rfl ?_|refine WL.ar rfl rfl z0i ?_)
     refine ⟨j+1,by omega,by omega,?_⟩
     rw [this]
     exact (zqt id)
   ·have:hasK y.stops x.stops[k] (j+1)=false:=by rw [hsu];simp [h1]
    repeat (first|refine W.gob rfl ?_|refine WL.nil ?_|refine WL.bt rfl rfl rfl zqo ?_|refine WL.e1 rfl ?_|refine WL.len rfl rfl zql ?_|refine W.condT rfl ?_)
    refine (?_:W _ _ _ _ _)
    refine W.drawK zqk zqk ?_
    repeat (first|refine DK.bf rfl rfl (by omega) ?_|refine DK.ff rfl (by first|(simp;done)|fail) ?_|refine DK.st rfl ?_|refine DK.idx rfl rfl (by omega) zqm ?_|refine DK.nil ?_)
    repeat (first|refine W.gob rfl ?_|refine WL.nil ?_|refine WL.e1 rfl ?_|refine WL.ar rfl rfl z0i ?_)
    refine ⟨j+1,by omega,by omega,?_⟩
    rw [this]
    exact (zqt id)
 obtain rfl:j=y.stops.length:=by omega
 rw [hasK_all]
 cases hh:hasP y.stops x.stops[k] with
 | true =>
  rw [hh,if_pos rfl] at hs
  repeat (first|refine W.gob rfl ?_|refine WL.nil ?_|refine WL.bf rfl rfl rfl zqo ?_|refine WL.e1 rfl ?_|refine WL.ar rfl rfl z0i ?_|refine WL.len rfl rfl zql ?_|refine W.condF rfl ?_)
  refine ⟨k+1,by omega,by omega,?_⟩
  rw [hs]
  exact (zqt id)
 | false =>
  rw [hh,if_neg (by simp)] at hs
  repeat (first|refine W.gob rfl ?_|refine WL.nil ?_|refine WL.bf rfl rfl rfl zqo ?_|refine WL.e1 rfl ?_|refine WL.ar rfl rfl z0i ?_|refine WL.len rfl rfl zql ?_|refine W.condT rfl ?_|refine W.condF rfl ?_)
  refine ⟨k+1,by omega,by omega,?_⟩
  rw [hs]
  exact (zqt id)
theorem rDist_FS (a b:Ev) (ha:a.stops.length≤20) (hb:b.stops.length≤20):Ctr Tryz.prog 65 [.ag (eEv a),.ag (eEv b)] (.sc (.int .i64 (dstE a b))):=by
 have h1:=outside_FS a b ha hb
 have h2:=outside_FS b a hb ha
 have l1:=extN_le a.stops b.stops
 have l2:=extN_le b.stops a.stops
 have t1:=rTicks_FS a.val a.dot a.three
 have t2:=rTicks_FS b.val b.dot b.three
 have hd:dstE a b=extN a.stops b.stops+extN b.stops a.stops+(if tkV a.val a.dot a.three=tkV b.val b.dot b.three then 0 else 1)+(if a.tie=b.tie then 0 else 1):=rfl
 obtain ⟨x,hx⟩:∃ x,extN a.stops b.stops=x:=⟨_,rfl⟩
 obtain ⟨y,hy⟩:∃ y,extN b.stops a.stops=y:=⟨_,rfl⟩
 obtain ⟨t,ht⟩:∃ t,tkV a.val a.dot a.three=t:=⟨_,rfl⟩
 obtain ⟨u,hu⟩:∃ u,tkV b.val b.dot b.three=u:=⟨_,rfl⟩
 rw [hx] at h1 l1 hd
 rw [hy] at h2 l2 hd
 rw [ht] at t1 hd
 rw [hu] at t2 hd
 refine zqe Tryz.func65 Tryz.ntmps65 fun w0 F0=>?_;dsimp only [St.init,number,Nat.reduceAdd]
 repeat refine W.go rfl ?_
 refine (?_:W _ _ _ _ _)
 refine W.drawK zqk zqk ?_
 repeat refine DK.st rfl ?_
 refine DK.vl rfl (zqc Tryz.func135 h1) ?_
 repeat refine DK.st rfl ?_
 refine DK.vl rfl (zqc Tryz.func135 h2) ?_
 repeat (first|refine DK.st rfl ?_|refine DK.ar rfl rfl z0i ?_|refine DK.nil ?_)
 repeat refine W.go rfl ?_
 refine (?_:W _ _ _ _ _)
 refine W.drawK zqk zqk ?_
 repeat refine DK.st rfl ?_
 refine DK.vl rfl (zqc Tryz.func136 t1) ?_
 repeat refine DK.st rfl ?_
 refine DK.vl rfl (zqc Tryz.func136 t2) ?_
 repeat (first|refine DK.st rfl ?_|refine DK.nil ?_)
 refine (?_:W _ _ _ _ _)
 by_cases htu:t=u
 ·rw [if_pos htu] at hd
  subst htu
  (refine W.cond rfl (fun hif=>?_) (fun hif=>?_)<;>(try simp only [decide_eq_true_eq,decide_eq_false_iff_not,Int.not_lt,Int.not_le,Bool.not_eq_true',Bool.not_eq_false'] at hif))
  ·exact absurd hif (by simp)
  repeat refine W.go rfl ?_
  refine (?_:W _ _ _ _ _)
  (refine W.cond rfl (fun hif=>?_) (fun hif=>?_)<;>(try simp only [decide_eq_true_eq,decide_eq_false_iff_not,Int.not_lt,Int.not_le,Bool.not_eq_true',Bool.not_eq_false'] at hif))
  ·have hne:¬ a.tie=b.tie:=by simpa using hif
   rw [if_neg hne] at hd
   rw [hd]
   repeat (first|refine W.go rfl ?_|refine WL.ev rfl ?_|refine WL.ar rfl rfl z0i ?_)
   refine (?_:W _ _ _ _ _)
   exact W.ret (fin1 rfl rfl (sc_int zqo) rfl)
  ·have hne:a.tie=b.tie:=by simpa using hif
   rw [if_pos hne] at hd
   rw [hd]
   repeat refine W.go rfl ?_
   refine (?_:W _ _ _ _ _)
   exact W.ret (fin1 rfl rfl (sc_int zqo) rfl)
 ·rw [if_neg htu] at hd
  (refine W.cond rfl (fun hif=>?_) (fun hif=>?_)<;>(try simp only [decide_eq_true_eq,decide_eq_false_iff_not,Int.not_lt,Int.not_le,Bool.not_eq_true',Bool.not_eq_false'] at hif))
  rotate_left
  ·exact absurd hif (by simpa using htu)
  repeat (first|refine W.go rfl ?_|refine WL.ev rfl ?_|refine WL.ar rfl rfl z0i ?_)
  refine (?_:W _ _ _ _ _)
  (refine W.cond rfl (fun hif=>?_) (fun hif=>?_)<;>(try simp only [decide_eq_true_eq,decide_eq_false_iff_not,Int.not_lt,Int.not_le,Bool.not_eq_true',Bool.not_eq_false'] at hif))
  ·have hne:¬ a.tie=b.tie:=by simpa using hif
   rw [if_neg hne] at hd
   rw [hd]
   repeat (first|refine W.go rfl ?_|refine WL.ev rfl ?_|refine WL.ar rfl rfl z0i ?_)
   refine (?_:W _ _ _ _ _)
   exact W.ret (fin1 rfl rfl (sc_int zqo) rfl)
  ·have hne:a.tie=b.tie:=by simpa using hif
   rw [if_pos hne] at hd
   rw [hd]
   repeat refine W.go rfl ?_
   refine (?_:W _ _ _ _ _)
   exact W.ret (fin1 rfl rfl (sc_int zqo) rfl)
end
section
open Go.RowKit
def ePr (p:Int×Int):List AV:=[.sc (.int .i64 p.1),.sc (.int .i64 p.2)]
def nilA:List AV:=[.sc (.slice none 0 0)]
def rowC (a b:List Ev)(q:Nat):List AV:=[.ls 1 ((rowA a b q).map eInt)]
def rws (a b:List Ev)(x:Int):List (List AV):=(List.range (a.length+1)).map fun (q:Nat)=>if (q:Int)≤x then nilA else rowC a b q
theorem rws_len(a b:List Ev)(x:Int):(rws a b x).length=a.length+1:=by simp [rws]
theorem rws_get {a b:List Ev} {x:Int} {q:Nat} (h:q≤a.length):(rws a b x)[q]?=some (if (q:Int)≤x then nilA else rowC a b q):=by
 unfold rws
 rw [List.getElem?_map,List.getElem?_range (by omega)];rfl
theorem rws_lo {a b:List Ev} {x:Int} {q:Nat} (h:q≤a.length)(h2:(q:Int)≤x):(rws a b x)[q]?=some nilA:=by rw [rws_get h,if_pos h2]
theorem rws_hi {a b:List Ev} {x:Int} {q:Nat} (h:q≤a.length)(h2:¬ (q:Int)≤x):(rws a b x)[q]?=some (rowC a b q):=by rw [rws_get h,if_neg h2]
theorem rws_top (a b:List Ev):rws a b a.length=List.replicate (a.length+1) nilA:=by
 apply List.ext_getElem (by simp [rws])
 intro i h1 h2
 have hi:i<a.length+1:=by simpa [rws] using h1
 have:=rws_lo (a:=a) (b:=b) (x:=a.length) (q:=i) (by omega) (by omega)
 rw [List.getElem?_eq_getElem h1] at this
 rw [Option.some.inj this];simp
theorem rws_set {a b:List Ev} {i:Nat} (h:i≤a.length):(rws a b i).set i (rowC a b i)=rws a b ((i:Int)-1):=by
 apply List.ext_getElem?
 intro q
 rw [List.getElem?_set]
 by_cases hq:q≤a.length
 ·by_cases e:i=q
  ·subst e
   rw [if_pos rfl,rws_len,if_pos (by omega),rws_hi h (by omega)]
  ·rw [if_neg e,rws_get hq,rws_get hq]
   by_cases h1:(q:Int)≤i
   ·rw [if_pos h1,if_pos (by omega)]
   ·rw [if_neg h1,if_neg (by omega)]
 ·rw [if_neg (by omega),List.getElem?_eq_none (by rw [rws_len];omega),List.getElem?_eq_none (by rw [rws_len];omega)]
theorem rowA_map {a b:List Ev} {i k:Nat} (h:k≤b.length):((rowA a b i).map eInt)[k]?=some (eInt (csA a b i k)):=by rw [List.getElem?_map,rowA_at h];rfl
theorem rowK_map {a b:List Ev} {i k j:Nat} (h:j≤b.length)(h2:k≤j):((rowK a b i k).map eInt)[j]?=some (eInt (csA a b i j)):=by rw [List.getElem?_map,rowK_at h h2];rfl
theorem rowK_map0 {a b:List Ev} {i k:Nat}:((rowK a b i (k+1)).map eInt)[k]?=some (eInt 0):=by rw [List.getElem?_map,rowK_0];rfl
theorem rowK_mset {a b:List Ev} {i k:Nat} (h:k≤b.length) {v:Int} (hv:v=csA a b i k):((rowK a b i (k+1)).map eInt).set k (putL 0 [.sc (.int .i64 v)] (eInt 0))=(rowK a b i k).map eInt:=by
 subst hv
 rw [← rowK_set h,List.map_set];rfl
theorem rowK_last {a b:List Ev}:(rowK a b a.length (b.length+1)).map eInt=(rowK a b a.length b.length).map eInt:=by
 have h:=rowK_set (a:=a) (b:=b) (i:=a.length) (k:=b.length) (Nat.le_refl _)
 rw [csA_end]at h
 have h2:(rowK a b a.length (b.length+1)).set b.length 0=rowK a b a.length (b.length+1):=set_same_ rowK_0
 rw [h2]at h
 rw [h]
theorem alone_FS (e:Ev) (h:e.stops.length≤20):Ctr Tryz.prog 132 [.ag (eEv e)] (.sc (.int .i64 (alnE e))):=by
 refine zqe Tryz.func132 Tryz.ntmps132 fun w0 F0=>?_;dsimp only [St.init,number,Nat.reduceAdd]
 repeat (first|refine W.go rfl ?_|refine WL.ev rfl ?_|refine WL.ar rfl rfl z0i ?_|refine WL.len rfl rfl zql ?_)
 refine (?_:W _ _ _ _ _)
 exact W.ret zqr
theorem min_FS (x:Int) (r:List Int) (hr:r.length≤1000):Ctr Tryz.prog 134 [.ls 1 ((x::r).map eInt)] (.sc (.int .i64 (r.foldl min x))):=by
 have hl:((x::r).map eInt).length=r.length+1:=by simp
 have h0:((x::r).map eInt)[((0:Int)).toNat]?=some (eInt x):=rfl
 obtain ⟨LL,hLL⟩:∃ z,(x::r).map eInt=z:=⟨_,rfl⟩
 have hat:∀ k (h:k < r.length),LL[((k+1:Nat):Int).toNat]?=some (eInt r[k]):=fun k h=>by rw [← hLL,Int.toNat_natCast];simp [h]
 rw [hLL] at hl h0 ⊢
 refine zqe Tryz.func134 Tryz.ntmps134 fun w0 F0=>?_;dsimp only [St.init,number,Nat.reduceAdd]
 repeat (first|refine W.gob rfl ?_|refine WL.nil ?_|refine WL.bf rfl rfl rfl zqo ?_|refine WL.e1 rfl ?_|refine WL.len rfl rfl zql ?_|refine W.condF rfl ?_)
 refine (?_:WL _ _ _ _ _ _)
 refine WL.idx rfl rfl zqo h0 ?_
 repeat (first|refine W.gob rfl ?_|refine WL.nil ?_|refine WL.e1 rfl ?_)
 refine (?_:W _ _ _ _ _)
 refine W.loop (fun k:Nat=>k≤r.length) (fun k=>⟨[(0,.ls 1 LL),(3,.sc (.int .i64 ((r.take k).foldl min x))),(4,.sc (.int .i64 ((k+1:Nat):Int)))],[],0⟩) (fun k=>r.length - k) 0 zqo (zqt id) fun k hk=>?_
 by_cases hlt:k < r.length
 ·have hs:(r.take (k+1)).foldl min x=min ((r.take k).foldl min x) r[k]:=by rw [List.take_succ_eq_append_getElem hlt,List.foldl_append];rfl
  obtain ⟨m,hm⟩:∃ m,(r.take k).foldl min x=m:=⟨_,rfl⟩
  rw [hm] at hs ⊢
  have hat:=hat k hlt
  repeat (first|refine W.gob rfl ?_|refine WL.nil ?_|refine WL.bt rfl rfl rfl zqo ?_|refine WL.e1 rfl ?_|refine WL.len rfl rfl zql ?_|refine W.condT rfl ?_)
  refine (?_:WL _ _ _ _ _ _)
  refine WL.idx rfl rfl zqo hat ?_
  repeat refine WL.e1 rfl ?_
  refine (?_:WL _ _ _ _ _ _)
  refine WL.mm rfl rfl (show _=min m r[k] by rw [Int.min_def];split<;>split<;>omega) ?_
  repeat (first|refine W.gob rfl ?_|refine WL.nil ?_|refine WL.e1 rfl ?_|refine WL.ar rfl rfl z0i ?_)
  refine ⟨k+1,by omega,by omega,?_⟩
  rw [hs]
  exact (zqt id)
 ·obtain rfl:k=r.length:=by omega
  rw [List.take_length]
  repeat (first|refine W.gob rfl ?_|refine WL.nil ?_|refine WL.bf rfl rfl rfl zqo ?_|refine WL.e1 rfl ?_|refine WL.len rfl rfl zql ?_|refine W.condF rfl ?_)
  refine (?_:W _ _ _ _ _)
  exact W.ret zqr
end
end Go.Proofs.YtgelfflighgajaaGreatDoor
