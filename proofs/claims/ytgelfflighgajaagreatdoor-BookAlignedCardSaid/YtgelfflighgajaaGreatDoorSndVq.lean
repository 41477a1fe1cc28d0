/- sound: end, stay. -/
import Derived.Test.YtgelfflighgajaaGreatDoorNtPVq
import Derived.Test.YtgelfflighgajaaGreatDoorLngVq
set_option maxHeartbeats 4000000
set_option maxRecDepth 100000
set_option linter.unusedVariables false
set_option linter.unusedSimpArgs false
namespace Go.Proofs.YtgelfflighgajaaGreatDoor
open Go.RowKit
theorem NInv.chg {p:Pce} {E:List (Nat×Stp)} {b b':Int→Nat} {s:NS} (h:NInv p E b s) (hb:∀ y∈E,opnN p.evs y.1 y.2.1 (b' y.2.1)=opnN p.evs y.1 y.2.1 (b y.2.1)):NInv p E b' s:=by
 have hr:∀ c y,y∈E→(rings p b' c y↔rings p b c y):=fun c y hy=>by
  unfold rings
  constructor
  ·rintro ⟨a1,a2,a3⟩;subst a1;exact ⟨rfl,a2,by rw [← hb y hy];exact a3⟩
  ·rintro ⟨a1,a2,a3⟩;subst a1;exact ⟨rfl,a2,by rw [hb y hy];exact a3⟩
 refine ⟨?_,h.len,h.r0,fun c h1 h2=>?_⟩
 ·rw [h.out]
  refine List.map_congr_left fun y hy=>?_
  unfold valN
  rw [hb y hy]
 ·rcases h.ring c h1 h2 with⟨q1,q2⟩|⟨k,q1,⟨y,q2,q3⟩,q4⟩
  ·exact .inl ⟨q1,fun y hy hh=>q2 y hy ((hr c y hy).1 hh)⟩
  ·exact .inr ⟨k,q1,⟨y,q2,(hr c y (List.mem_of_getElem? q2)).2 q3⟩,fun k' y' a b=>q4 k' y' a ((hr c y' (List.mem_of_getElem? a)).1 b)⟩
theorem NInv.all {p:Pce} {E:List (Nat×Stp)} {s:NS} {m:Nat} (h:NInv p E (fun _=>m) s) (hcut:∀ c,cutB p.evs c m=true) (hE:∀ y∈E,y.1<m) :
  ∀ k:Nat,k≤15→NInv p E (fun c=>if 1≤c∧c<k then m+1 else m) (stopAll (onsAt p.evs m) k s):=by
 intro k
 induction k with
 | zero =>
  intro _
  refine h.chg fun y hy=>?_
  rw [if_neg (by omega)]
 | succ k ih =>
  intro hk
  have h1:=ih (by omega)
  unfold stopAll
  by_cases h0:k=0
  ·subst h0
   have e:stopN 0 (onsAt p.evs m) (stopAll (onsAt p.evs m) 0 s)=stopAll (onsAt p.evs m) 0 s:=by
    unfold stopN
    rw [if_neg (by rw [h1.r0];decide)]
   rw [e]
   refine h1.chg fun y hy=>?_
   rw [if_neg (by omega),if_neg (by omega)]
  ·refine h1.stop ⟨by omega,by omega⟩ (by rw [if_neg (by omega)]) (by rw [if_pos (by omega)]) (fun x hx=>?_) (hcut k) (fun y hy _=>hE y hy)
   by_cases e:1≤x∧x<k
   ·rw [if_pos e,if_pos (by omega)]
   ·rw [if_neg e,if_neg (by omega)]
theorem opnN_cut {evs:List Ev} {i m:Nat} {c:Int} (hi:i<m) (hc:cutB evs c m=true):opnN evs i c (m+1)≠none:=by
 rw [opnN_succ,if_pos ⟨hi,hc⟩]
 cases opnN evs i c m<;>simp
theorem cutB_rest {evs:List Ev} {m:Nat} (hm:m<evs.length)(h:restB evs[m]=true)(c:Int):cutB evs c m=true:=by
 unfold cutB;rw [List.getElem?_eq_getElem hm];simp [h]
theorem cutB_has {evs:List Ev} {m:Nat} (hm:m<evs.length) {x:Stp} (h:x∈evs[m].stops):cutB evs x.1 m=true:=by
 unfold cutB hasB;rw [List.getElem?_eq_getElem hm]
 simp only [Bool.or_eq_true,List.any_eq_true]
 exact .inr ⟨x,h,by simp⟩
theorem entQ_lt(p:Pce):∀ m y,y∈entQ p m→y.1<m:=by
 intro m
 induction m with
 | zero=>intro y hy;cases hy
 | succ m ih =>
  intro y hy
  unfold entQ at hy
  split at hy
  ·rcases List.mem_append.1 hy with hy|hy
   ·have:=ih y hy;omega
   ·obtain⟨x,_,rfl⟩:=List.mem_map.1 hy
    exact Nat.lt_succ_self m
  ·have:=ih y hy;omega
theorem hasB_iff {c:Int} {l:List Stp}:hasB c l=true↔∃ x∈l,x.1=c:=by
 unfold hasB;simp
theorem NInv.adds {p:Pce} {E:List (Nat×Stp)} {s:NS} {m:Nat} (hm:m<p.evs.length) (hok:EvOk p m p.evs[m]) (h:NInv p E (fun _=>m) s) (hE:∀ y∈E,y.1<m) :
  ∀ q,q≤p.evs[m].stops.length→NInv p (E++((p.evs[m].stops.take q).map fun x=>(m,x))) (fun c=>if hasB c (p.evs[m].stops.take q)=true then m+1 else m) (addQ p m p.evs[m].stops s q):=by
 intro q
 induction q with
 | zero =>
  intro _
  rw [List.take_zero,List.map_nil,List.append_nil]
  refine h.chg fun y hy=>?_
  have:hasB y.2.1 []=false:=rfl
  simp only [this,Bool.false_eq_true,if_false]
 | succ q ih =>
  intro hq
  have hq':q<p.evs[m].stops.length:=by omega
  have h1:=ih (by omega)
  obtain ⟨l,hl⟩:∃ l,p.evs[m].stops=l:=⟨_,rfl⟩
  have hasc:=hok.asc
  have hst:=hok.stops
  have hcut:∀ x∈l,cutB p.evs x.1 m=true:=fun x hx=>cutB_has hm (by rw [hl];exact hx)
  rw [hl] at hq' h1 hasc hst ⊢
  have hx:=hst _ (List.getElem_mem hq')
  have htk:l.take (q+1)=l.take q++[l[q]]:=List.take_succ_eq_append_getElem hq'
  have hne:∀ x∈l.take q,x.1<l[q].1:=fun x hx=>by
   obtain ⟨i,hi,rfl⟩:=List.getElem_of_mem hx
   have hi':i<q:=by simp at hi;omega
   rw [List.getElem_take]
   exact List.pairwise_iff_getElem.1 hasc i q (by omega) hq' hi'
  have e0:addQ p m l s (q+1)=addN p m l[q] (addQ p m l s q):=by
   show (match l[q]? with|some x=>addN p m x (addQ p m l s q)|none=>addQ p m l s q)=_
   rw [List.getElem?_eq_getElem hq']
  rw [e0,htk,List.map_append,← List.append_assoc]
  obtain ⟨x,hxe⟩:∃ x,l[q]=x:=⟨_,rfl⟩
  have hxl:x∈l:=by rw [← hxe];exact List.getElem_mem hq'
  rw [hxe] at hx hne ⊢
  obtain ⟨c,hc⟩:∃ c:Nat,x.1=c:=⟨x.1.toNat,by have:=hx.crs;omega⟩
  have hctn:x.1.toNat=c:=by omega
  have hc14:1≤c∧c≤14:=⟨by have:=hx.crs;omega,by have:=hx.c14;omega⟩
  have h2:=h1.stop (b':=fun c'=>if hasB c' (l.take q++[x])=true then m+1 else m) (m:=m) hc14 (if_neg fun hh=>by obtain ⟨y,hy,hyc⟩:=hasB_iff.1 hh;have:=hne y hy;omega) (if_pos (hasB_iff.2 ⟨x,by simp,hc⟩)) (fun c' hc'=>?_) (by rw [← hc];exact hcut x hxl) (fun y hy hyc=>?_)
  ·have h3:=h2.add (m:=m) (x:=x) ⟨by omega,by omega⟩ (if_pos (hasB_iff.2 ⟨x,by simp,rfl⟩)) (fun y hy hr=>?_)
   ·rw [hctn] at h3
    unfold addN
    rw [hctn]
    exact h3
   ·have hyc:y.2.1=x.1:=hr.1
    have hym:y.1<m:=by
     rcases List.mem_append.1 hy with hy|hy
     ·exact hE y hy
     ·obtain ⟨z,hz,rfl⟩:=List.mem_map.1 hy
      have:=hne z hz
      simp at hyc;omega
    have:=hr.2.2
    simp only [show hasB x.1 (l.take q++[x])=true from hasB_iff.2 ⟨x,by simp,rfl⟩,if_true] at this
    exact opnN_cut hym (hcut x hxl) this
  ·by_cases e:hasB c' (l.take q)=true
   ·obtain ⟨y,a,b⟩:=hasB_iff.1 e
    rw [if_pos e,if_pos (hasB_iff.2 ⟨y,List.mem_append_left _ a,b⟩)]
   ·rw [if_neg e,if_neg]
    intro hh
    obtain ⟨y,hy,hyc⟩:=hasB_iff.1 hh
    rcases List.mem_append.1 hy with hy|hy
    ·exact e (hasB_iff.2 ⟨y,hy,hyc⟩)
    ·rw [List.mem_singleton] at hy;subst hy;omega
  ·rcases List.mem_append.1 hy with hy|hy
   ·exact hE y hy
   ·obtain ⟨z,hz,rfl⟩:=List.mem_map.1 hy
    have:=hne z hz
    simp at hyc;omega
theorem opnN_keep {evs:List Ev} {i m:Nat} {c:Int} (hc:cutB evs c m=false):opnN evs i c (m+1)=opnN evs i c m:=by
 rw [opnN_succ,if_neg (by rw [hc];simp)];simp
theorem nts_inv {p:Pce} (h0:pceE p=0):∀ m,m≤p.evs.length→NInv p (entQ p m) (fun _=>m) (nts p m):=by
 intro m
 induction m with
 | zero =>
  intro _
  refine ⟨rfl,by simp [nts],by simp [nts],fun c h1 h2=>.inl ⟨?_,fun y hy=>by cases hy⟩⟩
  simp only [nts,List.getD_eq_getElem?_getD]
  rw [List.getElem?_replicate,if_pos (by omega)];rfl
 | succ m ih =>
  intro hm
  have hm':m < p.evs.length:=by omega
  have hok:=evOk_of h0 hm'
  have hE:=entQ_lt p m
  have e1:nts p (m+1)=addQ p m p.evs[m].stops (openN p m p.evs[m] (nts p m)) p.evs[m].stops.length:=by
   show (match p.evs[m]? with|some e=>_|none=>_)=_
   rw [List.getElem?_eq_getElem hm']
  have e2:entQ p (m+1)=entQ p m++p.evs[m].stops.map fun x=>(m,x):=by
   show (match p.evs[m]? with|some e=>_|none=>_)=_
   rw [List.getElem?_eq_getElem hm']
  rw [e1,e2]
  have h1:=ih (by omega)
  by_cases hr:restB p.evs[m]=true
  ·have hnil:p.evs[m].stops=[]:=by
    unfold restB at hr
    simp at hr
    exact hr.1
   have e3:openN p m p.evs[m] (nts p m)=stopAll (onsAt p.evs m) 15 (nts p m):=if_pos hr
   rw [e3,hnil]
   simp only [List.map_nil,List.append_nil,List.length_nil,addQ]
   have hall:=h1.all (fun c=>cutB_rest hm' hr c) hE 15 (Nat.le_refl _)
   refine hall.chg fun y hy=>?_
   have hym:=hE y hy
   by_cases hc:1≤y.2.1∧y.2.1 < (15:Nat)
   ·rw [if_pos hc]
   ·-- a course that no stop has
    exfalso
    have:∀ m,m≤p.evs.length→∀ y∈entQ p m,1≤y.2.1∧y.2.1≤14:=by
     intro m
     induction m with
     | zero=>intro _ y hy;cases hy
     | succ m ih =>
      intro hm y hy
      unfold entQ at hy
      rw [List.getElem?_eq_getElem (show m < p.evs.length by omega)] at hy
      rcases List.mem_append.1 hy with hy|hy
      ·exact ih (by omega) y hy
      ·obtain ⟨x,hx,rfl⟩:=List.mem_map.1 hy
       have:=(evOk_of h0 (show m < p.evs.length by omega)).stops x hx
       exact ⟨this.crs.1,this.c14⟩
    have:=this m (by omega) y hy
    exact hc (by omega)
  ·have e3:openN p m p.evs[m] (nts p m)=nts p m:=if_neg hr
   rw [e3]
   have h2:=h1.adds hm' hok hE p.evs[m].stops.length (Nat.le_refl _)
   rw [List.take_of_length_le (Nat.le_refl _)] at h2
   refine h2.chg fun y hy=>?_
   by_cases hc:hasB y.2.1 p.evs[m].stops=true
   ·rw [if_pos hc]
   ·rw [if_neg hc]
    refine opnN_keep ?_
    cases hq:cutB p.evs y.2.1 m with
    | false=>rfl
    | true =>
     exfalso
     unfold cutB at hq
     rw [List.getElem?_eq_getElem hm'] at hq
     simp only [Bool.or_eq_true] at hq
     exact hq.elim hr hc
def noteR (p:Pce) (i:Nat) (x:Stp):Nt:=valN p (fun _=>p.evs.length) (i,x)
def notesR (p:Pce):Nat→List Nt
 | 0=>[]
 | k+1=>match p.evs[k]? with
  | some e=>notesR p k++e.stops.map (noteR p k)
  | none=>notesR p k
theorem notesR_ent (p:Pce):∀ m,notesR p m=(entQ p m).map (valN p fun _=>p.evs.length):=by
 intro m
 induction m with
 | zero=>rfl
 | succ m ih =>
  show (match p.evs[m]? with|some e=>notesR p m++e.stops.map (noteR p m)|none=>notesR p m)=((match p.evs[m]? with|some e=>entQ p m++e.stops.map (fun x=>(m,x))|none=>entQ p m):List (Nat×Stp)).map _
  cases p.evs[m]? with
  | none=>exact ih
  | some e =>
   simp only [List.map_append,ih,List.map_map];rfl
theorem nts_notes {p:Pce} (h0:pceE p=0):(nts p p.evs.length).out=notesR p p.evs.length:=by
 rw [(nts_inv h0 _ (Nat.le_refl _)).out,notesR_ent]
end Go.Proofs.YtgelfflighgajaaGreatDoor
namespace Go.Proofs.YtgelfflighgajaaGreatDoor
open Go.RowKit
theorem rd_of_ints {w:World} {base e n cap B:Nat} {g:Nat} {l:List Int} (h:w.ownsRow base e 1 (.slice (some ⟨g,0,none⟩) n cap) n (l.map fun x=>.int .i64 x)) (hn:l.length=n) (hg:g<B):Rd w B 1 (some ⟨g,0,none⟩) (l.map intCell):=by
 intro _
 refine ⟨⟨g,0,none⟩,rfl,hg,fun k r hr j y hy=>?_⟩
 rw [List.getElem?_map] at hr
 cases hk:l[k]? with
 | none=>simp [hk] at hr
 | some x =>
  simp only [hk,Option.map_some,Option.some.injEq] at hr
  subst hr
  have hkl:=(List.getElem?_eq_some_iff.1 hk).1
  match j with
  | 0 =>
   cases hy
   have:=h.cellAt k (by omega)
   rw [List.getElem?_map,hk] at this
   have e:(⟨g,0,none⟩:Addr).add (k*1+0)=⟨g,k,none⟩:=by
    by_cases hz:k=0
    ·subst hz;rfl
    ·simp [Addr.add,hz]
   rw [e]
   simpa using this
  | j+1=>simp [intCell] at hy
theorem pOnsets_FS (p:Pce) (hO:PcOk p):Ctr Tryz.prog 111 [ePce p] (.tu [.ls 1 (if pceE p=0 then (onsL p.evs p.evs.length).map eInt else []),.sc (.int .i64 (pceE p))]):=by
 intro w F vs hF hR
 match vs,hR.1 with
 | [v],_ =>
  obtain ⟨M,rfl,hM⟩:=pc_of_rp hF (hR.2 0 _ v rfl rfl)
  by_cases h0:pceE p=0
  ·rw [if_pos h0,h0]
   refine (pOnsets_ok M p w hM hO h0).mono fun e w' ⟨v,he,hrow,hb⟩=>?_
   obtain ⟨g,cap,rfl⟩:∃ g cap,v=.slice (some ⟨g,0,none⟩) (p.evs.length+1) cap:=by
    rcases hrow.2 with⟨_,h⟩|⟨g,cap,cur,e,_⟩
    ·omega
    ·exact ⟨g,cap,e⟩
   have hlt:=hrow.lt g rfl
   have hcap:p.evs.length+1≤cap:=by
    rcases hrow.2 with⟨h,_⟩|⟨g',cap',cur,e,_,_,h,_⟩
    ·cases h
    ·cases e;exact h
   have hlen:(onsL p.evs p.evs.length).length=p.evs.length+1:=onsL_length _ _
   refine ⟨_,newF F w w',he,hb,newF_le hF,newF_fw hF hb,newF_new,.tu _ _ rfl fun i av u a b=>?_⟩
   match i with
   | 0 =>
    cases a;cases b
    have:=rp_of_rd (F:=F) (w:=w) (rd_of_ints (B:=w'.heap.size) hrow hlen hlt.2) (fun ad e=>by cases e;exact hlt.1) (c:=cap) (by omega) (e:=eInt) (fun _=>rfl) eInt_of
    rw [hlen] at this
    exact this
   | 1=>cases a;cases b;exact .sc _
   | i+2=>simp at a
  ·rw [if_neg h0]
   refine (pOnsets_bad M p w hM hO h0).mono fun e w' ⟨he,hb⟩=>?_
   refine ⟨_,newF F w w',he,hb,newF_le hF,newF_fw hF hb,newF_new,.tu _ _ rfl fun i av u a b=>?_⟩
   match i with
   | 0=>cases a;cases b;exact .ls 1 [] none 0 ⟨0,0,none⟩ (fun _ _=>undef) (by simp) (by simp) (by simp) (by simp) (by simp)
   | 1=>cases a;cases b;exact .sc _
   | i+2=>simp at a
end Go.Proofs.YtgelfflighgajaaGreatDoor
namespace Go.Proofs.YtgelfflighgajaaGreatDoor
open Go.RowKit
def onsR (p:Pce):List (List AV):=if pceE p=0 then (onsL p.evs p.evs.length).map eInt else []
def eSnd (p:Pce):AV:=.ag [.ls 3 (p.cs.map eCrs),.ls 1 (p.st.map eInt),.ls 6 (p.evs.map eEv),.ls 1 (onsR p)]
theorem listen_FS (p:Pce) (hO:PcOk p):Ctr Tryz.prog 208 [ePce p] (.tu [eSnd p,.sc (.int .i64 (pceE p))]):=by
 refine Ctr.intro Tryz.func208 rfl Tryz.ntmps208 (Nat.le_of_ble_eq_true rfl) (bd_all rfl) fun w0 F0=>?_;dsimp only [St.init,number,Nat.reduceAdd]
 repeat refine W.go rfl ?_
 refine (?_:WL _ _ _ _ _ _)
 dsimp only [St.put,Nat.reduceAdd]
 refine WL.vl rfl (WV.call rfl (callF Tryz.func111 rfl rfl) rfl rfl (pOnsets_FS p hO)) ?_
 repeat (first|refine W.go rfl ?_|refine WL.ev rfl ?_)
 refine (?_:W _ _ _ _ _)
 dsimp only [St.put,Nat.reduceAdd]
 exact W.ret (finN rfl rfl rfl rfl)
end Go.Proofs.YtgelfflighgajaaGreatDoor
namespace Go.Proofs.YtgelfflighgajaaGreatDoor
open Go.RowKit
theorem end_FS (p:Pce) (hO:PcOk p) (h0:pceE p=0):Ctr Tryz.prog 232 [eSnd p] (.sc (.int .i64 (onsAt p.evs p.evs.length))):=by
 have hn:=hO.n3
 have hl:(onsL p.evs p.evs.length).length=p.evs.length+1:=onsL_length _ _
 have he:eSnd p=.ag [.ls 3 (p.cs.map eCrs),.ls 1 (p.st.map eInt),.ls 6 (p.evs.map eEv),.ls 1 ((onsL p.evs p.evs.length).map eInt)]:=by unfold eSnd onsR;rw [if_pos h0]
 rw [he]
 refine Ctr.intro Tryz.func232 rfl Tryz.ntmps232 (Nat.le_of_ble_eq_true rfl) (bd_all rfl) fun w0 F0=>?_;dsimp only [St.init,number,Nat.reduceAdd]
 repeat (first|refine W.go rfl ?_|refine WL.ev rfl ?_|refine WL.ar rfl rfl (by unfold I64;omega) ?_|refine WL.len rfl rfl (by first|exact List.length_map _|exact List.length_replicate|rfl) ?_|refine WL.idx rfl rfl (by omega) (by first|exact map_at (by omega)|exact map_atZ (by omega) (by omega)) ?_)
 refine (?_:W _ _ _ _ _)
 dsimp only [St.put,Nat.reduceAdd]
 refine W.ret (fin1 rfl rfl (sc_int ?_) rfl)
 simp [onsL]
end Go.Proofs.YtgelfflighgajaaGreatDoor
