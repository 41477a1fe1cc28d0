/- Lists in memory as trees. -/
import Derived.Test.YtaeelcfjkhfpkaaGreatSpRq
set_option maxRecDepth 100000
set_option linter.unusedVariables false
set_option linter.unusedSimpArgs false
namespace Go.Proofs.YtaeelcfjkhfpkaaGreat
section
open Go.RowKit
theorem rd_of_rp {α:Type} {F:View} {w:World} {n:Nat} {l:List α} {e:α→List AV} {f:α→List Value} {v:Value} (hF:∀ p u,F p=some u→w.cell? p=some u) (h0:0<n) (hf:∀ x,(f x).length=n) (hef:∀ x (j:Nat) u,(f x)[j]?=some u→(e x)[j]?=some (.sc u))
  (r:RP F (.ls n (l.map e)) v):∃ A c,v=.slice A l.length c∧Rd w w.heap.size n A (l.map f)∧l.length≤c:=by
 obtain ⟨A,cap,ad,u,rfl,h1,h2,h3,h4,h5⟩:=r.ls_of
 have hcell:∀ (k:Nat) x,l[k]?=some x→∀ (j:Nat) y,(f x)[j]?=some y→w.cell? (ad.add (k*n+j))=some y:=fun k x hk j y hy=>by
  have a1:(l.map e)[k]?=some (e x):=by rw [List.getElem?_map,hk];rfl
  have:=h3 k _ j _ a1 (hef x j y hy)
  rw [hF _ _ this.1,(h4 k _ j _ a1 (hef x j y hy)).sc_eq]
 refine ⟨A,cap,by rw [List.length_map],fun hp=>⟨ad,h2 (by simpa using hp),?_,fun k r hr j y hy=>?_⟩,by simpa using h5⟩
 ·have hp:0<l.length:=by simpa using hp
  have hx:0<(f (l[0]'hp)).length:=by rw [hf];exact h0
  have:=cell_block (hcell 0 (l[0]'hp) (List.getElem?_eq_getElem hp) 0 _ (List.getElem?_eq_getElem hx))
  rwa [block_of_add] at this
 ·rw [List.getElem?_map] at hr
  cases hk:l[k]? with
  | none=>simp [hk] at hr
  | some x =>
   rw [hk] at hr
   obtain rfl:f x=r:=by simpa using hr
   exact hcell k x hk j y hy
theorem stps_of_rp {F:View} {w:World} {l:List Stp} {v:Value} (hF:∀ p u,F p=some u→w.cell? p=some u) (r:RP F (eStps l) v):∃ A c,v=.slice A l.length c∧StpsAt w w.heap.size A l∧l.length≤c :=
 rd_of_rp (n:=5) (f:=stpCells) hF zqo (fun _=>rfl) (fun x j u h=>by
  match j with
  | 0=>cases h;rfl
  | 1=>cases h;rfl
  | 2=>cases h;rfl
  | 3=>cases h;rfl
  | 4=>cases h;rfl
  | j+5=>simp [stpCells] at h) r
theorem evs_of_rp {F:View} {w:World} {l:List Ev} {v:Value} (hF:∀ p u,F p=some u→w.cell? p=some u) (r:RP F (.ls 6 (l.map eEv)) v):∃ A c,v=.slice A l.length c∧EvsAt w w.heap.size A l∧l.length≤c:=by
 obtain ⟨A,cap,ad,u,rfl,h1,h2,h3,h4,h5⟩:=r.ls_of
 obtain ⟨ms,hml,hmq⟩:=list_ofT (fun k (m:Option Addr×Nat)=>∀ x,l[k]?=some x→u k 5=.slice m.1 x.stops.length m.2∧StpsAt w w.heap.size m.1 x.stops) l.length fun k hk=>by
  have a1:(l.map eEv)[k]?=some (eEv l[k]):=by simp [hk]
  obtain ⟨A',c',e,hs,_⟩:=stps_of_rp hF (h4 k _ 5 _ a1 rfl)
  refine ⟨(A',c'),fun x hx=>?_⟩
  rw [List.getElem?_eq_getElem hk] at hx
  cases hx
  exact ⟨e,hs⟩
 have hcell:∀ (k:Nat) x m,l[k]?=some x→ms[k]?=some m→∀ (j:Nat) y,(evCells x m)[j]?=some y→w.cell? (ad.add (k*6+j))=some y:=fun k x m hk hm j y hy=>by
  have a1:(l.map eEv)[k]?=some (eEv x):=by rw [List.getElem?_map,hk];rfl
  have hj:j < 6:=(List.getElem?_eq_some_iff.1 hy).1
  have get:∀ av,(eEv x)[j]?=some av→w.cell? (ad.add (k*6+j))=some (u k j):=fun av hav=>hF _ _ (h3 k _ j _ a1 hav).1
  match j,hj with
  | 0,_=>cases hy;rw [get _ rfl,(h4 k _ 0 _ a1 rfl).sc_eq]
  | 1,_=>cases hy;rw [get _ rfl,(h4 k _ 1 _ a1 rfl).sc_eq]
  | 2,_=>cases hy;rw [get _ rfl,(h4 k _ 2 _ a1 rfl).sc_eq]
  | 3,_=>cases hy;rw [get _ rfl,(h4 k _ 3 _ a1 rfl).sc_eq]
  | 4,_=>cases hy;rw [get _ rfl,(h4 k _ 4 _ a1 rfl).sc_eq]
  | 5,_=>cases hy;rw [get _ rfl,(hmq k m hm x hk).1]
 refine ⟨A,cap,by rw [List.length_map],⟨ms,hml,fun hp=>⟨ad,h2 ?_,?_,fun k r hr j y hy=>?_⟩,fun k e m he hm=>(hmq k m hm e he).2⟩,by simpa using h5⟩
 ·simp [hml] at hp ⊢;omega
 ·have hp:0 < l.length:=by simp [hml] at hp;omega
  have:=cell_block (hcell 0 (l[0]'hp) (ms[0]'(by omega)) (List.getElem?_eq_getElem hp) (List.getElem?_eq_getElem (by omega)) 0 _ rfl)
  rwa [block_of_add] at this
 ·rw [List.getElem?_zipWith] at hr
  cases hk:l[k]? with
  | none=>simp [hk] at hr
  | some x =>
   cases hm:ms[k]? with
   | none=>simp [hk,hm] at hr
   | some m =>
    simp [hk,hm] at hr
    subst hr
    exact hcell k x m hk hm j y hy
theorem ins_of_rp {F:View} {w:World} {cs:List (Int×Int×Bool)} {st:List Int} {v1 v2:Value} (hF:∀ p u,F p=some u→w.cell? p=some u) (r1:RP F (.ls 3 (cs.map eCrs)) v1) (r2:RP F (.ls 1 (st.map eInt)) v2) :
  ∃ A1 c1 A2 c2,v1=.slice A1 cs.length c1∧v2=.slice A2 st.length c2∧InsAt w w.heap.size A1 A2 cs st:=by
 obtain ⟨A1,c1,e1,h1,_⟩:=rd_of_rp (n:=3) (f:=crsCells) hF zqo (fun _=>rfl) (fun x j u h=>by
  match j with
  | 0=>cases h;rfl
  | 1=>cases h;rfl
  | 2=>cases h;rfl
  | j+3=>simp [crsCells] at h) r1
 obtain ⟨A2,c2,e2,h2,_⟩:=rd_of_rp (n:=1) (f:=intCell) hF zqo (fun _=>rfl) (fun x j u h=>by
  match j with
  | 0=>cases h;rfl
  | j+1=>simp [intCell] at h) r2
 exact ⟨A1,c1,A2,c2,e1,e2,h1,h2⟩
theorem pc_of_rp {F:View} {w:World} {p:Pce} {v:Value} (hF:∀ p u,F p=some u→w.cell? p=some u) (r:RP F (ePce p) v):∃ M,v=pcValue M p∧PcAt w w.heap.size M p:=by
 obtain ⟨cs,rfl,h1,h2⟩:∃ cs:Array Value,v=.agg cs∧cs.size=3∧∀ (i:Nat) av u,[AV.ls 3 (p.cs.map eCrs),.ls 1 (p.st.map eInt),.ls 6 (p.evs.map eEv)][i]?=some av→cs[i]?=some u→RP F av u:=by
  cases r with|ag l cs a b=>exact ⟨cs,rfl,a,b⟩
 have g:∀ i (h:i<3),cs[i]?=some (cs[i]'(by omega)):=fun i h=>Array.getElem?_eq_getElem (by omega)
 obtain ⟨A1,c1,A2,c2,e1,e2,hI⟩:=ins_of_rp hF (h2 0 _ _ rfl (g 0 zqo)) (h2 1 _ _ rfl (g 1 zqo))
 obtain ⟨A3,c3,e3,hE,hc⟩:=evs_of_rp hF (h2 2 _ _ rfl (g 2 zqo))
 refine ⟨⟨A1,A2,A3,c1,c2,c3⟩,?_,hI,hE,hc⟩
 unfold pcValue
 congr 1
 apply Array.ext (by simp [h1])
 intro i hi hi2
 match i,(show i<3 by omega) with
 | 0,_=>exact e1
 | 1,_=>exact e2
 | 2,_=>exact e3
theorem Ctr.of_sc {P:Program} {f:FuncId} {args:List AV} {xs:List Value} {res:AV} {v:Value} (hs:scs args=some xs)(hv:∀ F,RP F res v)(h:∀ w,Calls P f xs.toArray w (Ret v w)):Ctr P f args res:=by
 intro w F vs hF hR
 have:vs=xs:=scs_of (G:=⟨F,fun _=>0,fun _=>0,fun _=>undef,fun _ _=>False⟩) hs hR.1 fun i av u a b=>.pu _ _ (hR.2 i av u a b)
 subst this
 exact (h w).mono fun e w'⟨he,hb⟩=>⟨v,F,he,hb,fun _ _ h=>h,fun p u x=>by rw [hb.cell (cell_block (hF p u x))];exact hF p u x,fun _ _ h=>.inl h,hv F⟩
theorem Ctr.of_pc {P:Program} {f:FuncId} {p:Pce} {pre post:List AV} {xs ys:List Value} {res:AV} {v:Value} (hs:scs pre=some xs) (hs2:scs post=some ys) (hv:∀ F,RP F res v)
  (h:∀ w M,PcAt w w.heap.size M p→Calls P f (xs++pcValue M p::ys).toArray w (Ret v w)):Ctr P f (pre++ePce p::post) res:=by
 intro w F vs hF hR
 have hG:∀ i av u,(pre++ePce p::post)[i]?=some av→vs[i]?=some u→R ⟨F,fun _=>0,fun _=>0,fun _=>undef,fun _ _=>False⟩ av u:=fun i av u a b=>.pu _ _ (hR.2 i av u a b)
 have hlen:vs.length=pre.length+(post.length+1):=by rw [hR.1];simp
 have e1:vs.take pre.length=xs:=scs_of hs (by simp;omega) fun i av u a b=>by
  have hi:i<pre.length:=(List.getElem?_eq_some_iff.1 a).1
  rw [List.getElem?_take_of_lt hi] at b
  exact hG i av u (by rw [List.getElem?_append_left hi];exact a) b
 have e2:vs.drop (pre.length+1)=ys:=scs_of hs2 (by simp;omega) fun i av u a b=>by
  rw [List.getElem?_drop] at b
  exact hG (pre.length+1+i) av u (by rw [List.getElem?_append_right (by omega),show pre.length+1+i-pre.length=i+1 by omega];exact a) b
 have hp:vs[pre.length]?=some (vs[pre.length]'(by omega)):=List.getElem?_eq_getElem (by omega)
 obtain ⟨M,eM,hM⟩:=pc_of_rp hF (hR.2 pre.length _ _ (by rw [List.getElem?_append_right (Nat.le_refl _),Nat.sub_self];rfl) hp)
 have ev:vs=xs++pcValue M p::ys:=by
  rw [← e1,← e2,← eM]
  conv=>lhs;rw [← List.take_append_drop pre.length vs]
  congr 1
  rw [List.drop_eq_getElem_cons (by omega)]
 rw [ev]
 exact (h w M hM).mono fun e w' ⟨he,hb⟩=>⟨v,F,he,hb,fun _ _ h=>h,fun p u x=>by rw [hb.cell (cell_block (hF p u x))];exact hF p u x,fun _ _ h=>.inl h,hv F⟩
end
section
open Go.RowKit
def newF(F:View)(w w':World):View:=fun p=>if p.block<w.heap.size then F p else w'.cell? p
theorem newF_le {F:View} {w w':World} (hF:∀ p u,F p=some u→w.cell? p=some u):View.le F (newF F w w'):=fun p u h=>by
 unfold newF
 rw [if_pos (cell_block (hF p u h))];exact h
theorem newF_fw {F:View} {w w':World} (hF:∀ p u,F p=some u→w.cell? p=some u)(hb:Below w.heap.size w w'):∀ p u,newF F w w' p=some u→w'.cell? p=some u:=fun p u h=>by
 unfold newF at h
 by_cases e:p.block<w.heap.size
 ·rw [if_pos e]at h;rw [hb.cell e];exact hF p u h
 ·rw [if_neg e]at h;exact h
theorem newF_new {F:View} {w w':World}:∀ p u,newF F w w' p=some u→F p=some u∨w.heap.size≤p.block:=fun p u h=>by
 unfold newF at h
 by_cases e:p.block<w.heap.size
 ·rw [if_pos e]at h;exact .inl h
 ·exact .inr zqo
theorem rp_of_rd {α:Type} {F:View} {w w':World} {n:Nat} {l:List α} {e:α→List AV} {f:α→List Value} {A:Option Addr} {c B:Nat} (hr:Rd w' B n A (l.map f)) (hA:∀ ad,A=some ad→w.heap.size≤ad.block) (hc:l.length≤c)
  (hf:∀ x,(e x).length=n) (hef:∀ x (j:Nat) av,(e x)[j]?=some av→∃ u,av=.sc u∧(f x)[j]?=some u∧u.oneCell'=true):RP (newF F w w') (.ls n (l.map e)) (.slice A l.length c):=by
 have hcell:∀ ad,A=some ad→∀ (k:Nat) x,l[k]?=some x→∀ (j:Nat) u,(f x)[j]?=some u→newF F w w' (ad.add (k*n+j))=some u:=fun ad had k x hk j u hu=>by
  have hl:0<(l.map f).length:=by have:=(List.getElem?_eq_some_iff.1 hk).1;simp;omega
  obtain ⟨ad',e',_,h2⟩:=hr hl
  rw [had] at e'
  cases e'
  unfold newF
  rw [if_neg (by rw [block_of_add];have:=hA ad had;omega)]
  exact h2 k (f x) (by rw [List.getElem?_map,hk];rfl) j u hu
 have key:∀ (i:Nat) r (j:Nat) av,(l.map e)[i]?=some r→r[j]?=some av→∃ x u,l[i]?=some x∧av=.sc u∧(f x)[j]?=some u∧u.oneCell'=true:=fun i r j av hr' hav=>by
  rw [List.getElem?_map] at hr'
  cases hx:l[i]? with
  | none=>simp [hx] at hr'
  | some x =>
   rw [hx] at hr'
   obtain rfl:e x=r:=by simpa using hr'
   obtain ⟨u,a,b,c⟩:=hef x j av hav
   exact ⟨x,u,rfl,a,b,c⟩
 have hlen:l.length=(l.map e).length:=by simp
 rw [hlen]
 refine .ls n (l.map e) A c (A.getD ⟨0,0,none⟩) (fun i j=>((l[i]?).bind fun x=>(f x)[j]?).getD undef) (by simpa using hc) (fun r hr'=>?_) (fun hp=>?_) (fun i r j av hr' hav=>?_) (fun i r j av hr' hav=>?_)
 ·obtain ⟨x,_,rfl⟩:=List.mem_map.1 hr';exact hf x
 ·obtain ⟨ad,e',_⟩:=hr (by simpa using hp)
  rw [e'];rfl
 ·obtain ⟨x,u,h1,h2,h3,h4⟩:=key i r j av hr' hav
  obtain ⟨ad,e',_⟩:=hr (by have:=(List.getElem?_eq_some_iff.1 h1).1;simp;omega)
  simp only [h1,Option.bind_some,h3,Option.getD_some]
  rw [e']
  exact ⟨hcell ad e' i x h1 j u h3,h4⟩
 ·obtain ⟨x,u,h1,h2,h3,h4⟩:=key i r j av hr' hav
  simp only [h1,Option.bind_some,h3,Option.getD_some,h2]
  exact .sc u
theorem eCrs_of(x:Int×Int×Bool)(j:Nat)(av:AV)(h:(eCrs x)[j]?=some av):∃ u,av=.sc u∧(crsCells x)[j]?=some u∧u.oneCell'=true:=by
 match j with
 | 0=>cases h;exact⟨_,rfl,rfl,rfl⟩
 | 1=>cases h;exact⟨_,rfl,rfl,rfl⟩
 | 2=>cases h;exact⟨_,rfl,rfl,rfl⟩
 | j+3=>simp [eCrs]at h
theorem eInt_of(x:Int)(j:Nat)(av:AV)(h:(eInt x)[j]?=some av):∃ u,av=.sc u∧(intCell x)[j]?=some u∧u.oneCell'=true:=by
 match j with
 | 0=>cases h;exact⟨_,rfl,rfl,rfl⟩
 | j+1=>simp [eInt]at h
theorem insCopy_FS (cs:List (Int×Int×Bool)) (st:List Int) (h1:cs.length≤64) (h2:st.length≤64):Ctr Tryz.prog 35 [.ag (eIns cs st)] (.ag (eIns cs st)):=by
 intro w F vs hF hR
 match vs,hR.1 with
 | [v],_ =>
  have r:=hR.2 0 _ v rfl rfl
  obtain ⟨xs,rfl,q1,q2⟩:∃ xs:Array Value,v=.agg xs∧xs.size=2∧∀ (i:Nat) av u,(eIns cs st)[i]?=some av→xs[i]?=some u→RP F av u:=by
   cases r with|ag l cs a b=>exact ⟨cs,rfl,a,b⟩
  have g:∀ i (h:i<2),xs[i]?=some (xs[i]'(by omega)):=fun i h=>Array.getElem?_eq_getElem (by omega)
  obtain ⟨A1,c1,A2,c2,e1,e2,hI⟩:=ins_of_rp hF (q2 0 _ _ rfl (g 0 zqo)) (q2 1 _ _ rfl (g 1 zqo))
  have ex:xs=#[.slice A1 cs.length c1,.slice A2 st.length c2]:=by
   apply Array.ext (by simp [q1])
   intro i hi hi2
   match i,(show i<2 by omega) with
   | 0,_=>exact e1
   | 1,_=>exact e2
  rw [ex]
  refine (rInsCopy A1 A2 cs st c1 c2 w hI h1 h2).mono fun e w' ⟨B1,B2,d1,d2,he,hb,hI',f1,f2,k1,k2⟩=>?_
  refine ⟨_,newF F w w',he,hb,newF_le hF,newF_fw hF hb,newF_new,.ag _ _ rfl fun i av u a b=>?_⟩
  match i with
  | 0=>cases a;cases b;exact rp_of_rd hI'.1 f1 k1 (fun _=>rfl) eCrs_of
  | 1=>cases a;cases b;exact rp_of_rd hI'.2 f2 k2 (fun _=>rfl) eInt_of
  | i+2=>simp [eIns] at a
end
end Go.Proofs.YtaeelcfjkhfpkaaGreat
