/- Reading a piece: plain words: a list turned round in place; the first place of a word. -/
import Derived.Test.YthohlofpphjofaaGreatDoorLApartGq
import Derived.Test.YthohlofpphjofaaGreatDoorInsGq
import Derived.Test.YthohlofpphjofaaGreatDoorEZGq
set_option maxHeartbeats 4000000
set_option maxRecDepth 100000
set_option linter.unusedVariables false
set_option linter.unusedSimpArgs false
namespace Go.Proofs.YthohlofpphjofaaGreatDoor
theorem aiv {p:Prop}(h:p:=by repeat (first|with_reducible assumption|with_reducible refine Blk.drew ?_|with_reducible exact blk_new' (by simp)|with_reducible refine Blk.alloc ?_ _|with_reducible refine blk_grown ?_ (by assumption) vK)):p:=h
theorem ahC {p:Prop}(h:p:=by first|with_reducible assumption|(go_split_ands;with_reducible assumption)):p:=h
theorem ae1 {p:Prop}(h:p:=by
 apply Array.ext (by simp [q1])
 intro i hi hi2
 exact ajl):p:=h
theorem adz {p:Prop}(h:p:=by
 rw [aB (by rw [jf];omega)]
 simp only [iU,AL]
 rw [if_neg (by omega)]):p:=h
theorem adt {p:Prop}(h:p:=by
 obtain ⟨x,u,h1,h2,h3,h4⟩:=key i r j av hr' hav
 simp only [h1,EU,h3,EO,h2]
 exact .sc u):p:=h
theorem ajl {p:Prop}(h:p:=by
 match i,(show i<2 by omega) with
 | 0,_=>exact e1
 | 1,_=>exact e2):p:=h
theorem afo {p:Prop}(h:p:=by
 rw [e]
 clear e
 go_enter Tryz.func17,Tryz.ntmps17
 go_wp2
 go_ret
 exact Ret.mk' rfl jD):p:=h
section
open Go.RowKit
theorem Q8:(Tryz.prog.info? 117).map (fun i=>(i.zero,i.size,i.bytes))=some (some (.agg #[.int .i64 0,.int .i64 0,.bool false]),3,24):=by kernel_rfl
theorem J3:(Tryz.prog.info? 3).map (fun i=>(i.zero,i.size,i.bytes))=some (some (.int .i64 0),1,8):=by kernel_rfl
theorem afR (cs:List (Int×Int×Bool)):∀ r∈cs.map dA,r.length=3:=by intro r h;obtain⟨x,_,rfl⟩:=List.mem_map.1 h;rfl
theorem ags(st:List Int):∀ r∈st.map gG,r.length=1:=by intro r h;obtain⟨x,_,rfl⟩:=List.mem_map.1 h;rfl
theorem afS (cs:List (Int×Int×Bool)):∀ r∈cs.map dA,∀ u∈r,u.oneCell'=true:=by
 intro r h u hu;obtain⟨x,_,rfl⟩:=List.mem_map.1 h
 simp only [dA,E8,yN,or_false]at hu
 rcases hu with rfl|rfl|rfl<;>rfl
theorem agt(st:List Int):∀ r∈st.map gG,∀ u∈r,u.oneCell'=true:=by
 intro r h u hu;obtain⟨x,_,rfl⟩:=List.mem_map.1 h
 simp only [gG,E8,yN,or_false]at hu
 rcases hu with rfl;rfl
def U3 (cs:List (Int×Int×Bool))(st:List Int)(W:World)(e:Ending)(w':World):Prop :=
 ∃ (A1 A2:Option Addr)(c1 c2:Nat),e=.returned (.agg #[.slice A1 cs.length c1,.slice A2 st.length c2])∧Below W.heap.size W w'∧gV w' w'.heap.size A1 A2 cs st∧(∀ ad,A1=some ad→W.heap.size≤ad.block)∧(∀ ad,A2=some ad→W.heap.size≤ad.block)∧cs.length≤c1∧st.length≤c2
structure Bf (w:World)(B:Nat)(A1 A2:Option Addr)(cs:List (Int×Int×Bool))(st:List Int):Prop where
 out:gV w B A1 A2 cs st
section
variable {w w':World} {B g:Nat} {A1 A2:Option Addr} {cs:List (Int×Int×Bool)} {st:List Int}
theorem aaI (h:Bf w B A1 A2 cs st):Rd w B 3 A1 (cs.map dA):=h.out.1
theorem aaJ (h:Bf w B A1 A2 cs st):Rd w B 1 A2 (st.map gG):=h.out.2
theorem XY(h:Bf w B A1 A2 cs st):Bf w.drew B A1 A2 cs st:=⟨h.out⟩
theorem QZ (h:Bf w B A1 A2 cs st)(hB:B≤w.heap.size)(o:Obj):Bf (w.alloc o) B A1 A2 cs st:=⟨h.out.alloc hB o⟩
theorem Q5 (h:Bf w B A1 A2 cs st)(hg:w.grownBy w' (some g))(hB:B≤w.heap.size)(hr:B≤g):Bf w' B A1 A2 cs st :=
 ⟨⟨h.out.1.grown hg hB (fun k e=>by injection e with e;omega),h.out.2.grown hg hB (fun k e=>by injection e with e;omega)⟩⟩
theorem JX {p:Addr} {u:Value} (h:Bf w B A1 A2 cs st)(hB:B≤p.block):Bf (w.setCell p u) B A1 A2 cs st:=⟨⟨h.out.1.setCell hB u,h.out.2.setCell hB u⟩⟩
end
theorem ab9 (A1 A2:Option Addr) (cs:List (Int×Int×Bool)) (st:List Int) (c1 c2:Nat) (w:World) (hI:gV w w.heap.size A1 A2 cs st) (hm1:cs.length≤64) (hm2:st.length≤64) :
    Calls Tryz.prog 58 #[.agg #[.slice A1 cs.length c1,.slice A2 st.length c2]] w (U3 cs st w):=by
  obtain ⟨i0,hi0,hz0,hz1,hz2⟩:=info_parts Q8
  obtain ⟨i1,hi1,hz3,hz4,hz5⟩:=info_parts J3
  obtain ⟨n1,hn1⟩:∃ n,cs.length=n:=⟨_,rfl⟩
  obtain ⟨n2,hn2⟩:∃ n,st.length=n:=⟨_,rfl⟩
  have HP:Hid (∀ e w',(∃ (A1 A2:Option Addr) (c1 c2:Nat),e=.returned (.agg #[.slice A1 n1 c1,.slice A2 n2 c2])∧Below w.heap.size w w'∧gV w' w'.heap.size A1 A2 cs st∧(∀ ad,A1=some ad→w.heap.size≤ad.block)∧(∀ ad,A2=some ad→w.heap.size≤ad.block)∧n1≤c1∧n2≤c2)→U3 cs st w e w'):=by
    intro e w' ⟨x1,x2,x3,x4,h1,h2,h3,h4,h5,h6,h7⟩
    exact ⟨x1,x2,x3,x4,by rw [hn1,hn2];exact h1,h2,h3,h4,h5,by rw [hn1];exact h6,by rw [hn2];exact h7⟩
  have HI:Bf w w.heap.size A1 A2 cs st:=⟨hI⟩
  rw [hn1,hn2]
  rw [hn1] at hm1
  rw [hn2] at hm2
  have HN1:=Lib.hid (show n1=(cs.map dA).length by simp [hn1])
  have HN2:=Lib.hid (show n2=(st.map gG).length by simp [hn2])
  clear hn1 hn2 hI
  go_enter Tryz.func58,Tryz.ntmps58
  go_wp2_with fail
  have HT:((w.alloc (Obj.cells #[Value.slice A1 n1 c1,Value.slice A2 n2 c2] 27)).alloc (Obj.cells #[Value.slice none 0 0,Value.slice none 0 0] 27)).there (w.heap.size+1) 0 2:=blk_there (blk_new' (by simp)) (by simp)
  go_region_held3 (fun w'=>w'.cell? ⟨w.heap.size,0,none⟩=some (.slice A1 n1 c1)∧w'.cell? ⟨w.heap.size,1,none⟩=some (.slice A2 n2 c2)∧Bf w' w.heap.size A1 A2 cs st∧w'.there (w.heap.size+1) 0 2)
    (((try go_split_ands);(try dsimp only);refine ⟨?_,?_,?_,?_⟩;
      (focus (first|(rw [hga.cell_far _ (by simp;omega) (by simp;omega)];with_reducible assumption)|(rw [hgb.cell_far _ (by simp;omega) (by simp;omega)];with_reducible assumption)|(rw [World.cell?_setCell_other _ _ _ _ (by simp),World.cell?_setCell_other _ _ _ _ (by simp)];with_reducible assumption)|(go_keep;done)));(focus (first|(rw [hga.cell_far _ (by simp;omega) (by simp;omega)];with_reducible assumption)|(rw [hgb.cell_far _ (by simp;omega) (by simp;omega)];with_reducible assumption)|(rw [World.cell?_setCell_other _ _ _ _ (by simp),World.cell?_setCell_other _ _ _ _ (by simp)];with_reducible assumption)|(go_keep;done)));
      (focus (repeat (first|with_reducible exact HI|with_reducible assumption|with_reducible refine XY ?_|with_reducible refine QZ ?_ vK _|with_reducible refine JX ?_ vK|with_reducible refine Q5 ?_ (by assumption) vK vK)));
      (focus (repeat (first|with_reducible exact HT|with_reducible assumption|with_reducible refine there_drew ?_|with_reducible refine World.there_alloc ?_ _|with_reducible refine there_setCell ?_ _ _|with_reducible refine there_grown ?_ (by assumption) vK)))))
    (first
      | (refine step_append_new (by rfl) _ _ 24 (by rfl) 117 i0 _ 3 24 Tryz.underlying24 hi0 hz0 hz1 hz2 rfl (by omega) _ (by rfl) aiv w.heap.size A1 (cs.map dA) n1 c1 (by rfl) HN1.out (aaI ahC) (afR _) (afS _) (by rw [← HN1.out];simp only [maxLen];omega) (by rw [← HN1.out];omega) ?_;intro Aa ca wa hra hga aaE;have alQ:=aaE.1;have HCA:=Lib.hid aaE.2;clear aaE;obtain ⟨ub0,ub1,eb0,eb1,fb0,fb1⟩:=there2 (there_grown ahC hga vK);have hsa:w.heap.size+2 < wa.heap.size:=(by have:=hga.size;(try simp at this);omega))
      | (refine step_append_new (by rfl) _ _ 25 (by rfl) 3 i1 _ 1 8 Tryz.underlying25 hi1 hz3 hz4 hz5 rfl (by omega) _ (by rfl) aiv w.heap.size A2 (st.map gG) n2 c2 (by rfl) HN2.out (aaJ ahC) (ags _) (agt _) (by rw [← HN2.out];simp only [maxLen];omega) (by rw [← HN2.out];omega) ?_;intro Ab cb wb hrb hgb aaF;have alR:=aaF.1;have HCB:=Lib.hid aaF.2;clear aaF;obtain ⟨ub0,ub1,eb0,eb1,fb0,fb1⟩:=there2 (there_grown ahC hgb vK);have hsb:w.heap.size+2 < wb.heap.size:=(by have:=hgb.size;(try simp at this);omega)))
  all_goals
    go_wp2_with fail
    refine bodyPost_ret (v:=.agg #[.slice Aa n1 ca,.slice Ab n2 cb]) (by simp [results,Tryz.results58,go_sem,eb0,eb1]) rfl (HP.out _ _ ⟨Aa,Ab,ca,cb,rfl,(by repeat (first|with_reducible exact Below.refl _ _|with_reducible refine Below.drew ?_|with_reducible refine bel_alloc ?_ _|with_reducible refine Below.setCell ?_ vK _|with_reducible refine bel_grown ?_ (by assumption) vK)),⟨hra.stay (fun ad had hlt=>?_),hrb.stay (fun ad had hlt=>?_)⟩,fun ad had=>?_,fun ad had=>?_,HCA.out,HCB.out⟩)
    · have hh:=(alQ ad had).1
      try simp at hh
      repeat (first|with_reducible exact Stay.refl hlt|with_reducible refine Stay.drew ?_|with_reducible refine Stay.alloc ?_ _|with_reducible refine Stay.setCell ?_ vK _|with_reducible refine Stay.grown ?_ (by assumption) vK)
    · have hh:=(alR ad had).1
      try simp at hh
      repeat (first|with_reducible exact Stay.refl hlt|with_reducible refine Stay.drew ?_|with_reducible refine Stay.alloc ?_ _|with_reducible refine Stay.setCell ?_ vK _|with_reducible refine Stay.grown ?_ (by assumption) vK)
    · have hh:=(alQ ad had).1
      try simp at hh
      omega
    · have hh:=(alR ad had).1
      try simp at hh
      omega
def newF(F:View)(w w':World):View:=fun p=>if p.block<w.heap.size then F p else w'.cell? p
theorem uY {F:View} {w w':World} (hF:∀ p u,F p=some u→w.cell? p=some u):View.le F (newF F w w'):=fun p u h=>by
 simp_all[newF,cell_block]
theorem uX {F:View} {w w':World} (hF:∀ p u,F p=some u→w.cell? p=some u)(hb:Below w.heap.size w w'):∀ p u,newF F w w' p=some u→w'.cell? p=some u:=fun p u h=>by
 unfold newF at h
 by_cases e:p.block<w.heap.size
 ·rw [if_pos e]at h;rw [hb.cell e];exact hF p u h
 simp_all
theorem qw {F:View} {w w':World}:∀ p u,newF F w w' p=some u→F p=some u∨w.heap.size≤p.block:=fun p u h=>by
 grind[newF]
theorem yB {α:Type} {F:View} {w w':World} {n:Nat} {l:List α} {e:α→List AV} {f:α→List Value} {A:Option Addr} {c B:Nat} (hr:Rd w' B n A (l.map f)) (hA:∀ ad,A=some ad→w.heap.size≤ad.block) (hc:l.length≤c)
  (hf:∀ x,(e x).length=n) (hef:∀ x (j:Nat) av,(e x)[j]?=some av→∃ u,av=.sc u∧(f x)[j]?=some u∧u.oneCell'=true):RP (newF F w w') (.ls n (l.map e)) (.slice A l.length c):=by
 have hcell:∀ ad,A=some ad→∀ (k:Nat) x,l[k]?=some x→∀ (j:Nat) u,(f x)[j]?=some u→newF F w w' (ad.add (k*n+j))=some u:=fun ad had k x hk j u hu=>by
  have hl:0<(l.map f).length:=by grind
  obtain ⟨ad',e',_,h2⟩:=hr hl
  simp_all[newF,if_neg,block_of_add]
 have key:∀ (i:Nat) r (j:Nat) av,(l.map e)[i]?=some r→r[j]?=some av→∃ x u,l[i]?=some x∧av=.sc u∧(f x)[j]?=some u∧u.oneCell'=true:=fun i r j av hr' hav=>by
  grind
 have hlen:l.length=(l.map e).length:=by simp
 rw [hlen]
 refine .ls n (l.map e) A c (A.getD ⟨0,0,none⟩) (fun i j=>((l[i]?).bind fun x=>(f x)[j]?).getD undef) (by simpa using hc) (fun r hr'=>?_) (fun hp=>?_) (fun i r j av hr' hav=>?_) (fun i r j av hr' hav=>?_)
 ·grind
 ·obtain ⟨ad,e',_⟩:=hr (by simpa using hp)
  rw [e'];rfl
 ·obtain ⟨x,u,h1,h2,h3,h4⟩:=key i r j av hr' hav
  obtain ⟨ad,e',_⟩:=hr (by have:=(List.getElem?_eq_some_iff.1 h1).1;simp;omega)
  simp only [h1,EU,h3,EO]
  rw [e']
  exact ⟨hcell ad e' i x h1 j u h3,h4⟩
 ·exact adt
theorem Vd(x:Int×Int×Bool)(j:Nat)(av:AV)(h:(aW x)[j]?=some av):∃ u,av=.sc u∧(dA x)[j]?=some u∧u.oneCell'=true:=by
 match j with
 | 0=>cases h;exact⟨_,rfl,rfl,rfl⟩
 | 1=>cases h;exact⟨_,rfl,rfl,rfl⟩
 | 2=>cases h;exact⟨_,rfl,rfl,rfl⟩
 | j+3=>simp [aW]at h
theorem JM(x:Int)(j:Nat)(av:AV)(h:(eInt x)[j]?=some av):∃ u,av=.sc u∧(gG x)[j]?=some u∧u.oneCell'=true:=by
 match j with
 | 0=>cases h;exact⟨_,rfl,rfl,rfl⟩
 | j+1=>simp [eInt]at h
theorem Q9 (cs:List (Int×Int×Bool)) (st:List Int) (h1:cs.length≤64) (h2:st.length≤64):Ctr Tryz.prog 58 [.ag (oJ cs st)] (.ag (oJ cs st)):=by
 intro w F vs hF hR
 match vs,hR.1 with
 | [v],_ =>
  have r:=hR.2 0 _ v rfl rfl
  obtain ⟨xs,rfl,q1,q2⟩:∃ xs:Array Value,v=.agg xs∧xs.size=2∧∀ (i:Nat) av u,(oJ cs st)[i]?=some av→xs[i]?=some u→RP F av u:=by
   cases r with|ag l cs a b=>exact ⟨cs,rfl,a,b⟩
  have g:∀ i (h:i<2),xs[i]?=some (xs[i]'(by omega)):=fun i h=>pq (by omega)
  obtain ⟨A1,c1,A2,c2,e1,e2,hI⟩:=zl hF (q2 0 _ _ rfl (g 0 aj)) (q2 1 _ _ rfl (g 1 aj))
  have ex:xs=#[.slice A1 cs.length c1,.slice A2 st.length c2]:=by
   exact ae1
  rw [ex]
  refine (ab9 A1 A2 cs st c1 c2 w hI h1 h2).mono fun e w' ⟨B1,B2,d1,d2,he,hb,hI',f1,f2,k1,k2⟩=>?_
  refine ⟨_,newF F w w',he,hb,uY hF,uX hF hb,qw,.ag _ _ rfl fun i av u a b=>?_⟩
  match i with
  | 0=>cases a;cases b;exact yB hI'.1 f1 k1 (fun _=>rfl) Vd
  | 1=>cases a;cases b;exact yB hI'.2 f2 k2 (fun _=>rfl) JM
  | i+2=>simp [oJ] at a
theorem Ctr.aku {P:Program} {f:FuncId} {cs:List (Int×Int×Bool)} {st:List Int} {post:List AV} {ys:List Value} {res:AV} {v:Value} (hs2:scs post=some ys) (hv:∀ F,RP F res v)
  (h:∀ w A1 A2 c1 c2,gV w w.heap.size A1 A2 cs st→Calls P f (.agg #[.slice A1 cs.length c1,.slice A2 st.length c2]::ys).toArray w (Ret v w)):Ctr P f (.ag (oJ cs st)::post) res:=by
 intro w F vs hF hR
 match vs,hR.1,hR.2 with
 | u::us,hlen,hR2 =>
  have r:=hR2 0 _ u rfl rfl
  obtain ⟨xs,rfl,q1,q2⟩:∃ xs:Array Value,u=.agg xs∧xs.size=2∧∀ (i:Nat) av u,(oJ cs st)[i]?=some av→xs[i]?=some u→RP F av u:=by
   cases r with|ag l cs a b=>exact ⟨cs,rfl,a,b⟩
  have g:∀ i (h:i<2),xs[i]?=some (xs[i]'(by omega)):=fun i h=>pq (by omega)
  obtain ⟨A1,c1,A2,c2,e1,e2,hI⟩:=zl hF (q2 0 _ _ rfl (g 0 aj)) (q2 1 _ _ rfl (g 1 aj))
  have ex:xs=#[.slice A1 cs.length c1,.slice A2 st.length c2]:=by
   exact ae1
  have ey:us=ys:=scs_of (G:=⟨F,fun _=>0,fun _=>0,fun _=>undef,fun _ _=>False⟩) hs2 (by simpa using hlen) fun i av u a b=>.pu _ _ (hR2 (i+1) av u (by simpa using a) Jt)
  subst ex ey
  exact (h w A1 A2 c1 c2 hI).mono fun e w' ⟨he,hb⟩=>⟨v,F,he,hb,fun _ _ h=>h,fun p u x=>by rw [hb.cell (cell_block (hF p u x))];exact hF p u x,fun _ _ h=>.inl h,hv F⟩
theorem rO (cs:List (Int×Int×Bool))(st:List Int):Ctr Tryz.prog 103 [.ag (oJ cs st)] (.sc (.int .i64 (gB cs st))) :=
 Ctr.aku (post:=[]) rfl (fun _=>.sc _) fun w A1 A2 c1 c2 hI=>NU A1 A2 cs st cs.length st.length c1 c2 w hI rfl rfl
theorem YZ (p:aN) (hO:fH p):Ctr Tryz.prog 18 [eF p] (eF p):=by
 refine jc Tryz.func18 Tryz.ntmps18 fun w0 F0=>?_
 have hn3:=hO.n3
 refine Ji ?_
 refine WL.vl rfl (WV.call rfl (callF Tryz.func58 rfl rfl) rfl rfl (Q9 p.cs p.st hO.n1 hO.n2)) ?_
 refine Ji ?_
 refine W.tr (Tr.nilBox (k:=2) (j:=2) 90 6 rfl rfl rfl rfl) ?_
 refine W.loop (fun k:Nat=>k≤p.evs.length) (fun k=>⟨[(1,.pt 0 0 0),(2,.pt 1 0 0),(3,.pt 2 0 0),(4,.sc (.int .i64 k))],[(0,.box 30 [.ls 3 (p.cs.map aW),.ls 1 (p.st.map eInt),.ls 6 (p.evs.map iq)]),(1,.box 30 [.sc (.slice none 0 0),.sc (.slice none 0 0),.sc (.slice none 0 0)]),(2,.box 30 [.ls 3 (p.cs.map aW),.ls 1 (p.st.map eInt),.sl 3]),(3,.row 90 6 ((p.evs.take k).map iq))],4⟩) (fun k=>p.evs.length - k) 0 aj (zqt id) fun k hk=>?_
 refine Ji ?_
 (refine W.cond rfl (fun hif=>?_) (fun hif=>?_)<;>(try simp only [bD,bK,dM,dN,dn,dO] at hif))
 ·have hk2:k < p.evs.length:=by omega
  have h20:=hO.n4 k hk2
  refine Ji ?_
  refine WL.tr (Tr.freeze 6 rfl) ?_
  refine Ji ?_
  refine ⟨k+1,by omega,by omega,mP (fun q=>bif Nat.beq q 3 then 8 else q) (by repeat (first|exact trivial|refine ⟨⟨?_,?_,?_⟩,?_⟩|exact congrArg (fun r=>some (AO.row _ _ r)) (vW hk2)|rfl)) rfl⟩
 ·have he:k=p.evs.length:=by omega
  subst he
  refine Ji ?_
  refine W.tr (Tr.freeze 3 rfl) ?_
  refine W.ret (fin_cell rfl rfl rfl rfl rfl rfl ?_ rfl)
  show AV.ag [_,_,.ls 6 ((p.evs.take p.evs.length).map iq)]=eF p
  rw [fE]
  rfl
theorem afI (M:PM) (p:aN) (w:World) (hP:oI w w.heap.size M p):Calls Tryz.prog 17 #[dL M p] w (Ret (.bool (QB p)) w):=by
 obtain ⟨A1,A2,A3,c1,c2,c3⟩:=M
 obtain ⟨cs,st,evs⟩:=p
 unfold dL
 simp only at *
 have HP:=Lib.hid hP.2.1
 obtain ⟨n1,hn1⟩:∃ n,cs.length=n:=⟨_,rfl⟩
 obtain ⟨n2,hn2⟩:∃ n,st.length=n:=⟨_,rfl⟩
 obtain ⟨n3,hn3⟩:∃ n,evs.length=n:=⟨_,rfl⟩
 have HN3:=Lib.hid hn3
 have hB:QB ⟨cs,st,evs⟩=(decide (64 < n1)|| (decide (64 < n2)|| (decide (420 < n3)|| evs.any fun e=>decide (20 < e.stops.length)))):=by unfold QB;rw [hn1,hn2,hn3]
 rw [hB,hn1,hn2,hn3]
 clear hB hn1 hn2 hn3 hP
 by_cases b1:64 < n1
 ·have e:(decide (64 < n1)|| (decide (64 < n2)|| (decide (420 < n3)|| evs.any fun e=>decide (20 < e.stops.length))))=true:=by simp [b1]
  exact afo
 ·by_cases b2:64 < n2
  ·have e:(decide (64 < n1)|| (decide (64 < n2)|| (decide (420 < n3)|| evs.any fun e=>decide (20 < e.stops.length))))=true:=by simp [b2]
   exact afo
  ·by_cases b3:420 < n3
   ·have e:(decide (64 < n1)|| (decide (64 < n2)|| (decide (420 < n3)|| evs.any fun e=>decide (20 < e.stops.length))))=true:=by simp [b3]
    exact afo
   ·have e:(decide (64 < n1)|| (decide (64 < n2)|| (decide (420 < n3)|| evs.any fun e=>decide (20 < e.stops.length))))=evs.any fun e=>decide (20 < e.stops.length):=by simp [b1,b2,b3]
    rw [e]
    clear e
    obtain ⟨V,hV⟩:∃ V,(evs.any fun e=>decide (20 < e.stops.length))=V:=⟨_,rfl⟩
    rw [hV]
    have HV:=Lib.hid hV
    clear hV
    go_enter Tryz.func17,Tryz.ntmps17
    go_wp2
    go_loop [3] (fun i=>∃ k:Nat,k≤n3∧i=.int .i64 k∧V=(evs.drop k).any fun e=>decide (20 < e.stops.length)) (fun i=>n3 - (intOf i).toNat)
    case atStart=>exact ⟨0,dD _,rfl,HV.out.symm⟩
    case round =>
     obtain ⟨k,hk,rfl,hs⟩:=hrel
     have HS:=Lib.hid hs
     clear hs
     by_cases hlt:k < n3
     ·have hk2:k < evs.length:=by have:=HN3.out;omega
      obtain ⟨ad,S,c,hA,hb,_,_,_,_,_,hc,_⟩:=HP.out.ev hk2
      subst hA
      have hs2:=HS.out.trans (ajo hk2)
      generalize evs[k]=e at hc hs2
      have hc2:∀ o:Obj,(w.alloc o).cell? ⟨(ad.add (k*6)).block,(ad.add (k*6)).off+5,none⟩=some (.slice S e.stops.length c):=fun o=>by
       exact aep
      clear hc
      generalize e.stops.length=n at *
      by_cases hb1:20 < n
      ·have HE:=Lib.hid (hs2.trans (show _=true by simp [hb1]))
       clear hs2
       exact Jw
      ·have HS3:=Lib.hid (hs2.trans (show _=(evs.drop (k+1)).any fun e=>decide (20 < e.stops.length) by simp [hb1]))
       clear hs2
       go_wp2
       go_round
       case rel=>exact ⟨k+1,by omega,by go_num,HS3.out⟩
       case measure=>simp [intOf];omega
     ·have HE:=Lib.hid (HS.out.trans (show ((evs.drop k).any fun e=>decide (20 < e.stops.length))=false from by rw [qN (by have:=HN3.out;omega)];rfl))
      exact Jw
def iU {α:Type} (l:List α)(k:Nat):List α:=l.mapIdx fun i x=>if i<k∨l.length≤i+k then(l.reverse[i]?).getD x else x
section
variable {α:Type} {l:List α} {k:Nat}
theorem jf:(iU l k).length=l.length:=Jg
theorem abl (l:List α):iU l 0=l:=by
 apply jT jf
 intro i h1 h2
 simp only [iU,AL]
 rw [if_neg (by omega)]
theorem RI (h:l.length≤2*k+1):iU l k=l.reverse:=by
 apply jT (by rw [jf,L8])
 intro i h1 h2
 have hi:i<l.length:=by rw [jf]at h1;exact h1
 simp only [iU,AL]
 by_cases e:i<k∨l.length≤i+k
 ·rw [if_pos e,aB (by rw [L8];exact hi)];rfl
 ·rw [if_neg e,List.getElem_reverse]
  congr 1;omega
theorem YC (h:2*k+1<l.length):(iU l k)[k]?=some (l[k]'(by omega)):=by
 exact adz
theorem YB (h:2*k+1<l.length):(iU l k)[l.length-1-k]?=some (l[l.length-1-k]'(by omega)):=by
 exact adz
theorem abm (h:2*k+1<l.length):((iU l k).set k (l[l.length-1-k]'(by omega))).set (l.length-1-k) (l[k]'(by omega))=iU l (k+1):=by
 apply jT (by rw [I9,I9,jf,jf])
 intro i h1 h2
 have hi:i<l.length:=by rw [jf]at h2;exact h2
 rw [EJ,EJ]
 simp only [iU,AL]
 have hr:∀ x,(l.reverse[i]?).getD x=l[l.length-1-i]' aj:=fun x=>by
  rw [aB (by rw [L8];exact hi),List.getElem_reverse];rfl
 rw [hr]
 by_cases e1:l.length-1-k=i
 ·rw [if_pos e1,if_pos (by omega)]
  congr 1;omega
 ·rw [if_neg e1]
  by_cases e2:k=i
  ·rw [if_pos e2,if_pos (by omega)]
   congr 1;omega
  ·rw [if_neg e2]
   by_cases e3:i<k∨l.length≤i+k
   ·rw [if_pos e3,if_pos (by omega)]
   ·rw [if_neg e3,if_neg (by omega)]
end
end
end Go.Proofs.YthohlofpphjofaaGreatDoor
