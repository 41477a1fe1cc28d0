/- Closed facts of the program that each card asks, each in a declaration of its own. -/
import Derived.Test.YthehkchjdkdbiaaGreatDoorChPKq
import Derived.Test.YthehkchjdkdbiaaGreatDoorCards
import Derived.SevenTiedAt
set_option maxHeartbeats 4000000
set_option maxRecDepth 100000
set_option linter.unusedVariables false
set_option linter.unusedSimpArgs false
namespace Go.Proofs.YthehkchjdkdbiaaGreatDoor
theorem aqg {p:Prop}(h:p:=by repeat (first|with_reducible assumption|with_reducible refine nN.drew ?_|with_reducible exact Ur (by simp)|with_reducible refine nN.alloc ?_ _|with_reducible refine adr ?_ (by assumption) zU)):p:=h
theorem acY {p:Prop}(h:p:=by first|with_reducible assumption|(go_split_ands;with_reducible assumption)):p:=h
section
variable {p:Prop}
theorem aaN(h:p:=by
 rw [if_pos h1]at h;exact absurd h h1):p:=h
theorem alh(h:p:=by
 rw [mJ h,Tt];simp):p:=h
theorem aaM(h:p:=by
 rw [if_pos h1] at h;exact absurd h h1):p:=h
theorem Nr(h:p:=by
 rw [aI h]):p:=h
theorem ake(h:p:=by
 obtain ⟨x,u,h1,h2,h3,h4⟩:=key i r j av hr' hav
 simp only [h1,Ib,h3,Ti,h2]
 exact .sc u):p:=h
theorem arw(h:p:=by
 subst this
 exact (h w).mono fun e w'⟨he,hb⟩=>⟨v,F,he,hb,fun _ _ h=>h,fun p u x=>by rw [hb.cell (aN (hF p u x))];exact hF p u x,fun _ _ h=>.inl h,hv F⟩):p:=h
theorem arb(h:p:=by
 rw [bT] at hr'
 cases hx:l[i]? with
 | none=>simp [hx] at hr'
 | some x =>
  rw [hx] at hr'
  obtain rfl:e x=r:=by simpa using hr'
  obtain ⟨u,a,b,c⟩:=hef x j av hav
  exact ⟨x,u,rfl,a,b,c⟩):p:=h
theorem aq8(h:p:=by
 obtain ⟨x,u,h1,h2,h3,h4⟩:=key i r j av hr' hav
 obtain ⟨ad,e',_⟩:=hr (by have:=(List.getElem?_eq_some_iff.1 h1).1;simp;omega)
 simp only [h1,Ib,h3,Ti]
 rw [e']
 exact ⟨hcell ad e' i x h1 j u h3,h4⟩):p:=h
theorem aq2(h:p:=by
 unfold yJ at h
 by_cases h1:x.2.1<0∨(st.length:Int)<x.2.1
 ·rw [if_pos h1]at h;cases h
 ·rw [if_neg h1]at h
  by_cases h2:(x.1<0∨127<x.1)∨127<rJ st x
  ·rw [if_pos h2]at h;cases h
  ·rw [if_neg h2]at h
   cases k with
   | zero=>simp;omega
   | succ k=>simpa using ih h k zX):p:=h
end
theorem iF {p q:Prop}(k:q)(h:aP q→p:=by
 intro hq
 refine W.OE bD bD ?_
 exact hq.k):p:=h ⟨k⟩
theorem Np {p q:Prop}(k:q)(h:aP q→p:=by
 intro hq
 repeat (first|refine DK.st rfl ?_|refine DK.idx rfl rfl au zqm ?_|refine DK.nil ?_)
 exact hq.k):p:=h ⟨k⟩
section
open Go.RowKit
theorem D8 {α:Type} {F:View} {w:World} {n:Nat} {l:List α} {e:α→List AV} {f:α→List Value} {v:Value} (hF:∀ p u,F p=some u→w.cell? p=some u) (h0:0<n) (hf:∀ x,(f x).length=n) (hef:∀ x (j:Nat) u,(f x)[j]?=some u→(e x)[j]?=some (.sc u))
  (r:RP F (.ls n (l.map e)) v):∃ A c,v=.slice A l.length c∧Rd w w.heap.size n A (l.map f)∧l.length≤c:=by
 obtain ⟨A,cap,ad,u,rfl,h1,h2,h3,h4,h5⟩:=r.Bc
 have hcell:∀ (k:Nat) x,l[k]?=some x→∀ (j:Nat) y,(f x)[j]?=some y→w.cell? (ad.add (k*n+j))=some y:=fun k x hk j y hy=>by
  have a1:(l.map e)[k]?=some (e x):=by rw [bT,hk];rfl
  have:=h3 k _ j _ a1 (hef x j y hy)
  rw [hF _ _ this.1,(h4 k _ j _ a1 (hef x j y hy)).fB]
 refine ⟨A,cap,by rw [aH],fun hp=>⟨ad,h2 (by simpa using hp),?_,fun k r hr j y hy=>?_⟩,by simpa using h5⟩
 ·have hp:0<l.length:=by simpa using hp
  have hx:0<(f (l[0]'hp)).length:=by rw [hf];exact h0
  have:=aN (hcell 0 (l[0]'hp) (aI hp) 0 _ (aI hx))
  rwa [bW] at this
 ·rw [bT] at hr
  cases hk:l[k]? with
  | none=>simp [hk] at hr
  | some x =>
   rw [hk] at hr
   obtain rfl:f x=r:=by simpa using hr
   exact hcell k x hk j y hy
theorem aac {F:View} {w:World} {l:List Stp} {v:Value} (hF:∀ p u,F p=some u→w.cell? p=some u) (r:RP F (abf l) v):∃ A c,v=.slice A l.length c∧iG w w.heap.size A l∧l.length≤c :=
 D8 (n:=5) (f:=tZ) hF au (fun _=>rfl) (fun x j u h=>by
  match j with
  | 0=>cases h;rfl
  | 1=>cases h;rfl
  | 2=>cases h;rfl
  | 3=>cases h;rfl
  | 4=>cases h;rfl
  | j+5=>simp [tZ] at h) r
theorem adG {F:View} {w:World} {l:List Ev} {v:Value} (hF:∀ p u,F p=some u→w.cell? p=some u) (r:RP F (.ls 6 (l.map dI)) v):∃ A c,v=.slice A l.length c∧uz w w.heap.size A l∧l.length≤c:=by
 obtain ⟨A,cap,ad,u,rfl,h1,h2,h3,h4,h5⟩:=r.Bc
 obtain ⟨ms,hml,hmq⟩:=Vo (fun k (m:Option Addr×Nat)=>∀ x,l[k]?=some x→u k 5=.slice m.1 x.stops.length m.2∧iG w w.heap.size m.1 x.stops) l.length fun k hk=>by
  have a1:(l.map dI)[k]?=some (dI l[k]):=by simp [hk]
  obtain ⟨A',c',e,hs,_⟩:=aac hF (h4 k _ 5 _ a1 rfl)
  refine ⟨(A',c'),fun x hx=>?_⟩
  rw [aI hk] at hx
  cases hx
  exact ⟨e,hs⟩
 have hcell:∀ (k:Nat) x m,l[k]?=some x→ms[k]?=some m→∀ (j:Nat) y,(qg x m)[j]?=some y→w.cell? (ad.add (k*6+j))=some y:=fun k x m hk hm j y hy=>by
  have a1:(l.map dI)[k]?=some (dI x):=by rw [bT,hk];rfl
  have hj:j < 6:=(List.getElem?_eq_some_iff.1 hy).1
  have get:∀ av,(dI x)[j]?=some av→w.cell? (ad.add (k*6+j))=some (u k j):=fun av hav=>hF _ _ (h3 k _ j _ a1 hav).1
  match j,hj with
  | 0,_=>cases hy;rw [get _ rfl,(h4 k _ 0 _ a1 rfl).fB]
  | 1,_=>cases hy;rw [get _ rfl,(h4 k _ 1 _ a1 rfl).fB]
  | 2,_=>cases hy;rw [get _ rfl,(h4 k _ 2 _ a1 rfl).fB]
  | 3,_=>cases hy;rw [get _ rfl,(h4 k _ 3 _ a1 rfl).fB]
  | 4,_=>cases hy;rw [get _ rfl,(h4 k _ 4 _ a1 rfl).fB]
  | 5,_=>cases hy;rw [get _ rfl,(hmq k m hm x hk).1]
 refine ⟨A,cap,by rw [aH],⟨ms,hml,fun hp=>⟨ad,h2 ?_,?_,fun k r hr j y hy=>?_⟩,fun k e m he hm=>(hmq k m hm e he).2⟩,by simpa using h5⟩
 ·simp [hml] at hp ⊢;omega
 ·have hp:0 < l.length:=by simp [hml] at hp;omega
  have:=aN (hcell 0 (l[0]'hp) (ms[0]'(by omega)) (aI hp) (aI (by omega)) 0 _ rfl)
  rwa [bW] at this
 ·rw [List.getElem?_zipWith] at hr
  cases hk:l[k]? with
  | none=>simp [hk] at hr
  | some x =>
   cases hm:ms[k]? with
   | none=>simp [hk,hm] at hr
   | some m =>
    simp [hk,hm] at hr
    subst hr
    exact hcell k x m hk hm j y hy
theorem Fa {F:View} {w:World} {cs:List (Int×Int×Bool)} {st:List Int} {v1 v2:Value} (hF:∀ p u,F p=some u→w.cell? p=some u) (r1:RP F (.ls 3 (cs.map aF)) v1) (r2:RP F (.ls 1 (st.map eInt)) v2) :
  ∃ A1 c1 A2 c2,v1=.slice A1 cs.length c1∧v2=.slice A2 st.length c2∧jq w w.heap.size A1 A2 cs st:=by
 obtain ⟨A1,c1,e1,h1,_⟩:=D8 (n:=3) (f:=fG) hF au (fun _=>rfl) (fun x j u h=>by
  match j with
  | 0=>cases h;rfl
  | 1=>cases h;rfl
  | 2=>cases h;rfl
  | j+3=>simp [fG] at h) r1
 obtain ⟨A2,c2,e2,h2,_⟩:=D8 (n:=1) (f:=jy) hF au (fun _=>rfl) (fun x j u h=>by
  match j with
  | 0=>cases h;rfl
  | j+1=>simp [jy] at h) r2
 exact ⟨A1,c1,A2,c2,e1,e2,h1,h2⟩
theorem Wv {F:View} {w:World} {p:aS} {v:Value} (hF:∀ p u,F p=some u→w.cell? p=some u) (r:RP F (bK p) v):∃ M,v=iD M p∧uZ w w.heap.size M p:=by
 obtain ⟨cs,rfl,h1,h2⟩:∃ cs:Array Value,v=.agg cs∧cs.size=3∧∀ (i:Nat) av u,[AV.ls 3 (p.cs.map aF),.ls 1 (p.st.map eInt),.ls 6 (p.evs.map dI)][i]?=some av→cs[i]?=some u→RP F av u:=by
  cases r with|ag l cs a b=>exact ⟨cs,rfl,a,b⟩
 have g:∀ i (h:i<3),cs[i]?=some (cs[i]'(by omega)):=fun i h=>uh (by omega)
 obtain ⟨A1,c1,A2,c2,e1,e2,hI⟩:=Fa hF (h2 0 _ _ rfl (g 0 au)) (h2 1 _ _ rfl (g 1 au))
 obtain ⟨A3,c3,e3,hE,hc⟩:=adG hF (h2 2 _ _ rfl (g 2 au))
 refine ⟨⟨A1,A2,A3,c1,c2,c3⟩,?_,hI,hE,hc⟩
 unfold iD
 congr 1
 apply Array.ext (by simp [h1])
 intro i hi hi2
 match i,(show i<3 by omega) with
 | 0,_=>exact e1
 | 1,_=>exact e2
 | 2,_=>exact e3
theorem aU.DY {P:Program} {f:FuncId} {args:List AV} {xs:List Value} {res:AV} {v:Value} (hs:EG args=some xs)(hv:∀ F,RP F res v)(h:∀ w,Calls P f xs.toArray w (eG v w)):aU P f args res:=by
 intro w F vs hF hR
 have:vs=xs:=xW (G:=⟨F,fun _=>0,fun _=>0,fun _=>undef,fun _ _=>False⟩) hs hR.1 fun i av u a b=>.pu _ _ (hR.2 i av u a b)
 exact arw
theorem aU.PG {P:Program} {f:FuncId} {p:aS} {pre post:List AV} {xs ys:List Value} {res:AV} {v:Value} (hs:EG pre=some xs) (hs2:EG post=some ys) (hv:∀ F,RP F res v)
  (h:∀ w M,uZ w w.heap.size M p→Calls P f (xs++iD M p::ys).toArray w (eG v w)):aU P f (pre++bK p::post) res:=by
 intro w F vs hF hR
 have hG:∀ i av u,(pre++bK p::post)[i]?=some av→vs[i]?=some u→R ⟨F,fun _=>0,fun _=>0,fun _=>undef,fun _ _=>False⟩ av u:=fun i av u a b=>.pu _ _ (hR.2 i av u a b)
 have hlen:vs.length=pre.length+(post.length+1):=by rw [hR.1];simp
 have e1:vs.take pre.length=xs:=xW hs (by simp;omega) fun i av u a b=>by
  have hi:i<pre.length:=(List.getElem?_eq_some_iff.1 a).1
  rw [MO hi] at b
  exact hG i av u (by rw [qJ hi];exact a) b
 have e2:vs.drop (pre.length+1)=ys:=xW hs2 (by simp;omega) fun i av u a b=>by
  rw [yA] at b
  exact hG (pre.length+1+i) av u (by rw [o8 (by omega),show pre.length+1+i-pre.length=i+1 by omega];exact a) b
 have hp:vs[pre.length]?=some (vs[pre.length]'(by omega)):=aI (by omega)
 obtain ⟨M,eM,hM⟩:=Wv hF (hR.2 pre.length _ _ (by rw [o8 (bJ _),H9];rfl) hp)
 have ev:vs=xs++iD M p::ys:=by
  rw [← e1,← e2,← eM]
  conv=>lhs;rw [← MP pre.length vs]
  congr 1
  rw [zL (by omega)]
 rw [ev]
 exact (h w M hM).mono fun e w' ⟨he,hb⟩=>⟨v,F,he,hb,fun _ _ h=>h,fun p u x=>by rw [hb.cell (aN (hF p u x))];exact hF p u x,fun _ _ h=>.inl h,hv F⟩
theorem YN:(Tryz.prog.info? 117).map (fun i=>(i.zero,i.size,i.bytes))=some (some (.agg #[.int .i64 0,.int .i64 0,.bool false]),3,24):=by kernel_rfl
theorem Rn:(Tryz.prog.info? 3).map (fun i=>(i.zero,i.size,i.bytes))=some (some (.int .i64 0),1,8):=by kernel_rfl
theorem amQ (cs:List (Int×Int×Bool)):∀ r∈cs.map fG,r.length=3:=by intro r h;obtain⟨x,_,rfl⟩:=List.mem_map.1 h;rfl
theorem anF(st:List Int):∀ r∈st.map jy,r.length=1:=by intro r h;obtain⟨x,_,rfl⟩:=List.mem_map.1 h;rfl
theorem amR (cs:List (Int×Int×Bool)):∀ r∈cs.map fG,∀ u∈r,u.oneCell'=true:=by
 intro r h u hu;obtain⟨x,_,rfl⟩:=List.mem_map.1 h
 simp only [fG,Et,BF,or_false]at hu
 rcases hu with rfl|rfl|rfl<;>rfl
theorem anG(st:List Int):∀ r∈st.map jy,∀ u∈r,u.oneCell'=true:=by
 intro r h u hu;obtain⟨x,_,rfl⟩:=List.mem_map.1 h
 simp only [jy,Et,BF,or_false]at hu
 rcases hu with rfl;rfl
def aaX (cs:List (Int×Int×Bool))(st:List Int)(W:World)(e:Ending)(w':World):Prop :=
 ∃ (A1 A2:Option Addr)(c1 c2:Nat),e=.returned (.agg #[.slice A1 cs.length c1,.slice A2 st.length c2])∧Below W.heap.size W w'∧jq w' w'.heap.size A1 A2 cs st∧(∀ ad,A1=some ad→W.heap.size≤ad.block)∧(∀ ad,A2=some ad→W.heap.size≤ad.block)∧cs.length≤c1∧st.length≤c2
structure Ir (w:World)(B:Nat)(A1 A2:Option Addr)(cs:List (Int×Int×Bool))(st:List Int):Prop where
 out:jq w B A1 A2 cs st
section
variable {w w':World} {B g:Nat} {A1 A2:Option Addr} {cs:List (Int×Int×Bool)} {st:List Int}
theorem agY (h:Ir w B A1 A2 cs st):Rd w B 3 A1 (cs.map fG):=h.out.1
theorem agZ (h:Ir w B A1 A2 cs st):Rd w B 1 A2 (st.map jy):=h.out.2
theorem ad5(h:Ir w B A1 A2 cs st):Ir w.drew B A1 A2 cs st:=⟨h.out⟩
theorem YF (h:Ir w B A1 A2 cs st)(hB:B≤w.heap.size)(o:Obj):Ir (w.alloc o) B A1 A2 cs st:=⟨h.out.alloc hB o⟩
theorem YG (h:Ir w B A1 A2 cs st)(hg:w.grownBy w' (some g))(hB:B≤w.heap.size)(hr:B≤g):Ir w' B A1 A2 cs st :=
 ⟨⟨h.out.1.grown hg hB (fun k e=>by injection e with e;omega),h.out.2.grown hg hB (fun k e=>by injection e with e;omega)⟩⟩
theorem Rk {p:Addr} {u:Value} (h:Ir w B A1 A2 cs st)(hB:B≤p.block):Ir (w.setCell p u) B A1 A2 cs st:=⟨⟨h.out.1.setCell hB u,h.out.2.setCell hB u⟩⟩
end
theorem aiD (A1 A2:Option Addr) (cs:List (Int×Int×Bool)) (st:List Int) (c1 c2:Nat) (w:World) (hI:jq w w.heap.size A1 A2 cs st) (hm1:cs.length≤64) (hm2:st.length≤64) :
    Calls Tryz.prog 58 #[.agg #[.slice A1 cs.length c1,.slice A2 st.length c2]] w (aaX cs st w):=by
  obtain ⟨i0,hi0,hz0,hz1,hz2⟩:=info_parts YN
  obtain ⟨i1,hi1,hz3,hz4,hz5⟩:=info_parts Rn
  obtain ⟨n1,hn1⟩:∃ n,cs.length=n:=⟨_,rfl⟩
  obtain ⟨n2,hn2⟩:∃ n,st.length=n:=⟨_,rfl⟩
  have HP:Hid (∀ e w',(∃ (A1 A2:Option Addr) (c1 c2:Nat),e=.returned (.agg #[.slice A1 n1 c1,.slice A2 n2 c2])∧Below w.heap.size w w'∧jq w' w'.heap.size A1 A2 cs st∧(∀ ad,A1=some ad→w.heap.size≤ad.block)∧(∀ ad,A2=some ad→w.heap.size≤ad.block)∧n1≤c1∧n2≤c2)→aaX cs st w e w'):=by
    intro e w' ⟨x1,x2,x3,x4,h1,h2,h3,h4,h5,h6,h7⟩
    exact ⟨x1,x2,x3,x4,by rw [hn1,hn2];exact h1,h2,h3,h4,h5,by rw [hn1];exact h6,by rw [hn2];exact h7⟩
  have HI:Ir w w.heap.size A1 A2 cs st:=⟨hI⟩
  rw [hn1,hn2]
  rw [hn1] at hm1
  rw [hn2] at hm2
  have HN1:=Lib.hid (show n1=(cs.map fG).length by simp [hn1])
  have HN2:=Lib.hid (show n2=(st.map jy).length by simp [hn2])
  clear hn1 hn2 hI
  go_enter Tryz.func58,Tryz.ntmps58
  go_wp2_with fail
  have HT:((w.alloc (Obj.cells #[Value.slice A1 n1 c1,Value.slice A2 n2 c2] 27)).alloc (Obj.cells #[Value.slice none 0 0,Value.slice none 0 0] 27)).there (w.heap.size+1) 0 2:=ads (Ur (by simp)) (by simp)
  go_region_held3 (fun w'=>w'.cell? ⟨w.heap.size,0,none⟩=some (.slice A1 n1 c1)∧w'.cell? ⟨w.heap.size,1,none⟩=some (.slice A2 n2 c2)∧Ir w' w.heap.size A1 A2 cs st∧w'.there (w.heap.size+1) 0 2)
    (((try go_split_ands);(try dsimp only);refine ⟨?_,?_,?_,?_⟩;
      (focus (first|(rw [hga.cell_far _ (by simp;omega) (by simp;omega)];with_reducible assumption)|(rw [hgb.cell_far _ (by simp;omega) (by simp;omega)];with_reducible assumption)|(rw [World.cell?_setCell_other _ _ _ _ (by simp),World.cell?_setCell_other _ _ _ _ (by simp)];with_reducible assumption)|(go_keep;done)));(focus (first|(rw [hga.cell_far _ (by simp;omega) (by simp;omega)];with_reducible assumption)|(rw [hgb.cell_far _ (by simp;omega) (by simp;omega)];with_reducible assumption)|(rw [World.cell?_setCell_other _ _ _ _ (by simp),World.cell?_setCell_other _ _ _ _ (by simp)];with_reducible assumption)|(go_keep;done)));
      (focus (repeat (first|with_reducible exact HI|with_reducible assumption|with_reducible refine ad5 ?_|with_reducible refine YF ?_ zU _|with_reducible refine Rk ?_ zU|with_reducible refine YG ?_ (by assumption) zU zU)));
      (focus (repeat (first|with_reducible exact HT|with_reducible assumption|with_reducible refine there_drew ?_|with_reducible refine World.there_alloc ?_ _|with_reducible refine Oq ?_ _ _|with_reducible refine zG ?_ (by assumption) zU)))))
    (first
      | (refine yw (by rfl) _ _ 24 (by rfl) 117 i0 _ 3 24 Tryz.underlying24 hi0 hz0 hz1 hz2 rfl (by omega) _ (by rfl) aqg w.heap.size A1 (cs.map fG) n1 c1 (by rfl) HN1.out (agY acY) (amQ _) (amR _) (by rw [← HN1.out];simp only [maxLen];omega) (by rw [← HN1.out];omega) ?_;intro Aa ca wa hra hga agT;have avw:=agT.1;have HCA:=Lib.hid agT.2;clear agT;obtain ⟨ub0,ub1,eb0,eb1,fb0,fb1⟩:=ajg (zG acY hga zU);have hsa:w.heap.size+2 < wa.heap.size:=(by have:=hga.size;(try simp at this);omega))
      | (refine yw (by rfl) _ _ 25 (by rfl) 3 i1 _ 1 8 Tryz.underlying25 hi1 hz3 hz4 hz5 rfl (by omega) _ (by rfl) aqg w.heap.size A2 (st.map jy) n2 c2 (by rfl) HN2.out (agZ acY) (anF _) (anG _) (by rw [← HN2.out];simp only [maxLen];omega) (by rw [← HN2.out];omega) ?_;intro Ab cb wb hrb hgb agU;have avx:=agU.1;have HCB:=Lib.hid agU.2;clear agU;obtain ⟨ub0,ub1,eb0,eb1,fb0,fb1⟩:=ajg (zG acY hgb zU);have hsb:w.heap.size+2 < wb.heap.size:=(by have:=hgb.size;(try simp at this);omega)))
  all_goals
    go_wp2_with fail
    refine bodyPost_ret (v:=.agg #[.slice Aa n1 ca,.slice Ab n2 cb]) (by simp [results,Tryz.results58,go_sem,eb0,eb1]) rfl (HP.out _ _ ⟨Aa,Ab,ca,cb,rfl,(by repeat (first|with_reducible exact Below.refl _ _|with_reducible refine Below.drew ?_|with_reducible refine EN ?_ _|with_reducible refine Below.setCell ?_ zU _|with_reducible refine adq ?_ (by assumption) zU)),⟨hra.stay (fun ad had hlt=>?_),hrb.stay (fun ad had hlt=>?_)⟩,fun ad had=>?_,fun ad had=>?_,HCA.out,HCB.out⟩)
    · have hh:=(avw ad had).1
      try simp at hh
      repeat (first|with_reducible exact qO.refl hlt|with_reducible refine qO.drew ?_|with_reducible refine qO.alloc ?_ _|with_reducible refine qO.setCell ?_ zU _|with_reducible refine qO.grown ?_ (by assumption) zU)
    · have hh:=(avx ad had).1
      try simp at hh
      repeat (first|with_reducible exact qO.refl hlt|with_reducible refine qO.drew ?_|with_reducible refine qO.alloc ?_ _|with_reducible refine qO.setCell ?_ zU _|with_reducible refine qO.grown ?_ (by assumption) zU)
    · have hh:=(avw ad had).1
      try simp at hh
      omega
    · have hh:=(avx ad had).1
      try simp at hh
      omega
def newF(F:View)(w w':World):View:=fun p=>if p.block<w.heap.size then F p else w'.cell? p
theorem I5 {F:View} {w w':World} (hF:∀ p u,F p=some u→w.cell? p=some u):View.le F (newF F w w'):=fun p u h=>by
 unfold newF
 rw [if_pos (aN (hF p u h))];exact h
theorem I4 {F:View} {w w':World} (hF:∀ p u,F p=some u→w.cell? p=some u)(hb:Below w.heap.size w w'):∀ p u,newF F w w' p=some u→w'.cell? p=some u:=fun p u h=>by
 unfold newF at h
 by_cases e:p.block<w.heap.size
 ·rw [if_pos e]at h;rw [hb.cell e];exact hF p u h
 ·rw [if_neg e]at h;exact h
theorem DN {F:View} {w w':World}:∀ p u,newF F w w' p=some u→F p=some u∨w.heap.size≤p.block:=fun p u h=>by
 unfold newF at h
 by_cases e:p.block<w.heap.size
 ·rw [if_pos e]at h;exact .inl h
 ·exact .inr au
theorem La {α:Type} {F:View} {w w':World} {n:Nat} {l:List α} {e:α→List AV} {f:α→List Value} {A:Option Addr} {c B:Nat} (hr:Rd w' B n A (l.map f)) (hA:∀ ad,A=some ad→w.heap.size≤ad.block) (hc:l.length≤c)
  (hf:∀ x,(e x).length=n) (hef:∀ x (j:Nat) av,(e x)[j]?=some av→∃ u,av=.sc u∧(f x)[j]?=some u∧u.oneCell'=true):RP (newF F w w') (.ls n (l.map e)) (.slice A l.length c):=by
 have hcell:∀ ad,A=some ad→∀ (k:Nat) x,l[k]?=some x→∀ (j:Nat) u,(f x)[j]?=some u→newF F w w' (ad.add (k*n+j))=some u:=fun ad had k x hk j u hu=>by
  have hl:0<(l.map f).length:=by have:=(List.getElem?_eq_some_iff.1 hk).1;simp;omega
  obtain ⟨ad',e',_,h2⟩:=hr hl
  rw [had] at e'
  cases e'
  unfold newF
  rw [if_neg (by rw [bW];have:=hA ad had;omega)]
  exact h2 k (f x) (by rw [bT,hk];rfl) j u hu
 have key:∀ (i:Nat) r (j:Nat) av,(l.map e)[i]?=some r→r[j]?=some av→∃ x u,l[i]?=some x∧av=.sc u∧(f x)[j]?=some u∧u.oneCell'=true:=fun i r j av hr' hav=>by
  exact arb
 have hlen:l.length=(l.map e).length:=by simp
 rw [hlen]
 refine .ls n (l.map e) A c (A.getD ⟨0,0,none⟩) (fun i j=>((l[i]?).bind fun x=>(f x)[j]?).getD undef) (by simpa using hc) (fun r hr'=>?_) (fun hp=>?_) (fun i r j av hr' hav=>?_) (fun i r j av hr' hav=>?_)
 ·obtain ⟨x,_,rfl⟩:=List.mem_map.1 hr';exact hf x
 ·obtain ⟨ad,e',_⟩:=hr (by simpa using hp)
  rw [e'];rfl
 ·exact aq8
 ·exact ake
theorem abe(x:Int×Int×Bool)(j:Nat)(av:AV)(h:(aF x)[j]?=some av):∃ u,av=.sc u∧(fG x)[j]?=some u∧u.oneCell'=true:=by
 match j with
 | 0=>cases h;exact⟨_,rfl,rfl,rfl⟩
 | 1=>cases h;exact⟨_,rfl,rfl,rfl⟩
 | 2=>cases h;exact⟨_,rfl,rfl,rfl⟩
 | j+3=>simp [aF]at h
theorem Q5(x:Int)(j:Nat)(av:AV)(h:(eInt x)[j]?=some av):∃ u,av=.sc u∧(jy x)[j]?=some u∧u.oneCell'=true:=by
 match j with
 | 0=>cases h;exact⟨_,rfl,rfl,rfl⟩
 | j+1=>simp [eInt]at h
theorem YP (cs:List (Int×Int×Bool)) (st:List Int) (h1:cs.length≤64) (h2:st.length≤64):aU Tryz.prog 58 [.ag (mX cs st)] (.ag (mX cs st)):=by
 intro w F vs hF hR
 match vs,hR.1 with
 | [v],_ =>
  have r:=hR.2 0 _ v rfl rfl
  obtain ⟨xs,rfl,q1,q2⟩:∃ xs:Array Value,v=.agg xs∧xs.size=2∧∀ (i:Nat) av u,(mX cs st)[i]?=some av→xs[i]?=some u→RP F av u:=by
   cases r with|ag l cs a b=>exact ⟨cs,rfl,a,b⟩
  have g:∀ i (h:i<2),xs[i]?=some (xs[i]'(by omega)):=fun i h=>uh (by omega)
  obtain ⟨A1,c1,A2,c2,e1,e2,hI⟩:=Fa hF (q2 0 _ _ rfl (g 0 au)) (q2 1 _ _ rfl (g 1 au))
  have ex:xs=#[.slice A1 cs.length c1,.slice A2 st.length c2]:=by
   apply Array.ext (by simp [q1])
   intro i hi hi2
   match i,(show i<2 by omega) with
   | 0,_=>exact e1
   | 1,_=>exact e2
  rw [ex]
  refine (aiD A1 A2 cs st c1 c2 w hI h1 h2).mono fun e w' ⟨B1,B2,d1,d2,he,hb,hI',f1,f2,k1,k2⟩=>?_
  refine ⟨_,newF F w w',he,hb,I5 hF,I4 hF hb,DN,.ag _ _ rfl fun i av u a b=>?_⟩
  match i with
  | 0=>cases a;cases b;exact La hI'.1 f1 k1 (fun _=>rfl) abe
  | 1=>cases a;cases b;exact La hI'.2 f2 k2 (fun _=>rfl) Q5
  | i+2=>simp [mX] at a
def jP(ok:Bool)(i c what:Int):List sJ:=if ok then []else [(i,c,what)]
def aO(s n:Int):Bool:=if s=3 then n != 8 else if s=4 then n == 8 else true
def fH (s i:Int)(L:Int→Nat)(x:Stp):List sJ :=
 if qU s x.1 x.2.1=false then [(i,x.1,1)] else jP (okR s x.2.2.1) i x.1 2++(jP (sZ s x.2.2.2.1) i x.1 3++jP (qN s x.2.2.2.2 (L x.1)) i x.1 4)
def yY (s i:Int)(e:Ev):List sJ :=
 (if e.val=0 then jP (aO s 6) i 0 6 else [])++((if e.three=true then jP (aO s 5) i 0 5 else [])++(if e.tie=true then jP (aO s 7) i 0 7 else if e.stops.length=0 then jP (aO s 8) i 0 8 else []))
def mG (s:Int)(p:aS)(i:Int)(e:Ev):List sJ:=yY s i e++e.stops.flatMap (fH s i fun c=>ah p.evs i c)
theorem nV(ok:Bool)(i c what:Int):(jP ok i c what).length≤1:=by unfold jP;split<;>simp
theorem Rq (s i:Int)(L:Int→Nat)(x:Stp):(fH s i L x).length≤3:=by
 unfold fH
 split
 ·simp
 ·have a:=nV (okR s x.2.2.1) i x.1 2
  have b:=nV (sZ s x.2.2.2.1) i x.1 3
  have c:=nV (qN s x.2.2.2.2 (L x.1)) i x.1 4
  exact TP
theorem JA (s i:Int)(L:Int→Nat):∀ l:List Stp,(l.flatMap (fH s i L)).length≤3*l.length:=by
 intro l
 induction l with
 | nil=>simp
 | cons x r ih=>have:=Rq s i L x;simp only [Md,aY,iw];omega
theorem adK (s i:Int)(L:Int→Nat)(l:List Stp)(k:Nat)(h:k<l.length):(l.take (k+1)).flatMap (fH s i L)=(l.take k).flatMap (fH s i L)++fH s i L l[k]:=by
 exact alh
structure aAC (w:World) (P E:Array Value) (i:Int) (l:List sJ) (wx:World):Prop where
 bel:Below w.heap.size w wx
 bp:nN wx w.heap.size 30 P
 bi:nN wx (w.heap.size+1) 3 #[.int .i64 i]
 be:nN wx (w.heap.size+3) 90 E
 say:auQ wx (w.heap.size+3) (w.heap.size+2) l
def IJ(e:Ev):Prop :=
 ∀ k(h:k<e.stops.length),(1≤e.stops[k].1∧e.stops[k].1≤14)∧(0≤e.stops[k].2.1∧e.stops[k].2.1≤18)∧(0≤e.stops[k].2.2.1∧e.stops[k].2.2.1≤3)∧(0≤e.stops[k].2.2.2.1∧e.stops[k].2.2.2.1≤4)∧(0≤e.stops[k].2.2.2.2∧e.stops[k].2.2.2.2≤15)
def X0 (s i v:Int):List sJ:=if v=0 then jP (aO s 6) i 0 6 else []
def X3 (s i:Int)(t:Bool):List sJ:=if t=true then jP (aO s 5) i 0 5 else []
def Rw (s i:Int)(t:Bool)(n:Nat):List sJ:=if t=true then jP (aO s 7) i 0 7 else if n=0 then jP (aO s 8) i 0 8 else []
theorem abL(s i v:Int):(X0 s i v).length≤1:=by unfold X0;split;exact nV _ _ _ _;simp
theorem abM(s i:Int)(t:Bool):(X3 s i t).length≤1:=by unfold X3;split;exact nV _ _ _ _;simp
theorem abN(s i:Int)(t:Bool)(n:Nat):(Rw s i t n).length≤1:=by
 unfold Rw;split
 ·exact nV _ _ _ _
 ·split;exact nV _ _ _ _;simp
theorem vZ (s:Int)(p:aS)(i:Int)(e:Ev):mG s p i e=(X0 s i e.val++(X3 s i e.three++Rw s i e.tie e.stops.length))++e.stops.flatMap (fH s i fun c=>ah p.evs i c):=rfl
theorem Wy {p:aS} (h:fU p.cs p.st≠0):aV p=fU p.cs p.st:=if_pos h
theorem PN {p:aS} (h:¬ fU p.cs p.st≠0)(h1:400<p.evs.length):aV p=2:=by unfold aV;rw [if_neg h,if_pos h1]
theorem Wx {p:aS} (h:¬ fU p.cs p.st≠0)(h1:¬ 400<p.evs.length):aV p=yL p 0 p.evs:=by unfold aV;rw [if_neg h,if_neg h1]
theorem QV {st:List Int}:∀ {cs:List (Int×Int×Bool)},yJ st cs=0→∀ k (h:k<cs.length),0≤cs[k].2.1∧cs[k].2.1≤st.length:=by
 intro cs
 induction cs with
 | nil=>intro _ k h;simp at h
 | cons x r ih =>
  intro h k hk
  exact aq2
theorem Xd {p:aS} {i last:Int} {s:Stp} (hI:fU p.cs p.st=0)(h:gQ p i s last=0) :
  (1≤s.1∧s.1≤14)∧(0≤s.2.1∧s.2.1≤18)∧(0≤s.2.2.1∧s.2.2.1≤3)∧(0≤s.2.2.2.1∧s.2.2.2.1≤4)∧(0≤s.2.2.2.2∧s.2.2.2.2≤15):=by
 obtain⟨l1,l2,l3,_,l5⟩:=mF hI
 unfold gQ at h
 by_cases h1:s.1<1∨(p.cs.length:Int)<s.1
 ·rw [if_pos h1]at h;cases h
 ·rw [if_neg h1]at h
  by_cases h2:s.2.1<0∨dJ p.cs s.1<s.2.1
  ·exact Gt
  ·rw [if_neg h2]at h
   by_cases h3:s.1≤last
   ·rw [if_pos h3]at h;cases h
   ·rw [if_neg h3]at h
    by_cases h4:(s.2.2.1<0∨3<s.2.2.1)∨(s.2.2.2.1<0∨4<s.2.2.2.1)
    ·rw [if_pos h4]at h;cases h
    ·rw [if_neg h4]at h
     by_cases h5:(s.2.2.2.2<0∨(ah p.evs i s.1:Int)<s.2.2.2.2)∨(0<s.2.2.2.2∧s.2.1=0)
     ·rw [if_pos h5]at h;cases h
     ·have hL:=uK p.evs i s.1
      have hk:s.1.toNat-1<p.cs.length:=by omega
      have hf:dJ p.cs s.1=p.cs[s.1.toNat-1].2.1:=by
       have:=BQ hk
       rw [← this];congr 1;omega
      have:=QV l5 _ hk
      refine⟨⟨by omega,by omega⟩,⟨by omega,by omega⟩,⟨by omega,by omega⟩,⟨by omega,by omega⟩,by omega,by omega⟩
theorem afu {p:aS} {i:Int} (hI:fU p.cs p.st=0):∀ {l:List Stp} {last:Int},gK p i last l=0→∀ k (h:k<l.length),∃ la,gQ p i l[k] la=0:=by
 intro l
 induction l with
 | nil=>intro _ _ k h;simp at h
 | cons x r ih =>
  intro last h k hk
  unfold gK at h
  by_cases h1:gQ p i x last≠0
  ·exact aaM
  ·rw [if_neg h1] at h
   cases k with
   | zero=>exact⟨last,by simpa using h1⟩
   | succ k=>simpa using ih h k zX
theorem amY {p:aS}:∀ {l:List Ev} {n:Nat},yL p n l=0→∀ k (h:k<l.length),AY p ((n+k:Nat):Int) l[k]=0:=by
 intro l
 induction l with
 | nil=>intro _ _ k h;simp at h
 | cons x r ih =>
  intro n h k hk
  unfold yL at h
  by_cases h1:AY p n x≠0
  ·exact aaM
  ·rw [if_neg h1] at h
   cases k with
   | zero=>simpa using h1
   | succ k =>
    have:=ih h k zX
    rw [show n+1+k=n+(k+1) by omega] at this
    exact ng
theorem dY {p:aS} (h:aV p=0):fU p.cs p.st=0∧p.evs.length≤400∧∀ k(hk:k<p.evs.length),AY p k p.evs[k]=0:=by
 unfold aV at h
 by_cases h1:fU p.cs p.st≠0
 ·exact aaN
 ·rw [if_neg h1]at h
  by_cases h2:400<p.evs.length
  ·exact Gt
  ·rw [if_neg h2]at h
   refine⟨by simpa using h1,by omega,fun k hk=>?_⟩
   have:=amY h k hk
   exact ng
theorem qp {p:aS} {i:Int} {e:Ev} (h:AY p i e=0):gZ e.val e.dot e.three=true∧¬ (i=0∧e.val=0)∧¬ (e.tie=true∧(0<e.stops.length∨i=0))∧gK p i 0 e.stops=0:=by
 unfold AY at h
 by_cases h1:gZ e.val e.dot e.three=false∨(i=0∧e.val=0)
 ·rw [if_pos h1] at h;cases h
 ·rw [if_neg h1] at h
  by_cases h2:e.tie=true∧(0<e.stops.length∨i=0)
  ·rw [if_pos h2] at h;cases h
  ·rw [if_neg h2] at h
   refine⟨?_,fun x=>h1 (.inr x),h2,h⟩
   cases hs:gZ e.val e.dot e.three with
   | true=>rfl
   | false=>exact absurd (.inl hs) h1
theorem lG {p:aS} (h:aV p=0)(k:Nat)(hk:k<p.evs.length):IJ p.evs[k]:=by
 obtain⟨h1,h2,h3⟩:=dY h
 intro j hj
 obtain⟨la,hla⟩:=afu h1 (qp (h3 k hk)).2.2.2 j hj
 exact Xd h1 hla
def kY(s:Int)(p:aS):Nat→List sJ
 | 0=>[]
 | k+1=>kY s p k++(match p.evs[k]? with|some e=>mG s p k e|none=>[])
theorem nX (s:Int)(p:aS) {k:Nat} (h:k<p.evs.length):kY s p (k+1)=kY s p k++mG s p k p.evs[k]:=by
 show kY s p k++_=_
 exact Nr
theorem Fb (s:Int)(p:aS)(i:Int)(e:Ev)(h:e.stops.length≤20):(mG s p i e).length≤63:=by
 rw [vZ]
 have a:=abL s i e.val
 have b:=abM s i e.three
 have c:=abN s i e.tie e.stops.length
 have d:=JA s i (fun c=>ah p.evs i c) e.stops
 exact TP
theorem Fg (s:Int) {p:aS} (hO:jm p):∀ k,k≤p.evs.length→(kY s p k).length≤27000:=by
 have hn:=hO.n3
 have:∀ k,k≤p.evs.length→(kY s p k).length≤63*k:=by
  intro k
  induction k with
  | zero=>intro _;simp [kY]
  | succ k ih =>
   intro hk
   rw [nX s p (by omega),aY]
   have:=ih au
   have:=Fb s p k p.evs[k] (hO.n4 k au)
   omega
 intro k hk
 have:=this k hk
 omega
def iR (x:sJ):List AV:=[.sc (.int .i64 x.1),.sc (.int .i64 x.2.1),.sc (.int .i64 x.2.2)]
end
section
open Go
theorem asX:true=Tryz.pinned.checked.prog.looks []:=by kernel_rfl
theorem av7:Tryz.pinned.checked.prog.mainIs=some (Rows.notationReadsCard.stood.harness.1,Rows.notationReadsCard.stood.harness.2.toList):=by kernel_rfl
end
end Go.Proofs.YthehkchjdkdbiaaGreatDoor
