/- NotationApart: the plain law and the walk. -/
import Derived.Test.YthohlofpphjofaaGreatDoorEMGq
import Derived.Test.YthohlofpphjofaaGreatDoorPl4Gq
set_option maxHeartbeats 1600000
set_option maxRecDepth 100000
set_option linter.unusedVariables false
set_option linter.unusedSimpArgs false
namespace Go.Proofs.YthohlofpphjofaaGreatDoor
section
variable {p:Prop}
theorem ae8(h:p:=by
 have hbL:(n == L)=false:=by simpa using hL
 exact UY):p:=h
theorem aeX(h:p:=by
 subst h0
 go_enter Tryz.func329,Tryz.ntmps329
 go_wp2
 exact pG):p:=h
theorem UY(h:p:=by
 rw [e2]
 clear e0 e1 e2 hL
 go_enter Tryz.func329,Tryz.ntmps329
 go_wp2
 exact pG):p:=h
theorem UU(h:p:=by
 simp only [bJ];omega):p:=h
theorem aji(h:p:=by
 rw [jS]at h
 have h1:=h s (List.mem_range'_1.2 aj)
 rw [jS]at h1
 have h2:=h1 c (List.mem_range'_1.2 aj)
 grind):p:=h
theorem ai9(h:p:=by
 subst this
 exact (h w).mono fun e w'⟨he,hb⟩=>⟨v,F,he,hb,fun _ _ h=>h,fun p u x=>by rw [hb.cell (cell_block (hF p u x))];exact hF p u x,fun _ _ h=>.inl h,hv F⟩):p:=h
end
section
open Go.RowKit
def iI (x:Stp):List AV:=[.sc (.int .i64 x.1),.sc (.int .i64 x.2.1),.sc (.int .i64 x.2.2.1),.sc (.int .i64 x.2.2.2.1),.sc (.int .i64 x.2.2.2.2)]
def aao (l:List Stp):AV:=.ls 5 (l.map iI)
def iq (e:Ev):List AV:=[.sc (.bool e.bar),.sc (.int .i64 e.val),.sc (.bool e.dot),.sc (.bool e.three),.sc (.bool e.tie),aao e.stops]
def aW (x:Int×Int×Bool):List AV:=[.sc (.int .i64 x.1),.sc (.int .i64 x.2.1),.sc (.bool x.2.2)]
def eInt (x:Int):List AV:=[.sc (.int .i64 x)]
def oJ (cs:List (Int×Int×Bool))(st:List Int):List AV:=[.ls 3 (cs.map aW),.ls 1 (st.map eInt)]
def eF (p:aN):AV:=.ag [.ls 3 (p.cs.map aW),.ls 1 (p.st.map eInt),.ls 6 (p.evs.map iq)]
theorem wI {α β:Type} {f:α→β} {l:List α} {k:Nat} (h:k<l.length):(l.map f)[((k:Nat):Int).toNat]?=some (f l[k]):=by simp_all
theorem Kq {α β:Type} {f:α→β} {l:List α} {z:Int} (h0:0≤z)(h:z<l.length):(l.map f)[z.toNat]?=some (f (l[z.toNat]'(by omega))):=by
 simp_all
theorem zqm {α:Type} {l:List α} {i:Nat} {x:Option α} (h:l[i]? = x:=by first|exact wI (by omega)|exact Kq (by omega) (by omega)):l[i]? = x:=h
theorem vW {α β:Type} {f:α→β} {l:List α} {k:Nat} (h:k<l.length):(l.take k).map f++[f l[k]]=(l.take (k+1)).map f:=by
 grind[gq]
theorem aT {l:List AV} (h:l.all AV.pu2=true):∀ (i:Nat) av,l[i]?=some av→Bd 0 av:=fun i av x=>pu2_bd (List.all_eq_true.1 h av (aY x)) 0
theorem jc {P:Program} {f:FuncId} {fn:Func} {c:Code} {args:List AV} {res:AV} (hf:P.funcs[f]? = some fn) {N:Nat} (hN:fn.ntmps = N) (h:∀ w0 F0,W P ⟨w0,F0,N,fun _ => False,0,G0,[]⟩ c (St.init args) (QFin P fn ⟨w0,F0,N,fun _ => False,0,G0,[]⟩ res)) (hb:fn.body = some c:=by rfl) (hn:args.length ≤ N:=by exact aP rfl) (hp:args.all AV.pu2 = true:=by rfl):Ctr P f args res:=Ctr.intro hf hb hN hn (aT hp) h
theorem fin1 {P:Program} {fn:Func} {C:Cx} {σ:St} {t:Tmp} {av res:AV} (h:fn.results=#[.tmp t]) (ht:look t σ.t=some av) (he:av=res) (hp:res.pu2=true):QFin P fn C res .ret σ :=
 ⟨.inr rfl,Fin.one h (he ▸ ht) (pu2_bd hp 0)⟩
theorem vJ {P:Program} {fn:Func} {C:Cx} {σ:St} {t:Tmp} {av res:AV} (h:fn.results = #[.tmp t]:=by rfl) (ht:look t σ.t = some av:=by rfl) (he:av = res:=by rfl) (hp:res.pu2 = true:=by rfl):QFin P fn C res .ret σ:=fin1 h ht he hp
theorem fin2 {P:Program} {fn:Func} {C:Cx} {σ:St} {t u:Tmp} {a1 a2 r1 r2:AV} (h:fn.results=#[.tmp t,.tmp u]) (h1:look t σ.t=some a1) (h2:look u σ.t=some a2) (e1:a1=r1) (e2:a2=r2) (p1:r1.pu2=true) (p2:r2.pu2=true):QFin P fn C (.tu [r1,r2]) .ret σ :=
 ⟨.inr rfl,Fin.two h (e1 ▸ h1) (e2 ▸ h2) (pu2_bd p1 0) (pu2_bd p2 0)⟩
theorem o9 {a b:Bool} (h:a=b):AV.sc (.bool a)=.sc (.bool b):=by rw [h]
theorem acu {k:IntKind} {a b:Int} (h:a=b):AV.sc (.int k a)=.sc (.int k b):=by rw [h]
end
section
def rR(s n:Int):List UInt8:=if n=1∧s≠3 then [46]else if n=2∧s=1 then [58]else if n=3∧s=1 then [39]else []
def rG(s n:Int):List UInt8 :=
 if s=1∧1≤n∧n≤4 then cut [44,94,35,40] (n-1) n else if s=2∧n=1 then [116] else if(s=2∨s=4)∧n=3 then [35] else []
def rH(s n L:Int):List UInt8:=if s=1 then 95::jX n.toNat else if(s=2∨s=4)∧n=L then [42]else []
def pH(s n L:Int):List UInt8:=if n=0 then []else rH s n L
def okR(s n:Int):Bool:=n == 0|| !(rR s n).isEmpty
def yt(s n:Int):Bool:=n == 0|| !(rG s n).isEmpty
def qY(s n L:Int):Bool:=n == 0|| !(rH s n L).isEmpty
def cellS(s c f r g h L:Int):List UInt8:=pS s c f++rR s r++rG s g++pH s h L
def dZ(s c f r g h L:Int):Bool:=Gv s c f && okR s r && yt s g && qY s h L
theorem acd(s n:Int):(rR s n).length≤1:=by
 grind[rR]
theorem ab8(s n:Int):(rG s n).length≤4:=by
 unfold rG;split
 ·exact cut_length _ _ _
 grind
theorem Cj(n:Nat):(jX n).length≤2:=by grind[jX]
theorem akJ(s n L:Int):(rH s n L).length≤3:=by
 grind[rH,Cj]
theorem abM(s n L:Int):(pH s n L).length≤3:=by
 grind[pH,akJ]
theorem Zz:((List.range' 1 4).all fun s=>(List.range' 1 14).all fun c=>(List.range 19).all fun f=>decide ((pS (s:Nat) (c:Nat) (f:Nat)).length≤4∧(rS (s:Nat) (c:Nat) (f:Nat)).length≤4))=true:=by
 decide +kernel
theorem abP (s c f:Int)(hs:1≤s∧s≤4)(hc:1≤c∧c≤14)(hf:0≤f∧f≤18):(pS s c f).length≤4∧(rS s c f).length≤4:=by
 obtain⟨s,rfl⟩:=dP (show 0≤s by omega)
 obtain⟨c,rfl⟩:=dP (show 0≤c by omega)
 obtain⟨f,rfl⟩:=dP hf.1
 have h:=Zz
 exact aji
end
section
open Go.RowKit
theorem uo {α:Type} {F:View} {w:World} {n:Nat} {l:List α} {e:α→List AV} {f:α→List Value} {v:Value} (hF:∀ p u,F p=some u→w.cell? p=some u) (h0:0<n) (hf:∀ x,(f x).length=n) (hef:∀ x (j:Nat) u,(f x)[j]?=some u→(e x)[j]?=some (.sc u))
  (r:RP F (.ls n (l.map e)) v):∃ A c,v=.slice A l.length c∧Rd w w.heap.size n A (l.map f)∧l.length≤c:=by
 obtain ⟨A,cap,ad,u,rfl,h1,h2,h3,h4,h5⟩:=r.ls_of
 have hcell:∀ (k:Nat) x,l[k]?=some x→∀ (j:Nat) y,(f x)[j]?=some y→w.cell? (ad.add (k*n+j))=some y:=fun k x hk j y hy=>by
  have a1:(l.map e)[k]?=some (e x):=by simp_all
  have:=h3 k _ j _ a1 (hef x j y hy)
  rw [hF _ _ this.1,(h4 k _ j _ a1 (hef x j y hy)).sc_eq]
 refine ⟨A,cap,by rw [dH],fun hp=>⟨ad,h2 (by simpa using hp),?_,fun k r hr j y hy=>?_⟩,by simpa using h5⟩
 ·have hp:0<l.length:=by simpa using hp
  have hx:0<(f (l[0]'hp)).length:=by rw [hf];exact h0
  have:=cell_block (hcell 0 (l[0]'hp) (aB hp) 0 _ (aB hx))
  simp_all[block_of_add]
 grind
theorem TN {F:View} {w:World} {l:List Stp} {v:Value} (hF:∀ p u,F p=some u→w.cell? p=some u) (r:RP F (aao l) v):∃ A c,v=.slice A l.length c∧eP w w.heap.size A l∧l.length≤c :=
 uo (n:=5) (f:=mF) hF aj (fun _=>rfl) (fun x j u h=>by
  match j with
  | 0=>cases h;rfl
  | 1=>cases h;rfl
  | 2=>cases h;rfl
  | 3=>cases h;rfl
  | 4=>cases h;rfl
  | j+5=>simp [mF] at h) r
theorem Xy {F:View} {w:World} {l:List Ev} {v:Value} (hF:∀ p u,F p=some u→w.cell? p=some u) (r:RP F (.ls 6 (l.map iq)) v):∃ A c,v=.slice A l.length c∧oP w w.heap.size A l∧l.length≤c:=by
 obtain ⟨A,cap,ad,u,rfl,h1,h2,h3,h4,h5⟩:=r.ls_of
 obtain ⟨ms,hml,hmq⟩:=list_ofT (fun k (m:Option Addr×Nat)=>∀ x,l[k]?=some x→u k 5=.slice m.1 x.stops.length m.2∧eP w w.heap.size m.1 x.stops) l.length fun k hk=>by
  have a1:(l.map iq)[k]?=some (iq l[k]):=by simp [hk]
  obtain ⟨A',c',e,hs,_⟩:=TN hF (h4 k _ 5 _ a1 rfl)
  simp_all
 have hcell:∀ (k:Nat) x m,l[k]?=some x→ms[k]?=some m→∀ (j:Nat) y,(kL x m)[j]?=some y→w.cell? (ad.add (k*6+j))=some y:=fun k x m hk hm j y hy=>by
  have a1:(l.map iq)[k]?=some (iq x):=by rw [bC,hk];rfl
  have hj:j < 6:=(List.getElem?_eq_some_iff.1 hy).1
  have get:∀ av,(iq x)[j]?=some av→w.cell? (ad.add (k*6+j))=some (u k j):=fun av hav=>hF _ _ (h3 k _ j _ a1 hav).1
  match j,hj with
  | 0,_=>cases hy;rw [get _ rfl,(h4 k _ 0 _ a1 rfl).sc_eq]
  | 1,_=>cases hy;rw [get _ rfl,(h4 k _ 1 _ a1 rfl).sc_eq]
  | 2,_=>cases hy;rw [get _ rfl,(h4 k _ 2 _ a1 rfl).sc_eq]
  | 3,_=>cases hy;rw [get _ rfl,(h4 k _ 3 _ a1 rfl).sc_eq]
  | 4,_=>cases hy;rw [get _ rfl,(h4 k _ 4 _ a1 rfl).sc_eq]
  | 5,_=>cases hy;rw [get _ rfl,(hmq k m hm x hk).1]
 refine ⟨A,cap,by rw [dH],⟨ms,hml,fun hp=>⟨ad,h2 ?_,?_,fun k r hr j y hy=>?_⟩,fun k e m he hm=>(hmq k m hm e he).2⟩,by simpa using h5⟩
 ·simp [hml] at hp ⊢;omega
 ·have hp:0 < l.length:=by simp [hml] at hp;omega
  have:=cell_block (hcell 0 (l[0]'hp) (ms[0]'(by omega)) (aB hp) (aB (by omega)) 0 _ rfl)
  rwa [block_of_add] at this
 grind
theorem zl {F:View} {w:World} {cs:List (Int×Int×Bool)} {st:List Int} {v1 v2:Value} (hF:∀ p u,F p=some u→w.cell? p=some u) (r1:RP F (.ls 3 (cs.map aW)) v1) (r2:RP F (.ls 1 (st.map eInt)) v2) :
  ∃ A1 c1 A2 c2,v1=.slice A1 cs.length c1∧v2=.slice A2 st.length c2∧gV w w.heap.size A1 A2 cs st:=by
 obtain ⟨A1,c1,e1,h1,_⟩:=uo (n:=3) (f:=dA) hF aj (fun _=>rfl) (fun x j u h=>by
  match j with
  | 0=>cases h;rfl
  | 1=>cases h;rfl
  | 2=>cases h;rfl
  | j+3=>simp [dA] at h) r1
 obtain ⟨A2,c2,e2,h2,_⟩:=uo (n:=1) (f:=gG) hF aj (fun _=>rfl) (fun x j u h=>by
  match j with
  | 0=>cases h;rfl
  | j+1=>simp [gG] at h) r2
 exact ⟨A1,c1,A2,c2,e1,e2,h1,h2⟩
theorem DW {F:View} {w:World} {p:aN} {v:Value} (hF:∀ p u,F p=some u→w.cell? p=some u) (r:RP F (eF p) v):∃ M,v=dL M p∧oI w w.heap.size M p:=by
 obtain ⟨cs,rfl,h1,h2⟩:∃ cs:Array Value,v=.agg cs∧cs.size=3∧∀ (i:Nat) av u,[AV.ls 3 (p.cs.map aW),.ls 1 (p.st.map eInt),.ls 6 (p.evs.map iq)][i]?=some av→cs[i]?=some u→RP F av u:=by
  cases r<;>grind
 have g:∀ i (h:i<3),cs[i]?=some (cs[i]'(by omega)):=fun i h=>pq (by omega)
 obtain ⟨A1,c1,A2,c2,e1,e2,hI⟩:=zl hF (h2 0 _ _ rfl (g 0 aj)) (h2 1 _ _ rfl (g 1 aj))
 obtain ⟨A3,c3,e3,hE,hc⟩:=Xy hF (h2 2 _ _ rfl (g 2 aj))
 refine ⟨⟨A1,A2,A3,c1,c2,c3⟩,?_,hI,hE,hc⟩
 unfold dL
 congr 1
 grind
theorem Ctr.vS {P:Program} {f:FuncId} {args:List AV} {xs:List Value} {res:AV} {v:Value} (hs:scs args=some xs)(hv:∀ F,RP F res v)(h:∀ w,Calls P f xs.toArray w (Ret v w)):Ctr P f args res:=by
 intro w F vs hF hR
 have:vs=xs:=scs_of (G:=⟨F,fun _=>0,fun _=>0,fun _=>undef,fun _ _=>False⟩) hs hR.1 fun i av u a b=>.pu _ _ (hR.2 i av u a b)
 exact ai9
theorem Ctr.V3 {P:Program} {f:FuncId} {p:aN} {pre post:List AV} {xs ys:List Value} {res:AV} {v:Value} (hs:scs pre=some xs) (hs2:scs post=some ys) (hv:∀ F,RP F res v)
  (h:∀ w M,oI w w.heap.size M p→Calls P f (xs++dL M p::ys).toArray w (Ret v w)):Ctr P f (pre++eF p::post) res:=by
 intro w F vs hF hR
 have hG:∀ i av u,(pre++eF p::post)[i]?=some av→vs[i]?=some u→R ⟨F,fun _=>0,fun _=>0,fun _=>undef,fun _ _=>False⟩ av u:=fun i av u a b=>.pu _ _ (hR.2 i av u a b)
 have hlen:vs.length=pre.length+(post.length+1):=by rw [hR.1];simp
 have e1:vs.take pre.length=xs:=scs_of hs (by simp;omega) fun i av u a b=>by
  have hi:i<pre.length:=(List.getElem?_eq_some_iff.1 a).1
  rw [EC hi] at b
  exact hG i av u (by rw [sS hi];exact a) b
 have e2:vs.drop (pre.length+1)=ys:=scs_of hs2 (by simp;omega) fun i av u a b=>by
  rw [I7] at b
  exact hG (pre.length+1+i) av u (by rw [qL (by omega),show pre.length+1+i-pre.length=i+1 by omega];exact a) b
 have hp:vs[pre.length]?=some (vs[pre.length]'(by omega)):=aB (by omega)
 obtain ⟨M,eM,hM⟩:=DW hF (hR.2 pre.length _ _ (by rw [qL (Nat.le_refl _),Eu];rfl) hp)
 have ev:vs=xs++dL M p::ys:=by
  rw [← e1,← e2,← eM]
  conv=>lhs;rw [← Fb pre.length vs]
  congr 1
  rw [kV (by omega)]
 rw [ev]
 exact (h w M hM).mono fun e w' ⟨he,hb⟩=>⟨v,F,he,hb,fun _ _ h=>h,fun p u x=>by rw [hb.cell (cell_block (hF p u x))];exact hF p u x,fun _ _ h=>.inl h,hv F⟩
end
section
def Qc:List UInt8:=[66,83,77,67,81,88,68]
def tW (v:Int)(i:Nat):List UInt8:=if v=0 then [45] else if i=0 then cut Qc (v-1) v else if i=1 then cut Qc (v-1) v++[46] else cut Qc (v-1) v++[51]
def vV (s v:Int)(i:Nat):Bool:=if v=0 then decide (s≠4)else (decide (i≠2)|| decide (s≠4))
def rW(s v:Int)(i:Nat):List UInt8:=if vV s v i=true then tW v i else []
def Ar(i:Nat):Bool:=i == 1
def yG(i:Nat):Bool:=i == 2
def jo (v:Int)(d t:Bool):Bool:=(v == 0 && !d && !t)|| (decide (1≤v) && decide (v≤7) && !(d && t))
def oM(d t:Bool):Nat:=if d then 1 else if t then 2 else 0
def Eo(v:Int)(d t:Bool):Int :=
 if v<1∨7<v∨(d && t)=true then 0 else if d then 384/2 ^ (v-1).toNat/2*3 else if t then 384/2 ^ (v-1).toNat/3*2 else 384/2 ^ (v-1).toNat
theorem amr:((List.range' 1 7).all fun v=>[(false,false),(true,false),(false,true)].all fun p=>decide (0<Eo (v:Nat) p.1 p.2))=true:=by decide +kernel
theorem Wy (v:Int)(d t:Bool)(hv:1≤v∧v≤7)(h:(d && t)=false):0<Eo v d t:=by
 obtain⟨v,rfl⟩:=dP (show 0≤v by omega)
 have h1:=amr
 rw [jS]at h1
 have h2:=h1 v (List.mem_range'_1.2 aj)
 rw [jS]at h2
 cases d<;>cases t
 all_goals simp_all
def vk (s v:Int)(d t:Bool):Int:=if ¬ (1≤s∧s≤4)then 30 else if jo v d t=false then 20 else if vV s v (oM d t)=false then 31 else 0
def BX (s v:Int)(d t:Bool):List UInt8:=if vk s v d t=0 then tW v (oM d t)else []
theorem ah5 (v:Int)(i:Nat)(hv:0≤v∧v≤7):tW v i≠[]:=by
 unfold tW
 by_cases h0:v=0
 ·simp_all
 ·rw [if_neg h0]
  have hc:cut Qc (v-1) v≠[]:=by
   have h7:v=1∨v=2∨v=3∨v=4∨v=5∨v=6∨v=7:=by omega
   rcases h7 with rfl|rfl|rfl|rfl|rfl|rfl|rfl<;>decide
  split
  ·exact hc
  ·split<;>simp
end
section
open Go.RowKit
attribute [local go_sem]mk_bs bs_size bs_toList bs_append bs_extract
attribute [local simp]run_cut run_cut_to run_cut_from run_add_bs
theorem ab4 (n:Int)(w:World)(h:0≤n∧n≤3) :
  Calls Tryz.prog 320 #[.agg #[],.int .i64 n] w (Ret (.tuple #[.string (bs (rR 1 n)),.bool (okR 1 n)]) w):=by
 have h4:n=0∨n=1∨n=2∨n=3:=by omega
 clear h
 rcases h4 with rfl|rfl|rfl|rfl
 all_goals
  go_enter Tryz.func320,Tryz.ntmps320
  go_wp2
  go_ret2
  exact Ret.mk' rfl jD
theorem abX (n:Int)(w:World)(h:0≤n∧n≤4) :
  Calls Tryz.prog 314 #[.agg #[],.int .i64 n] w (Ret (.tuple #[.string (bs (rG 1 n)),.bool (yt 1 n)]) w):=by
 have h4:n=0∨n=1∨n=2∨n=3∨n=4:=by omega
 clear h
 rcases h4 with rfl|rfl|rfl|rfl|rfl
 all_goals
  go_enter Tryz.func314,Tryz.ntmps314
  go_wp2
  go_ret2
  exact Ret.mk' rfl jD
theorem agZ (n L:Int)(w:World)(h:0≤n∧n≤15) :
  Calls Tryz.prog 316 #[.agg #[],.int .i64 n,.int .i64 L] w (Ret (.tuple #[.string (bs (pH 1 n L)),.bool (qY 1 n L)]) w):=by
 obtain⟨hn0,hn1⟩:=h
 by_cases h0:n=0
 ·subst h0
  go_enter Tryz.func316,Tryz.ntmps316
  go_wp2
  exact pG
 ·have hb:(n == 0)=false:=by simp;exact h0
  have e0:pH 1 n L=rH 1 n L:=if_neg h0
  have e1:qY 1 n L=!(rH 1 n L).isEmpty:=by unfold qY;rw [hb];rfl
  rw [e0,e1]
  have e2:rH 1 n L=95::jX n.toNat:=if_pos rfl
  have hl:([95]:List UInt8).length+(jX n.toNat).length≤9223372036854775807:=by have:=Cj n.toNat;simp;omega
  have hl':1+(jX n.toNat).length≤9223372036854775807:=by have:=Cj n.toNat;omega
  rw [e2]
  clear e0 e1 e2
  go_enter Tryz.func316,Tryz.ntmps316
  go_wp2_with (go_at_call 108;refine (xR _ _ hn0 (by omega)).mono ?_;rintro e w'⟨rfl,hw⟩;rw [hw];clear hw)
  exact pG
theorem ab7 (n:Int)(w:World)(h:0≤n∧n≤3) :
  Calls Tryz.prog 350 #[.agg #[],.int .i64 n] w (Ret (.tuple #[.string (bs (rR 4 n)),.bool (okR 4 n)]) w):=by
 have h4:n=0∨n=1∨n=2∨n=3:=by omega
 clear h
 rcases h4 with rfl|rfl|rfl|rfl
 all_goals
  go_enter Tryz.func350,Tryz.ntmps350
  go_wp2
  go_ret2
  exact Ret.mk' rfl jD
theorem ab1 (n:Int)(w:World)(h:0≤n∧n≤4) :
  Calls Tryz.prog 345 #[.agg #[],.int .i64 n] w (Ret (.tuple #[.string (bs (rG 4 n)),.bool (yt 4 n)]) w):=by
 have h4:n=0∨n=1∨n=2∨n=3∨n=4:=by omega
 clear h
 rcases h4 with rfl|rfl|rfl|rfl|rfl
 all_goals
  go_enter Tryz.func345,Tryz.ntmps345
  go_wp2
  go_ret2
  exact Ret.mk' rfl jD
theorem ag2 (n L:Int) (w:World) (h:0≤n∧n≤15) :
  Calls Tryz.prog 329 #[.agg #[],.int .i64 n,.int .i64 L] w (Ret (.tuple #[.string (bs (pH 4 n L)),.bool (qY 4 n L)]) w):=by
 obtain ⟨hn0,hn1⟩:=h
 by_cases h0:n=0
 ·exact aeX
 ·have hb:(n == 0)=false:=by simp;exact h0
  have e0:pH 4 n L=rH 4 n L:=if_neg h0
  have e1:qY 4 n L=!(rH 4 n L).isEmpty:=by unfold qY;rw [hb];rfl
  rw [e0,e1]
  by_cases hL:n=L
  ·have e2:rH 4 n L=[42]:=by unfold rH;rw [if_neg (by decide),if_pos ⟨by decide,hL⟩]
   have hbL:(n == L)=true:=by simpa using hL
   exact UY
  ·have e2:rH 4 n L=[]:=by unfold rH;rw [if_neg (by decide),if_neg (fun h=>hL h.2)]
   exact ae8
end
section
open Go.RowKit
attribute [local go_sem]mk_bs bs_size bs_toList bs_append bs_extract
def uz(s c:Int):Int:=if s=4∨6<c then 0 else c
def qh (s c f:Nat):Bool:=(rS s c f).isEmpty|| (aC s (uz s c) == 0 && ng (Gw s (uz s c) (rS s c f)) 1 14 == some (c,f))
theorem Xh:((List.range' 1 14).all fun c=>(List.range 19).all fun f=>qh 1 c f)=true:=by decide +kernel
theorem Xi:((List.range' 1 14).all fun c=>(List.range 19).all fun f=>qh 2 c f)=true:=by decide +kernel
theorem Xj:((List.range' 1 14).all fun c=>(List.range 19).all fun f=>qh 3 c f)=true:=by decide +kernel
theorem Xk:((List.range' 1 14).all fun c=>(List.range 19).all fun f=>qh 4 c f)=true:=by decide +kernel
theorem yY (s c f:Int) (h:sG s c f=0):rS s c f≠[]∧placeOf s (uz s c) (rS s c f)=(c,f,0):=by
 have hs:1≤s∧s≤4:=by
  grind[sG]
 have hb:¬ ((c<1∨14<c)∨(f<0∨18<f)):=by
  grind[TP]
 have hne:rS s c f≠[]:=by
  simp_all[sG,if_neg]
 refine ⟨hne,?_⟩
 obtain ⟨c,rfl⟩:=dP (show 0≤c by omega)
 obtain ⟨f,rfl⟩:=dP (show 0≤f by omega)
 have hall:((List.range' 1 14).all fun c=>(List.range 19).all fun f=>qh s.toNat c f)=true:=by
  have h4:s=1∨s=2∨s=3∨s=4:=by omega
  rcases h4 with rfl|rfl|rfl|rfl
  all_goals simp[Xh,Xi,Xj,Xk]
 obtain ⟨s,rfl⟩:=dP (show 0≤s by omega)
 rw [dB,jS]at hall
 have h2:=hall c (List.mem_range'_1.2 aj)
 rw [jS]at h2
 have h3:=h2 f (List.mem_range.2 aj)
 grind[qh,rV]
end
end Go.Proofs.YthohlofpphjofaaGreatDoor
