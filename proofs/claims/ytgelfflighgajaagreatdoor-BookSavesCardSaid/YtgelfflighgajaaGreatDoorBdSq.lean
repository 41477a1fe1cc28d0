/- A strings.Builder that the call has made: what its methods write and read, all other memory as it stands. -/
import Derived.Test.YtgelfflighgajaaGreatDoorEZSq
set_option linter.unusedVariables false
set_option linter.unusedSimpArgs false
namespace Go.Proofs.YtgelfflighgajaaGreatDoor
open Go.RowKit
theorem rd_of_rp {α:Type} {F:View} {w:World} {n:Nat} {l:List α} {e:α→List AV} {f:α→List Value} {v:Value} (hF:∀ p u,F p=some u→w.cell? p=some u) (h0:0<n) (hf:∀ x,(f x).length=n) (hef:∀ x (j:Nat) u,(f x)[j]?=some u→(e x)[j]?=some (.sc u))
  (r:RP F (.ls n (l.map e)) v):∃ A c,v=.slice A l.length c∧Rd w w.heap.size n A (l.map f)∧l.length≤c:=by
 obtain ⟨A,cap,ad,u,rfl,h1,h2,h3,h4,h5⟩:=r.ls_of
 have hcell:∀ (k:Nat) x,l[k]?=some x→∀ (j:Nat) y,(f x)[j]?=some y→w.cell? (ad.add (k*n+j))=some y:=fun k x hk j y hy=>by
  have a1:(l.map e)[k]?=some (e x):=by rw [List.getElem?_map,hk];rfl
  have:=h3 k _ j _ a1 (hef x j y hy)
  rw [hF _ _ this.1,(h4 k _ j _ a1 (hef x j y hy)).sc_eq]
 refine ⟨A,cap,by rw [List.length_map],fun hp=>⟨ad,h2 (by simpa using hp),?_,fun k r hr j y hy=>?_⟩,by simpa using h5⟩
 ·have hp:0<l.length:=by simpa using hp
  have hx:0<(f (l[0]'hp)).length:=by rw [hf];exact h0
  have:=cell_block (hcell 0 (l[0]'hp) (List.getElem?_eq_getElem hp) 0 _ (List.getElem?_eq_getElem hx))
  rwa [block_of_add] at this
 ·rw [List.getElem?_map] at hr
  cases hk:l[k]? with
  | none=>simp [hk] at hr
  | some x =>
   rw [hk] at hr
   obtain rfl:f x=r:=by simpa using hr
   exact hcell k x hk j y hy
theorem stps_of_rp {F:View} {w:World} {l:List Stp} {v:Value} (hF:∀ p u,F p=some u→w.cell? p=some u) (r:RP F (eStps l) v):∃ A c,v=.slice A l.length c∧StpsAt w w.heap.size A l∧l.length≤c :=
 rd_of_rp (n:=5) (f:=stpCells) hF (by omega) (fun _=>rfl) (fun x j u h=>by
  match j with
  | 0=>cases h;rfl
  | 1=>cases h;rfl
  | 2=>cases h;rfl
  | 3=>cases h;rfl
  | 4=>cases h;rfl
  | j+5=>simp [stpCells] at h) r
theorem evs_of_rp {F:View} {w:World} {l:List Ev} {v:Value} (hF:∀ p u,F p=some u→w.cell? p=some u) (r:RP F (.ls 6 (l.map eEv)) v):∃ A c,v=.slice A l.length c∧EvsAt w w.heap.size A l∧l.length≤c:=by
 obtain ⟨A,cap,ad,u,rfl,h1,h2,h3,h4,h5⟩:=r.ls_of
 obtain ⟨ms,hml,hmq⟩:=list_ofT (fun k (m:Option Addr×Nat)=>∀ x,l[k]?=some x→u k 5=.slice m.1 x.stops.length m.2∧StpsAt w w.heap.size m.1 x.stops) l.length fun k hk=>by
  have a1:(l.map eEv)[k]?=some (eEv l[k]):=by simp [hk]
  obtain ⟨A',c',e,hs,_⟩:=stps_of_rp hF (h4 k _ 5 _ a1 rfl)
  refine ⟨(A',c'),fun x hx=>?_⟩
  rw [List.getElem?_eq_getElem hk] at hx
  cases hx
  exact ⟨e,hs⟩
 have hcell:∀ (k:Nat) x m,l[k]?=some x→ms[k]?=some m→∀ (j:Nat) y,(evCells x m)[j]?=some y→w.cell? (ad.add (k*6+j))=some y:=fun k x m hk hm j y hy=>by
  have a1:(l.map eEv)[k]?=some (eEv x):=by rw [List.getElem?_map,hk];rfl
  have hj:j < 6:=(List.getElem?_eq_some_iff.1 hy).1
  have get:∀ av,(eEv x)[j]?=some av→w.cell? (ad.add (k*6+j))=some (u k j):=fun av hav=>hF _ _ (h3 k _ j _ a1 hav).1
  match j,hj with
  | 0,_=>cases hy;rw [get _ rfl,(h4 k _ 0 _ a1 rfl).sc_eq]
  | 1,_=>cases hy;rw [get _ rfl,(h4 k _ 1 _ a1 rfl).sc_eq]
  | 2,_=>cases hy;rw [get _ rfl,(h4 k _ 2 _ a1 rfl).sc_eq]
  | 3,_=>cases hy;rw [get _ rfl,(h4 k _ 3 _ a1 rfl).sc_eq]
  | 4,_=>cases hy;rw [get _ rfl,(h4 k _ 4 _ a1 rfl).sc_eq]
  | 5,_=>cases hy;rw [get _ rfl,(hmq k m hm x hk).1]
 refine ⟨A,cap,by rw [List.length_map],⟨ms,hml,fun hp=>⟨ad,h2 ?_,?_,fun k r hr j y hy=>?_⟩,fun k e m he hm=>(hmq k m hm e he).2⟩,by simpa using h5⟩
 ·simp [hml] at hp ⊢;omega
 ·have hp:0 < l.length:=by simp [hml] at hp;omega
  have:=cell_block (hcell 0 (l[0]'hp) (ms[0]'(by omega)) (List.getElem?_eq_getElem hp) (List.getElem?_eq_getElem (by omega)) 0 _ rfl)
  rwa [block_of_add] at this
 ·rw [List.getElem?_zipWith] at hr
  cases hk:l[k]? with
  | none=>simp [hk] at hr
  | some x =>
   cases hm:ms[k]? with
   | none=>simp [hk,hm] at hr
   | some m =>
    simp [hk,hm] at hr
    subst hr
    exact hcell k x m hk hm j y hy
theorem ins_of_rp {F:View} {w:World} {cs:List (Int×Int×Bool)} {st:List Int} {v1 v2:Value} (hF:∀ p u,F p=some u→w.cell? p=some u) (r1:RP F (.ls 3 (cs.map eCrs)) v1) (r2:RP F (.ls 1 (st.map eInt)) v2) :
  ∃ A1 c1 A2 c2,v1=.slice A1 cs.length c1∧v2=.slice A2 st.length c2∧InsAt w w.heap.size A1 A2 cs st:=by
 obtain ⟨A1,c1,e1,h1,_⟩:=rd_of_rp (n:=3) (f:=crsCells) hF (by omega) (fun _=>rfl) (fun x j u h=>by
  match j with
  | 0=>cases h;rfl
  | 1=>cases h;rfl
  | 2=>cases h;rfl
  | j+3=>simp [crsCells] at h) r1
 obtain ⟨A2,c2,e2,h2,_⟩:=rd_of_rp (n:=1) (f:=intCell) hF (by omega) (fun _=>rfl) (fun x j u h=>by
  match j with
  | 0=>cases h;rfl
  | j+1=>simp [intCell] at h) r2
 exact ⟨A1,c1,A2,c2,e1,e2,h1,h2⟩
theorem pc_of_rp {F:View} {w:World} {p:Pce} {v:Value} (hF:∀ p u,F p=some u→w.cell? p=some u) (r:RP F (ePce p) v):∃ M,v=pcValue M p∧PcAt w w.heap.size M p:=by
 obtain ⟨cs,rfl,h1,h2⟩:∃ cs:Array Value,v=.agg cs∧cs.size=3∧∀ (i:Nat) av u,[AV.ls 3 (p.cs.map eCrs),.ls 1 (p.st.map eInt),.ls 6 (p.evs.map eEv)][i]?=some av→cs[i]?=some u→RP F av u:=by
  cases r with|ag l cs a b=>exact ⟨cs,rfl,a,b⟩
 have g:∀ i (h:i<3),cs[i]?=some (cs[i]'(by omega)):=fun i h=>Array.getElem?_eq_getElem (by omega)
 obtain ⟨A1,c1,A2,c2,e1,e2,hI⟩:=ins_of_rp hF (h2 0 _ _ rfl (g 0 (by omega))) (h2 1 _ _ rfl (g 1 (by omega)))
 obtain ⟨A3,c3,e3,hE,hc⟩:=evs_of_rp hF (h2 2 _ _ rfl (g 2 (by omega)))
 refine ⟨⟨A1,A2,A3,c1,c2,c3⟩,?_,hI,hE,hc⟩
 unfold pcValue
 congr 1
 apply Array.ext (by simp [h1])
 intro i hi hi2
 match i,(show i<3 by omega) with
 | 0,_=>exact e1
 | 1,_=>exact e2
 | 2,_=>exact e3
theorem Ctr.of_sc {P:Program} {f:FuncId} {args:List AV} {xs:List Value} {res:AV} {v:Value} (hs:scs args=some xs) (hv:∀ F,RP F res v) (h:∀ w,Calls P f xs.toArray w (Ret v w)):Ctr P f args res:=by
 intro w F vs hF hR
 have:vs=xs:=scs_of (G:=⟨F,fun _=>0,fun _=>0,fun _=>undef,fun _ _=>False⟩) hs hR.1 fun i av u a b=>.pu _ _ (hR.2 i av u a b)
 subst this
 exact (h w).mono fun e w' ⟨he,hb⟩=>⟨v,F,he,hb,fun _ _ h=>h,fun p u x=>by rw [hb.cell (cell_block (hF p u x))];exact hF p u x,fun _ _ h=>.inl h,hv F⟩
theorem Ctr.of_pc {P:Program} {f:FuncId} {p:Pce} {pre post:List AV} {xs ys:List Value} {res:AV} {v:Value} (hs:scs pre=some xs) (hs2:scs post=some ys) (hv:∀ F,RP F res v)
  (h:∀ w M,PcAt w w.heap.size M p→Calls P f (xs++pcValue M p::ys).toArray w (Ret v w)):Ctr P f (pre++ePce p::post) res:=by
 intro w F vs hF hR
 have hG:∀ i av u,(pre++ePce p::post)[i]?=some av→vs[i]?=some u→R ⟨F,fun _=>0,fun _=>0,fun _=>undef,fun _ _=>False⟩ av u:=fun i av u a b=>.pu _ _ (hR.2 i av u a b)
 have hlen:vs.length=pre.length+(post.length+1):=by rw [hR.1];simp
 have e1:vs.take pre.length=xs:=scs_of hs (by simp;omega) fun i av u a b=>by
  have hi:i<pre.length:=(List.getElem?_eq_some_iff.1 a).1
  rw [List.getElem?_take_of_lt hi] at b
  exact hG i av u (by rw [List.getElem?_append_left hi];exact a) b
 have e2:vs.drop (pre.length+1)=ys:=scs_of hs2 (by simp;omega) fun i av u a b=>by
  rw [List.getElem?_drop] at b
  exact hG (pre.length+1+i) av u (by rw [List.getElem?_append_right (by omega),show pre.length+1+i-pre.length=i+1 by omega];exact a) b
 have hp:vs[pre.length]?=some (vs[pre.length]'(by omega)):=List.getElem?_eq_getElem (by omega)
 obtain ⟨M,eM,hM⟩:=pc_of_rp hF (hR.2 pre.length _ _ (by rw [List.getElem?_append_right (Nat.le_refl _),Nat.sub_self];rfl) hp)
 have ev:vs=xs++pcValue M p::ys:=by
  rw [← e1,← e2,← eM]
  conv=>lhs;rw [← List.take_append_drop pre.length vs]
  congr 1
  rw [List.drop_eq_getElem_cons (by omega)]
 rw [ev]
 exact (h w M hM).mono fun e w' ⟨he,hb⟩=>⟨v,F,he,hb,fun _ _ h=>h,fun p u x=>by rw [hb.cell (cell_block (hF p u x))];exact hF p u x,fun _ _ h=>.inl h,hv F⟩
end Go.Proofs.YtgelfflighgajaaGreatDoor
namespace Go.Proofs.YtgelfflighgajaaGreatDoor
open Go.RowKit
def lkIf (ok:Bool) (i c what:Int):List Lck:=if ok then [] else [(i,c,what)]
def hasS (s n:Int):Bool:=if s=3 then n != 8 else if s=4 then n == 8 else true
def lackStop (s i:Int) (L:Int→Nat) (x:Stp):List Lck :=
 if pOk s x.1 x.2.1=false then [(i,x.1,1)] else lkIf (okR s x.2.2.1) i x.1 2++(lkIf (okG s x.2.2.2.1) i x.1 3++lkIf (okH s x.2.2.2.2 (L x.1)) i x.1 4)
def lackHead (s i:Int) (e:Ev):List Lck :=
 (if e.val=0 then lkIf (hasS s 6) i 0 6 else [])++((if e.three=true then lkIf (hasS s 5) i 0 5 else [])++(if e.tie=true then lkIf (hasS s 7) i 0 7 else if e.stops.length=0 then lkIf (hasS s 8) i 0 8 else []))
def lackE (s:Int) (p:Pce) (i:Int) (e:Ev):List Lck:=lackHead s i e++e.stops.flatMap (lackStop s i fun c=>longestN p.evs i c)
theorem lkIf_len (ok:Bool) (i c what:Int):(lkIf ok i c what).length≤1:=by unfold lkIf;split<;>simp
theorem lackStop_len (s i:Int) (L:Int→Nat) (x:Stp):(lackStop s i L x).length≤3:=by
 unfold lackStop
 split
 ·simp
 ·have a:=lkIf_len (okR s x.2.2.1) i x.1 2
  have b:=lkIf_len (okG s x.2.2.2.1) i x.1 3
  have c:=lkIf_len (okH s x.2.2.2.2 (L x.1)) i x.1 4
  simp only [List.length_append];omega
theorem flat_len (s i:Int) (L:Int→Nat):∀ l:List Stp,(l.flatMap (lackStop s i L)).length≤3*l.length:=by
 intro l
 induction l with
 | nil=>simp
 | cons x r ih=>have:=lackStop_len s i L x;simp only [List.flatMap_cons,List.length_append,List.length_cons];omega
theorem flat_snoc (s i:Int) (L:Int→Nat) (l:List Stp) (k:Nat) (h:k<l.length):(l.take (k+1)).flatMap (lackStop s i L)=(l.take k).flatMap (lackStop s i L)++lackStop s i L l[k]:=by
 rw [List.take_succ_eq_append_getElem h,List.flatMap_append];simp
theorem say_any (ok:Bool) (c what ev:Int) (b be B0:Nat) (l:List Lck) (w:World) (h:SayAt w B0 b l) (hev:w.cell? ⟨be,0,none⟩=some (.int .i64 ev)) (hb:b<B0) (hB:B0≤w.heap.size) (hl:l.length≤32000) :
  Calls Tryz.prog 214 #[.bool ok,.int .i64 c,.int .i64 what,.pointer (some ⟨b,0,none⟩),.pointer (some ⟨be,0,none⟩)] w (SayPost B0 b (l++lkIf ok ev c what) w):=by
 cases ok
 ·exact say_no c what ev b be B0 l w h hev hb hB hl
 ·have e:l++lkIf true ev c what=l:=by simp [lkIf]
  rw [e];exact say_ok c what b be B0 l w h
structure LkSt (w:World) (P E:Array Value) (i:Int) (l:List Lck) (wx:World):Prop where
 bel:Below w.heap.size w wx
 bp:Blk wx w.heap.size 28 P
 bi:Blk wx (w.heap.size+1) 3 #[.int .i64 i]
 be:Blk wx (w.heap.size+3) 36 E
 say:SayAt wx (w.heap.size+3) (w.heap.size+2) l
theorem LkSt.after {w wx w':World} {P E:Array Value} {i:Int} {l:List Lck} (h:LkSt w P E i l wx) (hb:Below wx.heap.size wx w'):LkSt w P E i l w' :=
 ⟨h.bel.trans (hb.mono h.bel.size),h.bp.after hb,h.bi.after hb,h.be.after hb,h.say.after hb⟩
theorem LkSt.said {w wx w':World} {P E:Array Value} {i:Int} {l l':List Lck} {e:Ending} (h:LkSt w P E i l wx) (hb:SayPost (w.heap.size+3) (w.heap.size+2) l' wx e w'):LkSt w P E i l' w' :=
 ⟨h.bel.trans (hb.2.2.1.mono (by omega)),hb.2.2.2.2 _ _ _ h.bp (by omega) (by decide),hb.2.2.2.2 _ _ _ h.bi (by omega) (by decide),hb.2.2.2.2 _ _ _ h.be (by omega) (by decide),hb.2.1⟩
theorem LkSt.ask {w wx:World} {P E:Array Value} {i:Int} {l:List Lck} (h:LkSt w P E i l wx) (ok:Bool) (c what:Int) (hl:l.length≤32000) :
  Calls Tryz.prog 214 #[.bool ok,.int .i64 c,.int .i64 what,.pointer (some ⟨w.heap.size+2,0,none⟩),.pointer (some ⟨w.heap.size+1,0,none⟩)] wx (SayPost (w.heap.size+3) (w.heap.size+2) (l++lkIf ok i c what) wx) :=
 say_any ok c what i _ _ _ l wx h.say (h.bi.cell 0) (by omega) (Nat.le_of_lt h.be.lt) hl
def StopsIn (e:Ev):Prop :=
 ∀ k (h:k<e.stops.length),(1≤e.stops[k].1∧e.stops[k].1≤14)∧(0≤e.stops[k].2.1∧e.stops[k].2.1≤18)∧(0≤e.stops[k].2.2.1∧e.stops[k].2.2.1≤3)∧(0≤e.stops[k].2.2.2.1∧e.stops[k].2.2.2.1≤4)∧(0≤e.stops[k].2.2.2.2∧e.stops[k].2.2.2.2≤15)
def LkPost (l:List Lck) (W:World) (e:Ending) (w':World):Prop :=
 ∃ A d,e=.returned (.slice A l.length d)∧Below W.heap.size W w'∧Rd w' w'.heap.size 3 A (l.map lckCells)∧(∀ ad,A=some ad→W.heap.size≤ad.block)∧l.length≤d
def lk1 (s i v:Int):List Lck:=if v=0 then lkIf (hasS s 6) i 0 6 else []
def lk2 (s i:Int) (t:Bool):List Lck:=if t=true then lkIf (hasS s 5) i 0 5 else []
def lk3 (s i:Int) (t:Bool) (n:Nat):List Lck:=if t=true then lkIf (hasS s 7) i 0 7 else if n=0 then lkIf (hasS s 8) i 0 8 else []
theorem lk1_len (s i v:Int):(lk1 s i v).length≤1:=by unfold lk1;split;exact lkIf_len _ _ _ _;simp
theorem lk2_len (s i:Int) (t:Bool):(lk2 s i t).length≤1:=by unfold lk2;split;exact lkIf_len _ _ _ _;simp
theorem lk3_len (s i:Int) (t:Bool) (n:Nat):(lk3 s i t n).length≤1:=by
 unfold lk3;split
 ·exact lkIf_len _ _ _ _
 ·split;exact lkIf_len _ _ _ _;simp
theorem lackE_eq (s:Int) (p:Pce) (i:Int) (e:Ev):lackE s p i e=(lk1 s i e.val++(lk2 s i e.three++lk3 s i e.tie e.stops.length))++e.stops.flatMap (lackStop s i fun c=>longestN p.evs i c):=rfl
def lkW (w:World) (P E:Array Value) (i:Int):World:=(((w.alloc (.cells P 28)).alloc (.cells #[.int .i64 i] 3)).alloc (.cells #[.slice none 0 0] 204)).alloc (.cells E 36)
theorem LkSt.start (w:World) (P E:Array Value) (i:Int):LkSt w P E i [] (lkW w P E i):=by
 have n1:∀ (w:World) (o:Obj),(w.alloc o).heap.size=w.heap.size+1:=fun w o=>by simp
 unfold lkW
 have b0:=((((Blk.new w 28 P).alloc (.cells #[.int .i64 i] 3)).alloc (.cells #[.slice none 0 0] 204)).alloc (.cells E 36))
 have b1:=(((Blk.new (w.alloc (.cells P 28)) 3 #[.int .i64 i]).alloc (.cells #[.slice none 0 0] 204)).alloc (.cells E 36))
 have b2:=((Blk.new ((w.alloc (.cells P 28)).alloc (.cells #[.int .i64 i] 3)) 204 #[.slice none 0 0]).alloc (.cells E 36))
 have b3:=(Blk.new (((w.alloc (.cells P 28)).alloc (.cells #[.int .i64 i] 3)).alloc (.cells #[.slice none 0 0] 204)) 36 E)
 rw [n1] at b1
 rw [n1,n1] at b2
 rw [n1,n1,n1] at b3
 exact ⟨(by repeat (first|exact Below.refl _ _|assumption|refine bel_drewN ?_ _|refine Below.drew ?_|refine bel_alloc ?_ _|refine Below.setCell ?_ (by first|omega|(simp;done)|(simp;omega)) _|refine bel_step ?_ (by assumption))),b0,b1,b3,SayAt.start _ _ _ b2⟩
end Go.Proofs.YtgelfflighgajaaGreatDoor
namespace Go.Proofs.YtgelfflighgajaaGreatDoor
open Go.RowKit
set_option maxRecDepth 100000
set_option maxHeartbeats 4000000
theorem ownsRowF_base {w:World} {B e size n:Nat} {v:Value} {xs:List Value} (h:w.ownsRowF B e size v n xs):w.ownsRowF 0 e size v n xs:=by
 refine ⟨h.1,?_⟩
 rcases h.2 with x|⟨g,cap,cur,fz,e,hb,r⟩
 ·exact .inl x
 ·exact .inr ⟨g,cap,cur,fz,e,Nat.zero_le _,r⟩
theorem append_strF {P:Program} (w:World) (t u ty e:TypeId) (i:TypeInfo) (ht:P.underlying t=some (.slice e)) (hu:P.underlying u=some .string) (hi:P.info? e=some i) (hz:i.zero=some (.int .u8 0)) (hs1:i.size=1) (hby:i.bytes=1)
  (v:Value) (n:Nat) (xs:List Value) (hown:w.ownsRowF 0 e 1 v n xs) (s:ByteArray) (hb:n+s.size≤1000000000) :
  ∃ v' w',(Builtin.append_ #[t,u] ty #[v,.string s]).run P w=.ok v' w'∧w'.ownsRowF 0 e 1 v' (n+s.size) (xs++Lib.strCells s)∧w.grownBy w' v.ownBlock∧∀ g,v'.ownBlock=some g→v.ownBlock=some g∨w.heap.size≤g:=by
 rcases hown.2 with⟨rfl,rfl⟩|⟨g,cap,cur,fz,rfl,hbg,hg,hfz,hnc,hcm,hcs,htake⟩
 ·obtain ⟨v',w',h1,h2,h3,_⟩:=Lib.run_append_own_stringF (P:=P) w w.heap.size t u ty e i ht hu hi hz hs1 hby (.slice none 0 0) 0 xs ⟨hown.1,.inl ⟨rfl,rfl⟩⟩ s (by unfold maxLen;omega) (by omega) (Nat.le_refl _)
  exact ⟨v',w',h1,ownsRowF_base h2,h3,fun g hg=>.inr (h2.lt g hg).1⟩
 ·obtain ⟨v',w',h1,h2,h3,_⟩:=Lib.run_append_own_stringF (P:=P) w 0 t u ty e i ht hu hi hz hs1 hby _ n xs hown s (by unfold maxLen;omega) (by omega) (Nat.zero_le _)
  refine ⟨v',w',h1,h2,h3,fun g' hg'=>?_⟩
  have hxl:xs.length=n:=by simpa using hown.1
  have hcs1:cur.size=cap:=by simpa using hcs
  by_cases hroom:n+s.size≤cap
  ·have hr:=Lib.run_append_room_stringF (P:=P) w t u ty e i ht hu hi hs1 g n cap cur fz hg (by simpa using hfz) s hroom (by omega)
   rw [hr] at h1
   cases h1
   exact .inl hg'
  ·have hr:=Lib.run_append_grow_string (P:=P) w t u ty e i (.int .u8 0) ht hu hi hz ⟨g,0,none⟩ n cap xs (by rw [hs1];simpa using hxl) (hown.cells (g:=g) rfl) s (by omega) (by omega) (by rw [hby];exact growslice_fits (by omega) (by omega))
   rw [hr] at h1
   cases h1
   simp [Value.ownBlock] at hg'
   right;omega
theorem run_appendStr {P:Program} {o:Oper} {a:Act} {w w':World} {x y:Operand} {T U:TypeId} {s:ByteArray} {v v':Value} {N:Act→World→Prop} {Q':Exit→Act→World→Prop} (ho:o.op=.call { callee:=.builtin .append,args:=#[x,y],argTypes:=#[T,U] }) (ex:a.eval x=v) (ey:a.eval y=.string s)
  (hrun:(Builtin.append_ #[T,U] o.type #[v,.string s]).run P w=.ok v' w') (hN:N (a.put o.dst v') w'):o.wp P a w N Q':=by
 unfold Oper.wp execOp
 have hargs:(#[x,y]:Array Operand).map a.eval=#[v,.string s]:=by simp [ex,ey]
 simp only [ho,resolve,invoke,builtin,Sem.run_bind,Sem.run_pure,Result.andThen_ok,hargs,hrun,Oper.upon]
 exact hN
theorem strCells_bs (s:List UInt8):Lib.strCells (bs s)=Lib.byteCells s:=by
 unfold Lib.strCells Lib.byteCells
 rfl
theorem bldSize:(Tryz.prog.info? 109).map (·.size)=some 2:=by kernel_rfl
theorem bldLies:liesAt Tryz.prog Tryz.prog.depth 109 (2/Tryz.prog.cellsOf 109) 0 109 1=true:=by kernel_rfl
theorem byteInfo:(Tryz.prog.info? 5).map (fun i=>(i.zero,i.size,i.bytes))=some (some (.int .u8 0),1,1):=by kernel_rfl
theorem byteCellsOf:Tryz.prog.cellsOf 5=1:=by kernel_rfl
theorem bld_copy_used (b:Nat) (w:World) (h0:w.cell? ⟨b,0,none⟩=some (.pointer (some ⟨b,0,none⟩))) :
  Calls Tryz.prog 125 #[.pointer (some ⟨b,0,none⟩)] w fun e w'=>e=.returned (.tuple #[])∧w'=w:=by
 obtain ⟨j,hj,_⟩:=Option.map_eq_some_iff.1 bldSize
 go_enter Tryz.func125,Tryz.ntmps125
 go_wp2
 rw [Lib.run_neq_ptr_same w _ Tryz.underlying107 hj]
 go_wp2
 go_end0
 exact ⟨rfl,rfl⟩
theorem bld_copy_fresh (b:Nat) (w:World) (h0:w.cell? ⟨b,0,none⟩=some (.pointer none)) (hsh:w.shape? b=some (109,2)) (hfz:w.frozen? ⟨b,0,none⟩=false) :
  Calls Tryz.prog 125 #[.pointer (some ⟨b,0,none⟩)] w fun e w'=>e=.returned (.tuple #[])∧w'=w.setCell ⟨b,0,none⟩ (.pointer (some ⟨b,0,none⟩)):=by
 obtain ⟨j,hj,hjs⟩:=Option.map_eq_some_iff.1 bldSize
 go_enter Tryz.func125,Tryz.ntmps125
 go_wp2
 rw [Lib.run_to_unsafe w ⟨b,0,none⟩ Tryz.underlying107 Tryz.underlying266 hj (by rw [hjs];decide) hsh (Nat.zero_lt_succ 1)]
 simp only [Result.andThen]
 rw [Oper.upon_value]
 go_wp2
 rw [run_callFunc_extern Tryz.func184 (by kernel_rfl) (by kernel_rfl) (by kernel_rfl) (e:=Extern.AbiNoEscape.same) (by kernel_rfl)]
 rw [Lib.run_noEscape]
 simp only [Result.andThen]
 rw [Oper.upon_value]
 go_wp2
 rw [Lib.run_from_unsafe w ⟨b,0,none⟩ Tryz.underlying266 Tryz.underlying107 hj hsh bldLies]
 simp only [Result.andThen]
 rw [Oper.upon_value]
 go_wp2
 go_end0
 exact ⟨rfl,rfl⟩
theorem bld_copy (w:World) (b:Nat) (p v:Value) (hp:p=.pointer none∨p=.pointer (some ⟨b,0,none⟩)) (hbk:w.heap[b]?=some (.cells #[p,v] 109 (0,0))) :
  Calls Tryz.prog 125 #[.pointer (some ⟨b,0,none⟩)] w fun e w'=>e=.returned (.tuple #[])∧w'.heap[b]?=some (.cells #[.pointer (some ⟨b,0,none⟩),v] 109 (0,0))∧Kept (fun x=>x=b) w w'∧w'.heap.size=w.heap.size:=by
 have c0:w.cell? ⟨b,0,none⟩=some p:=by rw [Lib.cell_of_heap hbk];rfl
 rcases hp with rfl|rfl
 ·refine (bld_copy_fresh b w c0 (by simp [World.shape?,hbk]) (Lib.frozen_of_heap hbk 0)).mono ?_
  rintro e w' ⟨rfl,rfl⟩
  refine ⟨rfl,heap_setCell_same w b 0 _ _ _ hbk,⟨rfl,rfl,rfl,by simp [World.setCell],fun k hk hne=>heap_setCell_other w _ k _ hne⟩,by simp [World.setCell]⟩
 ·refine (bld_copy_used b w c0).mono ?_
  rintro e w' ⟨rfl,rfl⟩
  exact ⟨rfl,hbk,Kept.refl _ _,rfl⟩
theorem bldW_ok:BldW Tryz.prog 58 109 5:=by
 intro w b φ l s hφ h hl
 obtain ⟨p,v,hp,hbk,hown,hfp⟩:=h
 obtain ⟨i0,hi,hz0,hz1,hz2⟩:=info_parts (P:=Tryz.prog) byteInfo
 have hblt:b < w.heap.size:=(Array.getElem?_eq_some_iff.1 hbk).1
 go_enter Tryz.func58,Tryz.ntmps58
 go_wp2_with (go_at_call 125;refine (bld_copy w b p v hp hbk).mono ?_)
 rintro e w1 ⟨rfl,hb1,hk1,hs1⟩
 have hown1:w1.ownsRowF 0 5 1 v l.length (Lib.byteCells l):=ownsRowF_keep hown fun g hg=>hk1.block g (hown.lt g hg).2 (fun e=>(hfp g hg).2 e)
 have c0:w1.cell? ⟨b,0,none⟩=some (.pointer (some ⟨b,0,none⟩)):=by rw [Lib.cell_of_heap hb1];rfl
 have c1:w1.cell? ⟨b,1,none⟩=some v:=by rw [Lib.cell_of_heap hb1];rfl
 obtain ⟨v',w2,hrun,hown',hgrow,hnew⟩:=append_strF (P:=Tryz.prog) w1 57 9 57 5 i0 Tryz.underlying57 Tryz.underlying9 hi hz0 hz1 hz2 v l.length _ hown1 (bs s) (by rw [bs_size];omega)
 obtain ⟨ao,n',cap,rfl⟩:∃ ao n' cap,v'=.slice ao n' cap:=by
  rcases hown'.2 with ⟨hv,_⟩|⟨g,cap,cur,fz,hv,_⟩
  ·exact ⟨_,_,_,hv⟩
  ·exact ⟨_,_,_,hv⟩
 have hb2:w2.heap[b]?=some (.cells #[.pointer (some ⟨b,0,none⟩),v] 109 (0,0)):=by
  rw [hgrow.block b (by omega) (fun e=>(hfp b e.symm).2 rfl)]
  exact hb1
 have d0:w2.cell? ⟨b,0,none⟩=some (.pointer (some ⟨b,0,none⟩)):=by rw [Lib.cell_of_heap hb2];rfl
 have d1:w2.cell? ⟨b,1,none⟩=some v:=by rw [Lib.cell_of_heap hb2];rfl
 have f1:w2.frozen? ⟨b,1,none⟩=false:=Lib.frozen_of_heap hb2 1
 have hsz:w.heap.size≤w2.heap.size:=by have:=hgrow.size;omega
 have hvb:∀ g,(Value.slice ao n' cap).ownBlock=some g→φ g∨(w.heap.size≤g∧g < w2.heap.size):=fun g hg=>by
  rcases hnew g hg with h|h
  ·exact .inl (hfp g h).1
  ·exact .inr ⟨by omega,(hown'.lt g hg).2⟩
 have hvb2:∀ g,(Value.slice ao n' cap).ownBlock=some g→g≠b:=fun g hg e=>by
  rcases hnew g hg with h|h
  ·exact (hfp g h).2 e
  ·omega
 go_wp2_with (at_builtin;refine wpList_plain rfl fun K hK=>run_appendStr rfl rfl rfl hrun (hK _ _ ?_))
 go_ret2
 refine ⟨by rw [bs_size];rfl,⟨?_,?_,?_,by simp [World.setCell];exact hsz,fun k hk hn=>?_⟩,.pointer (some ⟨b,0,none⟩),.slice ao n' cap,.inr rfl,?_,?_,fun g hg=>⟨?_,hvb2 g hg⟩⟩
 ·exact hgrow.os.trans hk1.os
 ·exact hgrow.tape.trans hk1.tape
 ·exact hgrow.output.trans hk1.output
 ·have hkb:k≠b:=fun e=>hn (e ▸ hφ)
  simp only [World.setCell,Array.getElem?_modify]
  rw [if_neg (fun h=>hkb h.symm),hgrow.block k (by omega) (fun e=>hn (hfp k e.symm).1)]
  exact hk1.block k hk hkb
 ·exact heap_setCell_same w2 b 1 _ _ _ hb2
 ·have:=ownsRowF_keep (w':=w2.setCell ⟨b,1,none⟩ (.slice ao n' cap)) hown' fun g hg=>by
   simp only [World.setCell,Array.getElem?_modify]
   rw [if_neg (fun h=>hvb2 g hg h.symm)]
  rw [bs_size] at this
  simpa [strCells_bs,Lib.byteCells,List.length_append] using this
 ·rcases hvb g hg with h|h
  ·exact .inl h
  ·exact .inr ⟨h.1,by simpa [World.setCell] using h.2⟩
theorem bldS_ok:BldS Tryz.prog 59 109 5:=by
 intro w b φ l hφ h h0
 obtain ⟨p,v,hp,hbk,hown,hfp⟩:=h
 have hl0:l.length≠0:=by simpa using h0
 obtain ⟨g,cap,cur,fz,rfl,hbg,hg,hfz,hnc,hcm,hcs,htake⟩:∃ g cap cur fz,v=.slice (some ⟨g,0,none⟩) l.length cap∧0≤g∧w.heap[g]?=some (.cells cur 5 fz)∧fz.2≤l.length*1∧l.length≤cap∧cap≤maxLen∧cur.size=cap*1∧cur.toList.take (l.length*1)=Lib.byteCells l:=by
  rcases hown.2 with⟨_,hz⟩|⟨g,cap,cur,fz,hv,r⟩
  ·exact absurd hz hl0
  ·exact ⟨g,cap,cur,fz,hv,r⟩
 have hgb:g≠b:=(hfp g rfl).2
 have c1:w.drew.cell? ⟨b,1,none⟩=some (.slice (some ⟨g,0,none⟩) l.length cap):=by
  have:w.drew.heap[b]?=some (.cells #[p,.slice (some ⟨g,0,none⟩) l.length cap] 109 (0,0)):=hbk
  rw [Lib.cell_of_heap this];rfl
 have hUS:(Builtin.unsafeString_ #[202,3] 9 #[.pointer (some ⟨g,0,none⟩),.int .i64 l.length]).run Tryz.prog w.drew=.ok (.string ⟨l.toArray⟩) (w.drew.freeze ⟨g,0,none⟩ l.length):=by
  have hg':w.drew.heap[g]?=some (.cells cur 5 fz):=hg
  refine Lib.run_unsafeString_row w.drew 202 3 9 5 Tryz.underlying202 byteCellsOf g cur.size (by simp [World.shape?,hg']) l h0 (by omega) (by unfold maxLen at hcm;omega) ?_
  intro j x hx
  exact hown.cells (g:=g) rfl j (.int .u8 x.toNat) (by simp [Lib.byteCells,hx])
 have hSD:(Builtin.unsafeSliceData_ #[57] 202 #[.slice (some ⟨g,0,none⟩) l.length cap]).run Tryz.prog w.drew=.ok (.pointer (some ⟨g,0,none⟩)) w.drew :=
  Lib.run_unsafeSliceData_row _ _ _ _ _ _ (by omega)
 have hother:∀ k,k≠g→(w.drew.freeze ⟨g,0,none⟩ l.length).heap[k]?=w.heap[k]?:=fun k hk=>by
  unfold World.freeze
  rw [if_neg hl0]
  simp only [Array.getElem?_modify]
  rw [if_neg (fun h=>hk h.symm)]
  rfl
 have hsize:(w.drew.freeze ⟨g,0,none⟩ l.length).heap.size=w.heap.size:=by
  unfold World.freeze
  rw [if_neg hl0]
  simp only [Array.size_modify]
  rfl
 have hkept:Kept φ w (w.drew.freeze ⟨g,0,none⟩ l.length):=by
  refine ⟨?_,?_,?_,Nat.le_of_eq hsize.symm,fun k hk hn=>hother k fun e=>hn (e ▸ (hfp g rfl).1)⟩
  all_goals (unfold World.freeze;rw [if_neg hl0];rfl)
 have hbld:BldIs (w.drew.freeze ⟨g,0,none⟩ l.length) 109 5 b (fun x=>φ x∨(w.heap.size≤x∧x<(w.drew.freeze ⟨g,0,none⟩ l.length).heap.size)) l:=by
  have hA:Lib.BuilderAtF 109 5 0 b p (Lib.byteCells l) w.drew:=⟨Nat.zero_le _,_,hbk,by rw [Lib.byteCells_length];exact hown,fun e=>(hfp b e).2 rfl⟩
  obtain ⟨_,v2,hb2,hown2,_⟩:=hA.froze (g:=g) (cap:=cap) (by rw [Lib.byteCells_length];exact c1)
  rw [Lib.byteCells_length] at hb2 hown2
  rw [hother b (fun e=>hgb e.symm),hbk] at hb2
  have ev:v2=.slice (some ⟨g,0,none⟩) l.length cap:=by
   simp only [Option.some.injEq,Obj.cells.injEq] at hb2
   have:=hb2.1
   simp at this
   exact this.symm
  subst ev
  exact ⟨p,_,hp,(hother b (fun e=>hgb e.symm)).trans hbk,hown2,fun x hx=>⟨.inl (hfp x hx).1,(hfp x hx).2⟩⟩
 have mixed:Tryz.prog.follows .mixedOrders=true:=by kernel_rfl
 go_enter Tryz.func59,Tryz.ntmps59
 go_wp2
 go_region_o
 all_goals (go_wp2;go_ret;exact ⟨rfl,hkept,hbld⟩)
end Go.Proofs.YtgelfflighgajaaGreatDoor
