/- A book's text, plain. -/
import Derived.Test.YtgelfflighgajaaGreatDoorLinPq
import Derived.Test.YtgelfflighgajaaGreatDoorBk1Pq
import Derived.Test.YtgelfflighgajaaGreatDoorW11Pq
set_option maxHeartbeats 8000000
set_option maxRecDepth 100000
set_option linter.unusedVariables false
set_option linter.unusedSimpArgs false
namespace Go.Proofs.YtgelfflighgajaaGreatDoor
section
def trC (cs:List (Int×Int×Bool))(d:Int):List (Int×Int×Bool):=cs.map fun c=>(c.1+d,c.2)
def trP(p:Pce)(d:Int):Pce:=⟨trC p.cs d,p.st,p.evs⟩
theorem trC_len (cs:List (Int×Int×Bool))(d:Int):(trC cs d).length=cs.length:=List.length_map _
theorem trC_at {cs:List (Int×Int×Bool)} {d:Int} {k:Nat} (h:k<cs.length):(trC cs d).getD k (0,0,false)=(cs[k].1+d,cs[k].2):=by
 unfold trC
 rw [List.getD_eq_getElem?_getD,List.getElem?_map,List.getElem?_eq_getElem h];rfl
theorem fretsOf_tr (cs:List (Int×Int×Bool))(d c:Int):fretsOf (trC cs d) c=fretsOf cs c:=by
 unfold fretsOf trC
 simp only [List.getD_eq_getElem?_getD,List.getElem?_map]
 cases cs[c.toNat-1]?<;>rfl
theorem stopE_tr (p:Pce)(d i:Int)(s:Stp)(last:Int):stopE (trP p d) i s last=stopE p i s last:=by
 have h1:(trP p d).cs.length=p.cs.length:=trC_len _ _
 have h2:fretsOf (trP p d).cs s.1=fretsOf p.cs s.1:=fretsOf_tr _ _ _
 have h3:(trP p d).evs=p.evs:=rfl
 unfold stopE
 rw [h1,h2,h3]
theorem stopsE_tr (p:Pce)(d i:Int):∀ (l:List Stp)(last:Int),stopsE (trP p d) i last l=stopsE p i last l
 | [],_=>rfl
 | s::r,last=>by
  unfold stopsE
  rw [stopE_tr,stopsE_tr p d i r]
theorem evE_tr (p:Pce)(d i:Int)(e:Ev):evE (trP p d) i e=evE p i e:=by
 unfold evE
 rw [stopsE_tr]
theorem evsE_tr (p:Pce)(d:Int):∀ (l:List Ev)(k:Nat),evsE (trP p d) k l=evsE p k l
 | [],_=>rfl
 | e::r,k=>by
  unfold evsE
  rw [evE_tr,evsE_tr p d r]
theorem pceE_tr {p:Pce} {d:Int} (h:pceE p=0)(hi:insE (trC p.cs d) p.st=0):pceE (trP p d)=0:=by
 unfold pceE at h ⊢
 have h1:insE (trP p d).cs (trP p d).st=0:=hi
 rw [if_neg (by rw [h1];exact fun x=>x rfl)]
 by_cases h0:insE p.cs p.st≠0
 ·rw [if_pos h0] at h;exact absurd h h0
 ·rw [if_neg h0] at h
  rw [evsE_tr]
  exact h
theorem pitN_tr {cs:List (Int×Int×Bool)} {st:List Int} {d c f:Int} (h:1≤c∧c≤cs.length):pitN (trC cs d) st c f=pitN cs st c f+d:=by
 have hk:(c-1).toNat<cs.length:=by omega
 unfold pitN
 rw [trC_at hk,List.getD_eq_getElem?_getD (l:=cs),List.getElem?_eq_getElem hk,Option.getD_some]
 omega
def shP(d n:Int):Int:=if n<0 then n else n+d
theorem upP_sh {d n x:Int} (hn:0≤n→0≤n+d) (hx:0≤x) (hx2:0≤x+d):upP (shP d n) (x+d)=shP d (upP n x)∧(0≤upP n x→0≤upP n x+d):=by
 by_cases h:n<0
 ·have e1:shP d n=n:=if_pos h
  have e2:upP n x=x:=if_pos (.inl h)
  have e3:upP n (x+d)=x+d:=if_pos (.inl h)
  have e4:shP d x=x+d:=if_neg (by omega)
  rw [e1,e2,e3,e4]
  exact ⟨rfl,fun _=>hx2⟩
 ·have:=hn (by omega)
  have e1:shP d n=n+d:=if_neg h
  rw [e1]
  by_cases h2:n<x
  ·have e2:upP n x=x:=if_pos (.inr h2)
   have e3:upP (n+d) (x+d)=x+d:=if_pos (.inr (by omega))
   have e4:shP d x=x+d:=if_neg (by omega)
   rw [e2,e3,e4]
   exact ⟨rfl,fun _=>hx2⟩
  ·have e2:upP n x=n:=if_neg (by omega)
   have e3:upP (n+d) (x+d)=n+d:=if_neg (by omega)
   rw [e2,e3,e1]
   exact ⟨rfl,fun _=>this⟩
theorem maxP_tr {p:Pce} {d:Int} (h0:pceE p=0) (h1:pceE (trP p d)=0) {k:Nat}:∀ (l:List Stp) (n:Int),(∀ x∈l,StpOk p k x∧StpOk (trP p d) k x)→(0≤n→0≤n+d) →
  maxP (trP p d) l (shP d n)=shP d (maxP p l n)∧(0≤maxP p l n→0≤maxP p l n+d)
 | [],n,_,h=>⟨rfl,h⟩
 | x::r,n,hl,h=>by
  obtain ⟨a,b⟩:=hl x (by simp)
  have p1:=pit_bd h0 a
  have p2:=pit_bd h1 b
  have e:pitN (trP p d).cs (trP p d).st x.1 x.2.1=pitN p.cs p.st x.1 x.2.1+d:=pitN_tr a.crs
  rw [e] at p2
  obtain ⟨q1,q2⟩:=upP_sh h p1.1 p2.1
  have:=maxP_tr h0 h1 r (upP n (pitN p.cs p.st x.1 x.2.1)) (fun y hy=>hl y (by simp [hy])) q2
  rw [← q1,← e] at this
  exact this
theorem melR_tr {p:Pce} {d:Int} (h0:pceE p=0) (h1:pceE (trP p d)=0):melR (trP p d)=(melR p).map (shP d)∧∀ x∈melR p,0≤x→0≤x+d:=by
 have key:∀ k (hk:k<p.evs.length),maxP (trP p d) p.evs[k].stops (-1)=shP d (maxP p p.evs[k].stops (-1))∧(0≤maxP p p.evs[k].stops (-1)→0≤maxP p p.evs[k].stops (-1)+d):=fun k hk=>by
  have a:=evOk_of h0 hk
  have b:=evOk_of (p:=trP p d) h1 (k:=k) hk
  exact maxP_tr h0 h1 (k:=k) p.evs[k].stops (-1) (fun x hx=>⟨a.stops x hx,b.stops x hx⟩) (fun h=>by omega)
 constructor
 ·unfold melR
  rw [List.map_map]
  show p.evs.map _=p.evs.map _
  apply List.map_congr_left
  intro e he
  obtain ⟨k,hk,rfl⟩:=List.getElem_of_mem he
  exact (key k hk).1
 ·intro x hx
  obtain ⟨e,he,rfl⟩:=List.mem_map.1 hx
  obtain ⟨k,hk,rfl⟩:=List.getElem_of_mem he
  exact (key k hk).2
theorem sung_tr {d:Int}:∀ (l:List Int),(∀ x∈l,0≤x→0≤x+d)→((l.map (shP d)).filter fun x=>!decide (x<0))=(l.filter fun x=>!decide (x<0)).map (·+d)
 | [],_=>rfl
 | x::r,h=>by
  have ih:=sung_tr r fun y hy=>h y (by simp [hy])
  have hx:=h x (by simp)
  rw [List.map_cons]
  by_cases e:x<0
  ·rw [List.filter_cons_of_neg (by simp [shP,e]),List.filter_cons_of_neg (by simp [e]),ih]
  ·have:=hx (by omega)
   rw [List.filter_cons_of_pos (by simp [shP,e];omega),List.filter_cons_of_pos (by simp;omega),List.map_cons,ih]
   simp [shP,e]
theorem difs_tr (d:Int):∀ l:List Int,difs (l.map (·+d))=difs l
 | []=>rfl
 | [x]=>rfl
 | x::y::r=>by
  show (y+d-(x+d))::difs ((y::r).map (·+d))=(y-x)::difs (y::r)
  rw [difs_tr d (y::r),show y+d-(x+d)=y-x by omega]
theorem incR_tr {p:Pce} {d:Int} (h0:pceE p=0)(h1:pceE (trP p d)=0)(n:Int):incR (trP p d) n=incR p n:=by
 obtain⟨a,b⟩:=melR_tr h0 h1
 unfold incR sungR
 rw [a,sung_tr _ b,difs_tr]
theorem incE_tr {p:Pce} {d:Int} (h0:pceE p=0)(h1:pceE (trP p d)=0)(n:Int):incE (trP p d) n=incE p n:=by
 unfold incE
 rw [h0,h1]
theorem incL_tr {p:Pce} {d:Int} (h0:pceE p=0)(h1:pceE (trP p d)=0)(n:Int):incL (trP p d) n=incL p n:=by
 unfold incL
 rw [incE_tr h0 h1,incR_tr h0 h1]
def trE (cs:List (Int×Int×Bool))(st:List Int)(d:Int):Int:=if insE cs st≠0 then insE cs st else if d < -127∨127 < d then 1 else insE (trC cs d) st
end
section
open Go.RowKit
def longB (p:Pce):Bool:=bigB p|| decide (60<p.evs.length)
theorem long_FS (p:Pce):Ctr Tryz.prog 14 [ePce p] (.sc (.bool (longB p))):=by
 refine Ctr.intro Tryz.func14 rfl Tryz.ntmps14 (Nat.le_of_ble_eq_true rfl) (bd_all rfl) fun w0 F0=>?_;dsimp only [St.init,number,Nat.reduceAdd]
 repeat refine W.go rfl ?_
 refine (?_:WL _ _ _ _ _ _)
 refine WL.vl rfl (WV.call rfl (callF Tryz.func49 rfl rfl) rfl rfl (big_FS p)) ?_
 repeat refine WL.ev rfl ?_
 refine (?_:WL _ _ _ _ _ _)
 refine WL.partG rfl rfl rfl rfl (fun hp=>?_) (fun hp=>?_)
 ·repeat (first|refine WL.ev rfl ?_|refine WL.opno rfl rfl rfl rfl rfl rfl rfl ?_)
  refine (?_:W _ _ _ _ _)
  exact W.ret (fin1 rfl rfl (sc_bool (by unfold longB;rw [hp];rfl)) rfl)
 ·repeat (first|refine WL.ev rfl ?_|refine WL.gyes rfl rfl rfl rfl ?_|refine WL.len rfl rfl zql ?_)
  refine (?_:W _ _ _ _ _)
  refine W.ret (fin1 rfl rfl (sc_bool ?_) rfl)
  unfold longB
  rw [hp,Bool.false_or]
  show decide _=decide _
  rw [decide_eq_decide];omega
theorem pcOk_of3 {p:Pce} (h:longB p=false):PcOk p:=pcOk_of2 (p:=p) (by unfold longB at h;simp only [Bool.or_eq_false_iff]at h;exact h.1)
end
section
open Go.RowKit
theorem ensE_zero {b:List En}:∀ {l:List En} {i:Nat},ensE b i l=0→∀ k (h:k<l.length),enE b (i+k) l[k]=0
 | [],_,_,k,h=>by simp at h
 | e::r,i,h0,k,h=>by
  have h1:enE b i e=0:=by
   by_cases h2:enE b i e=0
   ·exact h2
   ·have e1:ensE b i (e::r)=enE b i e:=if_neg h2
    rw [← e1];exact h0
  have e1:ensE b i (e::r)=ensE b (i+1) r:=if_pos h1
  cases k with
  | zero=>exact h1
  | succ k =>
   have:=ensE_zero (e1 ▸ h0) k (by simpa using h)
   rw [show i+1+k=i+(k+1) by omega] at this
   simpa using this
theorem bkE_zero {b:List En} (h:bkE b=0):b.length≤64∧∀ k(h:k<b.length),enE b k b[k]=0:=by
 unfold bkE at h
 by_cases h1:64<b.length
 ·rw [if_pos h1]at h;omega
 ·rw [if_neg h1]at h
  refine⟨by omega,fun k hk=>?_⟩
  have:=ensE_zero h k hk
  simpa using this
theorem enE_zero {b:List En} {i:Nat} {e:En} (h:enE b i e=0):(1≤e.s∧e.s≤4)∧pceE e.p=0∧lksR e.s e.p=[]:=by
 unfold enE at h
 by_cases h1:ttlOk e.t=false∨ttlN b e.t<i
 ·rw [if_pos h1]at h;omega
 rw [if_neg h1]at h
 by_cases h2:1≤e.s∧e.s≤4
 rotate_left
 ·rw [if_pos h2]at h;omega
 rw [if_neg (fun k=>k h2)]at h
 by_cases h3:pceE e.p=0
 rotate_left
 ·rw [if_pos h3]at h;exact absurd h h3
 rw [if_neg (fun k=>k h3)]at h
 by_cases h4:lksR e.s e.p=[]
 ·exact⟨h2,h3,h4⟩
 ·rw [if_neg h4]at h;omega
end
end Go.Proofs.YtgelfflighgajaaGreatDoor
