/- A walk that knows values as trees: a call that only looks at what is the caller's and answers plain values. -/
import Derived.Test.YthehkchjdkdbiaaGreatDoorGbGq
import Derived.Test.YthehkchjdkdbiaaGreatDoorSlGq
import Derived.Test.YthehkchjdkdbiaaGreatDoorLkEGq
set_option maxHeartbeats 4000000
set_option maxRecDepth 100000
set_option linter.unusedVariables false
set_option linter.unusedSimpArgs false
namespace Go.Proofs.YthehkchjdkdbiaaGreatDoor
section
open Go.RowKit
def nw_h(s h:Int):Nat:=if h=0 then 0 else if s=1 then h.toNat else 15
def nw_v(s:Int)(lg h:Nat):Int:=if h=0 then 0 else if s=1 then(h:Int)else(lg:Int)
def nw_5(s:Int)(x:Stp):N5:=(x.1.toNat,x.2.1.toNat,x.2.2.1.toNat,x.2.2.2.1.toNat,nw_h s x.2.2.2.2)
theorem nw_sys {s:Int} (hs:1≤s∧s≤4):s=1∨s=2∨s=3∨s=4:=by omega
theorem nw_back {s h L:Int} (hs:1≤s∧s≤4) (hb:0≤h∧h≤L) (hL:L≤15) (ok:okH s h L=true):okH s (nw_h s h) 15=true∧pH s (nw_h s h) 15=pH s h L∧nw_h s h≤15∧(0<nw_h s h↔0<h):=by
 unfold nw_h
 by_cases h0:h=0
 ·subst h0
  rw [if_pos rfl]
  exact ⟨rfl,rfl,by omega,by omega⟩
 rw [if_neg h0]
 have hh:¬ ((h:Int) == 0)=true:=by simpa using h0
 by_cases s1:s=1
 ·subst s1
  rw [if_pos rfl]
  have e:((h.toNat:Nat):Int)=h:=by omega
  have en:¬ ((h.toNat:Nat):Int)=0:=by omega
  refine ⟨?_,?_,by omega,by omega⟩
  ·unfold okH rH;simp
  ·unfold pH rH
   rw [if_neg en,if_neg h0,if_pos rfl,if_pos rfl,e]
 ·rw [if_neg s1]
  unfold okH at ok
  have hne:rH s h L≠[]:=by
   intro e
   rw [e] at ok
   simp at ok
   exact h0 ok
  unfold rH at hne
  rw [if_neg s1] at hne
  by_cases q:(s=2∨s=4)∧h=L
  ·have e2:rH s 15 15=[42]:=by unfold rH;rw [if_neg s1,if_pos ⟨q.1,rfl⟩]
   have e3:rH s h L=[42]:=by unfold rH;rw [if_neg s1,if_pos q]
   refine ⟨?_,?_,by omega,by omega⟩
   ·show ((15:Int) == 0|| !(rH s 15 15).isEmpty)=true
    rw [e2];rfl
   ·show (if (15:Int)=0 then [] else rH s 15 15)=if h=0 then [] else rH s h L
    rw [if_neg (by decide),if_neg h0,e2,e3]
  ·rw [if_neg q] at hne;exact absurd rfl hne
structure NwS(s:Int)(L:Int→Nat)(x:Stp):Prop where
 c:1≤x.1∧x.1≤14
 f:0≤x.2.1∧x.2.1≤18
 r:0≤x.2.2.1∧x.2.2.1≤3
 g:0≤x.2.2.2.1∧x.2.2.2.1≤4
 h:0≤x.2.2.2.2∧x.2.2.2.2≤(L x.1:Int)
 l:L x.1≤15
 z:0<x.2.2.2.2→x.2.1≠0
 k:stK s L x=true
theorem nw_cl {s crs:Int} {L:Int→Nat} {x:Stp} (hs:1≤s∧s≤4) (hx:NwS s L x) (hsp:spotErr s crs=0) (hst:standsB s crs x.1=true):nr_cl s crs (stT s L x)=some (nw_5 s x):=by
 obtain ⟨hc,hf,hr,hg,hh,hl,hz,hk⟩:=hx
 unfold stK at hk
 unfold stT nw_5
 obtain ⟨c,f,r,g,h⟩:=x
 dsimp only at hc hf hr hg hh hl hz hk hst ⊢
 have hk2:=hk
 unfold cellOk at hk2
 simp only [Bool.and_eq_true] at hk2
 obtain ⟨b1,b2,b3,b4⟩:=nw_back hs hh zqo hk2.2
 obtain ⟨c,rfl⟩:=Int.eq_ofNat_of_zero_le (show 0≤c by omega)
 obtain ⟨f,rfl⟩:=Int.eq_ofNat_of_zero_le (show 0≤f by omega)
 obtain ⟨r,rfl⟩:=Int.eq_ofNat_of_zero_le (show 0≤r by omega)
 obtain ⟨g,rfl⟩:=Int.eq_ofNat_of_zero_le (show 0≤g by omega)
 simp only [Int.toNat_natCast]
 refine nr_cl_some hsp ⟨by omega,by omega,hst,stM_mk ⟨by omega,by omega,by omega,fun q=>?_⟩ ?_ ?_⟩
 ·exact hz (b4.1 q)
 ·unfold cellOk
  rw [hk2.1.1.1,hk2.1.1.2,hk2.1.2,b1];rfl
 ·unfold cellS
  rw [b2]
def nw_W (s:Int)(L:Int→Nat)(n:Nat)(l:List Stp):List (List UInt8):=(List.range n).map (fun j:Nat=>stF s L l ((j:Int)+1))++(l.filter fun x=>decide ((n:Int)<x.1)).map (stT s L)
def nw_body (s:Int)(L:Int→Nat)(n:Nat)(l:List Stp):List (List UInt8):=if s=2 then outL s L n l++staffL s L n l else staffL s L n l++outL s L n l
theorem nw_rev (s:Int)(L:Int→Nat)(n:Nat)(l:List Stp):nr_rev s (nw_body s L n l)=nw_W s L n l:=by
 unfold nr_rev nw_body nw_W outL staffL
 by_cases e:s=2
 ·rw [if_pos e,if_pos e,if_pos e,List.reverse_append,List.reverse_reverse]
  congr 1
  apply List.ext_getElem
  ·simp
  ·intro j h1 h2
   have hj:j<n:=by simpa using h1
   simp only [List.getElem_reverse,List.getElem_map,List.getElem_range,List.length_map,List.length_range,cAt,if_pos e]
   congr 1;omega
 ·rw [if_neg e,if_neg e,if_neg e]
  congr 1
  apply List.map_congr_left
  intro j hj
  simp only [cAt,if_neg e]
theorem nw_W_len (s:Int)(L:Int→Nat)(n:Nat)(l:List Stp):(nw_W s L n l).length=n+(l.filter fun x=>decide ((n:Int)<x.1)).length:=by unfold nw_W;simp
section
variable {s:Int} {L:Int→Nat} {n:Nat} {l:List Stp}
def nw_st (s:Int)(L:Int→Nat)(x:N5):Stp:=(x.1,x.2.1,x.2.2.1,x.2.2.2.1,nw_v s (L x.1) x.2.2.2.2)
end
end
section
open Go.RowKit
def nwB(b:UInt8):Bool:=b != 32 && b != 10 && b != 126 && b != 37
theorem nwB_of {b:UInt8} (h:nwB b=true):b≠32∧b≠10∧b≠126∧b≠37:=by
 unfold nwB at h
 simp only [Bool.and_eq_true,bne_iff_ne]at h
 exact⟨h.1.1.1,h.1.1.2,h.1.2,h.2⟩
theorem nw_spotOf {s c:Int} (hs:1≤s∧s≤4)(hc:1≤c):spotErr s (spotOf s c)=0∧standsB s (spotOf s c) c=true:=by
 unfold spotErr standsB spotOf
 rw [if_neg (fun k=>k hs)]
 by_cases q:s=4∨6<c
 ·rw [if_pos q]
  refine⟨if_neg zqo,?_⟩
  rw [if_neg (by omega)]
  rcases q with q|q<;>simp [q]
 ·rw [if_neg q]
  refine⟨if_neg zqo,?_⟩
  rw [if_pos (by omega)];simp
theorem nw_rev_mem {s:Int} {words:List (List UInt8)} {w:List UInt8}:w∈nr_rev s words↔w∈words:=by unfold nr_rev;split<;>simp
theorem nw_wds {c:UInt8} (hc:c=32):∀ (r:List (List UInt8)) (w:List UInt8),rq_NoB c w→(∀ x∈r,rq_NoB c x)→rq_wds c (joinW (w::r))=w::r
 | [],w,h,_=>by
  subst hc
  show rq_wds 32 (w++[])=[w]
  rw [List.append_nil];exact rq_wds_one 32 w h
 | y::r,w,h,hr=>by
  subst hc
  have ih:=nw_wds rfl r y (hr y (by simp)) (fun x hx=>hr x (by simp [hx]))
  show rq_wds 32 (w++32::joinW (y::r))=_
  rw [rq_wds_cons 32 _ _ h,ih]
theorem nw_scan {s:Int} {sg:List UInt8} {v i:Nat} (h:scanT (tmM s sg) 0 8=some (v,i)):v≤7∧i<3∧(v≠0∨i=0)∧tOk s v i=true∧tW v i=sg:=by
 rw [scanT_find] at h
 have h1:=List.find?_some h
 have h2:=List.mem_of_find?_eq_some h
 unfold progSigns at h2
 simp only [List.mem_flatMap,List.mem_range,List.mem_map,Prod.mk.injEq] at h2
 obtain⟨a,ha,b,hb,e1,e2⟩:=h2
 unfold tmM at h1
 simp only [Bool.and_eq_true,Bool.or_eq_true,bne_iff_ne,beq_iff_eq] at h1
 exact⟨by omega,by omega,h1.1,h1.2.1,h1.2.2⟩
section
variable {s:Int} {p:Pce} {i:Int} {e:Ev}
theorem colW_eq:colW s p i e=headW s e++(if e.tie=true then [[126]] else if e.stops.length=0 then [[37]] else nw_body s (fun c=>longestN p.evs i c) (staffN s p) e.stops):=rfl
structure NwX (s:Int) (L:Int→Nat) (x:NC):Prop where
 sg:sgOk x.v (sgD x.i) (sgT x.i)=true
 sI:sgI (sgD x.i) (sgT x.i)=x.i
 tie:x.tie=true→x.l=[]
 asc:nr_asc x.l
 st:∀ y∈x.l,NwS s L (nw_st s L y)
end
end
section
open Go.RowKit
theorem cut_ltr {l:Int}:(cut ltrs l (l+1)).length≤1:=by simp only [cut,List.length_take,List.length_drop];omega
theorem sgn_len(al:Int):(sgn al).length≤1:=by unfold sgn;split<;>(try split)<;>simp
theorem pNameW_G (l al o:Int):Ctg tabB Tryz.prog 107 [.ag [.sc (.int .i64 l),.sc (.int .i64 al),.sc (.int .i64 o)]] (.tu [.sc (.string (bs (nmA l al o))),.sc (.int .i64 (sndX l al o))]):=by
 refine Ctg.intro stabB Tryz.func107 rfl Tryz.ntmps107 (Nat.le_of_ble_eq_true rfl) (bd_all rfl) fun w0 F0 hB=>?_;dsimp only [St.init,number,Nat.reduceAdd]
 refine zqg8 ?_
 refine WL.vl rfl (WV.callG hB rfl (callF Tryz.func173 rfl rfl) rfl rfl (pSounding_G l al o)) ?_
 cases hok:sndOk l al o with
 | false =>
  have hn:nmA l al o=[]:=if_neg (by simp [hok])
  rw [(snd_no hok).1,(snd_no hok).2,hn]
  refine zqg9 ?_
  exact W.ret (fin2 rfl rfl rfl rfl rfl rfl rfl)
 | true =>
  have hn:nmA l al o=cut ltrs l (l+1)++sgn al++Lib.itoa o:=if_pos hok
  obtain ⟨⟨⟨h1,h2⟩,⟨h3,h4⟩,h5,h6⟩,hv⟩:=sndOk_of hok
  rw [(snd_ok hok).1,(snd_ok hok).2,hn]
  have hl1:(cut [67,68,69,70,71,65,66] l (l+1)).length≤1:=cut_ltr (l:=l)
  have hl2:=sgn_len al
  have hl3:=itoa_len (n:=o) zqo
  have hcb:0≤l∧l≤l+1∧l+1≤(ltrs.length:Int):=⟨h1,by omega,by simp [ltrs];omega⟩
  have hI:=itoa_G o (by unfold I64;omega)
  have hcat:(cut [67,68,69,70,71,65,66] l (l+1)++sgn al).length≤2:=by rw [List.length_append];omega
  obtain ⟨io,hio⟩:∃ z,Lib.itoa o=z:=⟨_,rfl⟩
  rw [hio] at hl3 hI ⊢
  have cases3:(al=1∧sgn al=[35])∨(al≠1∧al=-1∧sgn al=[98])∨(al≠1∧al≠-1∧sgn al=[]):=by
   unfold sgn
   by_cases h1:al=1
   ·exact .inl ⟨h1,if_pos h1⟩
   ·by_cases h2:al=-1
    ·exact .inr (.inl ⟨h1,h2,by rw [if_neg h1,if_pos h2]⟩)
    ·exact .inr (.inr ⟨h1,h2,by rw [if_neg h1,if_neg h2]⟩)
  rcases cases3 with ⟨h1,hs⟩|⟨h1,h2,hs⟩|⟨h1,h2,hs⟩
  all_goals
   rw [hs] at hcat hl2 ⊢
   refine zqg9 ?_
   refine W.drawK zqk zqk ?_
   repeat (first|refine DK.st rfl ?_|refine DK.ar rfl rfl (by unfold I64;omega) ?_|refine DK.cat rfl rfl zqs ?_|refine DK.nil ?_)
   refine DK.vl rfl (cutV_of rfl hcb) ?_
   repeat (first|refine DK.st rfl ?_|refine DK.ar rfl rfl (by unfold I64;omega) ?_|refine DK.cat rfl rfl zqs ?_|refine DK.nil ?_)
   refine DK.vl rfl (WV.callG hB rfl (callF Tryz.func108 rfl rfl) rfl rfl hI) ?_
   repeat (first|refine DK.st rfl ?_|refine DK.ar rfl rfl (by unfold I64;omega) ?_|refine DK.cat rfl rfl zqs ?_|refine DK.nil ?_)
   refine zqg9 ?_
   exact W.ret (fin2 rfl rfl rfl rfl rfl rfl rfl)
end
section
open Go.RowKit
section
variable {P:Program} {C:Cx} {σ:St} {ops:Array Oper} {l:List Oper} {Q Q' Q1 Q2 Q3:Exit→St→Prop}
theorem QBlock.mono {id:Nat} (h:∀ e s,Q e s→Q' e s):∀ e s,QBlock id Q e s→QBlock id Q' e s:=fun e s q=>by
 cases e with
 | exit id' =>
  show if id'=id then Q' .normal s else Q' (.exit id') s
  have q:if id'=id then Q .normal s else Q (.exit id') s:=q
  by_cases e:id'=id
  ·rw [if_pos e] at q ⊢;exact h _ _ q
  ·rw [if_neg e] at q ⊢;exact h _ _ q
 | _=>exact h _ _ q
theorem QThen.mono {N N':St→Prop} (hN:∀ s,N s→N' s)(h:∀ e s,Q e s→Q' e s):∀ e s,QThen N Q e s→QThen N' Q' e s:=fun e s q=>by
 cases e with
 | normal=>exact hN s q
 | _=>exact h _ _ q
theorem WL.mono (h:WL P C ops l σ Q)(hq:∀ e s,Q e s→Q' e s):WL P C ops l σ Q':=fun G a w ok=>wpList_mono' (h G a w ok) fun e a w⟨s,g,q,o⟩=>⟨s,g,hq e s q,o⟩
theorem WL.meetB {id:Nat} {x y:Code} (σm:St)(h:WL P C ops l σ (QThen (fun s=>W P C x s (QBlock id (QThen (fun s=>Tr C s σm) Q))) Q1))(k:W P C y σm Q2) :
  WL P C ops l σ (QThen (fun s=>W P C x s (QBlock id (QThen (fun s=>W P C y s Q2) Q))) Q1) :=
 WL.mono h (QThen.mono (fun s q=>W.mono q (QBlock.mono (QThen.mono (fun s q=>W.tr q k) fun _ _ q=>q))) fun _ _ q=>q)
theorem W.meetB {id:Nat} {x y:Code} (σm:St)(h:W P C x σ (QBlock id (QThen (fun s=>Tr C s σm) Q)))(k:W P C y σm Q2):W P C x σ (QBlock id (QThen (fun s=>W P C y s Q2) Q)) :=
 W.mono h (QBlock.mono (QThen.mono (fun s q=>W.tr q k) fun _ _ q=>q))
theorem QFinM.sub {fn:Func} {res:AV} {M' M'':List (Nat×AO)} {nk':Nat} {e:Exit} (h:QFinM P fn C res M' nk' e σ) (hs:msSub M'' M'):QFinM P fn C res M'' nk' e σ :=
 ⟨h.1,fun G a w ok=>by
  obtain ⟨v,G',e1,ok',b,r⟩:=h.2 G a w ok
  have g:=msSub_at hs
  exact ⟨v,G',e1,⟨ok'.sz,ok'.df,ok'.tm,ok'.bel,ok'.fw,ok'.f0,ok'.f1,fun k o x=>ok'.ob k o (g k o x),fun k o x h1 h2=>ok'.my k o x (g k o h1) h2,fun k o k' o' x h1 h2=>ok'.dj k o k' o' x (g k o h1) (g k' o' h2),fun k o x p u h1=>ok'.dF k o x p u (g k o h1)⟩,b,r⟩⟩
theorem finMs {fn:Func} {avs:List AV} {res:AV} {M':List (Nat×AO)} {nk':Nat} (h:resL P σ fn.results.toList=some avs)(hp:avs.all (fun av=>!ownB av)=true)(e:resT avs=res)(hs:msSub M' σ.M)(hk:σ.nk=nk'):QFinM P fn C res M' nk' .ret σ :=
 QFinM.sub (finM h hp e rfl hk) hs
end
end
section
open Go.RowKit
section
variable {B:World→View→Prop} {gl:Nat} {P:Program} {C:Cx} {ops:Array Oper} {rest:List Oper} {σ σ':St} {G G':Gh} {a:Act} {w w':World} {o:Oper} {d:Tmp} {Q:Exit→St→Prop}
theorem rp_scs {F:View}:∀ {l:List AV} {xs:List Value},scs l=some xs→xs.length=l.length∧∀ (i:Nat) av u,l[i]?=some av→xs[i]?=some u→RP F av u
 | [],xs,h=>by cases h;exact ⟨rfl,fun i av u x=>by simp at x⟩
 | x::r,xs,h=>by
  cases x with
  | sc v =>
   cases hr:scs r with
   | none=>simp [scs,hr] at h
   | some vs =>
    simp [scs,hr] at h
    subst h
    obtain ⟨g1,g2⟩:=rp_scs (F:=F) hr
    refine ⟨by simp [g1],fun i av u p q=>?_⟩
    cases i with
    | zero=>cases p;cases q;exact .sc _
    | succ i=>exact g2 i av u (by simpa using p) (by simpa using q)
  | _=>simp [scs] at h
theorem rp_plV {F:View} {av:AV} {v:Value} (h:plV av=some v):RP F av v:=by
 cases av with
 | sc x=>cases h;exact .sc _
 | ag l =>
  cases hs:scs l with
  | none=>simp [plV,hs] at h
  | some xs =>
   simp [plV,hs] at h
   subst h
   obtain⟨g1,g2⟩:=rp_scs (F:=F) hs
   exact .ag l _ (by simpa using g1) fun i av u p q=>g2 i av u p (by simpa using q)
 | _=>cases h
theorem rp_plL {F:View}:∀ {l:List AV} {xs:List Value},plL l=some xs→xs.length=l.length∧∀ (i:Nat) av u,l[i]?=some av→xs[i]?=some u→RP F av u
 | [],xs,h=>by cases h;exact ⟨rfl,fun i av u x=>by simp at x⟩
 | x::r,xs,h=>by
  unfold plL at h
  split at h
  ·rename_i v vs h1 h2
   cases h
   obtain ⟨g1,g2⟩:=rp_plL (F:=F) h2
   refine ⟨by simp [g1],fun i av u p q=>?_⟩
   cases i with
   | zero=>cases p;cases q;exact rp_plV h1
   | succ i=>exact g2 i av u (by simpa using p) (by simpa using q)
  ·cases h
def plT:AV→Option Value
 | .tu l =>
  match plL l with
  | some xs=>some (.tuple xs.toArray)
  | none=>none
 | av=>plV av
theorem rp_plT {F:View} {av:AV} {v:Value} (h:plT av=some v):RP F av v:=by
 cases av with
 | tu l =>
  cases hs:plL l with
  | none=>simp [plT,hs] at h
  | some xs =>
   simp [plT,hs] at h
   subst h
   obtain⟨g1,g2⟩:=rp_plL (F:=F) hs
   exact .tu l _ (by simpa using g1) fun i av u p q=>g2 i av u p (by simpa using q)
 | _=>exact rp_plV h
theorem plT_of {F:View} {av:AV} {u v:Value} (h:plT av=some v)(r:RP F av u):u=v:=by
 cases av with
 | tu l =>
  cases hs:plL l with
  | none=>simp [plT,hs] at h
  | some xs =>
   simp [plT,hs] at h
   subst h
   obtain⟨cs,rfl,h1,h2⟩:=(R.pu (G:=⟨F,fun _=>0,fun _=>0,fun _=>undef,fun _ _=>False⟩) _ _ r).tu_of
   have e:cs.toList=xs:=plL_of (F:=F) hs (by simpa using h1) fun i av u p q=>by
    have:=h2 i av u p (by simpa using q)
    exact (by
     cases r with|tu _ _ _ r2=>exact r2 i av u p (by simpa using q))
   subst e
   simp
 | sc x=>exact plV_of (av:=.sc x) h r
 | ag l=>exact plV_of (av:=.ag l) h r
 | _=>cases h
theorem WV.nchr {x:Operand} {l:List AV} (ho:o.op=.nilCheck x)(hx:σ.ev x=some (.pr l)):WV P C o σ (.pr l) :=
 WV.val (fun G a w ok=>(ok.evr hx).1) fun G a w ok=>by
  have r:=(ok.evr hx).2
  obtain⟨p,u,ep,_,_⟩:=r.pr_of.pr_of
  rw [ep] at r
  exact⟨.pointer (some p),by unfold execOp;simp [ho,ep],r⟩
theorem Lent.prs {k:Nat} {T:TypeId} {cells:List AV} {l:List AV} (hk:look k σ.M=some (.box T cells)) (hl:∀ (j:Nat) x,l[j]?=some x→cells[j]?=some x) (ho:∀ x∈l,onB x=true):Lent C σ (.pt k 0 0) (.pr l):=fun G a w ok v h=>by
 have hF:G.F.le fun q=>w.cell? q:=fun p u x=>ok.fw p u x
 obtain ⟨p,rfl,h1,h2,h3⟩:=h.pt_of
 have hcell:∀ (j:Nat) av,l[j]?=some av→∃ u,w.cell? (p.add j)=some u∧u.oneCell'=true∧RP G.F av u:=fun j av hj=>by
  have hb:=ho av (List.mem_of_getElem? hj)
  have ho:av.own=false:=by cases av<;>first|rfl|cases hb
  obtain ⟨u,hu,hr,_⟩:=ok.cell (i:=0) (j:=0) (l:=cells) hk rfl (hl j av hj) h1 h2 h3 ho
  obtain ⟨q1,q2,_⟩:=onB_of hb hr
  exact ⟨u,hu,q1,q2⟩
 refine .pr l p (fun j=>(w.cell? (p.add j)).getD undef) (fun j av hj=>?_) (fun j av hj=>?_)
 ·obtain ⟨u,hu,q1,q2⟩:=hcell j av hj
  rw [hu];exact ⟨rfl,q1⟩
 ·obtain ⟨u,hu,q1,q2⟩:=hcell j av hj
  rw [hu];exact q2.mono hF
theorem WV.lendT (hB:Holds B gl C) {f:FuncId} {xs:Array Operand} {ts:Array TypeId} {args args':List AV} {res:AV} {rv:Value} (ho:o.op=.call { callee:=.value (.func f),args:=xs,argTypes:=ts }) (hc:∀ vs w,(callFunc f vs).run P w=.ok (.enter f vs) w)
  (hx:σ.evs xs.toList=some args) (hl:Lents C σ args args') (hst:∀ w F F',View.le F F'→B w F→B w F') (hp:plT res=some rv) (h:Ctg B P f args' res):WV P C o σ res:=by
 intro G a w ok N Q' hN
 obtain ⟨e1,e2⟩:=ok.evl hx
 obtain ⟨q1,q2⟩:=hl.at_
 have hF:G.F.le fun q=>w.cell? q:=fun p u x=>ok.fw p u x
 have hcalls:=h w (fun q=>w.cell? q) (xs.toList.map a.eval) (hst w _ _ hF (hB.1 w G.F ok.bel ok.f0)) (fun _ _ x=>x) ⟨by rw [e1,q1],fun i av u p q=>by
  obtain ⟨b,hb,hL⟩:=q2 i av p
  exact hL G a w ok u (e2 i b u hb q)⟩
 unfold Oper.wp execOp
 have ev:a.eval (.func f)=.func (.func f) #[] #[]:=rfl
 have e3:(#[]++xs.map a.eval++#[]:Array Value)=(xs.toList.map a.eval).toArray:=by apply Array.ext';simp
 simp only [ho,resolve,ev,Deferred.ofValue,invoke,Sem.run_bind,Sem.run_pure,Result.andThen_ok,hc,Oper.upon,e3]
 refine hcalls.mono fun e w1 ⟨v,F',he,hb,h1,h2,h3,h4⟩=>?_
 subst he
 have hv:=plT_of hp h4
 subst hv
 exact hN _ { G with F:=G.F } w1 (fun σ'' a'' ok''=>ok''.called hb (fun _ _ x=>x) (fun p u x=>by rw [hb.cell (cell_block (ok.fw p u x))];exact ok.fw p u x) (fun _ _ x=>.inl x)) (.pu _ _ (rp_plT hp)) (RP.bd (F:=G.F) (rp_plT hp) _)
end
end
end Go.Proofs.YthehkchjdkdbiaaGreatDoor
