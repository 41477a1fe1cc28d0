/- The closed facts of ConveyReports' statement, each in a declaration of its own (the kernel frees what it holds at a declaration's end). -/
import Derived.Test.YtockempedekkkaaGreatDoorYMJq
set_option maxHeartbeats 4000000
set_option maxRecDepth 100000
set_option linter.unusedVariables false
set_option linter.unusedSimpArgs false
namespace Go.Proofs.YtockempedekkkaaGreatDoor
open Go.RowKit Go.WideShapes Go.ChangeShapes Go.Joins Go.Deep
theorem z11i {z:Int} (h:I64 z:=by unfold I64;omega):I64 z:=h
theorem list_of {α:Type} {Q:Nat→α→Prop}:∀ (n:Nat),(∀ i,i<n→∃ x,Q i x)→∃ l:List α,l.length=n∧∀ i (h:i<l.length),Q i l[i]:=by
 intro n
 induction n with
 | zero=>intro _;exact⟨[],rfl,fun i h=>absurd h (by simp)⟩
 | succ n ih =>
  intro h
  obtain⟨l,hl,hq⟩:=ih fun i hi=>h i zqo
  obtain⟨x,hx⟩:=h n zqo
  refine⟨l++[x],by simp [hl],fun i hi=>?_⟩
  by_cases e:i<l.length
  ·rw [List.getElem_append_left e];exact hq i e
  ·have:i=n:=by simp at hi;omega
   subst this
   rw [List.getElem_append_right (by omega)]
   simpa [hl]using hx
section
variable {H:Type} {enc:TypeId×Value→H} {w:World} {base:Nat} {spare:Nat→Bool} {held:Bool}
theorem cellsInt:Tryz.prog.cellsOf 3=1:=by kernel_rfl
end
end Go.Proofs.YtockempedekkkaaGreatDoor
namespace Go.Proofs.YtockempedekkkaaGreatDoor
open Go.RowKit
section
variable {P:Program} {C:Cx} {ops:Array Oper} {o:Oper} {rest:List Oper} {σ:St} {Q:Exit→St→Prop} {d:Tmp}
theorem WL.cat {s t:List UInt8} (hd:dstB C.N o=some d)(h:catV σ o.op=some (s,t))(hl:s.length+t.length<9223372036854775808)(k:WL P C ops rest (σ.put d (.sc (.string (_root_.Go.Proofs.YtockempedekkkaaGreatDoor.bs (s++t))))) Q):WL P C ops (o::rest) σ Q:=WL.vl hd (catV_of h hl) k
end
end Go.Proofs.YtockempedekkkaaGreatDoor
namespace Go.Proofs.YtockempedekkkaaGreatDoor
open Go.RowKit Go.WideShapes Go.ChangeShapes Go.Joins Go.Deep
section
variable {H:Type} {enc:TypeId×Value→H} {w:World} {base:Nat} {spare:Nat→Bool} {held:Bool}
theorem open_rows_rp {α:Type} {T e:TypeId} {m n:Nat} {en:α→List AV} {v:Value} {x:DataW H×List MemPlace} (hu:Tryz.prog.underlying T=some (.slice e)) (hc:Tryz.prog.cellsOf e=m) (hlen:∀ a,(en a).length=m)
  (hel:∀ (k:Nat) (cs:List Value) (y:DataW H×List MemPlace),DataW.trod enc Tryz.prog w base spare held k e cs=some y→cs.length=m→∃ a:α,∀ (j:Nat) av u,(en a)[j]?=some av→cs[j]?=some u→u.oneCell'=true∧RP (fun q=>w.cell? q) av u)
  (h:DataW.trod enc Tryz.prog w base spare held n T [v]=some x):∃ l:List α,RP (fun q=>w.cell? q) (.ls m (l.map en)) v:=by
 rcases open_slice (P:=Tryz.prog) hu h with⟨h0,_⟩|⟨a,len,cap,mm,n',D,Pl,hcs,hb,hl,hm,hmm,_,hi⟩
 ·obtain rfl:v=.slice none 0 0:=by simpa using h0
  exact ⟨[],.ls m [] none 0 ⟨0,0,none⟩ (fun _ _=>undef) (by simp) (by simp) (fun h=>absurd h (by simp)) (fun i r j av h=>by simp at h) (fun i r j av h=>by simp at h)⟩
 ·obtain rfl:v=.slice (some a) len cap:=by simpa using hcs
  have hlm:len≤mm:=by rw [hmm];split<;>omega
  obtain ⟨l,hll,hq⟩:=list_of (Q:=fun i (x:α×List Value)=>(∀ j,j<m→∃ u,x.2[j]?=some u∧w.cell? (a.add (i*m+j))=some u)∧∀ (j:Nat) av u,(en x.1)[j]?=some av→x.2[j]?=some u→u.oneCell'=true∧RP (fun q=>w.cell? q) av u) len (fun i hil=>by
   obtain ⟨cs',hc',ht'⟩:=hi i zqo
   rw [hc] at hc'
   obtain ⟨_,hcl,hat⟩:=World.cells?_some hc'
   obtain ⟨b,hb2⟩:=hel _ _ _ ht' hcl
   refine ⟨(b,cs'),fun j hj=>?_,hb2⟩
   have:=hat j hj
   rw [add_of_add] at this
   exact ⟨cs'[j]'(by omega),List.getElem?_eq_getElem _,by rw [this];exact List.getElem?_eq_getElem _⟩)
  refine ⟨l.map (·.1),?_⟩
  have hlm2:len=((l.map (·.1)).map en).length:=by simp [hll]
  have key:∀ (i:Nat) r (j:Nat) av,((l.map (·.1)).map en)[i]?=some r→r[j]?=some av→∃ x u,l[i]?=some x∧x.2[j]?=some u∧w.cell? (a.add (i*m+j))=some u∧u.oneCell'=true∧RP (fun q=>w.cell? q) av u:=fun i r j av hr hav=>by
   rw [List.map_map,List.getElem?_map] at hr
   cases hx:l[i]? with
   | none=>simp [hx] at hr
   | some x =>
    rw [hx] at hr
    obtain rfl:en x.1=r:=by simpa using hr
    obtain ⟨hkl,hkx⟩:=List.getElem?_eq_some_iff.1 hx
    have q:=hq i hkl
    rw [hkx] at q
    have hj:j<m:=by have:=(List.getElem?_eq_some_iff.1 hav).1;rw [hlen] at this;exact this
    obtain ⟨u,hu1,hu2⟩:=q.1 j hj
    obtain ⟨q1,q2⟩:=q.2 j av u hav hu1
    exact ⟨x,u,rfl,hu1,hu2,q1,q2⟩
  rw [hlm2]
  refine .ls m _ (some a) cap a (fun i j=>((l[i]?).bind fun x=>x.2[j]?).getD undef) (by rw [← hlm2];exact hl) (fun r hr=>?_) (fun _=>rfl) (fun i r j av hr hav=>?_) (fun i r j av hr hav=>?_)
  ·obtain ⟨x,_,rfl⟩:=List.mem_map.1 hr;exact hlen x
  ·obtain ⟨x,u,h1,h2,h3,h4,_⟩:=key i r j av hr hav
   simp only [h1,Option.bind_some,h2,Option.getD_some]
   exact ⟨h3,h4⟩
  ·obtain ⟨x,u,h1,h2,_,_,h5⟩:=key i r j av hr hav
   simp only [h1,Option.bind_some,h2,Option.getD_some]
   exact h5
theorem open_intcell {k:Nat} {u:Value} {y:Option (DataW H×List MemPlace)} (h:DataW.trod enc Tryz.prog w base spare held k 3 [u]=y)(hy:y.isSome=true):∃ z:Int,u=.int .i64 z:=by
 obtain⟨y,rfl⟩:=Option.isSome_iff_exists.1 hy
 obtain⟨z,e,_⟩:=DataW.trod_int Tryz.underlying3 h
 exact⟨z,by simpa using e⟩
end
end Go.Proofs.YtockempedekkkaaGreatDoor
namespace Go.Proofs.YtockempedekkkaaGreatDoor
open Go.RowKit Go.WideShapes Go.ChangeShapes Go.Joins Go.Deep
section
variable {H:Type} {enc:TypeId×Value→H} {w:World} {base:Nat} {spare:Nat→Bool} {held:Bool}
theorem cellsLack:Tryz.prog.cellsOf 53=3:=by kernel_rfl
theorem open_lacks_rp {n:Nat} {v:Value} {x:DataW H×List MemPlace} (h:DataW.trod enc Tryz.prog w base spare held n 22 [v]=some x):∃ l:List Lck,RP (fun q=>w.cell? q) (.ls 3 (l.map eLk)) v :=
 open_rows_rp (en:=eLk) Tryz.underlying22 cellsLack (fun _=>rfl) (fun k cs y hy hl=>by
  match cs,hl with
  | [u0,u1,u2],_ =>
   obtain ⟨ys,n2,_,_,_,hys,hf⟩:=DataW.trod_struct Tryz.underlying53 hy
   have f0:DataW.trod enc Tryz.prog w base spare held n2 3 [u0]=ys[0]?:=by simpa [cellsInt] using hf 0 _ rfl
   have f1:DataW.trod enc Tryz.prog w base spare held n2 3 [u1]=ys[1]?:=by simpa [cellsInt] using hf 1 _ rfl
   have f2:DataW.trod enc Tryz.prog w base spare held n2 3 [u2]=ys[2]?:=by simpa [cellsInt] using hf 2 _ rfl
   have gy:∀ j,j<3→(ys[j]?).isSome=true:=fun j hj=>by rw [List.getElem?_eq_getElem (by rw [hys];exact hj)];rfl
   obtain ⟨z0,rfl⟩:=open_intcell f0 (gy 0 zqo)
   obtain ⟨z1,rfl⟩:=open_intcell f1 (gy 1 zqo)
   obtain ⟨z2,rfl⟩:=open_intcell f2 (gy 2 zqo)
   refine ⟨(z0,z1,z2),fun j av u a b=>?_⟩
   match j with
   | 0=>cases a;cases b;exact ⟨rfl,.sc _⟩
   | 1=>cases a;cases b;exact ⟨rfl,.sc _⟩
   | 2=>cases a;cases b;exact ⟨rfl,.sc _⟩
   | j+3=>simp [eLk] at a) h
theorem open_lacks_arg {r:Reach} {b0:Nat} {v:Value} {d:DataW H} {p:List MemPlace} (hv:Value.okWide Tryz.prog w r b0 22 v) (h:DataW.Trod enc Tryz.prog w base spare held 22 v d p) :
  ∃ l:List Lck,RP (fun q=>w.cell? q) (.ls 3 (l.map eLk)) v:=by
 obtain ⟨a0,len,cap,rfl⟩:=okWide_slice Tryz.underlying22 hv
 obtain ⟨fuel,hf⟩:=h
 exact open_lacks_rp (by simpa [Value.cells] using hf)
end
end Go.Proofs.YtockempedekkkaaGreatDoor
namespace Go.Proofs.YtockempedekkkaaGreatDoor
open Go.RowKit
theorem rq_prV_rep {l:List (Int×Int×Int)} (h:∀ x∈l,rq_rkOk x=true):rq_prV (l.map rq_rkT) []=some l:=by
 unfold rq_prV
 rw [if_pos rfl]
 have:(l.map rq_rkT).mapM (fun t=>rq_rLn (rq_wds 32 t))=some l:=by
  induction l with
  | nil=>rfl
  | cons x r ih=>rw [List.map_cons,List.mapM_cons,rq_rLn_of (h x (by simp)) rfl,ih (fun y hy=>h y (by simp [hy]))];rfl
 exact this
end Go.Proofs.YtockempedekkkaaGreatDoor
namespace Go.Proofs.YtockempedekkkaaGreatDoor
open Go.RowKit
theorem decDigits_len:∀ (k u:Nat),u<10 ^ (k+1)→(Lib.decDigits u).length≤k+1
 | 0,u,h=>by rw [Lib.decDigits,dif_pos (by simpa using h)];simp
 | k+1,u,h=>by
  rw [Lib.decDigits]
  split
  ·simp
  ·have h2:u/10<10 ^ (k+1):=by rw [Nat.div_lt_iff_lt_mul (by omega)];rw [Nat.pow_succ] at h;exact h
   have:=decDigits_len k (u/10) h2
   rw [List.length_append];simp;omega
theorem itoa_len {n:Int} (h:-9223372036854775808≤n∧n≤9223372036854775807):(Lib.itoa n).length≤20:=by
 unfold Lib.itoa
 split
 ·have:=decDigits_len 18 n.natAbs zqo
  simp;omega
 ·have:=decDigits_len 18 n.toNat zqo
  omega
theorem itoa_nat (n:Int)(h:0≤n):Lib.itoa n=Lib.decDigits n.toNat:=if_neg (by omega)
theorem digit_all:((List.range 10).all fun n=>cut [48,49,50,51,52,53,54,55,56,57] ((n:Nat):Int) (((n:Nat):Int)+1) == [UInt8.ofNat (48+n)])=true:=by decide +kernel
theorem digit_cut (n:Nat) (h:n<10):cut [48,49,50,51,52,53,54,55,56,57] ((n:Nat):Int) (((n:Nat):Int)+1)=[UInt8.ofNat (48+n)]:=by
 have:=List.all_eq_true.1 digit_all n (List.mem_range.2 h)
 simpa using this
theorem itoa_ten (n:Int) (h:10≤n):Lib.itoa n=Lib.itoa (n/10)++cut [48,49,50,51,52,53,54,55,56,57] (n % 10) (n % 10+1):=by
 obtain ⟨k,rfl⟩:=Int.eq_ofNat_of_zero_le (show 0≤n by omega)
 rw [itoa_nat _ (by omega),itoa_nat _ (by omega),Int.toNat_natCast,Lib.decDigits,dif_neg (by omega)]
 have e1:((k:Int)/10).toNat=k/10:=by omega
 have e2:(k:Int) % 10=((k % 10:Nat):Int):=by omega
 rw [e1,e2,digit_cut _ (by omega)]
theorem itoa_one (n:Int) (h:0≤n∧n<10):Lib.itoa n=cut [48,49,50,51,52,53,54,55,56,57] (n % 10) (n % 10+1):=by
 obtain ⟨k,rfl⟩:=Int.eq_ofNat_of_zero_le h.1
 have e2:(k:Int) % 10=((k:Nat):Int):=by omega
 rw [itoa_nat _ (by omega),Int.toNat_natCast,Lib.decDigits,dif_pos (by omega),e2,digit_cut _ (by omega)]
end Go.Proofs.YtockempedekkkaaGreatDoor
namespace Go.Proofs.YtockempedekkkaaGreatDoor
open Go.RowKit
theorem rDecR_nat:∀ (n:Nat) (k:Nat),k≤n→k≤1000000000→Ctr Tryz.prog 17 [.sc (.int .i64 (k:Int))] (.sc (.string (bs (Lib.itoa k)))):=by
 intro n
 induction n with
 | zero =>
  intro k hk _
  obtain rfl:k=0:=by omega
  have ht:=itoa_one ((0:Nat):Int) zqo
  rw [ht]
  have hcb:0≤((0:Nat):Int) % 10∧((0:Nat):Int) % 10≤((0:Nat):Int) % 10+1∧((0:Nat):Int) % 10+1≤(([48,49,50,51,52,53,54,55,56,57]:List UInt8).length:Int):=⟨by omega,by omega,by simp⟩
  refine zqe Tryz.func17 Tryz.ntmps17 fun w0 F0=>?_;dsimp only [St.init,number,Nat.reduceAdd]
  repeat (first|refine W.gob rfl ?_|refine WL.nil ?_|refine WL.bt rfl rfl rfl zqo ?_|refine WL.bf rfl rfl rfl zqo ?_|refine WL.e1 rfl ?_|refine WL.ar rfl rfl z11i ?_|refine WL.div rfl rfl zqo ?_|refine WL.cat rfl rfl zqs ?_|refine W.condT rfl ?_|refine W.condF rfl ?_)
  (first|refine (?_:W _ _ _ _ _)|refine (?_:WL _ _ _ _ _ _)|skip)
  try dsimp only [St.put,Nat.reduceAdd]
  refine WL.cut rfl rfl hcb ?_
  repeat (first|refine W.gob rfl ?_|refine WL.nil ?_|refine WL.bt rfl rfl rfl zqo ?_|refine WL.bf rfl rfl rfl zqo ?_|refine WL.e1 rfl ?_|refine WL.ar rfl rfl z11i ?_|refine WL.div rfl rfl zqo ?_|refine WL.cat rfl rfl zqs ?_|refine W.condT rfl ?_|refine W.condF rfl ?_)
  (first|refine (?_:W _ _ _ _ _)|refine (?_:WL _ _ _ _ _ _)|skip)
  try dsimp only [St.put,Nat.reduceAdd]
  exact W.ret zqr
 | succ n ih =>
  intro k hk hb
  have hcb:0≤(k:Int) % 10∧(k:Int) % 10≤(k:Int) % 10+1∧(k:Int) % 10+1≤(([48,49,50,51,52,53,54,55,56,57]:List UInt8).length:Int):=⟨by omega,by omega,by simp;omega⟩
  have hcl:(cut [48,49,50,51,52,53,54,55,56,57] ((k:Int) % 10) ((k:Int) % 10+1)).length≤1:=by simp only [cut,List.length_take,List.length_drop];omega
  by_cases h10:k < 10
  ·rw [itoa_one (k:Int) (by omega)]
   refine zqe Tryz.func17 Tryz.ntmps17 fun w0 F0=>?_;dsimp only [St.init,number,Nat.reduceAdd]
   repeat (first|refine W.gob rfl ?_|refine WL.nil ?_|refine WL.bt rfl rfl rfl zqo ?_|refine WL.bf rfl rfl rfl zqo ?_|refine WL.e1 rfl ?_|refine WL.ar rfl rfl z11i ?_|refine WL.div rfl rfl zqo ?_|refine WL.cat rfl rfl zqs ?_|refine W.condT rfl ?_|refine W.condF rfl ?_)
   (first|refine (?_:W _ _ _ _ _)|refine (?_:WL _ _ _ _ _ _)|skip)
   try dsimp only [St.put,Nat.reduceAdd]
   refine WL.cut rfl rfl hcb ?_
   repeat (first|refine W.gob rfl ?_|refine WL.nil ?_|refine WL.bt rfl rfl rfl zqo ?_|refine WL.bf rfl rfl rfl zqo ?_|refine WL.e1 rfl ?_|refine WL.ar rfl rfl z11i ?_|refine WL.div rfl rfl zqo ?_|refine WL.cat rfl rfl zqs ?_|refine W.condT rfl ?_|refine W.condF rfl ?_)
   (first|refine (?_:W _ _ _ _ _)|refine (?_:WL _ _ _ _ _ _)|skip)
   try dsimp only [St.put,Nat.reduceAdd]
   exact W.ret zqr
  ·have hih:=ih (k/10) zqo zqo
   have hil:=itoa_len (n:=((k/10:Nat):Int)) zqo
   have ht:=itoa_ten (k:Int) zqo
   have e:((k/10:Nat):Int)=(k:Int)/10:=by omega
   rw [e] at hih hil
   rw [ht]
   refine zqe Tryz.func17 Tryz.ntmps17 fun w0 F0=>?_;dsimp only [St.init,number,Nat.reduceAdd]
   repeat (first|refine W.gob rfl ?_|refine WL.nil ?_|refine WL.bt rfl rfl rfl zqo ?_|refine WL.bf rfl rfl rfl zqo ?_|refine WL.e1 rfl ?_|refine WL.ar rfl rfl z11i ?_|refine WL.div rfl rfl zqo ?_|refine WL.cat rfl rfl zqs ?_|refine W.condT rfl ?_|refine W.condF rfl ?_)
   (first|refine (?_:W _ _ _ _ _)|refine (?_:WL _ _ _ _ _ _)|skip)
   try dsimp only [St.put,Nat.reduceAdd]
   refine WL.cut rfl rfl hcb ?_
   repeat (first|refine W.gob rfl ?_|refine WL.nil ?_|refine WL.bt rfl rfl rfl zqo ?_|refine WL.bf rfl rfl rfl zqo ?_|refine WL.e1 rfl ?_|refine WL.ar rfl rfl z11i ?_|refine WL.div rfl rfl zqo ?_|refine WL.cat rfl rfl zqs ?_|refine W.condT rfl ?_|refine W.condF rfl ?_)
   (first|refine (?_:W _ _ _ _ _)|refine (?_:WL _ _ _ _ _ _)|skip)
   try dsimp only [St.put,Nat.reduceAdd]
   refine WL.vl rfl (zqc Tryz.func17 hih) ?_
   repeat (first|refine W.gob rfl ?_|refine WL.nil ?_|refine WL.bt rfl rfl rfl zqo ?_|refine WL.bf rfl rfl rfl zqo ?_|refine WL.e1 rfl ?_|refine WL.ar rfl rfl z11i ?_|refine WL.div rfl rfl zqo ?_|refine WL.cat rfl rfl zqs ?_|refine W.condT rfl ?_|refine W.condF rfl ?_)
   (first|refine (?_:W _ _ _ _ _)|refine (?_:WL _ _ _ _ _ _)|skip)
   try dsimp only [St.put,Nat.reduceAdd]
   exact W.ret zqr
theorem rDecR_FS (n:Int) (h:0≤n∧n≤1000000000):Ctr Tryz.prog 17 [.sc (.int .i64 n)] (.sc (.string (bs (Lib.itoa n)))):=by
 obtain ⟨k,rfl⟩:=Int.eq_ofNat_of_zero_le h.1
 exact rDecR_nat k k (Nat.le_refl _) zqo
theorem rq_nameR {x:Int} (h:1≤x∧x≤8)(hl:x.toNat<rq_nmR.length):rq_nmR[x.toNat]=rq_nmW x:=by
 have e:x.toNat=(x-1).toNat+1:=by omega
 have hl2:(x-1).toNat<rq_nmL.length:=by
  have:rq_nmR.length=9:=rfl
  have:rq_nmL.length=8:=rfl
  omega
 have e2:rq_nmR[x.toNat]?=rq_nmL[(x-1).toNat]?:=by rw [e];rfl
 rw [List.getElem?_eq_getElem hl,List.getElem?_eq_getElem hl2]at e2
 rw [Option.some.inj e2,rq_name h hl2]
theorem rReport_FS (l:List Lck) (hl:l.length≤100000):Ctr Tryz.prog 7 [.ls 3 (l.map eLk)] (.tu [.sc (.string (bs (rq_rpS l))),.sc (.int .i64 (rq_rpE l))]):=by
 have hnl:rq_nmR.length=9:=rfl
 refine zqe Tryz.func7 Tryz.ntmps7 fun w0 F0=>?_;dsimp only [St.init,number,Nat.reduceAdd]
 repeat (first|refine W.gob rfl ?_|refine WL.nil ?_|refine WL.bt rfl rfl rfl zqo ?_|refine WL.bf rfl rfl rfl zqo ?_|refine WL.e1 rfl ?_|refine WL.gyes rfl rfl rfl rfl ?_|refine WL.opno rfl rfl rfl rfl rfl rfl rfl ?_|refine WL.ar rfl rfl z11i ?_|refine WL.len rfl rfl zql ?_|refine WL.idx rfl rfl zqo zqm ?_|refine W.condT rfl ?_|refine W.condF rfl ?_)
 (first|refine (?_:W _ _ _ _ _)|refine (?_:WL _ _ _ _ _ _)|skip)
 try dsimp only [St.put,Nat.reduceAdd]
 refine W.loop (fun k:Nat=>k≤l.length∧∀ j (hj:j < l.length),j < k→rq_rkOk l[j]=true) (fun k=>⟨[(0,.ls 3 (l.map eLk)),(4,.sc (.string (bs (rq_rpT (l.take k))))),(5,.sc (.int .i64 k))],[],0⟩) (fun k=>l.length - k) 0 ⟨by omega,fun j hj h=>absurd h zqo⟩ (zqt id) fun k hk=>?_
 obtain ⟨hk,hall⟩:=hk
 by_cases hlt:k < l.length
 rotate_left
 ·obtain rfl:k=l.length:=by omega
  have ha:=rq_all (l:=l) fun j hj=>hall j hj hj
  rw [ha.1,ha.2,List.take_length]
  repeat (first|refine W.gob rfl ?_|refine WL.nil ?_|refine WL.bt rfl rfl rfl zqo ?_|refine WL.bf rfl rfl rfl zqo ?_|refine WL.e1 rfl ?_|refine WL.gyes rfl rfl rfl rfl ?_|refine WL.opno rfl rfl rfl rfl rfl rfl rfl ?_|refine WL.ar rfl rfl z11i ?_|refine WL.len rfl rfl zql ?_|refine WL.idx rfl rfl zqo zqm ?_|refine W.condT rfl ?_|refine W.condF rfl ?_)
  (first|refine (?_:W _ _ _ _ _)|refine (?_:WL _ _ _ _ _ _)|skip)
  try dsimp only [St.put,Nat.reduceAdd]
  exact W.ret (fin2 rfl rfl rfl rfl rfl rfl rfl)
 cases hx:rq_rkOk l[k] with
 | false =>
  have hc:=rq_cases hx
  have hb:=rq_bad hlt hx
  rw [hb.1,hb.2]
  clear hall hb hx
  rcases hc with hc|hc|hc|hc|hc|hc
  all_goals
   repeat (first|refine W.gob rfl ?_|refine WL.nil ?_|refine WL.bt rfl rfl rfl zqo ?_|refine WL.bf rfl rfl rfl zqo ?_|refine WL.e1 rfl ?_|refine WL.gyes rfl rfl rfl rfl ?_|refine WL.opno rfl rfl rfl rfl rfl rfl rfl ?_|refine WL.ar rfl rfl z11i ?_|refine WL.len rfl rfl zql ?_|refine WL.idx rfl rfl zqo zqm ?_|refine W.condT rfl ?_|refine W.condF rfl ?_)
   (first|refine (?_:W _ _ _ _ _)|refine (?_:WL _ _ _ _ _ _)|skip)
   try dsimp only [St.put,Nat.reduceAdd]
   exact W.ret (fin2 rfl rfl rfl rfl rfl rfl rfl)
 | true =>
  have hc:=of_decide_eq_true hx
  have hlen:=rq_take_len hk hall
  have hrow:=rq_rpT_at hlt
  have hr13:=(rq_rkT_of hx).1
  have hnm:=rq_nameR (x:=l[k].2.2) ⟨by omega,by omega⟩ zqo
  have hi1:=rDecR_FS l[k].1 zqo
  have hi2:=rDecR_FS l[k].2.1 zqo
  have hnext:∀ j (hj:j < l.length),j < k+1→rq_rkOk l[j]=true:=fun j hj h=>by
   by_cases e:j=k
   ·subst e;exact hx
   ·exact hall j hj zqo
  unfold rq_rkT at hrow hr13
  obtain ⟨a,ha⟩:∃ z,Lib.itoa l[k].1=z:=⟨_,rfl⟩
  obtain ⟨b,hb⟩:∃ z,Lib.itoa l[k].2.1=z:=⟨_,rfl⟩
  obtain ⟨nm,hn⟩:∃ z,rq_nmW l[k].2.2=z:=⟨_,rfl⟩
  obtain ⟨cc,hcc⟩:∃ z,rq_rpT (l.take k)=z:=⟨_,rfl⟩
  rw [ha,hb,hn] at hrow hr13
  rw [ha] at hi1
  rw [hb] at hi2
  rw [hn] at hnm
  rw [hcc] at hlen hrow ⊢
  simp only [List.length_append,List.length_cons,List.length_nil] at hr13
  have hrow2:rq_rpT (l.take (k+1))=cc++a++[32]++b++[32]++nm++[10]:=by rw [hrow];simp [List.append_assoc]
  have l1:(cc++a).length≤1500000:=by rw [List.length_append];omega
  have l2:(cc++a++[32]).length≤1500001:=by simp only [List.length_append,List.length_cons,List.length_nil] at l1 ⊢;omega
  have l3:(cc++a++[32]++b).length≤1500020:=by simp only [List.length_append,List.length_cons,List.length_nil] at l1 ⊢;omega
  have l4:(cc++a++[32]++b++[32]).length≤1500021:=by simp only [List.length_append,List.length_cons,List.length_nil] at l1 ⊢;omega
  have l5:(cc++a++[32]++b++[32]++nm).length≤1500041:=by simp only [List.length_append,List.length_cons,List.length_nil] at l1 ⊢;omega
  clear hall hx
  repeat (first|refine W.gob rfl ?_|refine WL.nil ?_|refine WL.bt rfl rfl rfl zqo ?_|refine WL.bf rfl rfl rfl zqo ?_|refine WL.e1 rfl ?_|refine WL.gyes rfl rfl rfl rfl ?_|refine WL.opno rfl rfl rfl rfl rfl rfl rfl ?_|refine WL.ar rfl rfl z11i ?_|refine WL.len rfl rfl zql ?_|refine WL.idx rfl rfl zqo zqm ?_|refine W.condT rfl ?_|refine W.condF rfl ?_)
  (first|refine (?_:W _ _ _ _ _)|refine (?_:WL _ _ _ _ _ _)|skip)
  try dsimp only [St.put,Nat.reduceAdd]
  refine W.drawK zqk zqk ?_
  repeat (first|refine DK.st rfl ?_|refine DK.idx rfl rfl zqo zqm ?_|refine DK.cat rfl rfl zqs ?_|refine DK.nil ?_)
  refine DK.vl rfl (zqc Tryz.func17 hi1) ?_
  repeat (first|refine DK.st rfl ?_|refine DK.idx rfl rfl zqo zqm ?_|refine DK.cat rfl rfl zqs ?_|refine DK.nil ?_)
  refine DK.vl rfl (zqc Tryz.func17 hi2) ?_
  repeat (first|refine DK.st rfl ?_|refine DK.idx rfl rfl zqo zqm ?_|refine DK.cat rfl rfl zqs ?_|refine DK.nil ?_)
  refine DK.vl rfl (zqc Tryz.func18 rWords4_FS) ?_
  repeat (first|refine DK.st rfl ?_|refine DK.idx rfl rfl zqo zqm ?_|refine DK.cat rfl rfl zqs ?_|refine DK.nil ?_)
  rw [hnm]
  repeat (first|refine DK.st rfl ?_|refine DK.idx rfl rfl zqo zqm ?_|refine DK.cat rfl rfl zqs ?_|refine DK.nil ?_)
  repeat (first|refine W.gob rfl ?_|refine WL.nil ?_|refine WL.bt rfl rfl rfl zqo ?_|refine WL.bf rfl rfl rfl zqo ?_|refine WL.e1 rfl ?_|refine WL.gyes rfl rfl rfl rfl ?_|refine WL.opno rfl rfl rfl rfl rfl rfl rfl ?_|refine WL.ar rfl rfl z11i ?_|refine WL.len rfl rfl zql ?_|refine WL.idx rfl rfl zqo zqm ?_|refine W.condT rfl ?_|refine W.condF rfl ?_)
  (first|refine (?_:W _ _ _ _ _)|refine (?_:WL _ _ _ _ _ _)|skip)
  try dsimp only [St.put,Nat.reduceAdd]
  refine ⟨k+1,⟨by omega,hnext⟩,by omega,?_⟩
  rw [hrow2]
  exact (zqu (fun q=>q) (by repeat (first|exact trivial|refine ⟨⟨?_,?_,?_⟩,?_⟩|rfl|exact congrArg (fun q=>some (AO.row _ _ q)) (by first|rfl|(simp;done)|(simp [eInt];done)|(simp [eLk];done)))) rfl)
end Go.Proofs.YtockempedekkkaaGreatDoor
namespace Go.Proofs.YtockempedekkkaaGreatDoor.conveyReports
open Go
theorem q1:(Rows.conveyReportsRow.inPlace == Tryz.pinned.checked.prog.inPlace 3)=true:=by kernel_rfl
theorem q2:(Rows.conveyReportsRow.unfollowed == Tryz.pinned.checked.prog.unfollowed 3)=true:=by kernel_rfl
theorem q3:(Rows.conveyReportsRow.recurses == Tryz.pinned.checked.prog.recurses 3)=true:=by kernel_rfl
theorem q4:(Rows.conveyReportsRow.named == Tryz.pinned.checked.prog.varsNamed 3)=true:=by kernel_rfl
theorem wf_:Rows.conveyReportsRow.wfByText (OpenSpec.ofChange Rows.conveyReportsSpec)=true:=by kernel_rfl
theorem goes_:false=Rows.conveyReportsRow.goesBy Tryz.pinned.checked.prog:=by kernel_rfl
theorem closed:joinedFacts Tryz.pinned.checked.prog 3 Tryz.f3 Rows.conveyReportsSpec Rows.conveyReportsRow=true:=by
 unfold joinedFacts
 rw [q1,q2,q3,q4]
 kernel_rfl
end Go.Proofs.YtockempedekkkaaGreatDoor.conveyReports
