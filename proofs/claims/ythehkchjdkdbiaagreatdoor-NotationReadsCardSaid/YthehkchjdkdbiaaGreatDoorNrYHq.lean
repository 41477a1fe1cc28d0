/- The reader of the reference: a cell is looked for. -/
import Derived.Test.YthehkchjdkdbiaaGreatDoorNrTHq
set_option maxHeartbeats 8000000
set_option maxRecDepth 100000
set_option linter.unusedVariables false
set_option linter.unusedSimpArgs false
namespace Go.Proofs.YthehkchjdkdbiaaGreatDoor
open Go.RowKit
def NoN(s crs L:Int)(l:List UInt8)(n:Nat):Prop:=∀ c f r g h:Nat,pcOk s crs L l c f r g h→n≤(rS s c f).length
def NoI(s c f:Int)(l:List UInt8)(L:Int)(i:Nat):Prop:=∀ r g h:Nat,r≤3→g≤4→r+4*g+20*h<i→stM s c f l L r g h=false
theorem NoN.start {s crs L:Int} {l:List UInt8} (hsp:spotErr s crs=0):NoN s crs L l 1:=fun c f r g h a=>(pcOk_sym hsp a).1
theorem NoI.start {s c f:Int} {l:List UInt8} {L:Int}:NoI s c f l L 0:=fun r g h _ _ k=>by omega
theorem NoI.step {s c f:Int} {l:List UInt8} {L:Int} {i:Nat} (h:NoI s c f l L i) (hn:stM s c f l L (i % 4) (i/4 % 5) (i/20)=false):NoI s c f l L (i+1):=fun r g k hr hg hk=>by
 by_cases e:r+4*g+20*k<i
 ·exact h r g k hr hg e
 ·have e1:i % 4=r:=by omega
  have e2:i/4 % 5=g:=by omega
  have e3:i/20=k:=by omega
  rw [e1,e2,e3]at hn
  exact hn
theorem NoN.skip {s crs L:Int} {l:List UInt8} {n:Nat} (hsp:spotErr s crs=0)(h:NoN s crs L l n)(hp:placeOf s crs (cut l 0 n)=(0,0,4)):NoN s crs L l (n+1) :=
 pc_step hsp h fun c f r g k e=>by
  have:cut l 0 n=l.take n:=by simp [cut]
  rw [this]at hp
  rw [hp]at e
  simp at e
theorem NoN.step {s crs L:Int} {l:List UInt8} {n c f N:Nat} (hsp:spotErr s crs=0)(h:NoN s crs L l n)(hp:placeOf s crs (cut l 0 n)=((c:Int),(f:Int),0))(hi:NoI s c f l L N)(hN:(N:Int)=20*(L+1)):NoN s crs L l (n+1) :=
 pc_step hsp h fun c' f' r g k e a=>by
  have:cut l 0 n=l.take n:=by simp [cut]
  rw [this]at hp
  rw [hp]at e
  simp only [Prod.mk.injEq,Int.ofNat_inj,and_true]at e
  obtain⟨rfl,rfl⟩:=e
  have hm:=a.2.2.2
  obtain⟨x,_,_⟩:=stM_ok hm
  rw [hi r g k x.1 x.2.1 (by omega)]at hm
  cases hm
theorem NoN.done {s crs L:Int} {l:List UInt8} (hsp:spotErr s crs=0)(h:NoN s crs L l (l.length+1)):NoC s crs L l 15:=fun c f r g k _ a=>by
 have:=h c f r g k a
 have:=(pcOk_sym hsp a).2.1
 omega
theorem rPlace_FS (s crs:Int)(l:List UInt8):Ctr Tryz.prog 259 [.sc (.int .u8 s),.sc (.int .i64 crs),.sc (.string (bs l))] (.tu [.ag [.sc (.int .i64 (placeOf s crs l).1),.sc (.int .i64 (placeOf s crs l).2.1)],.sc (.int .i64 (placeOf s crs l).2.2)]) :=
 Ctr.of_sc (v:=placeV s crs l) rfl (fun _=>rp_plT rfl) fun w=>rplace_any s crs l w
theorem rSpot_FS (s crs:Int):Ctr Tryz.prog 258 [.sc (.int .u8 s),.sc (.int .i64 crs)] (.sc (.int .i64 (spotErr s crs))) :=
 Ctr.of_sc (v:=.int .i64 (spotErr s crs)) rfl (fun _=>.sc _) fun w=>(rspot_any s crs w).mono fun e w'⟨h1,h2⟩=>⟨h1,h2 ▸ Below.refl _ _⟩
theorem rCellF_FS (s c f r g h L:Int):Ctr Tryz.prog 246 [.sc (.int .u8 s),.ag [.sc (.int .i64 c),.sc (.int .i64 f),.sc (.int .i64 r),.sc (.int .i64 g),.sc (.int .i64 h)],.sc (.int .i64 L)] (.tu [.sc (.string (bs (cellTxt s c f r g h L))),.sc (.int .i64 (cellErr s c f r g h L))]) :=
 Ctr.of_pl rfl (fun _=>rp_plT rfl) fun w=>rCell_any s c f r g h L w
def rf_pc:Option N5→AV
 | some x=>.tu [.ag [.sc (.int .i64 x.1),.sc (.int .i64 x.2.1),.sc (.int .i64 x.2.2.1),.sc (.int .i64 x.2.2.2.1),.sc (.int .i64 x.2.2.2.2)],.sc (.int .i64 0)]
 | none=>.tu [.ag [.sc (.int .i64 0),.sc (.int .i64 0),.sc (.int .i64 0),.sc (.int .i64 0),.sc (.int .i64 0)],.sc (.int .i64 4)]
theorem rParseCell_FS (s crs:Int) (l:List UInt8) (hsp:spotErr s crs=0) (hlen:l.length≤400000):Ctr Tryz.prog 229 [.sc (.int .u8 s),.sc (.int .i64 crs),.sc (.string (bs l)),.sc (.int .i64 15)] (rf_pc (nr_cl s crs l)):=by
 have hs:=spotErr_sys hsp
 have hS:=rSpot_FS s crs
 rw [hsp] at hS
 have hcl:∀ {c f r g h:Nat},pcOk s crs 15 l c f r g h→nr_cl s crs l=some (c,f,r,g,h):=fun a=>nr_cl_some hsp a
 have hcn:=nr_cl_none (s:=s) (crs:=crs) (w:=l)
 obtain ⟨RR,hRR⟩:∃ z,nr_cl s crs l=z:=⟨_,rfl⟩
 rw [hRR] at hcn ⊢
 have hcl:∀ {c f r g h:Nat},pcOk s crs 15 l c f r g h→RR=some (c,f,r,g,h):=fun a=>hRR.symm.trans (hcl a)
 clear hRR
 refine zqe Tryz.func229 Tryz.ntmps229 fun w0 F0=>?_;dsimp only [St.init,number,Nat.reduceAdd]
 refine zqg45 ?_
 refine WL.vl rfl (zqc Tryz.func258 hS) ?_
 refine zqg45 ?_
 refine W.loop (fun n:Nat=>1≤n∧n≤l.length+1∧NoN s crs 15 l n) (fun n=>⟨[(0,.sc (.int .u8 s)),(1,.sc (.int .i64 crs)),(2,.sc (.string (bs l))),(3,.sc (.int .i64 15)),(8,.pt 0 0 0),(11,.sc (.int .i64 (n:Int)))],[(0,.box 69 [.sc (.int .i64 0),.sc (.int .i64 0),.sc (.int .i64 0),.sc (.int .i64 0),.sc (.int .i64 0)])],1⟩) (fun n=>l.length+1 - n) 1 ⟨by omega,by omega,NoN.start hsp⟩ (zqt id) fun n hn=>?_
 obtain ⟨hn1,hn2,hno⟩:=hn
 by_cases hle:n≤l.length
 rotate_left
 ·obtain rfl:n=l.length+1:=by omega
  have e:RR=none:=hcn.1 fun c f r g h a=>NoN.done hsp hno c f r g h (by have:=a.1;omega) a
  subst e
  unfold rf_pc
  refine zqg45 ?_
  exact W.ret (finN rfl rfl rfl rfl)
 have hP:=rPlace_FS s crs (cut l 0 n)
 have hcb:0≤(0:Int)∧(0:Int)≤(n:Int)∧(n:Int)≤(l.length:Int):=by omega
 rcases placeOf_cases (cut l 0 n) hsp with ⟨c,f,hp,hc,hf,hst,hsym⟩|hp
 rotate_left
 ·have hno2:=NoN.skip hsp hno hp
  rw [hp] at hP
  dsimp only at hP
  obtain ⟨CT,hCT⟩:∃ z,cut l 0 (n:Int)=z:=⟨_,rfl⟩
  rw [hCT] at hP
  clear hp hno hcl hcn
  refine zqg45 ?_
  refine WL.cut rfl rfl hcb ?_
  rw [hCT]
  refine zqg45 ?_
  refine WL.vl rfl (zqc Tryz.func259 hP) ?_
  refine zqg45 ?_
  refine ⟨n+1,⟨by omega,by omega,hno2⟩,by omega,?_⟩
  exact (zqt id)
 have hstep:=fun {N:Nat} (hi:NoI s c f l 15 N) (hN:(N:Int)=20*(15+1))=>NoN.step hsp hno hp hi hN
 rw [hp] at hP
 dsimp only at hP
 obtain ⟨CT,hCT⟩:∃ z,cut l 0 (n:Int)=z:=⟨_,rfl⟩
 rw [hCT] at hP
 clear hp hsym hno hcn
 refine zqg45 ?_
 refine WL.cut rfl rfl hcb ?_
 rw [hCT]
 refine zqg45 ?_
 refine WL.vl rfl (zqc Tryz.func259 hP) ?_
 refine zqg45 ?_
 refine W.loop (fun i:Nat=>i≤320∧NoI s c f l 15 i) (fun i=>⟨[(0,.sc (.int .u8 s)),(1,.sc (.int .i64 crs)),(2,.sc (.string (bs l))),(3,.sc (.int .i64 15)),(8,.pt 0 0 0),(11,.sc (.int .i64 (n:Int))),(12,.pt 1 0 0),(14,.sc (.int .i64 (i:Int)))],[(0,.box 69 [.sc (.int .i64 0),.sc (.int .i64 0),.sc (.int .i64 0),.sc (.int .i64 0),.sc (.int .i64 0)]),(1,.box 64 [.sc (.int .i64 (c:Int)),.sc (.int .i64 (f:Int))])],2⟩) (fun i=>320 - i) 0 ⟨by omega,NoI.start⟩ (zqt id) fun i hi=>?_
 obtain ⟨hi,hno⟩:=hi
 by_cases hlt:i < 320
 rotate_left
 ·obtain rfl:i=320:=by omega
  have hno2:=hstep hno (by decide)
  clear hno hcl
  refine zqg45 ?_
  refine ⟨n+1,⟨by omega,by omega,hno2⟩,by omega,?_⟩
  exact (zqt id)
 have hC:=rCellF_FS s c f ((i:Int) % 4) ((i:Int)/4 % 5) ((i:Int)/20) 15
 have hM:=cell_of_i (s:=s) (c:=c) (f:=f) (L:=15) (l:=l) (r:=i % 4) (g:=i/4 % 5) (h:=i/20) hs zqo zqo zqo zqo zqo zqo
 have m1:((i % 4:Nat):Int)=(i:Int) % 4:=by omega
 have m2:((i/4 % 5:Nat):Int)=(i:Int)/4 % 5:=by omega
 have m3:((i/20:Nat):Int)=(i:Int)/20:=by omega
 rw [m1,m2,m3] at hM
 obtain ⟨E,hE⟩:∃ E,cellErr s c f ((i:Int) % 4) ((i:Int)/4 % 5) ((i:Int)/20) 15=E:=⟨_,rfl⟩
 obtain ⟨T,hT⟩:∃ T,cellTxt s c f ((i:Int) % 4) ((i:Int)/4 % 5) ((i:Int)/20) 15=T:=⟨_,rfl⟩
 rw [hE,hT] at hC hM
 have hok:stM s c f l 15 (i % 4) (i/4 % 5) (i/20)=true→RR=some (c,f,i % 4,i/4 % 5,i/20):=fun h=>hcl ⟨hc,hf,hst,h⟩
 have hsn:=fun h=>NoI.step hno h
 obtain ⟨gd,hgd⟩:∃ z,stM s c f l 15 (i % 4) (i/4 % 5) (i/20)=z:=⟨_,rfl⟩
 rw [hgd] at hM hok hsn
 obtain ⟨a1,ha1⟩:∃ z,(i:Int) % 4=z:=⟨_,rfl⟩
 obtain ⟨a2,ha2⟩:∃ z,(i:Int)/4 % 5=z:=⟨_,rfl⟩
 obtain ⟨a3,ha3⟩:∃ z,(i:Int)/20=z:=⟨_,rfl⟩
 rw [ha1] at hC m1
 rw [ha2] at hC m2
 rw [ha3] at hC m3
 clear hcl hno hstep hE hT hgd
 refine zqg45 ?_
 rw [ha1,ha2,ha3]
 refine WL.vl rfl (zqc Tryz.func246 hC) ?_
 by_cases e1:E=0
 rotate_left
 ·have hg:gd=false:=by rw [hM];simp [e1]
  have hn2:=hsn hg
  clear hM hok hsn
  refine zqg45 ?_
  refine ⟨i+1,⟨by omega,hn2⟩,by omega,?_⟩
  exact (zqt id)
 cases e2:(T == l) with
 | false =>
  have hg:gd=false:=by rw [hM,e2];simp
  have hn2:=hsn hg
  clear hM hok hsn
  refine zqg45 ?_
  rw [e2]
  refine zqg45 ?_
  refine ⟨i+1,⟨by omega,hn2⟩,by omega,?_⟩
  exact (zqt id)
 | true =>
  have hg:gd=true:=by rw [hM,e2,e1];rfl
  have hR:=hok hg
  subst hR
  unfold rf_pc
  dsimp only
  rw [m1,m2,m3]
  clear hM hok hsn
  refine zqg45 ?_
  rw [e2]
  refine zqg45 ?_
  exact W.ret (finN rfl rfl rfl rfl)
end Go.Proofs.YthehkchjdkdbiaaGreatDoor
