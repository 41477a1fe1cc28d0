/- Arguments that are lists of variants, as trees. -/
import Derived.Test.YtgelfflighgajaaGreatDoorW11Aq
set_option linter.unusedVariables false
set_option linter.unusedSimpArgs false
namespace Go.Proofs.YtgelfflighgajaaGreatDoor
open Go.RowKit Go.WideShapes Go.ChangeShapes Go.Joins Go.Deep
set_option maxRecDepth 100000
section
variable {H:Type} {enc:TypeId×Value→H} {w:World} {base:Nat} {spare:Nat→Bool} {held:Bool}
theorem cellsVariant:Tryz.prog.cellsOf 38=8:=by kernel_rfl
theorem open_va_rp {n:Nat} {v:Value} {x:DataW H×List MemPlace} (h:DataW.trod enc Tryz.prog w base spare held n 29 [v]=some x):∃ l:List Va,RP (fun q=>w.cell? q) (.ls 8 (l.map eVa)) v :=
 open_rows_rp (en:=eVa) Tryz.underlying29 cellsVariant (fun _=>rfl) (fun k cs y hy hl=>by
  match cs,hl with
  | [a0,a1,u0,u1,u2,u3,u4,u5],_ =>
   obtain ⟨ws,n1,_,_,_,hws,hw⟩:=DataW.trod_struct Tryz.underlying38 hy
   have k0:DataW.trod enc Tryz.prog w base spare held n1 3 [a0]=ws[0]?:=by simpa [cellsInt] using hw 0 _ rfl
   have k1:DataW.trod enc Tryz.prog w base spare held n1 3 [a1]=ws[1]?:=by simpa [cellsInt] using hw 1 _ rfl
   have k2:DataW.trod enc Tryz.prog w base spare held n1 36 [u0,u1,u2,u3,u4,u5]=ws[2]?:=by simpa [cellsInt,cellsEvent] using hw 2 _ rfl
   have gw:∀ j,j<3→∃ y,ws[j]?=some y:=fun j hj=>⟨_,List.getElem?_eq_getElem (by rw [hws];exact hj)⟩
   obtain ⟨x0,hx0⟩:=gw 0 (by omega)
   obtain ⟨x1,hx1⟩:=gw 1 (by omega)
   obtain ⟨x2,hx2⟩:=gw 2 (by omega)
   rw [hx0] at k0;rw [hx1] at k1;rw [hx2] at k2
   obtain ⟨c0,d0,_,_⟩:=DataW.trod_int Tryz.underlying3 k0
   obtain ⟨c1,d1,_,_⟩:=DataW.trod_int Tryz.underlying3 k1
   obtain ⟨ys,n2,_,_,hlen,hys,hf⟩:=DataW.trod_struct Tryz.underlying36 k2
   have f0:DataW.trod enc Tryz.prog w base spare held n2 4 [u0]=ys[0]?:=by simpa [cellsBool] using hf 0 _ rfl
   have f1:DataW.trod enc Tryz.prog w base spare held n2 33 [u1,u2,u3]=ys[1]?:=by simpa [cellsSign'] using hf 1 _ rfl
   have f2:DataW.trod enc Tryz.prog w base spare held n2 4 [u4]=ys[2]?:=by simpa [cellsBool] using hf 2 _ rfl
   have f3:DataW.trod enc Tryz.prog w base spare held n2 34 [u5]=ys[3]?:=by simpa [cellsStops] using hf 3 _ rfl
   have gy:∀ j,j<4→∃ y,ys[j]?=some y:=fun j hj=>⟨_,List.getElem?_eq_getElem (by rw [hys];exact hj)⟩
   obtain ⟨y0,hy0⟩:=gy 0 (by omega)
   obtain ⟨y1,hy1⟩:=gy 1 (by omega)
   obtain ⟨y2,hy2⟩:=gy 2 (by omega)
   obtain ⟨y3,hy3⟩:=gy 3 (by omega)
   rw [hy0] at f0;rw [hy1] at f1;rw [hy2] at f2;rw [hy3] at f3
   obtain ⟨zs,n3,_,_,_,hzs,hg⟩:=DataW.trod_struct Tryz.underlying33 f1
   have s0:DataW.trod enc Tryz.prog w base spare held n3 3 [u1]=zs[0]?:=by simpa [cellsInt] using hg 0 _ rfl
   have s1:DataW.trod enc Tryz.prog w base spare held n3 4 [u2]=zs[1]?:=by simpa [cellsBool] using hg 1 _ rfl
   have s2:DataW.trod enc Tryz.prog w base spare held n3 4 [u3]=zs[2]?:=by simpa [cellsBool] using hg 2 _ rfl
   have gz:∀ j,j<3→∃ y,zs[j]?=some y:=fun j hj=>⟨_,List.getElem?_eq_getElem (by rw [hzs];exact hj)⟩
   obtain ⟨z0,hz0⟩:=gz 0 (by omega)
   obtain ⟨z1,hz1⟩:=gz 1 (by omega)
   obtain ⟨z2,hz2⟩:=gz 2 (by omega)
   rw [hz0] at s0;rw [hz1] at s1;rw [hz2] at s2
   obtain ⟨b0,e0,_⟩:=DataW.trod_bool Tryz.underlying4 f0
   obtain ⟨b1,e1,_,_⟩:=DataW.trod_int Tryz.underlying3 s0
   obtain ⟨b2,e2,_⟩:=DataW.trod_bool Tryz.underlying4 s1
   obtain ⟨b3,e3,_⟩:=DataW.trod_bool Tryz.underlying4 s2
   obtain ⟨b4,e4,_⟩:=DataW.trod_bool Tryz.underlying4 f2
   obtain ⟨S,c,l,e5,hlc,_,hS⟩:=open_stops f3
   simp only [List.cons.injEq,and_true] at d0 d1 e0 e1 e2 e3 e4
   subst d0 d1 e0 e1 e2 e3 e4
   have h5:RP (fun q=>w.cell? q) (.ls 5 (l.map eStp)) u5:=by
    subst e5
    exact rp_mem hS hlc (fun _=>rfl) eStp_of
   have o5:u5.oneCell'=true:=by subst e5;rfl
   refine ⟨⟨c0,c1,⟨b0,b1,b2,b3,b4,l⟩⟩,fun j av u a b=>?_⟩
   match j with
   | 0=>cases a;cases b;exact ⟨rfl,.sc _⟩
   | 1=>cases a;cases b;exact ⟨rfl,.sc _⟩
   | 2=>cases a;cases b;exact ⟨rfl,.sc _⟩
   | 3=>cases a;cases b;exact ⟨rfl,.sc _⟩
   | 4=>cases a;cases b;exact ⟨rfl,.sc _⟩
   | 5=>cases a;cases b;exact ⟨rfl,.sc _⟩
   | 6=>cases a;cases b;exact ⟨rfl,.sc _⟩
   | 7=>cases a;cases b;exact ⟨o5,h5⟩
   | j+8=>simp [eVa] at a) h
theorem open_va_arg {r:Reach} {b0:Nat} {v:Value} {d:DataW H} {p:List MemPlace} (hv:Value.okWide Tryz.prog w r b0 29 v) (h:DataW.Trod enc Tryz.prog w base spare held 29 v d p) :
  ∃ l:List Va,RP (fun q=>w.cell? q) (.ls 8 (l.map eVa)) v:=by
 obtain ⟨a0,len,cap,rfl⟩:=okWide_slice Tryz.underlying29 hv
 obtain ⟨fuel,hf⟩:=h
 exact open_va_rp (by simpa [Value.cells] using hf)
end
end Go.Proofs.YtgelfflighgajaaGreatDoor
