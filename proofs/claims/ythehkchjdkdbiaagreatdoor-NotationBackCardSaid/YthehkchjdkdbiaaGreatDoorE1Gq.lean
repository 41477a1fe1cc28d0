/- A walk that knows values as trees and its own memory as a list of objects, each with all the blocks that belong to it: what is known, and what it means. -/
import Derived.Lib.SmallJoins
import Derived.Handy
import Derived.WalkLawsBesides
import Derived.Deep.AppendLies
import Derived.Deep.MidRow
import Derived.Lib.Hide
set_option linter.unusedVariables false
set_option linter.unusedSimpArgs false
namespace Go.Proofs.YthehkchjdkdbiaaGreatDoor
section
open Go.RowKit Go.WideShapes Go.ChangeShapes Go.Joins Go.Deep
theorem zqo {p:Prop} (h:p:=by omega):p:=h
theorem zqk {α:Sort _} {a b:α} (h:a = b:=by kernel_rfl):a = b:=h
theorem zqs {p:Prop} (h:p:=by first|omega|(simp;done)|(simp;omega)):p:=h
structure Zqh(q:Prop):Type where
 k:q
theorem zqg0 {p q:Prop} (k:q) (h:Zqh q→p:=by (intro hq;(repeat (first|refine W.go rfl ?_|refine WL.ev rfl ?_|refine WL.ar rfl rfl (by (unfold I64);omega) ?_|refine WL.len rfl rfl (by first|exact List.length_map _|exact List.length_replicate|rfl) ?_|refine WL.idx rfl rfl (by omega) (by first|exact map_at (by omega)|exact map_atZ (by omega) (by omega)) ?_|refine WL.app rfl rfl rfl zqs ?_);(first|refine (?_:W _ _ _ _ _)|refine (?_:WL _ _ _ _ _ _)|skip);try dsimp only [St.put,Nat.reduceAdd]);exact hq.k)):p:=h ⟨k⟩
theorem zqg1 {p q:Prop} (k:q) (h:Zqh q→p:=by (intro hq;(repeat (first|with_reducible exact Stay.refl hlt|with_reducible refine Stay.drew ?_|with_reducible refine Stay.alloc ?_ _|with_reducible refine Stay.setCell ?_ zqs _|with_reducible refine Stay.grown ?_ (by assumption) zqs));exact hq.k)):p:=h ⟨k⟩
theorem zqg2 {p q:Prop} (k:q) (h:Zqh q→p:=by (intro hq;(repeat (first|refine W.go rfl ?_|refine WL.ev rfl ?_|refine WL.ar rfl rfl (by (unfold I64);omega) ?_|refine WL.len rfl rfl (by first|exact List.length_map _|exact List.length_replicate|rfl) ?_|refine WL.app rfl rfl rfl zqs ?_);(first|refine (?_:W _ _ _ _ _)|refine (?_:WL _ _ _ _ _ _)|skip);try dsimp only [St.put,Nat.reduceAdd]);exact hq.k)):p:=h ⟨k⟩
theorem zqg3 {p q:Prop} (k:q) (h:Zqh q→p:=by (intro hq;(repeat (first|refine W.go rfl ?_|refine WL.ev rfl ?_|refine WL.gyes rfl rfl rfl rfl ?_|refine WL.opno rfl rfl rfl rfl rfl rfl rfl ?_|refine WL.len rfl rfl (by first|exact List.length_map _|exact List.length_replicate|rfl) ?_);(first|refine (?_:W _ _ _ _ _)|refine (?_:WL _ _ _ _ _ _)|skip);try dsimp only [St.put,Nat.reduceAdd]);exact hq.k)):p:=h ⟨k⟩
theorem zqg4 {p q:Prop} (k:q) (h:Zqh q→p:=by (intro hq;(repeat (first|refine W.go rfl ?_|refine WL.ev rfl ?_|refine WL.len rfl rfl (by first|exact List.length_map _|exact List.length_replicate|rfl) ?_);(first|refine (?_:W _ _ _ _ _)|refine (?_:WL _ _ _ _ _ _)|skip);try dsimp only [St.put,Nat.reduceAdd]);exact hq.k)):p:=h ⟨k⟩
theorem zqg5 {p q:Prop} (k:q) (h:Zqh q→p:=by (intro hq;(repeat (first|refine W.go rfl ?_|refine WL.ev rfl ?_|refine WL.ar rfl rfl (by (unfold I64);omega) ?_);(first|refine (?_:W _ _ _ _ _)|refine (?_:WL _ _ _ _ _ _)|skip);try dsimp only [St.put,Nat.reduceAdd]);exact hq.k)):p:=h ⟨k⟩
theorem zqg6 {p q:Prop} (k:q) (h:Zqh q→p:=by(intro hq;(repeat(first|refine W.go rfl ?_);(first|refine(?_:W _ _ _ _ _)|refine(?_:WL _ _ _ _ _ _)|skip);try dsimp only [St.put,Nat.reduceAdd]);exact hq.k)):p:=h ⟨k⟩
theorem zqg7 {p q:Prop} (k:q) (h:Zqh q→p:=by (intro hq;(repeat (first|refine W.go rfl ?_|refine WL.nil ?_|refine WL.ev rfl ?_|refine WL.ar rfl rfl (by (unfold I64);omega) ?_|refine WL.len rfl rfl (by first|exact List.length_map _|exact List.length_replicate|rfl) ?_|refine WL.idx rfl rfl (by omega) (by first|exact map_at (by omega)|exact map_atZ (by omega) (by omega)) ?_|refine WL.ixs rfl rfl zqs ?_|refine WL.app rfl rfl rfl zqs ?_);(first|refine (?_:W _ _ _ _ _)|refine (?_:WL _ _ _ _ _ _)|skip);try dsimp only [St.put,Nat.reduceAdd]);exact hq.k)):p:=h ⟨k⟩
theorem zqg8 {p q:Prop} (k:q) (h:Zqh q→p:=by(intro hq;(repeat(first|refine W.go rfl ?_|refine WL.nil ?_|refine W.condT rfl ?_|refine W.condF rfl ?_);(first|refine(?_:W _ _ _ _ _)|refine(?_:WL _ _ _ _ _ _)|skip);try dsimp only [St.put,Nat.reduceAdd]);exact hq.k)):p:=h ⟨k⟩
theorem zqg9 {p q:Prop} (k:q) (h:Zqh q→p:=by (intro hq;(repeat (first|refine W.gob rfl ?_|refine WL.nil ?_|refine WL.bt rfl rfl rfl (by omega) ?_|refine WL.bf rfl rfl rfl (by omega) ?_|refine WL.nt rfl rfl rfl (by omega) ?_|refine WL.nf rfl rfl rfl (by omega) ?_|refine WL.e1 rfl ?_|refine W.condT rfl ?_|refine W.condF rfl ?_);(first|refine (?_:W _ _ _ _ _)|refine (?_:WL _ _ _ _ _ _)|skip);try dsimp only [St.put,Nat.reduceAdd]);exact hq.k)):p:=h ⟨k⟩
theorem zqg10 {p q:Prop} (k:q) (h:Zqh q→p:=by (intro hq;(repeat (first|refine W.go rfl ?_|refine WL.nil ?_|refine WL.ar rfl rfl (by (unfold I64);omega) ?_|refine WL.len rfl rfl (by first|exact List.length_map _|exact List.length_replicate|rfl) ?_|refine WL.cat rfl rfl zqs ?_|refine W.condT rfl ?_|refine W.condF rfl ?_);(first|refine (?_:W _ _ _ _ _)|refine (?_:WL _ _ _ _ _ _)|skip);try dsimp only [St.put,Nat.reduceAdd]);exact hq.k)):p:=h ⟨k⟩
theorem zqg11 {p q:Prop} (k:q) (h:Zqh q→p:=by (intro hq;(repeat (first|refine W.gob rfl ?_|refine WL.nil ?_|refine WL.bt rfl rfl rfl (by omega) ?_|refine WL.bf rfl rfl rfl (by omega) ?_|refine WL.nt rfl rfl rfl (by omega) ?_|refine WL.nf rfl rfl rfl (by omega) ?_|refine WL.e1 rfl ?_|refine WL.ar rfl rfl (by (unfold I64);omega) ?_|refine WL.len rfl rfl (by first|exact List.length_map _|exact List.length_replicate|rfl) ?_|refine WL.cat rfl rfl zqs ?_|refine W.condT rfl ?_|refine W.condF rfl ?_);(first|refine (?_:W _ _ _ _ _)|refine (?_:WL _ _ _ _ _ _)|skip);try dsimp only [St.put,Nat.reduceAdd]);exact hq.k)):p:=h ⟨k⟩
theorem zqg12 {p q:Prop} (k:q) (h:Zqh q→p:=by (intro hq;(repeat (first|refine W.gob rfl ?_|refine WL.nil ?_|refine WL.bt rfl rfl rfl (by omega) ?_|refine WL.bf rfl rfl rfl (by omega) ?_|refine WL.e1 rfl ?_|refine WL.ar rfl rfl (by (unfold I64);omega) ?_|refine WL.len rfl rfl (by first|exact List.length_map _|exact List.length_replicate|rfl) ?_|refine WL.ixs rfl rfl zqs ?_|refine W.condT rfl ?_|refine W.condF rfl ?_);(first|refine (?_:W _ _ _ _ _)|refine (?_:WL _ _ _ _ _ _)|skip);try dsimp only [St.put,Nat.reduceAdd]);exact hq.k)):p:=h ⟨k⟩
theorem zqg13 {p q:Prop} (k:q) (h:Zqh q→p:=by(intro hq;(repeat(first|refine W.go rfl ?_|refine WL.nil ?_|refine WL.ev rfl ?_|refine WL.gyes rfl rfl rfl rfl ?_|refine WL.opno rfl rfl rfl rfl rfl rfl rfl ?_|refine W.condT rfl ?_|refine W.condF rfl ?_);(first|refine(?_:W _ _ _ _ _)|refine(?_:WL _ _ _ _ _ _)|skip);try dsimp only [St.put,Nat.reduceAdd]);exact hq.k)):p:=h ⟨k⟩
theorem zqg14 {p q:Prop} (k:q) (h:Zqh q→p:=by (intro hq;(repeat (first|refine W.gob rfl ?_|refine WL.nil ?_|refine WL.bt rfl rfl rfl (by omega) ?_|refine WL.bf rfl rfl rfl (by omega) ?_|refine WL.nt rfl rfl rfl (by omega) ?_|refine WL.nf rfl rfl rfl (by omega) ?_|refine WL.e1 rfl ?_|refine WL.gyes rfl rfl rfl rfl ?_|refine WL.opno rfl rfl rfl rfl rfl rfl rfl ?_|refine W.condT rfl ?_|refine W.condF rfl ?_);(first|refine (?_:W _ _ _ _ _)|refine (?_:WL _ _ _ _ _ _)|skip);try dsimp only [St.put,Nat.reduceAdd]);exact hq.k)):p:=h ⟨k⟩
theorem zqg15 {p q:Prop} (k:q) (h:Zqh q→p:=by (intro hq;(repeat (first|refine W.go rfl ?_|refine WL.nil ?_|refine WL.ev rfl ?_|refine WL.gyes rfl rfl rfl rfl ?_|refine WL.ar rfl rfl (by (unfold I64);omega) ?_|refine WL.len rfl rfl (by first|exact List.length_map _|exact List.length_replicate|rfl) ?_|refine W.condT rfl ?_|refine W.condF rfl ?_);(first|refine (?_:W _ _ _ _ _)|refine (?_:WL _ _ _ _ _ _)|skip);try dsimp only [St.put,Nat.reduceAdd]);exact hq.k)):p:=h ⟨k⟩
theorem zqg16 {p q:Prop} (k:q) (h:Zqh q→p:=by (intro hq;(repeat (first|refine W.gob rfl ?_|refine WL.nil ?_|refine WL.bt rfl rfl rfl (by omega) ?_|refine WL.bf rfl rfl rfl (by omega) ?_|refine WL.nt rfl rfl rfl (by omega) ?_|refine WL.nf rfl rfl rfl (by omega) ?_|refine WL.e1 rfl ?_|refine WL.gyes rfl rfl rfl rfl ?_|refine WL.ar rfl rfl (by (unfold I64);omega) ?_|refine WL.len rfl rfl (by first|exact List.length_map _|exact List.length_replicate|rfl) ?_|refine W.condT rfl ?_|refine W.condF rfl ?_);(first|refine (?_:W _ _ _ _ _)|refine (?_:WL _ _ _ _ _ _)|skip);try dsimp only [St.put,Nat.reduceAdd]);exact hq.k)):p:=h ⟨k⟩
theorem zqg17 {p q:Prop} (k:q) (h:Zqh q→p:=by (intro hq;(repeat (first|refine WL.vl rfl (WV.nch rfl rfl) ?_|refine W.gob rfl ?_|refine WL.nil ?_|refine WL.bt rfl rfl rfl (by omega) ?_|refine WL.bf rfl rfl rfl (by omega) ?_|refine WL.nt rfl rfl rfl (by omega) ?_|refine WL.nf rfl rfl rfl (by omega) ?_|refine WL.e1 rfl ?_|refine WL.gyes rfl rfl rfl rfl ?_|refine WL.ar rfl rfl (by (unfold I64);omega) ?_|refine WL.len rfl rfl rfl ?_|refine W.condT rfl ?_|refine W.condF rfl ?_);(first|refine (?_:W _ _ _ _ _)|refine (?_:WL _ _ _ _ _ _)|skip);try dsimp only [St.put,Nat.reduceAdd]);exact hq.k)):p:=h ⟨k⟩
theorem zqg18 {p q:Prop} (k:q) (h:Zqh q→p:=by (intro hq;(repeat (first|refine W.gob rfl ?_|refine WL.nil ?_|refine WL.e1 rfl ?_|refine WL.app rfl rfl rfl zqs ?_|refine W.condT rfl ?_|refine W.condF rfl ?_);(first|refine (?_:W _ _ _ _ _)|refine (?_:WL _ _ _ _ _ _)|skip);try dsimp only [St.put,Nat.reduceAdd]);exact hq.k)):p:=h ⟨k⟩
theorem zqg19 {p q:Prop} (k:q) (h:Zqh q→p:=by (intro hq;(repeat (first|refine W.gob rfl ?_|refine WL.nil ?_|refine WL.bt rfl rfl rfl (by omega) ?_|refine WL.bf rfl rfl rfl (by omega) ?_|refine WL.e1 rfl ?_|refine WL.ar rfl rfl (by (unfold I64);omega) ?_|refine WL.len rfl rfl (by first|exact List.length_map _|exact List.length_replicate|rfl) ?_|refine WL.idx rfl rfl (by omega) (by first|exact map_at (by omega)|exact map_atZ (by omega) (by omega)) ?_|refine W.condT rfl ?_|refine W.condF rfl ?_);(first|refine (?_:W _ _ _ _ _)|refine (?_:WL _ _ _ _ _ _)|skip);try dsimp only [St.put,Nat.reduceAdd]);exact hq.k)):p:=h ⟨k⟩
theorem zqg20 {p q:Prop} (k:q) (h:Zqh q→p:=by (intro hq;(repeat (first|refine W.gob rfl ?_|refine WL.nil ?_|refine WL.e1 rfl ?_|refine WL.len rfl rfl (by first|exact List.length_map _|exact List.length_replicate|rfl) ?_|refine W.condT rfl ?_|refine W.condF rfl ?_);(first|refine (?_:W _ _ _ _ _)|refine (?_:WL _ _ _ _ _ _)|skip);try dsimp only [St.put,Nat.reduceAdd]);exact hq.k)):p:=h ⟨k⟩
theorem zqg21 {p q:Prop} (k:q) (h:Zqh q→p:=by(intro hq;(repeat(first|refine W.gob rfl ?_|refine WL.nil ?_|refine WL.e1 rfl ?_);(first|refine(?_:W _ _ _ _ _)|refine(?_:WL _ _ _ _ _ _)|skip);try dsimp only [St.put,Nat.reduceAdd]);exact hq.k)):p:=h ⟨k⟩
theorem zqg22 {p q:Prop} (k:q) (h:Zqh q→p:=by (intro hq;(repeat (first|refine W.gob rfl ?_|refine WL.nil ?_|refine WL.e1 rfl ?_|refine WL.ar rfl rfl (by (unfold I64);omega) ?_|refine WL.len rfl rfl (by first|exact List.length_map _|exact List.length_replicate|rfl) ?_|refine W.condT rfl ?_|refine W.condF rfl ?_);(first|refine (?_:W _ _ _ _ _)|refine (?_:WL _ _ _ _ _ _)|skip);try dsimp only [St.put,Nat.reduceAdd]);exact hq.k)):p:=h ⟨k⟩
theorem zqg23 {p q:Prop} (k:q) (h:Zqh q→p:=by (intro hq;(repeat (first|refine W.gob rfl ?_|refine WL.nil ?_|refine WL.bt rfl rfl rfl (by omega) ?_|refine WL.e1 rfl ?_|refine WL.ar rfl rfl (by (unfold I64);omega) ?_|refine WL.len rfl rfl (by first|exact List.length_map _|exact List.length_replicate|rfl) ?_|refine WL.idx rfl rfl (by omega) (by first|exact map_at (by omega)|exact map_atZ (by omega) (by omega)) ?_|refine W.condT rfl ?_|refine W.condF rfl ?_);(first|refine (?_:W _ _ _ _ _)|refine (?_:WL _ _ _ _ _ _)|skip);try dsimp only [St.put,Nat.reduceAdd]);exact hq.k)):p:=h ⟨k⟩
theorem zqg24 {p q:Prop} (k:q) (h:Zqh q→p:=by (intro hq;(repeat (first|refine W.go rfl ?_|refine WL.nil ?_|refine WL.ev rfl ?_|refine WL.app rfl rfl rfl zqs ?_|refine W.condT rfl ?_|refine W.condF rfl ?_);(first|refine (?_:W _ _ _ _ _)|refine (?_:WL _ _ _ _ _ _)|skip);try dsimp only [St.put,Nat.reduceAdd]);exact hq.k)):p:=h ⟨k⟩
theorem zqg25 {p q:Prop} (k:q) (h:Zqh q→p:=by (intro hq;(repeat (first|refine WL.vl rfl (WV.nch rfl rfl) ?_|refine W.gob rfl ?_|refine WL.e1 rfl ?_);(first|refine (?_:W _ _ _ _ _)|refine (?_:WL _ _ _ _ _ _)|skip);try dsimp only [St.put,Nat.reduceAdd]);exact hq.k)):p:=h ⟨k⟩
theorem zqg26 {p q:Prop} (k:q) (h:Zqh q→p:=by (intro hq;(repeat (first|refine WL.vl rfl (WV.nch rfl rfl) ?_|refine W.gob rfl ?_|refine WL.nil ?_|refine WL.e1 rfl ?_|refine WL.ar rfl rfl (by (unfold I64);omega) ?_|refine W.condT rfl ?_|refine W.condF rfl ?_);(first|refine (?_:W _ _ _ _ _)|refine (?_:WL _ _ _ _ _ _)|skip);try dsimp only [St.put,Nat.reduceAdd]);exact hq.k)):p:=h ⟨k⟩
theorem zqg27 {p q:Prop} (k:q) (h:Zqh q→p:=by (intro hq;(repeat (first|refine WL.vl rfl (WV.nch rfl rfl) ?_|refine W.gob rfl ?_|refine WL.nil ?_|refine WL.bt rfl rfl rfl (by omega) ?_|refine WL.bf rfl rfl rfl (by omega) ?_|refine WL.e1 rfl ?_|refine WL.len rfl rfl (by first|exact List.length_map _|exact List.length_replicate|rfl) ?_|refine W.condT rfl ?_|refine W.condF rfl ?_);(first|refine (?_:W _ _ _ _ _)|refine (?_:WL _ _ _ _ _ _)|skip);try dsimp only [St.put,Nat.reduceAdd]);exact hq.k)):p:=h ⟨k⟩
theorem zqg28 {p q:Prop} (k:q) (h:Zqh q→p:=by (intro hq;(repeat (first|refine DK.vl rfl (WV.nch rfl rfl) ?_|refine DK.bt rfl rfl (by omega) ?_|refine DK.bf rfl rfl (by omega) ?_|refine DK.tt rfl (by first|(simp;done)|fail) ?_|refine DK.ff rfl (by first|(simp;done)|fail) ?_|refine DK.st rfl ?_|refine DK.ar rfl rfl (by (unfold I64);omega) ?_|refine DK.len rfl rfl (by first|exact List.length_map _|exact List.length_replicate|rfl) ?_|refine DK.idx rfl rfl (by omega) (by first|exact map_at (by omega)|exact map_atZ (by omega) (by omega)) ?_|refine DK.nil ?_));exact hq.k)):p:=h ⟨k⟩
theorem zqg29 {p q:Prop} (k:q) (h:Zqh q→p:=by (intro hq;(repeat (first|refine DK.vl rfl (WV.nch rfl rfl) ?_|refine DK.bt rfl rfl (by omega) ?_|refine DK.bf rfl rfl (by omega) ?_|refine DK.tt rfl (by first|(simp;done)|fail) ?_|refine DK.ff rfl (by first|(simp;done)|fail) ?_|refine DK.st rfl ?_|refine DK.ar rfl rfl (by (unfold I64);omega) ?_|refine DK.len rfl rfl rfl ?_|refine DK.nil ?_));exact hq.k)):p:=h ⟨k⟩
theorem zqg30 {p q:Prop} (k:q) (h:Zqh q→p:=by (intro hq;(repeat (first|refine WL.vl rfl (WV.nch rfl rfl) ?_|refine WL.vl rfl (WV.nchr rfl rfl) ?_|refine W.gob rfl ?_|refine WL.nil ?_|refine WL.bt rfl rfl rfl (by omega) ?_|refine WL.bf rfl rfl rfl (by omega) ?_|refine WL.e1 rfl ?_|refine WL.gyes rfl rfl rfl rfl ?_|refine WL.opno rfl rfl rfl rfl rfl rfl rfl ?_|refine WL.ar rfl rfl (by (unfold I64);omega) ?_|refine WL.cat rfl rfl zqs ?_|refine W.condT rfl ?_|refine W.condF rfl ?_);(first|refine (?_:W _ _ _ _ _)|refine (?_:WL _ _ _ _ _ _)|skip);try dsimp only [St.put,Nat.reduceAdd]);exact hq.k)):p:=h ⟨k⟩
theorem zqg31 {p q:Prop} (k:q) (h:Zqh q→p:=by (intro hq;(repeat (first|refine WL.vl rfl (WV.nch rfl rfl) ?_|refine W.gob rfl ?_|refine WL.nil ?_|refine WL.bt rfl rfl rfl (by omega) ?_|refine WL.bf rfl rfl rfl (by omega) ?_|refine WL.nf rfl rfl rfl (by omega) ?_|refine WL.e1 rfl ?_|refine WL.cat rfl rfl zqs ?_|refine W.condT rfl ?_|refine W.condF rfl ?_);(first|refine (?_:W _ _ _ _ _)|refine (?_:WL _ _ _ _ _ _)|skip);try dsimp only [St.put,Nat.reduceAdd]);exact hq.k)):p:=h ⟨k⟩
theorem zqg32 {p q:Prop} (k:q) (h:Zqh q→p:=by (intro hq;(repeat (first|refine W.gob rfl ?_|refine WL.nil ?_|refine WL.bt rfl rfl rfl (by omega) ?_|refine WL.bf rfl rfl rfl (by omega) ?_|refine WL.e1 rfl ?_|refine WL.gyes rfl rfl rfl rfl ?_|refine WL.opno rfl rfl rfl rfl rfl rfl rfl ?_|refine W.condT rfl ?_|refine W.condF rfl ?_);(first|refine (?_:W _ _ _ _ _)|refine (?_:WL _ _ _ _ _ _)|skip);try dsimp only [St.put,Nat.reduceAdd]);exact hq.k)):p:=h ⟨k⟩
theorem zqg33 {p q:Prop} (k:q) (h:Zqh q→p:=by (intro hq;(repeat (first|refine W.gob rfl ?_|refine WL.nil ?_|refine WL.bt rfl rfl rfl (by omega) ?_|refine WL.bf rfl rfl rfl (by omega) ?_|refine WL.nt rfl rfl rfl (by omega) ?_|refine WL.nf rfl rfl rfl (by omega) ?_|refine WL.e1 rfl ?_|refine WL.gyes rfl rfl rfl rfl ?_|refine WL.opno rfl rfl rfl rfl rfl rfl rfl ?_|refine WL.len rfl rfl (by first|exact List.length_map _|exact List.length_replicate|rfl) ?_|refine W.condT rfl ?_|refine W.condF rfl ?_);(first|refine (?_:W _ _ _ _ _)|refine (?_:WL _ _ _ _ _ _)|skip);try dsimp only [St.put,Nat.reduceAdd]);exact hq.k)):p:=h ⟨k⟩
theorem zqg34 {p q:Prop} (k:q) (h:Zqh q→p:=by (intro hq;(repeat (first|refine W.gob rfl ?_|refine WL.nil ?_|refine WL.bt rfl rfl rfl (by omega) ?_|refine WL.bf rfl rfl rfl (by omega) ?_|refine WL.nt rfl rfl rfl (by omega) ?_|refine WL.nf rfl rfl rfl (by omega) ?_|refine WL.e1 rfl ?_|refine WL.ar rfl rfl (by (unfold I64);omega) ?_|refine WL.len rfl rfl (by first|exact List.length_map _|exact List.length_replicate|rfl) ?_|refine WL.idx rfl rfl (by omega) (by first|exact map_at (by omega)|exact map_atZ (by omega) (by omega)) ?_|refine WL.app rfl rfl rfl zqs ?_|refine W.condT rfl ?_|refine W.condF rfl ?_);(first|refine (?_:W _ _ _ _ _)|refine (?_:WL _ _ _ _ _ _)|skip);try dsimp only [St.put,Nat.reduceAdd]);exact hq.k)):p:=h ⟨k⟩
theorem zqg35 {p q:Prop} (k:q) (h:Zqh q→p:=by (intro hq;(repeat (first|refine WL.vl rfl (WV.nch rfl rfl) ?_|refine WL.vl rfl (WV.nchr rfl rfl) ?_|refine W.gob rfl ?_|refine WL.nil ?_|refine WL.nt rfl rfl rfl (by omega) ?_|refine WL.nf rfl rfl rfl (by omega) ?_|refine WL.e1 rfl ?_|refine WL.gyes rfl rfl rfl rfl ?_|refine WL.opno rfl rfl rfl rfl rfl rfl rfl ?_|refine W.condT rfl ?_|refine W.condF rfl ?_);(first|refine (?_:W _ _ _ _ _)|refine (?_:WL _ _ _ _ _ _)|skip);try dsimp only [St.put,Nat.reduceAdd]);exact hq.k)):p:=h ⟨k⟩
theorem zqg36 {p q:Prop} (k:q) (h:Zqh q→p:=by (intro hq;(repeat (first|refine WL.vl rfl (WV.nch rfl rfl) ?_|refine W.gob rfl ?_|refine WL.nil ?_|refine WL.bt rfl rfl rfl (by omega) ?_|refine WL.bf rfl rfl rfl (by omega) ?_|refine WL.e1 rfl ?_|refine WL.gyes rfl rfl rfl rfl ?_|refine WL.opno rfl rfl rfl rfl rfl rfl rfl ?_|refine WL.ar rfl rfl (by (unfold I64);omega) ?_|refine WL.len rfl rfl (by first|exact List.length_map _|exact List.length_replicate|rfl) ?_|refine WL.idx rfl rfl (by omega) (by first|exact map_at (by omega)|exact map_atZ (by omega) (by omega)) ?_|refine WL.ixs rfl rfl zqs ?_|refine W.condT rfl ?_|refine W.condF rfl ?_);(first|refine (?_:W _ _ _ _ _)|refine (?_:WL _ _ _ _ _ _)|skip);try dsimp only [St.put,Nat.reduceAdd]);exact hq.k)):p:=h ⟨k⟩
theorem zqg37 {p q:Prop} (k:q) (h:Zqh q→p:=by (intro hq;(repeat (first|refine WL.vl rfl (WV.nch rfl rfl) ?_|refine W.gob rfl ?_|refine WL.nil ?_|refine WL.bt rfl rfl rfl (by omega) ?_|refine WL.bf rfl rfl rfl (by omega) ?_|refine WL.e1 rfl ?_|refine WL.gyes rfl rfl rfl rfl ?_|refine WL.opno rfl rfl rfl rfl rfl rfl rfl ?_|refine WL.ar rfl rfl (by (unfold I64);omega) ?_|refine WL.len rfl rfl rfl ?_|refine WL.ixs rfl rfl zqs ?_|refine W.condT rfl ?_|refine W.condF rfl ?_);(first|refine (?_:W _ _ _ _ _)|refine (?_:WL _ _ _ _ _ _)|skip);try dsimp only [St.put,Nat.reduceAdd]);exact hq.k)):p:=h ⟨k⟩
theorem zqg38 {p q:Prop} (k:q) (h:Zqh q→p:=by (intro hq;(repeat (first|refine WL.vl rfl (WV.nch rfl rfl) ?_|refine W.gob rfl ?_|refine WL.nil ?_|refine WL.e1 rfl ?_|refine W.condT rfl ?_);(first|refine (?_:W _ _ _ _ _)|refine (?_:WL _ _ _ _ _ _)|skip);try dsimp only [St.put,Nat.reduceAdd]);exact hq.k)):p:=h ⟨k⟩
theorem zqg39 {p q:Prop} (k:q) (h:Zqh q→p:=by (intro hq;(repeat (first|refine WL.vl rfl (WV.nch rfl rfl) ?_|refine W.gob rfl ?_|refine WL.nil ?_|refine WL.e1 rfl ?_|refine W.condT rfl ?_|refine W.condF rfl ?_);(first|refine (?_:W _ _ _ _ _)|refine (?_:WL _ _ _ _ _ _)|skip);try dsimp only [St.put,Nat.reduceAdd]);exact hq.k)):p:=h ⟨k⟩
theorem zqg40 {p q:Prop} (k:q) (h:Zqh q→p:=by (intro hq;(repeat (first|refine WL.vl rfl (WV.nch rfl rfl) ?_|refine W.gob rfl ?_|refine WL.nil ?_|refine WL.bf rfl rfl rfl (by omega) ?_|refine WL.e1 rfl ?_|refine WL.ar rfl rfl (by (unfold I64);omega) ?_|refine WL.len rfl rfl rfl ?_|refine W.condT rfl ?_|refine W.condF rfl ?_);(first|refine (?_:W _ _ _ _ _)|refine (?_:WL _ _ _ _ _ _)|skip);try dsimp only [St.put,Nat.reduceAdd]);exact hq.k)):p:=h ⟨k⟩
theorem zqg41 {p q:Prop} (k:q) (h:Zqh q→p:=by (intro hq;(repeat (first|refine WL.vl rfl (WV.nch rfl rfl) ?_|refine W.gob rfl ?_|refine WL.nil ?_|refine WL.bt rfl rfl rfl (by omega) ?_|refine WL.bf rfl rfl rfl (by omega) ?_|refine WL.e1 rfl ?_|refine WL.ar rfl rfl (by (unfold I64);omega) ?_|refine WL.len rfl rfl (by first|exact List.length_map _|exact List.length_replicate|rfl) ?_|refine WL.idx rfl rfl (by omega) (by first|exact map_at (by omega)|exact map_atZ (by omega) (by omega)) ?_|refine WL.app rfl rfl rfl zqs ?_|refine W.condT rfl ?_|refine W.condF rfl ?_);(first|refine (?_:W _ _ _ _ _)|refine (?_:WL _ _ _ _ _ _)|skip);try dsimp only [St.put,Nat.reduceAdd]);exact hq.k)):p:=h ⟨k⟩
theorem zqg42 {p q:Prop} (k:q) (h:Zqh q→p:=by (intro hq;(repeat (first|refine WL.vl rfl (WV.nch rfl rfl) ?_|refine W.gob rfl ?_|refine WL.nil ?_|refine WL.bt rfl rfl rfl (by omega) ?_|refine WL.bf rfl rfl rfl (by omega) ?_|refine WL.e1 rfl ?_|refine WL.ar rfl rfl (by (unfold I64);omega) ?_|refine WL.len rfl rfl rfl ?_|refine WL.app rfl rfl rfl zqs ?_|refine W.condT rfl ?_|refine W.condF rfl ?_);(first|refine (?_:W _ _ _ _ _)|refine (?_:WL _ _ _ _ _ _)|skip);try dsimp only [St.put,Nat.reduceAdd]);exact hq.k)):p:=h ⟨k⟩
theorem zqg43 {p q:Prop} (k:q) (h:Zqh q→p:=by (intro hq;(repeat (first|refine WL.vl rfl (WV.nch rfl rfl) ?_|refine W.gob rfl ?_|refine WL.nil ?_|refine WL.bt rfl rfl rfl (by omega) ?_|refine WL.bf rfl rfl rfl (by omega) ?_|refine WL.nt rfl rfl rfl (by omega) ?_|refine WL.nf rfl rfl rfl (by omega) ?_|refine WL.e1 rfl ?_|refine WL.gyes rfl rfl rfl rfl ?_|refine WL.opno rfl rfl rfl rfl rfl rfl rfl ?_|refine WL.ar rfl rfl (by (unfold I64);omega) ?_|refine WL.len rfl rfl rfl ?_|refine WL.app rfl rfl rfl zqs ?_|refine W.condT rfl ?_|refine W.condF rfl ?_);(first|refine (?_:W _ _ _ _ _)|refine (?_:WL _ _ _ _ _ _)|skip);try dsimp only [St.put,Nat.reduceAdd]);exact hq.k)):p:=h ⟨k⟩
theorem zqg44 {p q:Prop} (k:q) (h:Zqh q→p:=by (intro hq;(repeat (first|refine W.gob rfl ?_|refine WL.nil ?_|refine WL.bt rfl rfl rfl (by omega) ?_|refine WL.bf rfl rfl rfl (by omega) ?_|refine WL.e1 rfl ?_|refine WL.gyes rfl rfl rfl rfl ?_|refine WL.opno rfl rfl rfl rfl rfl rfl rfl ?_|refine WL.ar rfl rfl (by (unfold I64);omega) ?_|refine WL.len rfl rfl (by first|exact List.length_map _|exact List.length_replicate|rfl) ?_|refine W.condT rfl ?_|refine W.condF rfl ?_);(first|refine (?_:W _ _ _ _ _)|refine (?_:WL _ _ _ _ _ _)|skip);try dsimp only [St.put,Nat.reduceAdd]);exact hq.k)):p:=h ⟨k⟩
theorem zqg45 {p q:Prop} (k:q) (h:Zqh q→p:=by (intro hq;(repeat (first|refine W.gob rfl ?_|refine WL.nil ?_|refine WL.bt rfl rfl rfl (by omega) ?_|refine WL.bf rfl rfl rfl (by omega) ?_|refine WL.nt rfl rfl rfl (by omega) ?_|refine WL.nf rfl rfl rfl (by omega) ?_|refine WL.e1 rfl ?_|refine WL.ar rfl rfl (by (unfold I64);omega) ?_|refine WL.len rfl rfl (by first|exact List.length_map _|exact List.length_replicate|rfl) ?_|refine W.condT rfl ?_|refine W.condF rfl ?_);(first|refine (?_:W _ _ _ _ _)|refine (?_:WL _ _ _ _ _ _)|skip);try dsimp only [St.put,Nat.reduceAdd]);exact hq.k)):p:=h ⟨k⟩
theorem zqg46 {p q:Prop} (k:q) (h:Zqh q→p:=by (intro hq;(repeat (first|refine W.go rfl ?_|refine WL.nil ?_|refine WL.ev rfl ?_|refine WL.ar rfl rfl (by (unfold I64);omega) ?_|refine WL.len rfl rfl (by first|exact List.length_map _|exact List.length_replicate|rfl) ?_|refine W.condT rfl ?_|refine W.condF rfl ?_);(first|refine (?_:W _ _ _ _ _)|refine (?_:WL _ _ _ _ _ _)|skip);try dsimp only [St.put,Nat.reduceAdd]);exact hq.k)):p:=h ⟨k⟩
theorem zqg47 {p q:Prop} (k:q) (h:Zqh q→p:=by (intro hq;(repeat (first|refine W.gob rfl ?_|refine WL.nil ?_|refine WL.bt rfl rfl rfl (by omega) ?_|refine WL.bf rfl rfl rfl (by omega) ?_|refine WL.nt rfl rfl rfl (by omega) ?_|refine WL.nf rfl rfl rfl (by omega) ?_|refine WL.e1 rfl ?_|refine WL.gyes rfl rfl rfl rfl ?_|refine WL.opno rfl rfl rfl rfl rfl rfl rfl ?_|refine WL.ar rfl rfl (by (unfold I64);omega) ?_|refine WL.div rfl rfl (by omega) ?_|refine WL.neg rfl rfl (by (unfold I64);omega) ?_|refine WL.len rfl rfl (by first|exact List.length_map _|exact List.length_replicate|rfl) ?_|refine WL.idx rfl rfl (by omega) (by first|exact map_at (by omega)|exact map_atZ (by omega) (by omega)) ?_|refine WL.ixs rfl rfl zqs ?_|refine WL.app rfl rfl rfl zqs ?_|refine WL.cat rfl rfl zqs ?_|refine W.condT rfl ?_|refine W.condF rfl ?_);(first|refine (?_:W _ _ _ _ _)|refine (?_:WL _ _ _ _ _ _)|skip);try dsimp only [St.put,Nat.reduceAdd]);exact hq.k)):p:=h ⟨k⟩
theorem zqg48 {p q:Prop} (k:q) (h:Zqh q→p:=by (intro hq;(repeat (first|refine W.go rfl ?_|refine WL.nil ?_|refine WL.ev rfl ?_|refine WL.gyes rfl rfl rfl rfl ?_|refine WL.opno rfl rfl rfl rfl rfl rfl rfl ?_|refine WL.ar rfl rfl (by (unfold I64);omega) ?_|refine WL.div rfl rfl (by omega) ?_|refine WL.neg rfl rfl (by (unfold I64);omega) ?_|refine WL.len rfl rfl (by first|exact List.length_map _|exact List.length_replicate|rfl) ?_|refine WL.idx rfl rfl (by omega) (by first|exact map_at (by omega)|exact map_atZ (by omega) (by omega)) ?_|refine WL.ixs rfl rfl zqs ?_|refine WL.app rfl rfl rfl zqs ?_|refine WL.cat rfl rfl zqs ?_|refine W.condT rfl ?_|refine W.condF rfl ?_);(first|refine (?_:W _ _ _ _ _)|refine (?_:WL _ _ _ _ _ _)|skip);try dsimp only [St.put,Nat.reduceAdd]);exact hq.k)):p:=h ⟨k⟩
theorem zqg49 {p q:Prop} (k:q) (h:Zqh q→p:=by (intro hq;(repeat (first|refine W.gob rfl ?_|refine WL.nil ?_|refine WL.bt rfl rfl rfl (by omega) ?_|refine WL.bf rfl rfl rfl (by omega) ?_|refine WL.nt rfl rfl rfl (by omega) ?_|refine WL.nf rfl rfl rfl (by omega) ?_|refine WL.e1 rfl ?_|refine WL.gyes rfl rfl rfl rfl ?_|refine WL.opno rfl rfl rfl rfl rfl rfl rfl ?_|refine WL.ar rfl rfl (by (unfold I64);omega) ?_|refine WL.len rfl rfl (by first|exact List.length_map _|exact List.length_replicate|rfl) ?_|refine W.condT rfl ?_|refine W.condF rfl ?_);(first|refine (?_:W _ _ _ _ _)|refine (?_:WL _ _ _ _ _ _)|skip);try dsimp only [St.put,Nat.reduceAdd]);exact hq.k)):p:=h ⟨k⟩
theorem zqg50 {p q:Prop} (k:q) (h:Zqh q→p:=by (intro hq;(repeat (first|refine W.go rfl ?_|refine WL.nil ?_|refine WL.ev rfl ?_|refine WL.gyes rfl rfl rfl rfl ?_|refine WL.opno rfl rfl rfl rfl rfl rfl rfl ?_|refine WL.ar rfl rfl (by (unfold I64);omega) ?_|refine WL.len rfl rfl (by first|exact List.length_map _|exact List.length_replicate|rfl) ?_|refine W.condT rfl ?_|refine W.condF rfl ?_);(first|refine (?_:W _ _ _ _ _)|refine (?_:WL _ _ _ _ _ _)|skip);try dsimp only [St.put,Nat.reduceAdd]);exact hq.k)):p:=h ⟨k⟩
theorem zqg51 {p q:Prop} (k:q) (h:Zqh q→p:=by(intro hq;(repeat(first|refine W.go rfl ?_|refine WL.ev rfl ?_|refine WL.gyes rfl rfl rfl rfl ?_);(first|refine(?_:W _ _ _ _ _)|refine(?_:WL _ _ _ _ _ _)|skip);try dsimp only [St.put,Nat.reduceAdd]);exact hq.k)):p:=h ⟨k⟩
theorem zqg52 {p q:Prop} (k:q) (h:Zqh q→p:=by (intro hq;(repeat (first|refine W.gob rfl ?_|refine WL.nil ?_|refine WL.bt rfl rfl rfl (by omega) ?_|refine WL.bf rfl rfl rfl (by omega) ?_|refine WL.nf rfl rfl rfl (by omega) ?_|refine WL.e1 rfl ?_|refine WL.ar rfl rfl (by (unfold I64);omega) ?_|refine WL.len rfl rfl (by first|exact List.length_map _|exact List.length_replicate|rfl) ?_|refine WL.idx rfl rfl (by omega) (by first|exact map_at (by omega)|exact map_atZ (by omega) (by omega)) ?_|refine W.condT rfl ?_|refine W.condF rfl ?_);(first|refine (?_:W _ _ _ _ _)|refine (?_:WL _ _ _ _ _ _)|skip);try dsimp only [St.put,Nat.reduceAdd]);exact hq.k)):p:=h ⟨k⟩
theorem zqg53 {p q:Prop} (k:q) (h:Zqh q→p:=by (intro hq;(repeat (first|refine W.go rfl ?_|refine WL.nil ?_|refine WL.ev rfl ?_|refine WL.ar rfl rfl (by (unfold I64);omega) ?_|refine WL.len rfl rfl (by first|exact List.length_map _|exact List.length_replicate|rfl) ?_|refine WL.idx rfl rfl (by omega) (by first|exact map_at (by omega)|exact map_atZ (by omega) (by omega)) ?_|refine W.condT rfl ?_|refine W.condF rfl ?_);(first|refine (?_:W _ _ _ _ _)|refine (?_:WL _ _ _ _ _ _)|skip);try dsimp only [St.put,Nat.reduceAdd]);exact hq.k)):p:=h ⟨k⟩
theorem zqg54 {p q:Prop} (k:q) (h:Zqh q→p:=by (intro hq;(repeat (first|refine DK.tt rfl (by first|(simp;done)|fail) ?_|refine DK.ff rfl (by first|(simp;done)|fail) ?_|refine DK.st rfl ?_|refine DK.ar rfl rfl (by (unfold I64);omega) ?_|refine DK.len rfl rfl (by first|exact List.length_map _|exact List.length_replicate|rfl) ?_|refine DK.idx rfl rfl (by omega) (by first|exact map_at (by omega)|exact map_atZ (by omega) (by omega)) ?_|refine DK.ixs rfl rfl zqs ?_|refine DK.cat rfl rfl zqs ?_|refine DK.nil ?_));exact hq.k)):p:=h ⟨k⟩
theorem zqg55 {p q:Prop} (k:q) (h:Zqh q→p:=by (intro hq;(repeat (first|refine W.gob rfl ?_|refine WL.nil ?_|refine WL.bt rfl rfl rfl (by omega) ?_|refine WL.bf rfl rfl rfl (by omega) ?_|refine WL.e1 rfl ?_|refine WL.gyes rfl rfl rfl rfl ?_|refine WL.opno rfl rfl rfl rfl rfl rfl rfl ?_|refine WL.ar rfl rfl (by (unfold I64);omega) ?_|refine WL.len rfl rfl (by first|exact List.length_map _|exact List.length_replicate|rfl) ?_|refine WL.idx rfl rfl (by omega) (by first|exact map_at (by omega)|exact map_atZ (by omega) (by omega)) ?_|refine W.condT rfl ?_|refine W.condF rfl ?_);(first|refine (?_:W _ _ _ _ _)|refine (?_:WL _ _ _ _ _ _)|skip);try dsimp only [St.put,Nat.reduceAdd]);exact hq.k)):p:=h ⟨k⟩
theorem zqg56 {p q:Prop} (k:q) (h:Zqh q→p:=by (intro hq;(repeat (first|refine DK.bt rfl rfl (by omega) ?_|refine DK.bf rfl rfl (by omega) ?_|refine DK.tt rfl (by first|(simp;done)|fail) ?_|refine DK.ff rfl (by first|(simp;done)|fail) ?_|refine DK.st rfl ?_|refine DK.ar rfl rfl (by (unfold I64);omega) ?_|refine DK.idx rfl rfl (by omega) (by first|exact map_at (by omega)|exact map_atZ (by omega) (by omega)) ?_|refine DK.nil ?_));exact hq.k)):p:=h ⟨k⟩
theorem zqg57 {p q:Prop} (k:q) (h:Zqh q→p:=by (intro hq;(repeat (first|refine W.gob rfl ?_|refine WL.nil ?_|refine WL.bt rfl rfl rfl (by omega) ?_|refine WL.bf rfl rfl rfl (by omega) ?_|refine WL.e1 rfl ?_|refine WL.ar rfl rfl (by (unfold I64);omega) ?_|refine WL.len rfl rfl (by first|exact List.length_map _|exact List.length_replicate|rfl) ?_|refine WL.app rfl rfl rfl zqs ?_|refine W.condT rfl ?_|refine W.condF rfl ?_);(first|refine (?_:W _ _ _ _ _)|refine (?_:WL _ _ _ _ _ _)|skip);try dsimp only [St.put,Nat.reduceAdd]);exact hq.k)):p:=h ⟨k⟩
theorem zqg58 {p q:Prop} (k:q) (h:Zqh q→p:=by (intro hq;(repeat (first|refine W.gob rfl ?_|refine WL.nil ?_|refine WL.bt rfl rfl rfl (by omega) ?_|refine WL.bf rfl rfl rfl (by omega) ?_|refine WL.e1 rfl ?_|refine WL.gyes rfl rfl rfl rfl ?_|refine WL.opno rfl rfl rfl rfl rfl rfl rfl ?_|refine WL.ar rfl rfl (by (unfold I64);omega) ?_|refine WL.div rfl rfl (by omega) ?_|refine W.condT rfl ?_|refine W.condF rfl ?_);(first|refine (?_:W _ _ _ _ _)|refine (?_:WL _ _ _ _ _ _)|skip);try dsimp only [St.put,Nat.reduceAdd]);exact hq.k)):p:=h ⟨k⟩
theorem zqg59 {p q:Prop} (k:q) (h:Zqh q→p:=by (intro hq;(repeat (first|refine W.go rfl ?_|refine WL.nil ?_|refine WL.ar rfl rfl (by (unfold I64);omega) ?_|refine WL.len rfl rfl (by first|exact List.length_map _|exact List.length_replicate|rfl) ?_|refine WL.idx rfl rfl (by omega) (by first|exact map_at (by omega)|exact map_atZ (by omega) (by omega)) ?_|refine WL.cat rfl rfl zqs ?_|refine W.condT rfl ?_|refine W.condF rfl ?_);(first|refine (?_:W _ _ _ _ _)|refine (?_:WL _ _ _ _ _ _)|skip);try dsimp only [St.put,Nat.reduceAdd]);exact hq.k)):p:=h ⟨k⟩
theorem zqg60 {p q:Prop} (k:q) (h:Zqh q→p:=by (intro hq;(repeat (first|refine W.gob rfl ?_|refine WL.nil ?_|refine WL.bt rfl rfl rfl (by omega) ?_|refine WL.bf rfl rfl rfl (by omega) ?_|refine WL.nt rfl rfl rfl (by omega) ?_|refine WL.nf rfl rfl rfl (by omega) ?_|refine WL.e1 rfl ?_|refine WL.ar rfl rfl (by (unfold I64);omega) ?_|refine WL.len rfl rfl (by first|exact List.length_map _|exact List.length_replicate|rfl) ?_|refine WL.idx rfl rfl (by omega) (by first|exact map_at (by omega)|exact map_atZ (by omega) (by omega)) ?_|refine WL.cat rfl rfl zqs ?_|refine W.condT rfl ?_|refine W.condF rfl ?_);(first|refine (?_:W _ _ _ _ _)|refine (?_:WL _ _ _ _ _ _)|skip);try dsimp only [St.put,Nat.reduceAdd]);exact hq.k)):p:=h ⟨k⟩
section
variable {H:Type} {enc:TypeId×Value→H} {P:Program} {w:World} {base:Nat} {spare:Nat→Bool} {held:Bool}
theorem post_of_below {f:Func} {s:ChangeSpec} {apart fresh handsOn again:Bool} {W W':World} {args:Array Value} {v:Value} {ds gs:List (DataW H)} {before pa pv:List MemPlace}
  (hW:DataW.Whole enc P f.params.toList s.vars apart W args.toList ds gs before)
  (hres:∀ (b:Nat) (sp:Nat→Bool) (hd:Bool),DataW.TrodAll enc P W' b sp hd f.resultTypes.toList (v.resultList f.resultTypes.size) (s.fn H (ds++gs)).results [])
  (hargs:∀ sp:Nat→Bool,(∀ p∈before,sp p.block=true)→DataW.TrodAll enc P W' 0 sp true f.params.toList args.toList (s.fn H (ds++gs)).args pa)
  (hvars:∀ sp:Nat→Bool,(∀ p∈before,sp p.block=true)→DataW.TrodVars enc P W' sp s.vars (s.fn H (ds++gs)).vars pv)
  (hps:before=pa++pv) (hb:Below W.heap.size W W')
  (hok:∀ (j:Nat) (t:TypeId) (r:Value),f.resultTypes[j]?=some t→(v.resultList f.resultTypes.size)[j]?=some r→Value.okWide P W' .any 0 t r) :
  s.post enc P f apart fresh handsOn again W args v W':=by
 have hlt:∀ p∈before,p.block<W.heap.size:=fun p hp=>hW.lt p hp
 have hold:∀ p∈before,(fun b=>decide (b<W.heap.size)) p.block=true:=fun p hp=>by simpa using hlt p hp
 refine ⟨ds,gs,before,[],pa,pv,hW,hres _ _ _,hargs _ hold,hvars _ hold,World.keptBut_mono (fun p hp=>⟨hp,?_⟩) (hb.frame (·∈before)),fun _=>?_⟩
 ·rw [hps,List.mem_append] at hp
  exact Or.inr hp
 ·obtain ⟨_,_,_,_,_,hz,hn⟩:=hW
  refine ⟨hok,_,_,([]++pa)++pv,⟨[]++pa,pv,trodAll_append (hargs _ (fun _ _=>rfl)) (hres _ _ _),hvars _ (fun _ _=>rfl),rfl,?_,?_⟩,?_⟩
  ·intro b off hp
   have hin:MemPlace.cell b off∈before:=by rw [hps];simpa using hp
   rw [hb.frozen (hlt _ hin)]
   exact hz b off hin
  ·intro ha
   have:=hn ha
   rw [hps] at this
   simpa using this
  ·intro p hp _
   rw [hps]
   simpa using hp
end
end
section
open Go.RowKit
def bs(l:List UInt8):ByteArray:=⟨l.toArray⟩
theorem mk_bs(xs:Array UInt8):(ByteArray.mk xs)=bs xs.toList:=rfl
theorem bs_of(s:ByteArray):∃ l,s=bs l:=⟨s.data.toList,rfl⟩
theorem bs_size(l:List UInt8):(bs l).size=l.length:=by simp [bs,ByteArray.size]
theorem bs_data(l:List UInt8):(bs l).data.toList=l:=by simp [bs]
theorem bs_append (a b:List UInt8):bs a++bs b=bs (a++b):=by
 apply ByteArray.ext;simp [bs,ByteArray.data_append]
theorem bs_extract (l:List UInt8)(a b:Nat):(bs l).extract a b=bs ((l.drop a).take (b-a)):=by
 apply ByteArray.ext;simp [bs,ByteArray.data_extract]
theorem bs_toList(l:List UInt8):(bs l).toList=l:=by
 simp [bs]
def cut (l:List UInt8)(i j:Int):List UInt8:=(l.drop i.toNat).take (j.toNat-i.toNat)
theorem cut_length(l:List UInt8)(i j:Int):(cut l i j).length≤l.length:=by simp only [cut,List.length_take,List.length_drop];omega
section
variable {P:Program} (w:World)
theorem run_cut (t:TypeId) (l:List UInt8) (k k':IntKind) (i j:Int) (h:P.underlying t=some .string) (h0:0≤i) (h1:i≤j) (h2:j≤(l.length:Int)) :
  (Instr.slice t (.string (bs l)) (some (.int k i)) (some (.int k' j)) none).run P w=.ok (.string (bs (cut l i j))) w:=by
 rw [run_slice_string w t (bs l) k k' i j h h0 h1 (by rw [bs_size];exact h2),bs_extract];rfl
theorem run_cut_to (t:TypeId)(l:List UInt8)(k':IntKind)(j:Int)(h:P.underlying t=some .string)(h0:0≤j)(h2:j≤(l.length:Int)) :
  (Instr.slice t (.string (bs l)) none (some (.int k' j)) none).run P w=.ok (.string (bs (cut l 0 j))) w:=by
 have hj:0≤j∧j≤((bs l).size:Int):=⟨h0,by rw [bs_size];exact h2⟩
 rw [run_slice_string_to_if w t (bs l) k' j h,if_pos hj,bs_extract];rfl
theorem run_cut_from (t:TypeId) (l:List UInt8) (k:IntKind) (i:Int) (h:P.underlying t=some .string) (h0:0≤i) (h2:i≤(l.length:Int)) :
  (Instr.slice t (.string (bs l)) (some (.int k i)) none none).run P w=.ok (.string (bs (l.drop i.toNat))) w:=by
 have hj:0≤i∧i≤((bs l).size:Int):=⟨h0,by rw [bs_size];exact h2⟩
 rw [run_slice_string_from_if w t (bs l) k i h,if_pos hj,bs_extract,bs_size]
 rw [List.take_of_length_le (by simp)]
theorem run_add_bs (a b:List UInt8) (h:a.length+b.length≤9223372036854775807):(Op.stringOp .add (bs a) (bs b)).run P w=.ok (.string (bs (a++b))) w:=by
 rw [run_string_add_sum w (bs a) (bs b) (by rw [bs_size,bs_size];exact h),bs_append]
end
theorem bel_drewN {B:Nat} {a w:World} (h:Below B a w) (n:Nat):Below B a (w.drewN n):=h.trans ⟨rfl,rfl,rfl,Nat.le_refl _,fun _ _=>rfl⟩
theorem bel_step {a w w':World} (h:Below a.heap.size a w)(hb:Below w.heap.size w w'):Below a.heap.size a w':=h.trans (hb.mono h.size)
theorem bel_alloc {a w:World} (h:Below a.heap.size a w)(o:Obj):Below a.heap.size a (w.alloc o):=h.alloc h.size o
theorem zqb {n:Nat} {w w':World} (h:Below n w w':=by repeat (first|exact Below.refl _ _|assumption|refine bel_drewN ?_ _|refine Below.drew ?_|refine bel_alloc ?_ _|refine Below.setCell ?_ zqs _|refine bel_step ?_ (by assumption))):Below n w w':=h
theorem bcell {W w1:World} (hb:Below W.heap.size W w1):(∀ b o,b<W.heap.size→w1.cell? ⟨b,o,none⟩=W.cell? ⟨b,o,none⟩)∧(∀ b o,b<W.heap.size→w1.frozen? ⟨b,o,none⟩=W.frozen? ⟨b,o,none⟩) :=
 ⟨fun b o h=>hb.cell (p:=⟨b,o,none⟩) h,fun b o h=>hb.frozen (p:=⟨b,o,none⟩) h⟩
theorem run_partAt_zero {P:Program} (w:World) (b:Nat) (e:TypeId) (cs:Array Value) (hb:w.heap[b]?=some (.cells cs e (0,0))) (h0:P.cellsOf e=0):(partAt ⟨b,0,none⟩ 0 0).run P w=.ok ⟨b,0,none⟩ w:=by
 have hs:w.shape? b=some (e,cs.size):=by simp [World.shape?,hb]
 simp [partAt,byteOf,noView,viewAt,hs,h0]
theorem heap_alloc2 (w:World)(o o':Obj):((w.alloc o).alloc o').heap[w.heap.size]?=some o:=by
 rw [Below.heap_alloc _ _ _ (by simp)];exact heap_alloc_new w o
def Blk (w:World)(g:Nat)(t:TypeId)(cs:Array Value):Prop:=w.heap[g]?=some (.cells cs t (0,0))
section
variable {w w':World} {g:Nat} {t:TypeId} {cs:Array Value}
theorem Blk.lt(h:Blk w g t cs):g<w.heap.size:=by
 rcases Nat.lt_or_ge g w.heap.size with hlt|hge
 ·exact hlt
 ·unfold Blk at h;rw [Array.getElem?_eq_none hge]at h;cases h
theorem Blk.cell (h:Blk w g t cs) (i:Nat):w.cell? ⟨g,i,none⟩=cs[i]?:=cell_of_row w g i cs t (0,0) h
theorem Blk.frozen(h:Blk w g t cs) (i:Nat):w.frozen? ⟨g,i,none⟩=false:=by
 unfold Blk at h
 simp [World.frozen?,h]
theorem Blk.new (w:World)(t:TypeId)(cs:Array Value):Blk (w.alloc (.cells cs t)) w.heap.size t cs:=heap_alloc_new w _
theorem Blk.alloc (h:Blk w g t cs)(o:Obj):Blk (w.alloc o) g t cs:=(Below.heap_alloc w o g h.lt).trans h
theorem Blk.after(h:Blk w g t cs)(hb:Below w.heap.size w w'):Blk w' g t cs:=(hb.block g h.lt).trans h
end
def Ret(v:Value)(W:World)(e:Ending)(w':World):Prop:=e=.returned v∧Below W.heap.size W w'
theorem Ret.mk' {v v':Value} {W w':World} (h:v'=v)(hb:Below W.heap.size W w'):Ret v W (.returned v') w':=⟨by rw [h],hb⟩
end
section
open Go.RowKit
theorem own_built (w:World) (e:TypeId) (size n:Nat) (cs:Array Value) (hn:n≤maxLen) (hs:cs.size=n*size) :
  (w.alloc (.cells cs e)).ownsRow w.heap.size e size (.slice (some ⟨w.heap.size,0,none⟩) n n) n cs.toList :=
 ⟨by simpa using hs,.inr ⟨w.heap.size,n,cs,rfl,Nat.le_refl _,heap_alloc_new w _,Nat.le_refl _,hn,hs,by rw [← hs,List.take_of_length_le (by simp)]⟩⟩
theorem add_zero_addr(g j:Nat):(⟨g,0,none⟩:Addr).add j =⟨g,j,none⟩:=by
 unfold Addr.add
 by_cases h:j=0<;>simp [h]
theorem own_weaken {w:World} {base B:Nat} {e:TypeId} {size n:Nat} {v:Value} {xs:List Value} (h:w.ownsRow base e size v n xs) (hB:B≤base):w.ownsRow B e size v n xs:=by
 rcases h with⟨h1,h2|⟨g,cap,cur,hv,hbg,h3⟩⟩
 ·exact ⟨h1,.inl h2⟩
 ·exact ⟨h1,.inr ⟨g,cap,cur,hv,by omega,h3⟩⟩
end
section
open Go.RowKit
theorem block_of_add(a:Addr)(n:Nat):(a.add n).block=a.block:=by unfold Addr.add;split<;>rfl
theorem add_of_add (a:Addr)(i j:Nat):(a.add i).add j=a.add (i+j):=by
 unfold Addr.add
 by_cases hi:i=0<;>by_cases hj:j=0<;>simp [hi,hj,Nat.add_assoc]
theorem add_field (ad:Addr)(i j:Nat)(h:0<j):ad.add (i+j) =⟨(ad.add i).block,(ad.add i).off+j,none⟩:=by
 rw [← add_of_add]
 generalize ad.add i=b
 unfold Addr.add
 rw [if_neg (by omega)]
def Rd (w:World)(B size:Nat)(A:Option Addr)(l:List (List Value)):Prop :=
 0<l.length→∃ ad,A=some ad∧ad.block<B∧∀ k r,l[k]?=some r→∀ j u,r[j]?=some u→w.cell? (ad.add (k*size+j))=some u
section
variable {w w':World} {B B' size:Nat} {A:Option Addr} {l:List (List Value)}
theorem Rd.none_:Rd w B size A []:=fun h=>absurd h (by simp)
theorem Rd.at_ {k:Nat} (h:Rd w B size A l)(hk:k<l.length):∃ ad,A=some ad∧ad.block<B∧∀ j u,(l[k])[j]?=some u→w.cell? (ad.add (k*size+j))=some u:=by
 obtain⟨ad,e,hb,hc⟩:=h zqo
 exact⟨ad,e,hb,fun j u hu=>hc k _ (List.getElem?_eq_getElem hk) j u hu⟩
theorem Rd.keep (h:Rd w B size A l)(hk:∀ p:Addr,p.block<B→w'.cell? p=w.cell? p):Rd w' B size A l:=fun hn=>by
 obtain⟨ad,e,hb,hc⟩:=h hn
 exact⟨ad,e,hb,fun k r hr j u hu=>(hk _ (by rw [block_of_add];exact hb)).trans (hc k r hr j u hu)⟩
theorem Rd.more(h:Rd w B size A l)(hB:B≤B'):Rd w B' size A l:=fun hn=>by
 obtain⟨ad,e,hb,hc⟩:=h hn
 exact⟨ad,e,by omega,hc⟩
theorem Rd.alloc (h:Rd w B size A l)(hB:B≤w.heap.size)(o:Obj):Rd (w.alloc o) B size A l:=h.keep fun p hp=>World.cell?_alloc_lt w o p (by omega)
end
end
section
open Go.RowKit
def intCell(x:Int):List Value:=[.int .i64 x]
def crsCells(x:Int×Int×Bool):List Value:=[.int .i64 x.1,.int .i64 x.2.1,.bool x.2.2]
def stepsBad (last:Int):List Int→Bool
 | []=>false
 | x::r=>decide (x≤last∨127<x)|| stepsBad x r
def topOf (st:List Int)(x:Int×Int×Bool):Int:=(x.1+if 0<x.2.1 then st.getD (x.2.1.toNat-1) 0 else 0)+if x.2.2 then 12 else 0
def crsE (st:List Int):List (Int×Int×Bool)→Int
 | []=>0
 | x::r=>if x.2.1<0∨(st.length:Int)<x.2.1 then 13 else if (x.1<0∨127<x.1)∨127<topOf st x then 10 else crsE st r
def insE (cs:List (Int×Int×Bool))(st:List Int):Int :=
 if 14<cs.length∨18<st.length then 2 else if cs.length=0 then 11 else if stepsBad 0 st=true then 11 else crsE st cs
theorem stepsBad_at {last:Int} {st:List Int} {k:Nat} (h:k<st.length):stepsBad last (st.drop k)=(decide (st[k]≤last∨127<st[k])|| stepsBad st[k] (st.drop (k+1))):=by
 rw [List.drop_eq_getElem_cons h];rfl
theorem crsE_at {st:List Int} {cs:List (Int×Int×Bool)} {k:Nat} (h:k<cs.length) :
  crsE st (cs.drop k)=if cs[k].2.1<0∨(st.length:Int)<cs[k].2.1 then 13 else if (cs[k].1<0∨127<cs[k].1)∨127<topOf st cs[k]then 10 else crsE st (cs.drop (k+1)):=by
 rw [List.drop_eq_getElem_cons h];rfl
theorem stepsBad_bd:∀ {st:List Int} {last:Int},0≤last→stepsBad last st=false→∀ k (h:k<st.length),1≤st[k]∧st[k]≤127:=by
 intro st
 induction st with
 | nil=>intro last _ _ k h;simp at h
 | cons x r ih =>
  intro last h0 hb k h
  unfold stepsBad at hb
  rw [Bool.or_eq_false_iff] at hb
  have hx:=of_decide_eq_false hb.1
  cases k with
  | zero=>simp only [List.getElem_cons_zero];omega
  | succ k=>simp only [List.getElem_cons_succ];exact ih (by omega) hb.2 k (by simpa using h)
def InsAt (w:World)(B:Nat)(A1 A2:Option Addr)(cs:List (Int×Int×Bool))(st:List Int):Prop:=Rd w B 3 A1 (cs.map crsCells)∧Rd w B 1 A2 (st.map intCell)
section
variable {w w':World} {B B':Nat} {A1 A2:Option Addr} {cs:List (Int×Int×Bool)} {st:List Int}
theorem InsAt.keep(h:InsAt w B A1 A2 cs st)(hk:∀ p:Addr,p.block<B→w'.cell? p=w.cell? p):InsAt w' B A1 A2 cs st:=⟨h.1.keep hk,h.2.keep hk⟩
theorem InsAt.more(h:InsAt w B A1 A2 cs st)(hB:B≤B'):InsAt w B' A1 A2 cs st:=⟨h.1.more hB,h.2.more hB⟩
theorem InsAt.below(h:InsAt w B A1 A2 cs st)(hb:Below B w w'):InsAt w' B A1 A2 cs st:=h.keep fun _ hp=>hb.cell hp
theorem InsAt.alloc (h:InsAt w B A1 A2 cs st)(hB:B≤w.heap.size)(o:Obj):InsAt (w.alloc o) B A1 A2 cs st:=⟨h.1.alloc hB o,h.2.alloc hB o⟩
theorem InsAt.step {k:Nat} (h:InsAt w B A1 A2 cs st) (hk:k<st.length):∃ ad,A2=some ad∧ad.block<B∧w.cell? (ad.add k)=some (.int .i64 st[k]):=by
 obtain ⟨ad,e,hb,hc⟩:=h.2.at_ (k:=k) (by simpa using hk)
 refine ⟨ad,e,hb,?_⟩
 have:=hc 0 (.int .i64 st[k]) (by simp [intCell])
 simpa using this
theorem InsAt.crs {k:Nat} (h:InsAt w B A1 A2 cs st) (hk:k<cs.length):∃ ad,A1=some ad∧ad.block<B∧w.cell? (ad.add (k*3))=some (.int .i64 cs[k].1)∧w.cell? ⟨(ad.add (k*3)).block,(ad.add (k*3)).off+1,none⟩=some (.int .i64 cs[k].2.1)∧w.cell? ⟨(ad.add (k*3)).block,(ad.add (k*3)).off+2,none⟩=some (.bool cs[k].2.2):=by
 obtain ⟨ad,e,hb,hc⟩:=h.1.at_ (k:=k) (by simpa using hk)
 refine ⟨ad,e,hb,?_,?_,?_⟩
 ·have:=hc 0 (.int .i64 cs[k].1) (by simp [crsCells]);simpa using this
 ·rw [← add_field _ _ _ (by omega)];exact hc 1 (.int .i64 cs[k].2.1) (by simp [crsCells])
 ·rw [← add_field _ _ _ (by omega)];exact hc 2 (.bool cs[k].2.2) (by simp [crsCells])
end
end
section
open Go.RowKit
abbrev Stp:=Int×Int×Int×Int×Int
def stpCells(x:Stp):List Value:=[.int .i64 x.1,.int .i64 x.2.1,.int .i64 x.2.2.1,.int .i64 x.2.2.2.1,.int .i64 x.2.2.2.2]
structure Ev where
 bar:Bool
 val:Int
 dot:Bool
 three:Bool
 tie:Bool
 stops:List Stp
def evCells(e:Ev)(m:Option Addr×Nat):List Value:=[.bool e.bar,.int .i64 e.val,.bool e.dot,.bool e.three,.bool e.tie,.slice m.1 e.stops.length m.2]
structure Pce where
 cs:List (Int×Int×Bool)
 st:List Int
 evs:List Ev
structure PM where
 A1:Option Addr
 A2:Option Addr
 A3:Option Addr
 c1:Nat
 c2:Nat
 c3:Nat
def StpsAt (w:World)(B:Nat)(A:Option Addr)(l:List Stp):Prop:=Rd w B 5 A (l.map stpCells)
def EvsAt (w:World)(B:Nat)(A:Option Addr)(evs:List Ev):Prop :=
 ∃ ms:List (Option Addr×Nat),ms.length=evs.length∧Rd w B 6 A (List.zipWith evCells evs ms)∧∀ (k:Nat)(e:Ev)(m:Option Addr×Nat),evs[k]?=some e→ms[k]?=some m→StpsAt w B m.1 e.stops
def PcAt(w:World)(B:Nat)(M:PM)(p:Pce):Prop:=InsAt w B M.A1 M.A2 p.cs p.st∧EvsAt w B M.A3 p.evs∧p.evs.length≤M.c3
def pcValue(M:PM)(p:Pce):Value:=.agg #[.slice M.A1 p.cs.length M.c1,.slice M.A2 p.st.length M.c2,.slice M.A3 p.evs.length M.c3]
section
variable {w w':World} {B B':Nat} {A:Option Addr} {l:List Stp} {evs:List Ev} {M:PM} {p:Pce}
theorem StpsAt.keep(h:StpsAt w B A l)(hk:∀ p:Addr,p.block<B→w'.cell? p=w.cell? p):StpsAt w' B A l:=Rd.keep h hk
theorem StpsAt.more(h:StpsAt w B A l)(hB:B≤B'):StpsAt w B' A l:=Rd.more h hB
theorem StpsAt.below(h:StpsAt w B A l)(hb:Below B w w'):StpsAt w' B A l:=h.keep fun _ hp=>hb.cell hp
theorem EvsAt.keep(h:EvsAt w B A evs)(hk:∀ p:Addr,p.block<B→w'.cell? p=w.cell? p):EvsAt w' B A evs:=by
 obtain⟨ms,h1,h2,h3⟩:=h
 exact⟨ms,h1,h2.keep hk,fun k e m he hm=>(h3 k e m he hm).keep hk⟩
theorem EvsAt.more(h:EvsAt w B A evs)(hB:B≤B'):EvsAt w B' A evs:=by
 obtain⟨ms,h1,h2,h3⟩:=h
 exact⟨ms,h1,h2.more hB,fun k e m he hm=>(h3 k e m he hm).more hB⟩
theorem EvsAt.below(h:EvsAt w B A evs)(hb:Below B w w'):EvsAt w' B A evs:=h.keep fun _ hp=>hb.cell hp
theorem PcAt.keep(h:PcAt w B M p)(hk:∀ p:Addr,p.block<B→w'.cell? p=w.cell? p):PcAt w' B M p:=⟨h.1.keep hk,h.2.1.keep hk,h.2.2⟩
theorem PcAt.more(h:PcAt w B M p)(hB:B≤B'):PcAt w B' M p:=⟨h.1.more hB,h.2.1.more hB,h.2.2⟩
theorem PcAt.below(h:PcAt w B M p)(hb:Below B w w'):PcAt w' B M p:=h.keep fun _ hp=>hb.cell hp
theorem PcAt.after(h:PcAt w w.heap.size M p)(hb:Below w.heap.size w w'):PcAt w' w'.heap.size M p:=(h.below hb).more hb.size
theorem StpsAt.after(h:StpsAt w w.heap.size A l)(hb:Below w.heap.size w w'):StpsAt w' w'.heap.size A l:=(h.below hb).more hb.size
theorem StpsAt.stp {k:Nat} (h:StpsAt w B A l) (hk:k<l.length):∃ ad,A=some ad∧ad.block<B∧w.cell? (ad.add (k*5))=some (.int .i64 l[k].1) ∧
  w.cell? ⟨(ad.add (k*5)).block,(ad.add (k*5)).off+1,none⟩=some (.int .i64 l[k].2.1)∧w.cell? ⟨(ad.add (k*5)).block,(ad.add (k*5)).off+2,none⟩=some (.int .i64 l[k].2.2.1) ∧
  w.cell? ⟨(ad.add (k*5)).block,(ad.add (k*5)).off+3,none⟩=some (.int .i64 l[k].2.2.2.1)∧w.cell? ⟨(ad.add (k*5)).block,(ad.add (k*5)).off+4,none⟩=some (.int .i64 l[k].2.2.2.2):=by
 obtain ⟨ad,e,hb,hc⟩:=Rd.at_ (k:=k) h (by simpa using hk)
 refine ⟨ad,e,hb,?_,?_,?_,?_,?_⟩
 ·have:=hc 0 (.int .i64 l[k].1) (by simp [stpCells]);simpa using this
 ·rw [← add_field _ _ _ (by omega)];exact hc 1 _ (by simp [stpCells])
 ·rw [← add_field _ _ _ (by omega)];exact hc 2 _ (by simp [stpCells])
 ·rw [← add_field _ _ _ (by omega)];exact hc 3 _ (by simp [stpCells])
 ·rw [← add_field _ _ _ (by omega)];exact hc 4 _ (by simp [stpCells])
theorem EvsAt.ev {k:Nat} (h:EvsAt w B A evs) (hk:k<evs.length):∃ (ad:Addr) (S:Option Addr) (c:Nat),A=some ad∧ad.block<B∧w.cell? (ad.add (k*6))=some (.bool evs[k].bar) ∧
  w.cell? ⟨(ad.add (k*6)).block,(ad.add (k*6)).off+1,none⟩=some (.int .i64 evs[k].val)∧w.cell? ⟨(ad.add (k*6)).block,(ad.add (k*6)).off+2,none⟩=some (.bool evs[k].dot) ∧
  w.cell? ⟨(ad.add (k*6)).block,(ad.add (k*6)).off+3,none⟩=some (.bool evs[k].three)∧w.cell? ⟨(ad.add (k*6)).block,(ad.add (k*6)).off+4,none⟩=some (.bool evs[k].tie) ∧
  w.cell? ⟨(ad.add (k*6)).block,(ad.add (k*6)).off+5,none⟩=some (.slice S evs[k].stops.length c)∧StpsAt w B S evs[k].stops:=by
 obtain ⟨ms,h1,h2,h3⟩:=h
 obtain ⟨ad,e,hb,hc⟩:=Rd.at_ (k:=k) h2 (by simp;omega)
 have hm:k<ms.length:=by omega
 have hz:(List.zipWith evCells evs ms)[k]'(by simp;omega)=evCells evs[k] ms[k]:=List.getElem_zipWith
 rw [hz] at hc
 refine ⟨ad,ms[k].1,ms[k].2,e,hb,?_,?_,?_,?_,?_,?_,h3 k _ _ (List.getElem?_eq_getElem hk) (List.getElem?_eq_getElem hm)⟩
 ·have:=hc 0 (.bool evs[k].bar) (by simp [evCells]);simpa using this
 ·rw [← add_field _ _ _ (by omega)];exact hc 1 _ (by simp [evCells])
 ·rw [← add_field _ _ _ (by omega)];exact hc 2 _ (by simp [evCells])
 ·rw [← add_field _ _ _ (by omega)];exact hc 3 _ (by simp [evCells])
 ·rw [← add_field _ _ _ (by omega)];exact hc 4 _ (by simp [evCells])
 ·rw [← add_field _ _ _ (by omega)];exact hc 5 _ (by simp [evCells])
end
theorem any_at {α:Type} {f:α→Bool} {l:List α} {k:Nat} (h:k<l.length):(l.drop k).any f=(f l[k]|| (l.drop (k+1)).any f):=by
 rw [List.drop_eq_getElem_cons h];rfl
def evVal(e:Ev)(S:Option Addr)(c:Nat):Value:=.agg #[.bool e.bar,.int .i64 e.val,.bool e.dot,.bool e.three,.bool e.tie,.slice S e.stops.length c]
def stpVal(x:Stp):Value:=.agg #[.int .i64 x.1,.int .i64 x.2.1,.int .i64 x.2.2.1,.int .i64 x.2.2.2.1,.int .i64 x.2.2.2.2]
def restB(e:Ev):Bool:=e.stops.length == 0 && !e.tie
def hasB(c:Int)(l:List Stp):Bool:=l.any fun x=>x.1 == c
def runL(c:Int):Nat→List Ev→Nat
 | 0,_=>0
 | _+1,[]=>0
 | k+1,e::r=>if(restB e|| hasB c e.stops)=true then 0 else runL c k r+1
def longestN (evs:List Ev)(i c:Int):Nat:=if i<0∨(evs.length:Int)≤i then 0 else runL c 15 (evs.drop (i.toNat+1))
theorem runL_nil(c:Int)(k:Nat):runL c k []=0:=by cases k<;>rfl
theorem runL_le(c:Int):∀ (k:Nat)(l:List Ev),runL c k l≤k:=by
 intro k
 induction k with
 | zero=>intro l;simp [runL]
 | succ k ih =>
  intro l
  cases l with
  | nil=>simp [runL]
  | cons e r =>
   have:=ih r
   unfold runL
   split
   ·omega
   ·omega
theorem longestN_le(evs:List Ev)(i c:Int):longestN evs i c≤15:=by
 unfold longestN;split
 ·omega
 ·exact runL_le _ _ _
theorem runL_stop {c:Int} {l:List Ev} {k j:Nat} (hj:j<l.length)(h:(restB l[j]|| hasB c l[j].stops)=true):runL c k (l.drop j)=0:=by
 rw [List.drop_eq_getElem_cons hj]
 cases k with
 | zero=>rfl
 | succ k=>unfold runL;rw [if_pos h]
theorem runL_step {c:Int} {l:List Ev} {k j:Nat} (hj:j<l.length) (h:(restB l[j]|| hasB c l[j].stops)=false):runL c (k+1) (l.drop j)=runL c k (l.drop (j+1))+1:=by
 rw [List.drop_eq_getElem_cons hj,runL,if_neg (by rw [h];decide)]
end
section
open Go.RowKit
theorem flatten_at {size:Nat}:∀ {l:List (List Value)},(∀ r∈l,r.length=size)→∀ k r,l[k]?=some r→∀ j u,r[j]?=some u→l.flatten[k*size+j]?=some u:=by
 intro l
 induction l with
 | nil=>intro _ k r h;simp at h
 | cons x t ih =>
  intro hl k r hr j u hu
  have hx:x.length=size:=hl x (by simp)
  cases k with
  | zero =>
   obtain rfl:x=r:=by simpa using hr
   have hj:j<x.length:=(List.getElem?_eq_some_iff.1 hu).1
   rw [List.flatten_cons,Nat.zero_mul,Nat.zero_add,List.getElem?_append_left hj];exact hu
  | succ k =>
   have:=ih (fun r h=>hl r (by simp [h])) k r (by simpa using hr) j u hu
   rw [List.flatten_cons,List.getElem?_append_right (by rw [hx,Nat.succ_mul];omega),hx,Nat.succ_mul]
   rw [show k*size+size+j-size=k*size+j from by omega]
   exact this
theorem flatten_len {size:Nat}:∀ {l:List (List Value)},(∀ r∈l,r.length=size)→l.flatten.length=l.length*size:=by
 intro l
 induction l with
 | nil=>intro _;simp
 | cons x t ih =>
  intro hl
  rw [List.flatten_cons,List.length_append,hl x (by simp),ih (fun r h=>hl r (by simp [h])),List.length_cons,Nat.succ_mul];omega
theorem flatten_mem {size:Nat}:∀ {l:List (List Value)},(∀ r∈l,r.length=size)→∀ i u,l.flatten[i]?=some u→∃ k r j,l[k]?=some r∧r[j]?=some u∧i=k*size+j:=by
 intro l
 induction l with
 | nil=>intro _ i u h;simp at h
 | cons x t ih =>
  intro hl i u h
  have hx:x.length=size:=hl x (by simp)
  rw [List.flatten_cons] at h
  by_cases e:i<x.length
  ·rw [List.getElem?_append_left e] at h
   exact⟨0,x,i,by simp,h,by simp⟩
  ·rw [List.getElem?_append_right (by omega)] at h
   obtain⟨k,r,j,a,b,c⟩:=ih (fun r h=>hl r (by simp [h])) _ _ h
   exact⟨k+1,r,j,by simpa using a,b,by rw [Nat.succ_mul];omega⟩
section
variable {P:Program} {w w':World} {B B' size:Nat} {A:Option Addr} {l:List (List Value)}
theorem rd_of_own {base:Nat} {e:TypeId} {v:Value} {n:Nat} {xs:List Value} (h:w.ownsRow base e size v n xs) (hl:∀ r∈l,r.length=size) (hxs:xs=l.flatten) (hn:n=l.length) :
  ∃ A c,v=.slice A n c∧Rd w w.heap.size size A l∧(∀ ad,A=some ad→v.ownBlock=some ad.block∧base≤ad.block)∧n≤c:=by
 rcases h.2 with⟨rfl,h0⟩|⟨g,cap,cur,rfl,hb,hh,hnc,hcm,hcs,ht⟩
 ·subst h0
  have hnil:l=[]:=List.eq_nil_of_length_eq_zero hn.symm
  subst hnil
  exact ⟨none,0,rfl,Rd.none_,(fun ad h=>by cases h),Nat.le_refl _⟩
 ·refine ⟨some ⟨g,0,none⟩,cap,rfl,fun hpos=>⟨⟨g,0,none⟩,rfl,?_,fun k r hr j u hu=>?_⟩,(fun ad h=>by injection h with h;subst h;exact ⟨rfl,hb⟩),hnc⟩
  ·show g<w.heap.size
   rcases Nat.lt_or_ge g w.heap.size with hlt|hge
   ·exact hlt
   ·rw [Array.getElem?_eq_none hge] at hh;cases hh
  ·have h1:=flatten_at hl k r hr j u hu
   rw [← hxs,← ht] at h1
   rw [add_zero_addr,cell_of_row w g _ cur e (0,0) hh]
   rw [List.getElem?_take] at h1
   split at h1
   ·simpa using h1
   ·cases h1
theorem run_append_rd (base:Nat) (t ty e:TypeId) (i:TypeInfo) (z:Value) (size bytes:Nat) (ht:P.underlying t=some (.slice e)) (hi:P.info? e=some i) (hz:i.zero=some z)
  (hsize:i.size=size) (hby:i.bytes=bytes) (hzs:z.cells.size=size) (hsz:0<size)
  (v:Value) (n:Nat) (xs:List Value) (hown:w.ownsRow base e size v n xs)
  (c:Nat) (hr:Rd w B size A l) (hl:∀ r∈l,r.length=size) (h1:∀ r∈l,∀ u∈r,u.oneCell'=true)
  (h63:n+l.length≤maxLen) (hbytes:(n+l.length)*bytes≤140737488355328) (hbase:base≤w.heap.size) :
  ∃ v' w',(Builtin.append_ #[t,t] ty #[v,.slice A l.length c]).run P w=.ok v' w'∧w'.ownsRow base e size v' (n+l.length) (xs++l.flatten)∧w.grownBy w' v.ownBlock ∧
   (v'.ownBlock=v.ownBlock∨v'.ownBlock=some w.heap.size):=by
 rcases A with _|ad
 ·have hm:l=[]:=by
   rcases Nat.eq_zero_or_pos l.length with h0|h0
   ·exact List.eq_nil_of_length_eq_zero h0
   ·obtain ⟨ad,h,_⟩:=hr h0
    cases h
  subst hm
  refine ⟨v,w,?_,by simpa using hown,World.grownBy.refl w _,.inl rfl⟩
  rcases hown.2 with⟨rfl,rfl⟩|⟨g,cap,cur,rfl,_,_,hnc,_⟩
  ·simp [Builtin.append_,run_underlying ht,sizeOf,typeInfo,hi,Builtin.lenOf,Builtin.firstCells]
  ·simp [Builtin.append_,run_underlying ht,sizeOf,typeInfo,hi,Builtin.lenOf,Builtin.firstCells,hnc,storeCells]
 ·have hcells:∀ j u,l.flatten[j]?=some u→w.cell? (ad.add j)=some u:=by
   intro j u hu
   obtain ⟨k,r,q,hk,hq,rfl⟩:=flatten_mem hl j u hu
   have hpos:0<l.length:=by have:=(List.getElem?_eq_some_iff.1 hk).1;omega
   obtain ⟨ad',h,_,hc⟩:=hr hpos
   injection h with h
   subst h
   exact hc k r hk q u hq
  obtain ⟨v',w',hrun,h2,h3,_,h5⟩:=run_append_own_at (P:=P) w base t ty e i z size bytes ht hi hz hsize hby hzs hsz v n xs hown ad l.length c l.flatten (flatten_len hl) hcells
   (fun u hu=>by obtain ⟨r,hr1,hr2⟩:=List.mem_flatten.1 hu;exact h1 r hr1 u hr2) h63 hbytes hbase
  exact ⟨v',w',hrun,h2,h3,h5⟩
end
end
section
open Go.RowKit
inductive AV where
 | sc (v:Value)
 | ag (l:List AV)
 | tu (l:List AV)
 | ls (n:Nat)(rows:List (List AV))
 | ow (T:TypeId)(n:Nat)(rows:List (List AV))
 | pr (cells:List AV)
 | pt (k i j:Nat)
 | sl (k:Nat)
 | fn (f:FuncId)(caps:List AV)
abbrev View:=Addr→Option Value
inductive RP (F:View):AV→Value→Prop
 | sc (v:Value):RP F (.sc v) v
 | ag (l:List AV) (cs:Array Value):cs.size=l.length→(∀ (i:Nat) av u,l[i]?=some av→cs[i]?=some u→RP F av u)→RP F (.ag l) (.agg cs)
 | tu (l:List AV) (cs:Array Value):cs.size=l.length→(∀ (i:Nat) av u,l[i]?=some av→cs[i]?=some u→RP F av u)→RP F (.tu l) (.tuple cs)
 | ls (n:Nat) (rows:List (List AV)) (A:Option Addr) (cap:Nat) (ad:Addr) (u:Nat→Nat→Value):rows.length≤cap→(∀ r∈rows,r.length=n)→(0<rows.length→A=some ad) →
   (∀ (i:Nat) r (j:Nat) av,rows[i]?=some r→r[j]?=some av→F (ad.add (i*n+j))=some (u i j)∧(u i j).oneCell'=true) →
   (∀ (i:Nat) r (j:Nat) av,rows[i]?=some r→r[j]?=some av→RP F av (u i j))→RP F (.ls n rows) (.slice A rows.length cap)
 | pr (cells:List AV) (p:Addr) (u:Nat→Value):(∀ (j:Nat) av,cells[j]?=some av→F (p.add j)=some (u j)∧(u j).oneCell'=true) →
   (∀ (j:Nat) av,cells[j]?=some av→RP F av (u j))→RP F (.pr cells) (.pointer (some p))
 | fn (f:FuncId) (l:List AV) (cs:Array Value):cs.size=l.length→(∀ (i:Nat) av u,l[i]?=some av→cs[i]?=some u→RP F av u)→RP F (.fn f l) (.func (.func f) #[] cs)
def View.le(F F':View):Prop:=∀ p u,F p=some u→F' p=some u
theorem RP.mono {F F':View} (h:F.le F') {av:AV} {v:Value} (r:RP F av v):RP F' av v:=by
 induction r with
 | sc v=>exact .sc v
 | ag l cs h1 _ ih=>exact .ag l cs h1 ih
 | tu l cs h1 _ ih=>exact .tu l cs h1 ih
 | ls n rows A cap ad u h0 h1 h2 h3 _ ih=>exact .ls n rows A cap ad u h0 h1 h2 (fun i r j av a b=>⟨h _ _ (h3 i r j av a b).1,(h3 i r j av a b).2⟩) ih
 | pr cells p u h1 _ ih=>exact .pr cells p u (fun j av a=>⟨h _ _ (h1 j av a).1,(h1 j av a).2⟩) ih
 | fn f l cs h1 _ ih=>exact .fn f l cs h1 ih
structure Gh where
 F:View
 b:Nat→Nat
 n:Nat→Nat
 h:Nat→Value
 fp:Nat→Nat→Prop
inductive R (G:Gh):AV→Value→Prop
 | pu (av:AV) (v:Value):RP G.F av v→R G av v
 | pt (k i j:Nat) (p:Addr):p.block=G.b k→p.off=i*G.n k+j→p.spot=none→R G (.pt k i j) (.pointer (some p))
 | sl (k:Nat):(G.h k).oneCell'=true→R G (.sl k) (G.h k)
 | ag (l:List AV) (cs:Array Value):cs.size=l.length→(∀ (i:Nat) av u,l[i]?=some av→cs[i]?=some u→R G av u)→R G (.ag l) (.agg cs)
 | tu (l:List AV) (cs:Array Value):cs.size=l.length→(∀ (i:Nat) av u,l[i]?=some av→cs[i]?=some u→R G av u)→R G (.tu l) (.tuple cs)
 | fn (f:FuncId) (l:List AV) (cs:Array Value):cs.size=l.length→(∀ (i:Nat) av u,l[i]?=some av→cs[i]?=some u→R G av u)→R G (.fn f l) (.func (.func f) #[] cs)
inductive Bd (nk:Nat):AV→Prop
 | sc (v:Value):Bd nk (.sc v)
 | ls (n:Nat)(rows:List (List AV)):Bd nk (.ls n rows)
 | ow (T:TypeId)(n:Nat)(rows:List (List AV)):Bd nk (.ow T n rows)
 | pr (cells:List AV):Bd nk (.pr cells)
 | pt (k i j:Nat):k<nk→Bd nk (.pt k i j)
 | sl (k:Nat):k<nk→Bd nk (.sl k)
 | ag (l:List AV):(∀ (i:Nat)x,l[i]?=some x→Bd nk x)→Bd nk (.ag l)
 | tu (l:List AV):(∀ (i:Nat)x,l[i]?=some x→Bd nk x)→Bd nk (.tu l)
 | fn (f:FuncId)(l:List AV):(∀ (i:Nat)x,l[i]?=some x→Bd nk x)→Bd nk (.fn f l)
theorem Bd.mono {nk nk':Nat} (h:nk≤nk') {av:AV} (b:Bd nk av):Bd nk' av:=by
 induction b with
 | sc v=>exact .sc v
 | ls n rows=>exact .ls n rows
 | ow T n rows=>exact .ow T n rows
 | pr cells=>exact .pr cells
 | pt k i j hk=>exact .pt k i j zqo
 | sl k hk=>exact .sl k zqo
 | ag l _ ih=>exact .ag l ih
 | tu l _ ih=>exact .tu l ih
 | fn f l _ ih=>exact .fn f l ih
structure Gh.le(G G':Gh)(nk:Nat):Prop where
 F:G.F.le G'.F
 b:∀ k,k<nk→G'.b k=G.b k
 n:∀ k,k<nk→G'.n k=G.n k
 h:∀ k,k<nk→G'.h k=G.h k
theorem Gh.le.refl(G:Gh)(nk:Nat):G.le G nk:=⟨fun _ _ h=>h,fun _ _=>rfl,fun _ _=>rfl,fun _ _=>rfl⟩
theorem R.mono {G G':Gh} {nk:Nat} (h:G.le G' nk) {av:AV} {v:Value} (r:R G av v) (b:Bd nk av):R G' av v:=by
 induction r with
 | pu av v hp=>exact .pu _ _ (hp.mono h.F)
 | pt k i j p h1 h2 h3 =>
  cases b with
  | pt _ _ _ hk=>exact .pt k i j p (by rw [h.b k hk];exact h1) (by rw [h.n k hk];exact h2) h3
 | sl k h1 =>
  cases b with
  | sl _ hk=>rw [← h.h k hk];exact .sl k (by rw [h.h k hk];exact h1)
 | ag l cs h1 _ ih =>
  cases b with
  | ag _ hb=>exact .ag l cs h1 fun i av u a c=>ih i av u a c (hb i av a)
 | tu l cs h1 _ ih =>
  cases b with
  | tu _ hb=>exact .tu l cs h1 fun i av u a c=>ih i av u a c (hb i av a)
 | fn f l cs h1 _ ih =>
  cases b with
  | fn _ _ hb=>exact .fn f l cs h1 fun i av u a c=>ih i av u a c (hb i av a)
theorem RP.sc_eq {F:View} {v u:Value} (r:RP F (.sc v) u):u=v:=by cases r;rfl
theorem R.sc_eq {G:Gh} {v u:Value} (r:R G (.sc v) u):u=v:=by cases r with|pu _ _ h=>exact h.sc_eq
theorem R.pu_of {G:Gh} {n:Nat} {rows:List (List AV)} {u:Value} (r:R G (.ls n rows) u):RP G.F (.ls n rows) u:=by cases r with|pu _ _ h=>exact h
theorem R.pr_of {G:Gh} {cells:List AV} {u:Value} (r:R G (.pr cells) u):RP G.F (.pr cells) u:=by cases r with|pu _ _ h=>exact h
theorem RP.no_ow {F:View} {T n:Nat} {rows:List (List AV)} {u:Value} (r:RP F (.ow T n rows) u):False:=by cases r
theorem R.no_ow {G:Gh} {T n:Nat} {rows:List (List AV)} {u:Value} (r:R G (.ow T n rows) u):False:=by cases r with|pu _ _ h=>exact h.no_ow
theorem R.ag_of {G:Gh} {l:List AV} {u:Value} (r:R G (.ag l) u):∃ cs:Array Value,u=.agg cs∧cs.size=l.length∧∀ (i:Nat) av u,l[i]?=some av→cs[i]?=some u→R G av u:=by
 cases r with
 | pu _ _ h=>cases h with|ag _ cs h1 h2=>exact⟨cs,rfl,h1,fun i av u a b=>.pu _ _ (h2 i av u a b)⟩
 | ag _ cs h1 h2=>exact⟨cs,rfl,h1,h2⟩
theorem R.tu_of {G:Gh} {l:List AV} {u:Value} (r:R G (.tu l) u):∃ cs:Array Value,u=.tuple cs∧cs.size=l.length∧∀ (i:Nat) av u,l[i]?=some av→cs[i]?=some u→R G av u:=by
 cases r with
 | pu _ _ h=>cases h with|tu _ cs h1 h2=>exact⟨cs,rfl,h1,fun i av u a b=>.pu _ _ (h2 i av u a b)⟩
 | tu _ cs h1 h2=>exact⟨cs,rfl,h1,h2⟩
theorem R.fn_of {G:Gh} {f:FuncId} {l:List AV} {u:Value} (r:R G (.fn f l) u):∃ cs:Array Value,u=.func (.func f) #[] cs∧cs.size=l.length∧∀ (i:Nat) av u,l[i]?=some av→cs[i]?=some u→R G av u:=by
 cases r with
 | pu _ _ h=>cases h with|fn _ _ cs h1 h2=>exact⟨cs,rfl,h1,fun i av u a b=>.pu _ _ (h2 i av u a b)⟩
 | fn _ _ cs h1 h2=>exact⟨cs,rfl,h1,h2⟩
theorem R.pt_of {G:Gh} {k i j:Nat} {u:Value} (r:R G (.pt k i j) u):∃ p:Addr,u=.pointer (some p)∧p.block=G.b k∧p.off=i*G.n k+j∧p.spot=none:=by
 cases r with
 | pu _ _ h=>cases h
 | pt _ _ _ p a b c=>exact⟨p,rfl,a,b,c⟩
theorem R.sl_of {G:Gh} {k:Nat} {u:Value} (r:R G (.sl k) u):u=G.h k∧u.oneCell'=true:=by
 cases r with
 | pu _ _ h=>cases h
 | sl _ h=>exact⟨rfl,h⟩
theorem RP.ls_of {F:View} {n:Nat} {rows:List (List AV)} {v:Value} (r:RP F (.ls n rows) v):∃ A cap ad,∃ u:Nat→Nat→Value,v=.slice A rows.length cap∧(∀ r∈rows,r.length=n)∧(0<rows.length→A=some ad) ∧
  (∀ (i:Nat) r (j:Nat) av,rows[i]?=some r→r[j]?=some av→F (ad.add (i*n+j))=some (u i j)∧(u i j).oneCell'=true)∧(∀ (i:Nat) r (j:Nat) av,rows[i]?=some r→r[j]?=some av→RP F av (u i j))∧rows.length≤cap:=by
 cases r with|ls _ _ A cap ad u h0 h1 h2 h3 h4=>exact⟨A,cap,ad,u,rfl,h1,h2,h3,h4,h0⟩
theorem RP.pr_of {F:View} {cells:List AV} {v:Value} (r:RP F (.pr cells) v):∃ p:Addr,∃ u:Nat→Value,v=.pointer (some p)∧(∀ (j:Nat) av,cells[j]?=some av→F (p.add j)=some (u j)∧(u j).oneCell'=true) ∧
   (∀ (j:Nat) av,cells[j]?=some av→RP F av (u j)):=by
 cases r with|pr _ p u h1 h2=>exact⟨p,u,rfl,h1,h2⟩
inductive OW (F:View)(w:World):AV→Value→(Nat→Prop)→Prop
 | pu (av:AV)(v:Value)(φ:Nat→Prop):RP F av v→OW F w av v φ
 | ow (T n:Nat)(rows:List (List AV))(v:Value)(φ:Nat→Prop)(vs:List (List Value))(Φ:Nat→Nat→Nat→Prop):(∀ r∈rows,r.length=n)→w.ownsRow 0 T n v vs.length vs.flatten→vs.length=rows.length→(∀ r∈vs,∀ u∈r,u.oneCell'=true) →
   (∀ g,v.ownBlock=some g→φ g)→(∀ i j x,Φ i j x→φ x∧v.ownBlock≠some x)→(∀ i j i' j' x,Φ i j x→Φ i' j' x→i=i'∧j=j') →
   (∀ (i:Nat) r r',rows[i]?=some r→vs[i]?=some r'→r'.length=r.length) →
   (∀ (i:Nat) r r' (j:Nat) av u,rows[i]?=some r→vs[i]?=some r'→r[j]?=some av→r'[j]?=some u→OW F w av u (Φ i j))→OW F w (.ow T n rows) v φ
def CR(G:Gh)(w:World)(φ:Nat→Prop)(av:AV)(u:Value):Prop:=R G av u∨OW G.F w av u φ
def RowIs (w:World)(T n:Nat)(rows:List (List AV))(v:Value)(φ:Nat→Prop)(X:Nat→Nat→(Nat→Prop)→AV→Value→Prop):Prop :=
 (∀ r∈rows,r.length=n)∧∃ (vs:List (List Value))(Φ:Nat→Nat→Nat→Prop),w.ownsRow 0 T n v vs.length vs.flatten∧vs.length=rows.length∧(∀ r∈vs,∀ u∈r,u.oneCell'=true) ∧
   (∀ g,v.ownBlock=some g→φ g)∧(∀ i j x,Φ i j x→φ x∧v.ownBlock≠some x)∧(∀ i j i' j' x,Φ i j x→Φ i' j' x→i=i'∧j=j') ∧
   (∀ (i:Nat) r r',rows[i]?=some r→vs[i]?=some r'→r'.length=r.length) ∧
   (∀ (i:Nat) r r' (j:Nat) av u,rows[i]?=some r→vs[i]?=some r'→r[j]?=some av→r'[j]?=some u→X i j (Φ i j) av u)
def XP(F:View):Nat→Nat→(Nat→Prop)→AV→Value→Prop:=fun _ _ _ av u=>RP F av u
def XO(F:View)(w:World):Nat→Nat→(Nat→Prop)→AV→Value→Prop:=fun _ _ φ av u=>OW F w av u φ
def XH(G:Gh)(hi hj:Nat)(x:AV):Nat→Nat→(Nat→Prop)→AV→Value→Prop:=fun i j _ av u=>if i=hi∧j=hj then R G x u else RP G.F av u
def XQ(G:Gh)(w:World)(hi hj:Nat)(x:AV):Nat→Nat→(Nat→Prop)→AV→Value→Prop:=fun i j φ av u=>if i=hi∧j=hj then R G x u else OW G.F w av u φ
theorem RowIs.ow {F:View} {w:World} {T n:Nat} {rows:List (List AV)} {v:Value} {φ:Nat→Prop} (h:RowIs w T n rows v φ (XO F w)):OW F w (.ow T n rows) v φ:=by
 obtain⟨h1,vs,Φ,h2,h3,h4,h5,h6,h7,h8,h9⟩:=h
 exact .ow T n rows v φ vs Φ h1 h2 h3 h4 h5 h6 h7 h8 h9
theorem OW.row {F:View} {w:World} {T n:Nat} {rows:List (List AV)} {v:Value} {φ:Nat→Prop} (h:OW F w (.ow T n rows) v φ):RowIs w T n rows v φ (XO F w):=by
 cases h with
 | pu _ _ _ r=>exact r.no_ow.elim
 | ow _ _ _ _ _ vs Φ h1 h2 h3 h4 h5 h6 h7 h8 h9=>exact⟨h1,vs,Φ,h2,h3,h4,h5,h6,h7,h8,h9⟩
theorem ownsRow_keep {w w':World} {B e size n:Nat} {v:Value} {xs:List Value} (h:w.ownsRow B e size v n xs) (hk:∀ g,v.ownBlock=some g→w'.heap[g]?=w.heap[g]?):w'.ownsRow B e size v n xs:=by
 refine ⟨h.1,?_⟩
 rcases h.2 with x|⟨g,cap,cur,e,hb,hh,hr⟩
 ·exact .inl x
 ·exact .inr ⟨g,cap,cur,e,hb,(hk g (by rw [e];rfl)).trans hh,hr⟩
theorem OW.keep {F F':View} {w w':World} {av:AV} {v:Value} {φ:Nat→Prop} (hF:F.le F')(h:OW F w av v φ):(∀ x,φ x→w'.heap[x]?=w.heap[x]?)→OW F' w' av v φ:=by
 induction h with
 | pu av v φ r=>exact fun _=>.pu av v φ (r.mono hF)
 | ow T n rows v φ vs Φ h1 h2 h3 h4 h5 h6 h7 h8 _ ih =>
  intro hw
  exact .ow T n rows v φ vs Φ h1 (ownsRow_keep h2 fun g hg=>hw g (h5 g hg)) h3 h4 h5 h6 h7 h8 fun i r r' j av u a b c d=>ih i r r' j av u a b c d fun x hx=>hw x (h6 i j x hx).1
theorem OW.wide {F:View} {w:World} {av:AV} {v:Value} {φ φ':Nat→Prop} (h:OW F w av v φ) (hp:∀ x,φ x→φ' x):OW F w av v φ':=by
 cases h with
 | pu _ _ _ r=>exact .pu av v φ' r
 | ow T n rows _ _ vs Φ h1 h2 h3 h4 h5 h6 h7 h8 h9=>exact .ow T n rows v φ' vs Φ h1 h2 h3 h4 (fun g hg=>hp g (h5 g hg)) (fun i j x hx=>⟨hp x (h6 i j x hx).1,(h6 i j x hx).2⟩) h7 h8 h9
theorem CR.keep {G G':Gh} {w w':World} {nk:Nat} {φ:Nat→Prop} {av:AV} {v:Value} (h:CR G w φ av v)(hle:G.le G' nk)(hb:Bd nk av)(hw:∀ x,φ x→w'.heap[x]?=w.heap[x]?):CR G' w' φ av v :=
 h.elim (fun r=>.inl (r.mono hle hb)) fun o=>.inr (o.keep hle.F hw)
def AV.own:AV→Bool
 | .ow _ _ _=>true
 | _=>false
theorem CR.r {G:Gh} {w:World} {φ:Nat→Prop} {av:AV} {v:Value} (h:CR G w φ av v)(ho:av.own=false):R G av v:=by
 rcases h with r|o
 ·exact r
 ·cases o with
  | pu _ _ _ r=>exact .pu _ _ r
  | ow=>cases ho
theorem OW.p {F:View} {w:World} {φ:Nat→Prop} {av:AV} {v:Value} (h:OW F w av v φ)(ho:av.own=false):RP F av v:=by
 cases h with
 | pu _ _ _ r=>exact r
 | ow=>cases ho
theorem CR.wide {G:Gh} {w:World} {φ φ':Nat→Prop} {av:AV} {v:Value} (h:CR G w φ av v)(hp:∀ x,φ x→φ' x):CR G w φ' av v:=h.elim .inl fun o=>.inr (o.wide hp)
def BldIs (w:World) (T e b:Nat) (φ:Nat→Prop) (l:List UInt8):Prop :=
 ∃ p v,(p=.pointer none∨p=.pointer (some ⟨b,0,none⟩))∧w.heap[b]?=some (.cells #[p,v] T (0,0))∧w.ownsRowF 0 e 1 v l.length (Lib.byteCells l)∧∀ g,v.ownBlock=some g→φ g∧g≠b
structure Opq where
 Q:World→Nat→Value→(Nat→Prop)→Prop
 st:∀ w w' b v φ,(∀ x,φ x→w'.heap[x]?=w.heap[x]?)→Q w b v φ→Q w' b v φ
inductive AO where
 | box (T:TypeId)(cells:List AV)
 | row (T:TypeId)(n:Nat)(rows:List (List AV))
 | rwn (T:TypeId)(n:Nat)(rows:List (List AV))
 | rof (T:TypeId)(n:Nat)(rows:List (List AV))(hi hj:Nat)(x:AV)
 | rwo (T:TypeId)(n:Nat)(rows:List (List AV))(hi hj:Nat)(x:AV)
 | bld (T e:TypeId)(l:List UInt8)
 | opq (q:Opq)
def RL(F:View)(l:List AV)(vs:List Value):Prop:=vs.length=l.length∧∀ (i:Nat)av u,l[i]?=some av→vs[i]?=some u→RP F av u
def BoxIs (w:World)(T b:Nat)(φ:Nat→Prop)(cells:List AV)(X:(Nat→Prop)→AV→Value→Prop):Prop :=
 ∃ (cs:Array Value)(Φ:Nat→Nat→Prop),Blk w b T cs∧cs.size=cells.length∧(∀ i x,Φ i x→φ x∧x≠b)∧(∀ i i' x,Φ i x→Φ i' x→i=i')∧∀ (i:Nat) av u,cells[i]?=some av→cs[i]?=some u→X (Φ i) av u
def ObAt (G:Gh) (w:World) (k:Nat):AO→Prop
 | .box T cells=>G.fp k (G.b k)∧BoxIs w T (G.b k) (G.fp k) cells (CR G w)
 | .row T n rows=>G.n k=n∧(∀ g,(G.h k).ownBlock=some g→g=G.b k)∧RowIs w T n rows (G.h k) (G.fp k) (XP G.F)
 | .rwn T n rows=>G.n k=n∧(∀ g,(G.h k).ownBlock=some g→g=G.b k)∧RowIs w T n rows (G.h k) (G.fp k) (XO G.F w)
 | .rof T n rows hi hj x=>G.n k=n∧(∀ g,(G.h k).ownBlock=some g→g=G.b k)∧RowIs w T n rows (G.h k) (G.fp k) (XH G hi hj x)
 | .rwo T n rows hi hj x=>G.n k=n∧(∀ g,(G.h k).ownBlock=some g→g=G.b k)∧RowIs w T n rows (G.h k) (G.fp k) (XQ G w hi hj x)
 | .bld T e l=>G.fp k (G.b k)∧BldIs w T e (G.b k) (G.fp k) l
 | .opq q=>q.Q w (G.b k) (G.h k) (G.fp k)
def AO.bd(nk:Nat):AO→Prop
 | .box _ cells=>∀ (i:Nat)av,cells[i]?=some av→Bd nk av
 | .row _ _ _=>True
 | .rwn _ _ _=>True
 | .rof _ _ _ _ _ x=>Bd nk x
 | .rwo _ _ _ _ _ x=>Bd nk x
 | .bld _ _ _=>True
 | .opq _=>True
def look {α:Type} (i:Nat):List (Nat×α)→Option α
 | []=>none
 | x::r=>bif Nat.beq i x.1 then some x.2 else look i r
structure Kept(S:Nat→Prop)(w w':World):Prop where
 os:w'.os=w.os
 tape:w'.tape=w.tape
 output:w'.output=w.output
 size:w.heap.size≤w'.heap.size
 block:∀ k,k<w.heap.size→¬ S k→w'.heap[k]?=w.heap[k]?
theorem Kept.refl(S:Nat→Prop)(w:World):Kept S w w:=⟨rfl,rfl,rfl,Nat.le_refl _,fun _ _ _=>rfl⟩
theorem Kept.below {S:Nat→Prop} {w w':World} (h:Below w.heap.size w w'):Kept S w w':=⟨h.os,h.tape,h.output,h.size,fun i hi _=>h.block i hi⟩
theorem Kept.to_below {S:Nat→Prop} {w w':World} (h:Kept S w w')(hs:∀ x,¬ S x):Below w.heap.size w w':=⟨h.os,h.tape,h.output,h.size,fun i hi=>h.block i hi (hs i)⟩
theorem Kept.on {S S':Nat→Prop} {a b c:World} (h:Kept S a b)(k:Kept S' b c)(hs:∀ x,S' x→a.heap.size≤x∨S x):Kept S a c :=
 ⟨k.os.trans h.os,k.tape.trans h.tape,k.output.trans h.output,Nat.le_trans h.size k.size,fun i hi hn=>(k.block i (Nat.lt_of_lt_of_le hi h.size) fun x=>(hs i x).elim (fun y=>by omega) hn).trans (h.block i hi hn)⟩
structure Cx where
 w0:World
 F0:View
 N:Nat
 fp:Nat→Prop
 np:Nat
 pg:Gh
 ds:List Deferred
def Cx.may(C:Cx)(x:Nat):Prop:=C.w0.heap.size≤x∨C.fp x
structure St where
 t:List (Nat×AV)
 M:List (Nat×AO)
 nk:Nat
structure Ok (C:Cx)(σ:St)(G:Gh)(a:Act)(w:World):Prop where
 sz:a.tmps.size=C.N
 df:a.defers=C.ds∧C.np≤σ.nk∧∀ k,k<C.np→G.b k=C.pg.b k∧G.n k=C.pg.n k∧G.h k=C.pg.h k
 tm:∀ i av,look i σ.t=some av→i<C.N∧Bd σ.nk av∧R G av (a.tmps.getD i undef)
 bel:Kept C.fp C.w0 w
 fw:∀ p u,G.F p=some u→w.cell? p=some u
 f0:C.F0.le G.F
 f1:∀ p u,G.F p=some u→C.F0 p=some u∨C.may p.block
 ob:∀ k o,look k σ.M=some o→k<σ.nk∧o.bd σ.nk∧ObAt G w k o
 my:∀ k o x,look k σ.M=some o→G.fp k x→C.may x∧x<w.heap.size
 dj:∀ k o k' o' x,look k σ.M=some o→look k' σ.M=some o'→G.fp k x→G.fp k' x→k=k'
 dF:∀ k o x p u,look k σ.M=some o→G.fp k x→G.F p=some u→p.block≠x
theorem cell_block {w:World} {p:Addr} {u:Value} (h:w.cell? p=some u):p.block<w.heap.size:=by
 rcases Nat.lt_or_ge p.block w.heap.size with hlt|hge
 ·exact hlt
 ·simp [World.cell?,Array.getElem?_eq_none hge]at h
theorem look_set_same {α:Type} {i:Nat} {x:α} {r:List (Nat×α)}:look i ((i,x)::r)=some x:=by
 simp [look]
theorem look_set_other {α:Type} {i j:Nat} {x:α} {r:List (Nat×α)} (h:i≠j):look i ((j,x)::r)=look i r:=by
 have:Nat.beq i j=false:=by cases hb:Nat.beq i j with
  | false=>rfl
  | true=>exact absurd (Nat.eq_of_beq_eq_true hb) h
 simp [look,this]
end
end Go.Proofs.YthehkchjdkdbiaaGreatDoor
