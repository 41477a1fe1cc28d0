/- The reader of the program: a column. (RWN.) -/
import Derived.Test.YthehkchjdkdbiaaGreatDoorNrGHq
import Derived.Test.YthehkchjdkdbiaaGreatDoorNrIHq
import Derived.Test.YthehkchjdkdbiaaGreatDoorPt1Hq
import Derived.Test.YthehkchjdkdbiaaGreatDoorPt2Hq
import Derived.Test.YthehkchjdkdbiaaGreatDoorPt3Hq
import Derived.Test.YthehkchjdkdbiaaGreatDoorPt4Hq
set_option maxHeartbeats 16000000
set_option maxRecDepth 100000
set_option linter.unusedVariables false
set_option linter.unusedSimpArgs false
namespace Go.Proofs.YthehkchjdkdbiaaGreatDoor
open Go.RowKit
theorem WL.meetT {P:Program} {C:Cx} {σ:St} {ops:Array Oper} {l:List Oper} {Q1 Q2:Exit→St→Prop} {y:Code} (σm:St)(h:WL P C ops l σ (QThen (fun s=>Tr C s σm) Q1))(k:W P C y σm Q2):WL P C ops l σ (QThen (fun s=>W P C y s Q2) Q1) :=
 WL.mono h (QThen.mono (fun s q=>W.tr q k) fun _ _ q=>q)
def ptT:Option (Nat×Nat)→AV
 | some (v,i)=>.tu [.ag [.sc (.int .i64 (v:Int)),.sc (.bool (sgD i)),.sc (.bool (sgT i))],.sc (.int .i64 0)]
 | none=>.tu [.ag [.sc (.int .i64 0),.sc (.bool false),.sc (.bool false)],.sc (.int .i64 4)]
theorem ptT_rp (o:Option (Nat×Nat)) (F:View):RP F (ptT o) (ptV o):=by
 cases o with
 | none=>exact rp_plT rfl
 | some x=>obtain ⟨v,i⟩:=x;exact rp_plT rfl
theorem ptm_FS (s:Int)(hs:1≤s∧s≤4)(l:List UInt8):Ctr Tryz.prog 92 [.sc (.int .u8 s),.sc (.string (bs l))] (ptT (scanT (tmM s l) 0 8)):=by
 rcases sys_cases hs with rfl|rfl|rfl|rfl
 ·exact Ctr.of_sc (v:=ptV (scanT (tmM 1 l) 0 8)) rfl (fun F=>ptT_rp _ F) fun w=>pparseTime_1 l w
 ·exact Ctr.of_sc (v:=ptV (scanT (tmM 2 l) 0 8)) rfl (fun F=>ptT_rp _ F) fun w=>pparseTime_2 l w
 ·exact Ctr.of_sc (v:=ptV (scanT (tmM 3 l) 0 8)) rfl (fun F=>ptT_rp _ F) fun w=>pparseTime_3 l w
 ·exact Ctr.of_sc (v:=ptV (scanT (tmM 4 l) 0 8)) rfl (fun F=>ptT_rp _ F) fun w=>pparseTime_4 l w
theorem nr_ch_bd {s:Int} {n:Nat} {W:List (List UInt8)} {l:List N5} (h:nr_chW s n W=some l):(∀ x∈l,1≤x.1∧x.1≤14∧x.2.1≤18)∧l.length≤14∧l≠[]∧nr_asc l:=by
 unfold nr_chW at h
 split at h
 ·rename_i k
  cases h
  have hb:∀ x∈nr_L s n W W.length,1≤x.1∧x.1≤14∧x.2.1≤18:=fun x hx=>by have:=nr_L_bd hx;omega
  refine⟨hb,?_,k.2.2.2,k.2.2.1⟩
  rcases nr_asc_len (a:=0) k.2.2.1 (fun x hx=>by have:=hb x hx;omega) with q|q
  ·omega
  ·exact absurd q k.2.2.2
 ·cases h
theorem nr_notes_at {cs:List Crs}:∀ {l:List N5} {k:Nat} (hk:k<l.length),(∀ j (h:j<l.length),j<k→nr_note cs l[j]=0)→nr_note cs l[k]≠0→nr_notes cs l=nr_note cs l[k]
 | x::r,0,_,_,h=>by
  unfold nr_notes
  have h:nr_note cs x≠0:=h
  rw [if_pos h];rfl
 | x::r,k+1,hk,h0,h=>by
  have:=h0 0 (by simp) (by omega)
  simp only [List.getElem_cons_zero] at this
  unfold nr_notes
  rw [if_neg (by rw [this];decide),nr_notes_at (k:=k) (by simpa using hk) (fun j hj hjk=>h0 (j+1) (by simpa using hj) (by omega)) h]
  rfl
theorem nr_notes_no {cs:List Crs}:∀ {l:List N5},(∀ j (h:j<l.length),nr_note cs l[j]=0)→nr_notes cs l=0
 | [],_=>rfl
 | x::r,h=>by
  have:=h 0 (by simp)
  simp only [List.getElem_cons_zero]at this
  unfold nr_notes
  rw [if_neg (by rw [this];decide)]
  exact nr_notes_no fun j hj=>h (j+1) (by simpa using hj)
theorem nr_body_ch {s:Int} {n:Nat} {bar:Bool} {v i:Nat} {ws:List (List UInt8)} (h1:¬ (ws=[[126]]∧s≠4))(h2:¬ (ws=[[37]]∧s≠3)):nr_body s n bar v i ws=(nr_ch s n ws).map fun l=>⟨bar,v,i,false,l⟩:=by
 unfold nr_body;rw [if_neg h1,if_neg h2]
theorem nr_body_bd {s:Int} {n:Nat} {bar:Bool} {v i:Nat} {ws:List (List UInt8)} {X:NC} (h:nr_body s n bar v i ws=some X):X.bar=bar∧X.v=v∧X.i=i∧(∀ x∈X.l,1≤x.1∧x.1≤14∧x.2.1≤18)∧X.l.length≤14:=by
 unfold nr_body at h
 split at h
 ·cases h;exact⟨rfl,rfl,rfl,fun x hx=>(List.not_mem_nil hx).elim,by simp⟩
 ·split at h
  ·cases h;exact⟨rfl,rfl,rfl,fun x hx=>(List.not_mem_nil hx).elim,by simp⟩
  ·obtain⟨l,hl,e⟩:=Option.map_eq_some_iff.1 h
   subst e
   have hb:=nr_ch_bd (show nr_chW s n (nr_rev s ws)=some l from hl)
   exact⟨rfl,rfl,rfl,hb.1,hb.2.1⟩
def nr_coU (s:Int)(cs:List Crs)(st:List Int)(ln:Int)(T:List (List AV))(cl:Bool)(E:List NC):Option NC→UR
 | none=>.er (nr_flt ln 4)
 | some x=>if nr_chk cs (E.length == 0) x≠0 then .er (nr_flt ln (nr_chk cs (E.length == 0) x)) else
  .ok (.tu []) [(0,.box 78 [.sc (.int .u8 s),.sc (sysV s),.ls 3 (cs.map eCrs),.ls 1 (st.map eInt),.sl 3,.sl 4,.sc (.int .i64 ln),.ls 1 T,.sc (.bool cl)]),(3,.rwn 90 6 (((E++[x]).map nr_ev0).map eEvO)),(4,.row 153 1 ((E++[x]).map (eNts s)))] 5
theorem column_G (s:Int) (hs:1≤s∧s≤4) (cs:List Crs) (st:List Int) (ln:Int) (T:List (List AV)) (cl:Bool) (E:List NC) (t:List UInt8) (ht:t.length≤300000) (hcs:cs.length≤64) (hcb:∀ c∈cs,0≤c.2.1∧c.2.1≤1000) (hE:E.length≤400000) :
  Ctu tabN gloN Tryz.prog 41 [.pt 0 0 0,.sc (.string (bs t))] [(0,nr_rd (.int .u8 s) (sysV s) (cs.map eCrs) (st.map eInt) ln T cl),(1,.rwn 90 6 ((E.map nr_ev0).map eEvO)),(2,.row 153 1 (E.map (eNts s)))] 3
   (nr_coU s cs st ln T cl E (nr_form s (nr_staff s cs) t)):=by
 have hW:=splitN_G 32 t zqo
 have hwb:=rq_wds_bytes 32 t
 have hwl:(rq_wds 32 t).length≤300001:=by
  rw [rq_wds_len,Lib.count_one]
  have:=List.count_le_length (a:=(32:UInt8)) (l:=t)
  omega
 have hEl:((E.map nr_ev0).map eEvO).length=E.length:=by simp
 have hNl:(E.map (eNts s)).length=E.length:=List.length_map _
 have hEx:∀ x:NC,((E++[x]).map nr_ev0).map eEvO=(E.map nr_ev0).map eEvO++[eEvO (nr_ev0 x)]:=fun x=>by simp
 have hNx:∀ x:NC,(E++[x]).map (eNts s)=E.map (eNts s)++[eNts s x]:=fun x=>by simp
 unfold nr_form
 obtain ⟨ws,hws⟩:∃ z,rq_wds 32 t=z:=⟨_,rfl⟩
 rw [hws] at hW hwb hwl ⊢
 have hne:ws≠[]:=by rw [← hws];unfold rq_wds;simp
 obtain ⟨w,r,rfl⟩:∃ w r,ws=w::r:=by
  cases ws with
  | nil=>exact absurd rfl hne
  | cons w r=>exact ⟨w,r,rfl⟩
 clear hne hws
 refine Ctu.intro stabN Tryz.func41 rfl Tryz.ntmps41 (Nat.le_of_ble_eq_true rfl) rfl fun w0 F0 fp pg hB=>?_
 unfold nr_rd
 dsimp only [number,Nat.reduceAdd]
 obtain ⟨EV,hEV⟩:∃ z,(E.map nr_ev0).map eEvO=z:=⟨_,rfl⟩
 obtain ⟨NT,hNT⟩:∃ z,E.map (eNts s)=z:=⟨_,rfl⟩
 rw [hEV] at hEl hEx ⊢
 rw [hNT] at hNl hNx ⊢
 have hrl:r.length≤300000:=by simp at hwl;omega
 have hml:((w::r).map eTx).length=r.length+1:=by simp
 refine zqg31 ?_
 refine WL.vl rfl (WV.callG hB rfl (callF Tryz.func38 rfl rfl) rfl rfl hW) ?_
 refine zqg31 ?_
 refine WL.idx rfl rfl zqo (show ((w::r).map eTx)[Int.toNat 0]?=some (eTx w) from rfl) ?_
 refine zqg31 ?_
 obtain ⟨bB,W1,hbW,hform⟩:∃ bB W1,(w=[124]∧bB=true∧W1=r∨w≠[124]∧bB=false∧W1=w::r)∧(if w=[124] then nr_time s (nr_staff s cs) true r else nr_time s (nr_staff s cs) false (w::r))=nr_time s (nr_staff s cs) bB W1:=by
  by_cases e:w=[124]
  ·exact ⟨true,r,.inl ⟨e,rfl,rfl⟩,if_pos e⟩
  ·exact ⟨false,w::r,.inr ⟨e,rfl,rfl⟩,if_neg e⟩
 rw [hform]
 have hW1b:∀ x∈W1,x.length≤300000:=fun x hx=>by
  rcases hbW with ⟨_,_,e⟩|⟨_,_,e⟩
  ·have:=hwb x (by rw [e] at hx;simp [hx]);omega
  ·have:=hwb x (by rw [e] at hx;exact hx);omega
 have hW1l:W1.length≤300001:=by
  rcases hbW with ⟨_,_,e⟩|⟨_,_,e⟩
  ·rw [e];omega
  ·rw [e];simp;omega
 refine W.meet ⟨[(0,.pt 0 0 0),(4,.ls 1 (W1.map eTx)),(5,.pt 3 0 0)],[(0,.box 78 [.sc (.int .u8 s),.sc (sysV s),.ls 3 (cs.map eCrs),.ls 1 (st.map eInt),.sl 1,.sl 2,.sc (.int .i64 ln),.ls 1 T,.sc (.bool cl)]),(1,.rwn 90 6 EV),(2,.row 153 1 NT),(3,.box 90 [.sc (.bool bB),.sc (.int .i64 0),.sc (.bool false),.sc (.bool false),.sc (.bool false),.sc (.slice none 0 0)])],4⟩ ?_ ?_
 ·rcases hbW with ⟨e,rfl,rfl⟩|⟨e,rfl,rfl⟩
  ·have hb:(w == ([124]:List UInt8))=true:=by rw [e];rfl
   have hp:prt ((w::W1).map eTx) 1 (((w::W1).map eTx).length:Int)=W1.map eTx:=by
    unfold prt
    rw [Int.toNat_natCast,List.take_length];rfl
   rw [hb]
   refine zqg31 ?_
   refine W.drawT 4 zqk zqk zqk ?_
   refine WA.dt [false,false,false,true] [] [] 3 zqk zqk zqk trivial trivial ?_
   refine DTK.v0 rfl (stepV_of rfl rfl) ?_
   refine DTK.v0 rfl (partV_of rfl ⟨by omega,by rw [hml];omega,by omega⟩) ?_
   rw [hp]
   refine DTK.v0 rfl (stepV_of rfl rfl) ?_
   refine DTK.sto rfl rfl rfl rfl rfl rfl rfl rfl rfl rfl rfl rfl rfl rfl trivial (fun h=>by cases h) ?_
   refine DTK.nil ?_
   refine ⟨rfl,?_⟩
   refine (?_:WL _ _ _ _ _ _)
   refine zqg31 ?_
   refine (?_:Tr _ _ _)
   exact (zqt id)
  ·have hb:(w == ([124]:List UInt8))=false:=by simpa using e
   rw [hb]
   refine zqg31 ?_
   refine (?_:Tr _ _ _)
   exact (zqt id)
 clear hbW hwb hwl hml hform hW
 match W1,hW1b,hW1l with
 | [],_,_ =>
  refine zqg31 ?_
  refine WL.ctp (truH _) [0,1,2] rfl rfl (callF Tryz.func40 rfl rfl) (fail_G _ _ _ _ _ _ _ _) rfl rfl rfl ⟨⟨rfl,rfl,rfl⟩,trivial⟩ ?_
  rfl
 | [x],_,_ =>
  have hml:(([x]:List (List UInt8)).map eTx).length=1:=rfl
  refine zqg31 ?_
  refine WL.ctp (truH _) [0,1,2] rfl rfl (callF Tryz.func40 rfl rfl) (fail_G _ _ _ _ _ _ _ _) rfl rfl rfl ⟨⟨rfl,rfl,rfl⟩,trivial⟩ ?_
  rfl
 | sg::w1::r1,hW1b,hW1l =>
 have hml:((sg::w1::r1).map eTx).length=r1.length+2:=by simp
 have hr1l:r1.length≤300000:=by simp at hW1l;omega
 have hpt:=ptm_FS s hs sg
 have hat0:((sg::w1::r1).map eTx)[Int.toNat 0]?=some (eTx sg):=rfl
 cases hsc:scanT (tmM s sg) 0 8 with
 | none =>
  have hnt:nr_time s (nr_staff s cs) bB (sg::w1::r1)=none:=by show (scanT (tmM s sg) 0 8).bind _=_;rw [hsc];rfl
  rw [hnt]
  rw [hsc] at hpt
  unfold ptT at hpt
  refine zqg31 ?_
  refine W.of_wa zqk ?_
  refine WA.dt [false,false,false,false,false,false,false,false,false,false,false,true,true,false] [0] [0] 12 zqk zqk zqk ⟨rfl,trivial⟩ ⟨rfl,trivial⟩ ?_
  refine DTK.v0 rfl (stepV_of rfl rfl) ?_
  refine DTK.v0 rfl (WV.nch rfl rfl) ?_
  refine DTK.v0 rfl (stepV_of rfl rfl) ?_
  refine DTK.v0 rfl (stepV_of rfl rfl) ?_
  refine DTK.v0 rfl (stepV_of rfl rfl) ?_
  refine DTK.v0 rfl (idxV_of rfl zqo hat0) ?_
  refine DTK.v0 rfl (stepV_of rfl rfl) ?_
  refine DTK.v0 rfl (zqc Tryz.func92 hpt) ?_
  refine DTK.v0 rfl (stepV_of rfl rfl) ?_
  refine DTK.v0 rfl (stepV_of rfl rfl) ?_
  refine DTK.v0 rfl (stepV_of rfl rfl) ?_
  refine DTK.al rfl rfl rfl rfl ⟨rfl,trivial⟩ (fun _=>⟨rfl,trivial⟩) ?_
  refine DTK.sto rfl rfl rfl rfl rfl rfl rfl rfl rfl rfl rfl rfl rfl rfl ⟨rfl,trivial⟩ (fun h=>by cases h) ?_
  refine DTK.v0 rfl (stepV_of rfl rfl) ?_
  refine DTK.nil ?_
  refine zqg31 ?_
  refine WL.ctp (truH _) [0,1,2] rfl rfl (callF Tryz.func40 rfl rfl) (fail_G _ _ _ _ _ _ _ _) rfl rfl rfl ⟨⟨rfl,rfl,rfl⟩,trivial⟩ ?_
  rfl
 | some vi =>
 obtain ⟨v,i⟩:=vi
 have hnt:nr_time s (nr_staff s cs) bB (sg::w1::r1)=nr_body s (nr_staff s cs) bB v i (w1::r1):=by show (scanT (tmM s sg) 0 8).bind _=_;rw [hsc];rfl
 rw [hnt]
 rw [hsc] at hpt
 unfold ptT at hpt
 dsimp only at hpt
 have hp9:prt ((sg::w1::r1).map eTx) 1 (((sg::w1::r1).map eTx).length:Int)=(w1::r1).map eTx:=by
  unfold prt
  rw [Int.toNat_natCast,List.take_length];rfl
 obtain ⟨sD,hsD⟩:∃ z,sgD i=z:=⟨_,rfl⟩
 obtain ⟨sT,hsT⟩:∃ z,sgT i=z:=⟨_,rfl⟩
 rw [hsD,hsT] at hpt
 refine zqg31 ?_
 refine W.of_wa zqk ?_
 refine WA.dt [false,false,false,false,false,false,false,false,false,false,false,true,true,false] [0] [0] 12 zqk zqk zqk ⟨rfl,trivial⟩ ⟨rfl,trivial⟩ ?_
 refine DTK.v0 rfl (stepV_of rfl rfl) ?_
 refine DTK.v0 rfl (WV.nch rfl rfl) ?_
 refine DTK.v0 rfl (stepV_of rfl rfl) ?_
 refine DTK.v0 rfl (stepV_of rfl rfl) ?_
 refine DTK.v0 rfl (stepV_of rfl rfl) ?_
 refine DTK.v0 rfl (idxV_of rfl zqo hat0) ?_
 refine DTK.v0 rfl (stepV_of rfl rfl) ?_
 refine DTK.v0 rfl (zqc Tryz.func92 hpt) ?_
 refine DTK.v0 rfl (stepV_of rfl rfl) ?_
 refine DTK.v0 rfl (stepV_of rfl rfl) ?_
 refine DTK.v0 rfl (stepV_of rfl rfl) ?_
 refine DTK.al rfl rfl rfl rfl ⟨rfl,trivial⟩ (fun _=>⟨rfl,trivial⟩) ?_
 refine DTK.sto rfl rfl rfl rfl rfl rfl rfl rfl rfl rfl rfl rfl rfl rfl ⟨rfl,trivial⟩ (fun h=>by cases h) ?_
 refine DTK.v0 rfl (stepV_of rfl rfl) ?_
 refine DTK.nil ?_
 refine zqg31 ?_
 refine W.drawT 5 zqk zqk zqk ?_
 refine WA.dt [false,false,false,false,true] [4] [4] 4 zqk zqk zqk ⟨rfl,trivial⟩ ⟨rfl,trivial⟩ ?_
 refine DTK.v0 rfl (stepV_of rfl rfl) ?_
 refine DTK.v0 rfl (stepV_of rfl rfl) ?_
 refine DTK.v0 rfl (partV_of rfl ⟨by omega,by rw [hml];omega,by omega⟩) ?_
 rw [hp9]
 refine DTK.v0 rfl (stepV_of rfl rfl) ?_
 refine DTK.sto rfl rfl rfl rfl rfl rfl rfl rfl rfl rfl rfl rfl rfl rfl ⟨rfl,trivial⟩ (fun h=>by cases h) ?_
 refine DTK.nil ?_
 refine ⟨rfl,?_⟩
 refine (?_:WL _ _ _ _ _ _)
 clear hpt hat0 hp9 hsc hnt
 have hch:=chord_G s hs cs st ln T cl (w1::r1) (by simp;omega) (fun x hx=>by have:=hW1b x (List.mem_cons_of_mem _ hx);omega) hcs
 obtain ⟨b1,hb1⟩:∃ b,decide (w1::r1=[[126]]∧s≠4)=b:=⟨_,rfl⟩
 obtain ⟨b2,hb2⟩:∃ b,decide (w1::r1=[[37]]∧s≠3)=b:=⟨_,rfl⟩
 have hat1:((w1::r1).map eTx)[Int.toNat 0]?=some (eTx w1):=rfl
 have hl1:((w1::r1).map eTx).length=r1.length+1:=by simp
 have hd1:r1≠[]→decide ((r1.length:Int)+1=1)=false:=fun h=>by
  have:0 < r1.length:=by cases r1 with
   | nil=>exact absurd rfl h
   | cons=>simp
  exact decide_eq_false zqo
 have hd2:r1=[]→decide ((r1.length:Int)+1=1)=true:=fun h=>by rw [h];rfl
 have hB1:b1=(decide (r1=[]) && (w1 == [126]) && hasS s 7):=by
  rw [← hb1]
  have e7:hasS s 7=decide (s≠4):=by rcases sys_cases hs with rfl|rfl|rfl|rfl<;>rfl
  rw [e7,Bool.eq_iff_iff];simp [and_assoc,and_comm,and_left_comm]
 have hB2:b2=(decide (r1=[]) && (w1 == [37]) && hasS s 8):=by
  rw [← hb2]
  have e8:hasS s 8=decide (s≠3):=by rcases sys_cases hs with rfl|rfl|rfl|rfl<;>rfl
  rw [e8,Bool.eq_iff_iff];simp [and_assoc,and_comm,and_left_comm]
 obtain ⟨R1,hR1⟩:∃ z,(w1::r1).map eTx=z:=⟨_,rfl⟩
 rw [hR1] at hat1 hl1 hch ⊢
 refine WL.meetT ⟨[(0,.pt 0 0 0),(4,.ls 1 R1),(5,.pt 3 0 0)],[(0,.box 78 [.sc (.int .u8 s),.sc (sysV s),.ls 3 (cs.map eCrs),.ls 1 (st.map eInt),.sl 1,.sl 2,.sc (.int .i64 ln),.ls 1 T,.sc (.bool cl)]),(1,.rwn 90 6 EV),(2,.row 153 1 NT),(3,.box 90 [.sc (.bool bB),.sc (.int .i64 v),.sc (.bool sD),.sc (.bool sT),.sc (.bool false),.sc (.slice none 0 0)])],5⟩ ?_ ?_
 ·refine zqg31 ?_
  refine (?_:Tr _ _ _)
  exact (zqt id)
 refine zqg31 ?_
 refine WL.meetT ⟨[(0,.pt 0 0 0),(4,.ls 1 R1),(5,.pt 3 0 0),(8,.sc (.slice none 0 0)),(48,.sc (.bool b1))],[(0,.box 78 [.sc (.int .u8 s),.sc (sysV s),.ls 3 (cs.map eCrs),.ls 1 (st.map eInt),.sl 1,.sl 2,.sc (.int .i64 ln),.ls 1 T,.sc (.bool cl)]),(1,.rwn 90 6 EV),(2,.row 153 1 NT),(3,.box 90 [.sc (.bool bB),.sc (.int .i64 v),.sc (.bool sD),.sc (.bool sT),.sc (.bool false),.sc (.slice none 0 0)])],5⟩ ?_ ?_
 ·rw [hl1,Int.natCast_add,Int.natCast_one,hB1]
  clear hB1 hB2 hb1 hb2 hch
  by_cases hr:r1=[]
  ·rw [hd2 hr,decide_eq_true hr]
   refine zqg31 ?_
   refine WL.idx rfl rfl zqo hat1 ?_
   refine zqg31 ?_
   by_cases e:(w1 == ([126]:List UInt8))=true
   ·rw [e]
    refine zqg31 ?_
    refine WL.vl rfl (WV.sys hs hasF rfl rfl (fun vs w=>by kernel_rfl) (fun vs w=>by kernel_rfl) (fun vs w=>by kernel_rfl) (fun vs w=>by kernel_rfl) rfl rfl (has_FS s hs 7)) ?_
    refine zqg31 ?_
    refine (?_:Tr _ _ _)
    exact (zqt id)
   ·rw [Bool.eq_false_iff.2 e]
    refine zqg31 ?_
    refine (?_:Tr _ _ _)
    exact (zqt id)
  ·rw [hd1 hr,decide_eq_false hr]
   refine zqg31 ?_
   refine (?_:Tr _ _ _)
   exact (zqt id)
 cases hX:nr_body s (nr_staff s cs) bB v i (w1::r1) with
 | none =>
  have n1:b1=false:=by
   rw [← hb1];refine decide_eq_false fun h=>?_
   unfold nr_body at hX;rw [if_pos h] at hX;cases hX
  have n2:b2=false:=by
   rw [← hb2];refine decide_eq_false fun h=>?_
   unfold nr_body at hX;rw [if_neg (of_decide_eq_false (hb1.trans n1)),if_pos h] at hX;cases hX
  have hn:nr_ch s (nr_staff s cs) (w1::r1)=none:=by
   rw [nr_body_ch (of_decide_eq_false (hb1.trans n1)) (of_decide_eq_false (hb2.trans n2))] at hX
   simpa using hX
  rw [hn] at hch
  have hF:Ctp tabN gloN Tryz.prog _ _ _ _ _:=(hch.er_ rfl).frame (X:=[(1,.rwn 90 6 EV),(2,.row 153 1 NT)])
  rw [n1]
  rw [n2] at hB2
  refine zqg31 ?_
  refine WL.meetT ⟨[(0,.pt 0 0 0),(4,.ls 1 R1),(5,.pt 3 0 0),(66,.sc (.bool false))],[(0,.box 78 [.sc (.int .u8 s),.sc (sysV s),.ls 3 (cs.map eCrs),.ls 1 (st.map eInt),.sl 1,.sl 2,.sc (.int .i64 ln),.ls 1 T,.sc (.bool cl)]),(1,.rwn 90 6 EV),(2,.row 153 1 NT),(3,.box 90 [.sc (.bool bB),.sc (.int .i64 v),.sc (.bool sD),.sc (.bool sT),.sc (.bool false),.sc (.slice none 0 0)])],5⟩ ?_ ?_
  ·rw [hl1,Int.natCast_add,Int.natCast_one,hB2]
   clear hB1 hB2 hb1 hb2 hch hF
   by_cases hr:r1=[]
   ·rw [hd2 hr,decide_eq_true hr]
    refine zqg31 ?_
    refine WL.idx rfl rfl zqo hat1 ?_
    refine zqg31 ?_
    by_cases e:(w1 == ([37]:List UInt8))=true
    ·rw [e]
     refine zqg31 ?_
     refine WL.vl rfl (WV.sys hs hasF rfl rfl (fun vs w=>by kernel_rfl) (fun vs w=>by kernel_rfl) (fun vs w=>by kernel_rfl) (fun vs w=>by kernel_rfl) rfl rfl (has_FS s hs 8)) ?_
     refine zqg31 ?_
     refine (?_:Tr _ _ _)
     exact (zqt id)
    ·rw [Bool.eq_false_iff.2 e]
     refine zqg31 ?_
     refine (?_:Tr _ _ _)
     exact (zqt id)
   ·rw [hd1 hr,decide_eq_false hr]
    refine zqg31 ?_
    refine (?_:Tr _ _ _)
    exact (zqt id)
  refine zqg31 ?_
  refine WL.ctp hB [0,1,2] rfl rfl (callF Tryz.func93 rfl rfl) hF rfl rfl rfl ⟨⟨rfl,rfl,rfl⟩,⟨rfl,rfl,rfl⟩,⟨rfl,rfl,rfl⟩,trivial⟩ ?_
  rfl
 | some X =>
 have hXb:=nr_body_bd hX
 refine W.meetB ⟨[(0,.pt 0 0 0),(5,.pt 3 0 0),(8,.ls 6 (X.l.map (eWr s)))],[(0,.box 78 [.sc (.int .u8 s),.sc (sysV s),.ls 3 (cs.map eCrs),.ls 1 (st.map eInt),.sl 1,.sl 2,.sc (.int .i64 ln),.ls 1 T,.sc (.bool cl)]),(1,.rwn 90 6 EV),(2,.row 153 1 NT),(3,.box 90 [.sc (.bool bB),.sc (.int .i64 v),.sc (.bool sD),.sc (.bool sT),.sc (.bool X.tie),.sc (.slice none 0 0)])],6⟩ ?_ ?_
 ·cases b1 with
  | true =>
   have h1:=of_decide_eq_true hb1
   have e:X=⟨bB,v,i,true,[]⟩:=by
    unfold nr_body at hX;rw [if_pos h1] at hX;exact (Option.some.inj hX).symm
   subst e
   clear hB1 hB2 hb1 hb2 hch hX
   refine zqg31 ?_
   refine (?_:Tr _ _ _)
   refine Tr.trans (Tr.nilR (t:=8) 6 rfl) ?_
   exact (zqt id)
  | false =>
   have n1:=of_decide_eq_false hb1
   refine zqg31 ?_
   refine WL.meetT ⟨[(0,.pt 0 0 0),(4,.ls 1 R1),(5,.pt 3 0 0),(8,.sc (.slice none 0 0)),(66,.sc (.bool b2))],[(0,.box 78 [.sc (.int .u8 s),.sc (sysV s),.ls 3 (cs.map eCrs),.ls 1 (st.map eInt),.sl 1,.sl 2,.sc (.int .i64 ln),.ls 1 T,.sc (.bool cl)]),(1,.rwn 90 6 EV),(2,.row 153 1 NT),(3,.box 90 [.sc (.bool bB),.sc (.int .i64 v),.sc (.bool sD),.sc (.bool sT),.sc (.bool false),.sc (.slice none 0 0)])],5⟩ ?_ ?_
   ·rw [hl1,Int.natCast_add,Int.natCast_one,hB2]
    clear hB1 hB2 hb1 hb2 hch
    by_cases hr:r1=[]
    ·rw [hd2 hr,decide_eq_true hr]
     refine zqg31 ?_
     refine WL.idx rfl rfl zqo hat1 ?_
     refine zqg31 ?_
     by_cases e:(w1 == ([37]:List UInt8))=true
     ·rw [e]
      refine zqg31 ?_
      refine WL.vl rfl (WV.sys hs hasF rfl rfl (fun vs w=>by kernel_rfl) (fun vs w=>by kernel_rfl) (fun vs w=>by kernel_rfl) (fun vs w=>by kernel_rfl) rfl rfl (has_FS s hs 8)) ?_
      refine zqg31 ?_
      refine (?_:Tr _ _ _)
      exact (zqt id)
     ·rw [Bool.eq_false_iff.2 e]
      refine zqg31 ?_
      refine (?_:Tr _ _ _)
      exact (zqt id)
    ·rw [hd1 hr,decide_eq_false hr]
     refine zqg31 ?_
     refine (?_:Tr _ _ _)
     exact (zqt id)
   cases b2 with
   | true =>
    have h2:=of_decide_eq_true hb2
    have e:X=⟨bB,v,i,false,[]⟩:=by
     unfold nr_body at hX;rw [if_neg n1,if_pos h2] at hX;exact (Option.some.inj hX).symm
    subst e
    clear hB1 hB2 hb1 hb2 hch hX
    refine zqg31 ?_
    refine (?_:Tr _ _ _)
    refine Tr.trans (Tr.nilR (t:=8) 6 rfl) ?_
    exact (zqt id)
   | false =>
    have n2:=of_decide_eq_false hb2
    rw [nr_body_ch n1 n2] at hX
    obtain ⟨l,hl,e⟩:=Option.map_eq_some_iff.1 hX
    subst e
    rw [hl] at hch
    have hF:Cto tabN gloN Tryz.prog _ _ _ _ _ _ _:=(hch.ok_ rfl).fr2 (a:=.rwn 90 6 EV) (b:=.row 153 1 NT)
    clear hB1 hB2 hb1 hb2 hch hX
    refine zqg31 ?_
    refine WL.cto hB [0,1,2] rfl rfl (callF Tryz.func93 rfl rfl) hF rfl rfl rfl ⟨⟨rfl,rfl,rfl⟩,⟨rfl,rfl,rfl⟩,⟨rfl,rfl,rfl⟩,trivial⟩ rfl rfl rfl rfl ?_
    refine zqg31 ?_
    refine (?_:Tr _ _ _)
    exact (zqt id)
 obtain ⟨xb1,xv1,xi1,hXl,hXn⟩:=hXb
 have hev:eEvO (nr_ev0 X)=[.sc (.bool bB),.sc (.int .i64 v),.sc (.bool sD),.sc (.bool sT),.sc (.bool X.tie),.ow 69 5 ((X.l.map (nr_stp nr_U)).map eStp)]:=by
  show ([.sc (.bool X.bar),.sc (.int .i64 X.v),.sc (.bool (sgD X.i)),.sc (.bool (sgT X.i)),.sc (.bool X.tie),.ow 69 5 ((X.l.map (nr_stp nr_U)).map eStp)]:List AV)=_
  rw [xb1,xv1,xi1,hsD,hsT]
 have hE1:=hEx X
 have hN1:=hNx X
 have hXv:X.v=v:=xv1
 rw [hev] at hE1
 clear hEx hNx hX hch hB1 hB2 hb1 hb2 xb1 xv1 xi1 hev hat1 hl1 hd1 hd2
 have hcode:nr_coU s cs st ln T cl E (some X)=if nr_chk cs (E.length == 0) X≠0 then .er (nr_flt ln (nr_chk cs (E.length == 0) X)) else .ok (.tu []) [(0,.box 78 [.sc (.int .u8 s),.sc (sysV s),.ls 3 (cs.map eCrs),.ls 1 (st.map eInt),.sl 3,.sl 4,.sc (.int .i64 ln),.ls 1 T,.sc (.bool cl)]),(3,.rwn 90 6 (((E++[X]).map nr_ev0).map eEvO)),(4,.row 153 1 ((E++[X]).map (eNts s)))] 5:=rfl
 rw [hcode,hE1,hN1]
 clear hcode hE1 hN1
 have hfb:(E.length == 0)=decide ((EV.length:Int)=0):=by rw [hEl,Bool.eq_iff_iff];simp
 rw [hfb]
 obtain ⟨fb,hfbe⟩:∃ z,decide ((EV.length:Int)=0)=z:=⟨_,rfl⟩
 have hc20:fb=true→v=0→nr_chk cs fb X=20:=fun h1 h2=>by unfold nr_chk;rw [if_pos ⟨h1,hXv.trans h2⟩]
 have hc21:¬ (fb=true∧v=0)→(fb && X.tie)=true→nr_chk cs fb X=21:=fun h1 h2=>by unfold nr_chk;rw [if_neg (by rw [hXv];exact h1),if_pos h2]
 have hcn:¬ (fb=true∧v=0)→¬ (fb && X.tie)=true→nr_chk cs fb X=nr_notes cs X.l:=fun h1 h2=>by unfold nr_chk;rw [if_neg (by rw [hXv];exact h1),if_neg h2]
 obtain ⟨tie,htie⟩:∃ z,X.tie=z:=⟨_,rfl⟩
 rw [htie] at hc21 hcn ⊢
 obtain ⟨CK,hCK⟩:∃ z,nr_chk cs (decide ((EV.length:Int)=0)) X=z:=⟨_,rfl⟩
 rw [hCK]
 rw [hfbe] at hCK
 rw [hCK] at hc20 hc21 hcn
 refine zqg31 ?_
 rw [hfbe]
 refine WL.meetT ⟨[(0,.pt 0 0 0),(5,.pt 3 0 0),(8,.ls 6 (X.l.map (eWr s))),(9,.sc (.bool fb)),(96,.sc (.bool (fb && decide ((v:Int)=0))))],[(0,.box 78 [.sc (.int .u8 s),.sc (sysV s),.ls 3 (cs.map eCrs),.ls 1 (st.map eInt),.sl 1,.sl 2,.sc (.int .i64 ln),.ls 1 T,.sc (.bool cl)]),(1,.rwn 90 6 EV),(2,.row 153 1 NT),(3,.box 90 [.sc (.bool bB),.sc (.int .i64 v),.sc (.bool sD),.sc (.bool sT),.sc (.bool tie),.sc (.slice none 0 0)])],6⟩ ?_ ?_
 ·cases fb with
  | true =>
   refine zqg31 ?_
   refine (?_:Tr _ _ _)
   exact (zqt id)
  | false =>
   refine zqg31 ?_
   refine (?_:Tr _ _ _)
   exact (zqt id)
 by_cases h20:fb=true∧v=0
 ·have e:(fb && decide ((v:Int)=0))=true:=by rw [h20.1,h20.2];rfl
  rw [e]
  rw [hc20 h20.1 h20.2,if_pos (by decide)]
  refine zqg31 ?_
  refine WL.ctp (truH _) [0,1,2] rfl rfl (callF Tryz.func40 rfl rfl) (fail_G _ _ _ _ _ _ _ _) rfl rfl rfl ⟨⟨rfl,rfl,rfl⟩,trivial⟩ ?_
  rfl
 have e:(fb && decide ((v:Int)=0))=false:=by
  cases fb with
  | false=>rfl
  | true=>simpa using h20
 rw [e]
 refine zqg31 ?_
 refine WL.meetT ⟨[(0,.pt 0 0 0),(5,.pt 3 0 0),(8,.ls 6 (X.l.map (eWr s))),(9,.sc (.bool fb)),(103,.sc (.bool (fb && tie)))],[(0,.box 78 [.sc (.int .u8 s),.sc (sysV s),.ls 3 (cs.map eCrs),.ls 1 (st.map eInt),.sl 1,.sl 2,.sc (.int .i64 ln),.ls 1 T,.sc (.bool cl)]),(1,.rwn 90 6 EV),(2,.row 153 1 NT),(3,.box 90 [.sc (.bool bB),.sc (.int .i64 v),.sc (.bool sD),.sc (.bool sT),.sc (.bool tie),.sc (.slice none 0 0)])],6⟩ ?_ ?_
 ·cases fb with
  | true =>
   refine zqg31 ?_
   refine (?_:Tr _ _ _)
   exact (zqt id)
  | false =>
   refine zqg31 ?_
   refine (?_:Tr _ _ _)
   exact (zqt id)
 by_cases h21:(fb && tie)=true
 ·rw [h21]
  rw [hc21 h20 h21,if_pos (by decide)]
  refine zqg31 ?_
  refine WL.ctp (truH _) [0,1,2] rfl rfl (callF Tryz.func40 rfl rfl) (fail_G _ _ _ _ _ _ _ _) rfl rfl rfl ⟨⟨rfl,rfl,rfl⟩,trivial⟩ ?_
  rfl
 rw [Bool.eq_false_iff.2 h21]
 have hcn:=hcn h20 h21
 clear hc20 hc21 h20 h21 e hCK hfb hfbe
 have hNLl:(X.l.map (eWr s)).length=X.l.length:=List.length_map _
 have hNLat:∀ k (h:k < X.l.length),(X.l.map (eWr s))[((k:Nat):Int).toNat]?=some (eWr s X.l[k]):=fun k h=>by
  rw [Int.toNat_natCast,List.getElem?_map,List.getElem?_eq_getElem h];rfl
 obtain ⟨l,hl⟩:∃ z,X.l=z:=⟨_,rfl⟩
 have hNe:eNts s X=[.ls 6 (X.l.map (eWr s))]:=rfl
 rw [hNe]
 rw [hl] at hcn hNLl hXl hXn ⊢
 have hNLat:∀ k (h:k < l.length),(l.map (eWr s))[((k:Nat):Int).toNat]?=some (eWr s l[k]):=by subst hl;exact hNLat
 obtain ⟨NL,hNLe⟩:∃ z,l.map (eWr s)=z:=⟨_,rfl⟩
 rw [hNLe] at hNLl hNLat ⊢
 refine zqg31 ?_
 refine W.tr (Tr.nilBox (k:=3) (j:=5) 69 5 rfl rfl rfl rfl) ?_
 dsimp only [St.upd,St.new,St.put,Nat.reduceAdd]
 refine W.loop (fun k:Nat=>k≤l.length∧∀ j (h:j < l.length),j < k→nr_note cs l[j]=0) (fun k=>⟨[(0,.pt 0 0 0),(5,.pt 3 0 0),(8,.ls 6 NL),(106,.ls 6 NL),(107,.sc (.int .i64 (l.length:Int))),(108,.sc (.int .i64 (k:Int)))],
  [(0,.box 78 [.sc (.int .u8 s),.sc (sysV s),.ls 3 (cs.map eCrs),.ls 1 (st.map eInt),.sl 1,.sl 2,.sc (.int .i64 ln),.ls 1 T,.sc (.bool cl)]),(1,.rwn 90 6 EV),(2,.row 153 1 NT),(3,.box 90 [.sc (.bool bB),.sc (.int .i64 v),.sc (.bool sD),.sc (.bool sT),.sc (.bool tie),.sl 6]),(6,.row 69 5 (((l.take k).map (nr_stp nr_U)).map eStp))],7⟩) (fun k=>l.length - k) 0 ⟨by omega,fun j hj h=>absurd h (by omega)⟩ (by rw [← hNLl];exact (zqt id)) fun k hk=>?_
 obtain ⟨hk,hall⟩:=hk
 by_cases hlt:k < l.length
 ·have hNk:=hNLat k hlt
  have hck:=check_G s (.int .u8 s) (sysV s) cs (st.map eInt) ln T cl l[k] ⟨(hXl _ (List.getElem_mem hlt)).1,by have:=(hXl _ (List.getElem_mem hlt)).2.1;omega⟩ (by have:=(hXl _ (List.getElem_mem hlt)).2.2;omega) (by omega) hcb
  have hbad:=fun h=>nr_notes_at hlt hall h
  have hnx:nr_note cs l[k]=0→∀ j (hj:j < l.length),j < k+1→nr_note cs l[j]=0:=fun h j hj hjk=>by
   by_cases e:j=k
   ·subst e;exact h
   ·exact hall j hj zqo
  have hrow:((l.take (k+1)).map (nr_stp nr_U)).map eStp=((l.take k).map (nr_stp nr_U)).map eStp++[eStp (nr_stp nr_U l[k])]:=by
   rw [List.take_succ_eq_append_getElem hlt,List.map_append,List.map_append];rfl
  obtain ⟨R,hR⟩:∃ z,((l.take k).map (nr_stp nr_U)).map eStp=z:=⟨_,rfl⟩
  have hRl:R.length≤500000:=by rw [← hR,List.length_map,List.length_map,List.length_take];omega
  rw [hR] at hrow ⊢
  obtain ⟨⟨c,f,r,g,h⟩,hx⟩:∃ z,l[k]=z:=⟨_,rfl⟩
  rw [hx] at hNk hck hbad hnx hrow
  unfold nr_rd eWr at hck
  unfold eWr at hNk
  have hrow:((l.take (k+1)).map (nr_stp nr_U)).map eStp=R++[[.sc (.int .i64 c),.sc (.int .i64 f),.sc (.int .i64 r),.sc (.int .i64 g),.sc (.int .i64 0)]]:=hrow
  dsimp only at hNk hck
  obtain ⟨H,hH⟩:∃ z,rm_hold s h=z:=⟨_,rfl⟩
  rw [hH] at hNk hck
  obtain ⟨NO,hNO⟩:∃ z,nr_note cs (c,f,r,g,h)=z:=⟨_,rfl⟩
  rw [hNO] at hck hbad hnx
  clear hall
  by_cases h0:NO=0
  rotate_left
  ·rw [if_neg h0] at hck
   have hF:Ctp truB 0 Tryz.prog _ _ _ _ _:=(hck.er_ rfl).frame (X:=[(1,.rwn 90 6 EV),(2,.row 153 1 NT)])
   rw [hcn,hbad h0,if_pos h0]
   refine zqg31 ?_
   refine WL.idx rfl rfl zqo hNk ?_
   refine zqg31 ?_
   refine WL.ctp (truH _) [0,1,2] rfl rfl (callF Tryz.func94 rfl rfl) hF rfl rfl rfl ⟨⟨rfl,rfl,rfl⟩,⟨rfl,rfl,rfl⟩,⟨rfl,rfl,rfl⟩,trivial⟩ ?_
   rfl
  ·rw [if_pos h0] at hck
   have hF:Cto truB 0 Tryz.prog _ _ _ _ _ _ _:=(hck.ok_ rfl).fr2 (a:=.rwn 90 6 EV) (b:=.row 153 1 NT)
   refine zqg31 ?_
   refine WL.idx rfl rfl zqo hNk ?_
   refine zqg31 ?_
   refine WL.cto (truH _) [0,1,2] rfl rfl (callF Tryz.func94 rfl rfl) hF rfl rfl rfl ⟨⟨rfl,rfl,rfl⟩,⟨rfl,rfl,rfl⟩,⟨rfl,rfl,rfl⟩,trivial⟩ rfl rfl rfl rfl ?_
   refine zqg31 ?_
   refine ⟨k+1,⟨by omega,hnx h0⟩,by omega,?_⟩
   rw [hrow]
   exact (zqu (fun q=>bif Nat.beq q 6 then 9 else q) (by repeat (first|exact trivial|refine ⟨⟨?_,?_,?_⟩,?_⟩|rfl|exact congrArg (fun q=>some (AO.row _ _ q)) (by first|rfl|(simp;done)|(simp [eInt];done)|(simp [eLk];done)))) rfl)
 obtain rfl:k=l.length:=by omega
 have hno:=nr_notes_no fun j hj=>hall j hj hj
 rw [List.take_length,hcn,hno,if_neg (by decide)]
 obtain ⟨SS,hSS⟩:∃ z,(l.map (nr_stp nr_U)).map eStp=z:=⟨_,rfl⟩
 rw [hSS]
 clear hcn hno hall hk hlt hXl hXn hNLat
 refine zqg31 ?_
 refine W.drawT 9 zqk zqk zqk ?_
 refine WA.dt [false,false,false,false,false,false,false,true,true] [0,3] [0,3] 8 zqk zqk zqk ⟨rfl,rfl,trivial⟩ ⟨rfl,rfl,trivial⟩ ?_
 refine DTK.v0 rfl (stepV_of rfl rfl) ?_
 refine DTK.v0 rfl (stepV_of rfl rfl) ?_
 refine DTK.v0 rfl (WV.nch rfl rfl) ?_
 refine DTK.v0 rfl (stepV_of rfl rfl) ?_
 refine DTK.v0 rfl (stepV_of rfl rfl) ?_
 refine DTK.v0 rfl (stepV_of rfl rfl) ?_
 refine DTK.v0 rfl (stepV_of rfl rfl) ?_
 refine DTK.bdC (q:=6) (j0:=5) (rows2:=[[.sc (.bool bB),.sc (.int .i64 v),.sc (.bool sD),.sc (.bool sT),.sc (.bool tie),.ow 69 5 SS]]) (M':=[(0,.box 78 [.sc (.int .u8 s),.sc (sysV s),.ls 3 (cs.map eCrs),.ls 1 (st.map eInt),.sl 1,.sl 2,.sc (.int .i64 ln),.ls 1 T,.sc (.bool cl)]),(1,.rwn 90 6 EV),(2,.row 153 1 NT),(3,.box 90 [.sc (.bool bB),.sc (.int .i64 v),.sc (.bool sD),.sc (.bool sT),.sc (.bool tie),.sl 6]),(7,.rwn 90 6 [[.sc (.bool bB),.sc (.int .i64 v),.sc (.bool sD),.sc (.bool sT),.sc (.bool tie),.ow 69 5 SS]])]) rfl rfl rfl rfl rfl rfl rfl rfl rfl rfl rfl rfl rfl rfl rfl rfl rfl rfl rfl ⟨rfl,rfl,rfl,rfl,rfl,trivial⟩ ⟨rfl,rfl,trivial⟩ (fun _=>⟨rfl,rfl,trivial⟩) ?_
 refine DTK.apM (q1:=1) (q2:=7) (M':=[(0,.box 78 [.sc (.int .u8 s),.sc (sysV s),.ls 3 (cs.map eCrs),.ls 1 (st.map eInt),.sl 1,.sl 2,.sc (.int .i64 ln),.ls 1 T,.sc (.bool cl)]),(2,.row 153 1 NT),(3,.box 90 [.sc (.bool bB),.sc (.int .i64 v),.sc (.bool sD),.sc (.bool sT),.sc (.bool tie),.sl 6]),(8,.rwn 90 6 (EV++[[.sc (.bool bB),.sc (.int .i64 v),.sc (.bool sD),.sc (.bool sT),.sc (.bool tie),.ow 69 5 SS]]))]) rfl rfl rfl rfl rfl rfl rfl rfl rfl rfl rfl rfl rfl rfl rfl rfl rfl (by simp;omega) rfl rfl ⟨rfl,rfl,rfl,rfl,trivial⟩ ⟨rfl,rfl,trivial⟩ (fun h=>by cases h) ?_
 refine DTK.nil ?_
 refine ⟨rfl,?_⟩
 refine (?_:WL _ _ _ _ _ _)
 refine zqg31 ?_
 exact finTrL (σ':=⟨[],[(0,.box 78 [.sc (.int .u8 s),.sc (sysV s),.ls 3 (cs.map eCrs),.ls 1 (st.map eInt),.sl 3,.sl 4,.sc (.int .i64 ln),.ls 1 T,.sc (.bool cl)]),(3,.rwn 90 6 (EV++[[.sc (.bool bB),.sc (.int .i64 v),.sc (.bool sD),.sc (.bool sT),.sc (.bool tie),.ow 69 5 SS]])),(4,.row 153 1 (NT++[[.ls 6 NL]]))],5⟩) (zqu (fun q=>bif Nat.beq q 3 then 8 else bif Nat.beq q 4 then 10 else q) (by repeat (first|exact trivial|refine ⟨⟨?_,?_,?_⟩,?_⟩|rfl|exact congrArg (fun q=>some (AO.row _ _ q)) rfl|exact congrArg (fun q=>some (AO.rwn _ _ q)) rfl|exact congrArg (fun q=>some (AO.row _ _ q)) rfl|exact congrArg (fun q=>some (AO.rwn _ _ q)) rfl)) rfl) (finMuL rfl rfl rfl rfl rfl)
end Go.Proofs.YthehkchjdkdbiaaGreatDoor
