/- The reader of the program: Read. (RWN.) -/
import Derived.Test.YthehkchjdkdbiaaGreatDoorNrHGq
import Derived.Test.YthehkchjdkdbiaaGreatDoorNrKGq
set_option maxHeartbeats 16000000
set_option maxRecDepth 100000
set_option linter.unusedVariables false
set_option linter.unusedSimpArgs false
namespace Go.Proofs.YthehkchjdkdbiaaGreatDoor
open Go.RowKit
theorem WV.cv {P:Program} {C:Cx} {σ:St} {o:Oper} {x:Operand} {v r:Value} {res:AV} (hx:σ.ev x=some (.sc v))(hp:plT res=some r)(h:∀ (a:Act) w,a.eval x=v→(execOp a.eval o).run P w=.ok (.value r) w):WV P C o σ res :=
 WV.val (fun G a w ok=>(rp_plT (F:=G.F) hp).bd _) fun G a w ok=>⟨r,h a w (ok.evr hx).2.sc_eq,.pu _ _ (rp_plT hp)⟩
def nrdC:List AV:=[.pt 0 0 0,.pt 1 0 0,.pt 2 0 0,.pt 3 0 0]
def rdB:List (Nat×AO):=[(0,.box 23 [.sc (.int .u8 0)]),(1,.box 30 [.sc (.slice none 0 0),.sc (.slice none 0 0),.sc (.slice none 0 0)]),(2,.box 3 [.sc (.int .i64 0)]),(3,.box 31 [.sc (.int .i64 0)])]
def rdF (r:NRes):List (Nat×AO):=[(0,.box 23 [.sc (.int .u8 r.1)]),(1,.box 30 [.ls 3 (r.2.1.cs.map eCrs),.ls 1 (r.2.1.st.map eInt),.ls 6 (r.2.1.evs.map eEv)]),(2,.box 3 [.sc (.int .i64 r.2.2.1)]),(3,.box 31 [.sc (.int .i64 r.2.2.2)])]
theorem rd1_ok (r:NRes):CtoD Tryz.prog 37 nrdC (rdF r) 4 .returning .returning (rdF r):=by
 refine CtoD.intro (rv:=.nilIface) (d:=7) (res:=.tu []) Tryz.func37 rfl Tryz.ntmps37 (Nat.le_of_ble_eq_true rfl) rfl rfl rfl rfl (fun a w=>by kernel_rfl) (fun c₀ cs h=>.inr ⟨by simp [recoverD,h],rfl,rfl⟩) fun w0 F0 fp pg=>?_
 unfold nrdC rdF
 dsimp only [number,Nat.reduceAdd]
 refine zqg38 ?_
 refine WL.vl rfl (WV.cv (x:=.tmp 7) (r:=.bool true) (res:=.sc (.bool true)) rfl rfl fun a w e=>by unfold execOp;simp only [e];kernel_rfl) ?_
 refine zqg38 ?_
 refine (?_:QFinM _ _ _ _ _ _ .normal _)
 exact finTrL (σ':=⟨[],rdF r,4⟩) (zqt id) (finMuL rfl rfl rfl rfl rfl)
theorem rd1_er (n e:Int):CtoD Tryz.prog 37 nrdC rdB 4 (.panicking (pch (nr_flt n e))) (.panicking [{ v:=nr_flt n e,recovered:=true }]) (rdF (nr_no n e)):=by
 refine CtoD.intro (rv:=nr_flt n e) (d:=7) (res:=.tu []) Tryz.func37 rfl Tryz.ntmps37 (Nat.le_of_ble_eq_true rfl) rfl rfl rfl rfl (fun a w=>by kernel_rfl) (fun c₀ cs h=>.inl (by simp [recoverD,h,pch])) fun w0 F0 fp pg=>?_
 unfold nrdC rdB nr_flt
 dsimp only [number,Nat.reduceAdd]
 refine zqg39 ?_
 refine WL.vl rfl (WV.cv (x:=.tmp 7) (r:=.bool false) (res:=.sc (.bool false)) rfl rfl fun a w e=>by unfold execOp;simp only [e];kernel_rfl) ?_
 refine zqg39 ?_
 refine WL.vl rfl (WV.cv (x:=.tmp 7) (r:=.tuple #[.agg #[.int .i64 n,.int .i64 e],.bool true]) (res:=.tu [.ag [.sc (.int .i64 n),.sc (.int .i64 e)],.sc (.bool true)]) rfl rfl fun a w e=>by unfold execOp;simp only [e];kernel_rfl) ?_
 refine zqg39 ?_
 refine W.drawT 8 zqk zqk zqk ?_
 refine WA.dt [false,false,false,false,false,true,true,true] [4] [4] 7 zqk zqk zqk ⟨rfl,trivial⟩ ⟨rfl,trivial⟩ ?_
 refine DTK.v0 rfl (stepV_of rfl rfl) ?_
 refine DTK.v0 rfl (stepV_of rfl rfl) ?_
 refine DTK.v0 rfl (stepV_of rfl rfl) ?_
 refine DTK.v0 rfl (stepV_of rfl rfl) ?_
 refine DTK.v0 rfl (stepV_of rfl rfl) ?_
 refine DTK.sto rfl rfl rfl rfl rfl rfl rfl rfl rfl rfl rfl rfl rfl rfl ⟨rfl,trivial⟩ (fun _=>⟨rfl,trivial⟩) ?_
 refine DTK.sto rfl rfl rfl rfl rfl rfl rfl rfl rfl rfl rfl rfl rfl rfl ⟨rfl,trivial⟩ (fun _=>⟨rfl,trivial⟩) ?_
 refine DTK.sto rfl rfl rfl rfl rfl rfl rfl rfl rfl rfl rfl rfl rfl rfl ⟨rfl,trivial⟩ (fun h=>by cases h) ?_
 refine DTK.nil ?_
 refine ⟨rfl,?_⟩
 refine (?_:WL _ _ _ _ _ _)
 refine zqg39 ?_
 refine (?_:QFinM _ _ _ _ _ _ .normal _)
 refine finTrL (σ':=⟨[],rdF (nr_no n e),4⟩) ?_ (finMuL rfl rfl rfl rfl rfl)
 refine Tr.trans (Tr.nilC 1 0 3 rfl rfl rfl) ?_
 refine Tr.trans (Tr.nilC 1 1 1 rfl rfl rfl) ?_
 refine Tr.trans (Tr.nilC 1 2 6 rfl rfl rfl) ?_
 exact (zqt id)
def resV1 (P:Program)(σ:St):ResultVar→Option AV
 | .tmp t=>resV P σ (.tmp t)
 | .cell t T =>
  match look t σ.t with
  | some (.pt k 0 0) =>
   match look k σ.M,aggB P T with
   | some (.box _ [av]),some false=>some av
   | _,_=>resV P σ (.cell t T)
  | _=>none
def resL1 (P:Program)(σ:St):List ResultVar→Option (List AV)
 | []=>some []
 | r::l =>
  match resV1 P σ r,resL1 P σ l with
  | some a,some b=>some (a::b)
  | _,_=>none
section
variable {P:Program} {C:Cx} {σ:St} {G:Gh} {a:Act} {w:World}
theorem resV1_of (ok:Ok C σ G a w) {r:ResultVar} {av:AV} (h:resV1 P σ r=some av) (hp:av.pu2=true):∃ v,(resOne a.tmps r).run P w=.ok v w∧RP G.F av v:=by
 cases r with
 | tmp t=>exact resV_of ok h hp
 | cell t T =>
  unfold resV1 at h
  dsimp only at h
  split at h
  ·rename_i k ht
   split at h
   ·rename_i T' av' hk hT
    cases h
    obtain ⟨p,ep,h1,h2,h3⟩:=(ok.tm t _ ht).2.2.pt_of
    have ho:av.own=false:=by cases av<;>first|rfl|cases hp
    obtain ⟨u,hu,hr,_⟩:=ok.cell (i:=0) (j:=0) (l:=[av]) hk rfl (show ([av]:List AV)[0]?=some av from rfl) h1 h2 h3 ho
    refine ⟨u,?_,(pu2_bd hp 0).rp hr⟩
    have hu:w.cell? p=some u:=hu
    unfold resOne
    simp [ep,asAddr,loadVar,run_aggB hT,hu]
   ·exact resV_of ok h hp
  ·cases h
theorem resL1_of (ok:Ok C σ G a w):∀ {l:List ResultVar} {avs:List AV},resL1 P σ l=some avs→avs.all AV.pu2=true→∃ vs:List Value,(l.mapM (resOne a.tmps)).run P w=.ok vs w∧vs.length=avs.length∧∀ (i:Nat)av u,avs[i]?=some av→vs[i]?=some u→RP G.F av u
 | [],avs,h,_=>by cases h;exact ⟨[],rfl,rfl,fun i av u x=>by simp at x⟩
 | r::l,avs,h,hp=>by
  cases h1:resV1 P σ r with
  | none=>simp only [resL1,h1]at h;cases h
  | some x =>
  cases h2:resL1 P σ l with
  | none=>simp only [resL1,h1,h2]at h;cases h
  | some y =>
   simp only [resL1,h1,h2,Option.some.injEq]at h
   subst h
   simp only [List.all_cons,Bool.and_eq_true]at hp
   obtain ⟨v,e1,e2⟩:=resV1_of ok h1 hp.1
   obtain ⟨vs,f1,f2,f3⟩:=resL1_of ok h2 hp.2
   refine ⟨v::vs,by simp [List.mapM_cons,Sem.run_bind,e1,f1,Result.andThen],by simp [f2],fun i av u p q=>?_⟩
   cases i with
   | zero=>cases p;cases q;exact e2
   | succ i=>exact f3 i av u (by simpa using p) (by simpa using q)
theorem finN1 {fn:Func} {avs:List AV} {res:AV} (h:resL1 P σ fn.results.toList=some avs)(hp:avs.all AV.pu2=true)(hl:Nat.beq avs.length 1=false)(e:.tu avs=res):Fin P fn C σ res:=by
 intro G a w ok
 subst e
 obtain⟨vs,e1,e2,e3⟩:=resL1_of ok h hp
 refine⟨.tuple vs.toArray,G.F,?_,fun _ _ h=>h,ok.fw,fun _ _ h=>.inl h,.tu _ _ (by simpa using e2) fun i av u x y=>e3 i av u x (by simpa using y)⟩
 have e:results fn a.tmps=(do let vs ← fn.results.mapM (resOne a.tmps);pure (if h:vs.size=1 then vs[0] else .tuple vs)):=rfl
 have hne:¬ vs.toArray.size=1:=by
  intro h1
  have:avs.length=1:=by rw [← e2];simpa using h1
  rw [this] at hl;cases hl
 rw [e,Array.mapM_eq_mapM_toList]
 simp only [Sem.run_bind,Sem.run_map,e1,Result.andThen]
 simp
 intro h1
 exact absurd (by simpa using h1) hne
end
def rdL (F:List (List UInt8))(tl:List UInt8):List (List UInt8):=if tl=[]then F else F++[tl]
theorem rdL_len (F:List (List UInt8))(tl:List UInt8):(rdL F tl).length=F.length+(if tl=[]then 0 else 1):=by unfold rdL;split<;>simp
theorem rdL_nxt (F:List (List UInt8)) (tl:List UInt8) (k:Nat):nr_nxt (rdL F tl) (decide (tl=[])) k=decide (k<F.length):=by
 unfold nr_nxt rdL
 by_cases e:tl=[]
 ·rw [if_pos e,decide_eq_true e];simp
 ·rw [if_neg e,decide_eq_false e,Bool.eq_iff_iff];simp;omega
theorem rdL_get (F:List (List UInt8))(tl:List UInt8) {k:Nat} (h:k<F.length):(rdL F tl).getD k []=F[k]:=by
 unfold rdL
 split
 ·rw [List.getD_eq_getElem?_getD,List.getElem?_eq_getElem h];rfl
 ·rw [List.getD_eq_getElem?_getD,List.getElem?_append_left h,List.getElem?_eq_getElem h];rfl
theorem nr_sys_bd {l:List UInt8} {s:Int} (h:nr_sys l=some s):1≤s∧s≤4:=by
 unfold nr_sys at h
 split at h
 ·split at h
  ·cases h;decide
  ·split at h
   ·cases h;decide
   ·split at h
    ·cases h;decide
    ·split at h
     ·cases h;decide
     ·cases h
 ·cases h
theorem nr_hd_or (F:List (List UInt8)) (tl:List UInt8) :
  (∃ n e,nr_hdU (rdL F tl) (decide (tl=[]))=.er (nr_flt n e)∧nr_one tl F=nr_no n e) ∨
  (∃ s l0 l1 F2,F=l0::l1::F2∧1≤s∧s≤4∧(nr_ins l1).2=0∧nr_hdU (rdL F tl) (decide (tl=[]))=.ok (.tu []) [(0,nr_rd (.int .u8 s) (sysV s) ((nr_ins l1).1.1.map eCrs) ((nr_ins l1).1.2.map eInt) 2 ((rdL F tl).map eTx) (decide (tl=[])))] 4 ∧
   nr_one tl F=if 400<F2.length+(if tl=[] then 0 else 1) then nr_no 403 2 else nr_evs s (nr_ins l1).1.1 (nr_ins l1).1.2 tl F2):=by
 have h0:=rdL_nxt F tl 0
 have h1:=rdL_nxt F tl 1
 cases F with
 | nil=>exact .inl ⟨1,4,by unfold nr_hdU;rw [h0,if_pos (by simp)],rfl⟩
 | cons l0 F1 =>
  have g0:=rdL_get (l0::F1) tl (k:=0) (by simp)
  cases hs:nr_sys l0 with
  | none=>exact .inl ⟨1,4,by unfold nr_hdU;rw [h0,if_neg (by simp),g0];show (match nr_sys l0 with|none=>UR.er (nr_flt 1 4)|some s=>_)=_;rw [hs],by unfold nr_one;dsimp only;rw [hs]⟩
  | some s =>
   have hb:=nr_sys_bd hs
   have e1:nr_one tl (l0::F1)=nr_two s tl F1:=by unfold nr_one;dsimp only;rw [hs]
   have e2:nr_hdU (rdL (l0::F1) tl) (decide (tl=[]))=if nr_nxt (rdL (l0::F1) tl) (decide (tl=[])) 1=false then .er (nr_flt 2 4) else
     if (nr_ins ((rdL (l0::F1) tl).getD 1 [])).2≠0 then .er (nr_flt 2 (nr_ins ((rdL (l0::F1) tl).getD 1 [])).2) else
     .ok (.tu []) [(0,nr_rd (.int .u8 s) (sysV s) ((nr_ins ((rdL (l0::F1) tl).getD 1 [])).1.1.map eCrs) ((nr_ins ((rdL (l0::F1) tl).getD 1 [])).1.2.map eInt) 2 ((rdL (l0::F1) tl).map eTx) (decide (tl=[])))] 4:=by
    conv=>lhs;unfold nr_hdU
    rw [h0,if_neg (by simp),g0]
    show (match nr_sys l0 with|none=>_|some s=>_)=_
    rw [hs]
   rw [e1,e2,h1]
   cases F1 with
   | nil=>exact .inl ⟨2,4,if_pos (by simp),rfl⟩
   | cons l1 F2 =>
    rw [if_neg (by simp),rdL_get (l0::l1::F2) tl (k:=1) (by simp)]
    show (∃ n e,(if (nr_ins l1).2≠0 then _ else _)=UR.er (nr_flt n e)∧_)∨_
    by_cases hi:(nr_ins l1).2≠0
    ·exact .inl ⟨2,(nr_ins l1).2,if_pos hi,by unfold nr_two;dsimp only;rw [if_pos hi]⟩
    ·exact .inr ⟨s,l0,l1,F2,rfl,hb.1,hb.2,Decidable.not_not.1 hi,if_neg hi,by unfold nr_two;dsimp only;rw [if_neg hi]⟩
theorem nr_evs_no {s:Int} {cs:List Crs} {st:List Int} {tl:List UInt8} {L:List (List UInt8)} (hs:1≤s):(nr_evs s cs st tl L).1=0→nr_evs s cs st tl L=nr_no (nr_evs s cs st tl L).2.2.1 (nr_evs s cs st tl L).2.2.2:=by
 unfold nr_evs
 split
 ·intro _;rfl
 ·split
  ·intro _;rfl
  ·split
   ·intro _;rfl
   ·intro h;have h:s=0:=h;omega
theorem nr_read_no {t:List UInt8} (h:(nr_read t).1=0):nr_read t=nr_no (nr_read t).2.2.1 (nr_read t).2.2.2:=by
 unfold nr_read at h ⊢
 obtain⟨⟨F,tl⟩,hF⟩:∃ z,rq_spl 10 t=z:=⟨_,rfl⟩
 rw [hF]at h ⊢
 dsimp only at h ⊢
 rcases nr_hd_or F tl with⟨n,e,_,e2⟩|⟨s,l0,l1,F2,_,h1,_,_,_,e2⟩
 ·rw [e2];rfl
 ·rw [e2]at h ⊢
  by_cases c:400<F2.length+(if tl=[]then 0 else 1)
  ·rw [if_pos c];rfl
  ·rw [if_neg c]at h ⊢;exact nr_evs_no h1 h
theorem nr_ins_ok {l:List UInt8} (h:(nr_ins l).2=0):insE (nr_ins l).1.1 (nr_ins l).1.2=0:=by
 unfold nr_ins at h ⊢
 split at h
 ·rename_i c;exact absurd h c
 ·rename_i c
  split at h
  ·rename_i c2;exact absurd h c2
  ·rename_i c2
   rw [if_neg c,if_neg c2]
   exact Decidable.not_not.1 c2
theorem nr_coU_er {s:Int} {cs:List Crs} {st:List Int} {ln:Int} {T:List (List AV)} {cl:Bool} {E:List NC} {t:List UInt8} (h:nr_err s cs E.length t≠0):nr_coU s cs st ln T cl E (nr_form s (nr_staff s cs) t)=.er (nr_flt ln (nr_err s cs E.length t)):=by
 unfold nr_err at h ⊢
 cases hf:nr_form s (nr_staff s cs) t with
 | none=>rfl
 | some x =>
  rw [hf] at h
  dsimp only at h
  exact if_pos h
theorem nr_coU_ok {s:Int} {cs:List Crs} {st:List Int} {ln:Int} {T:List (List AV)} {cl:Bool} {E:List NC} {t:List UInt8} (h:nr_err s cs E.length t=0):nr_coU s cs st ln T cl E (nr_form s (nr_staff s cs) t) =
  .ok (.tu []) [(0,.box 78 [.sc (.int .u8 s),.sc (sysV s),.ls 3 (cs.map eCrs),.ls 1 (st.map eInt),.sl 3,.sl 4,.sc (.int .i64 ln),.ls 1 T,.sc (.bool cl)]),(3,.rwn 90 6 (((E++[nr_nc s cs t]).map nr_ev0).map eEvO)),(4,.row 153 1 ((E++[nr_nc s cs t]).map (eNts s)))] 5:=by
 unfold nr_err at h
 unfold nr_nc
 cases hf:nr_form s (nr_staff s cs) t with
 | none=>rw [hf] at h;cases h
 | some x =>
  rw [hf] at h
  dsimp only at h
  exact if_neg (fun g=>g h)
theorem nr_time_len {s:Int} {n:Nat} {bar:Bool} {W:List (List UInt8)} {x:NC} (h:nr_time s n bar W=some x):x.l.length≤14:=by
 unfold nr_time at h
 split at h
 ·obtain⟨y,_,hy⟩:=Option.bind_eq_some_iff.1 h
  exact (nr_body_bd hy).2.2.2.2
 ·cases h
theorem nr_nc_len (s:Int)(cs:List Crs)(t:List UInt8):(nr_nc s cs t).l.length≤14:=by
 unfold nr_nc
 cases h:nr_form s (nr_staff s cs) t with
 | none=>simp
 | some x =>
  unfold nr_form at h
  split at h
  ·split at h
   ·exact nr_time_len h
   ·exact nr_time_len h
  ·cases h
def rdU (r:NRes):FrameMode:=if r.1=0 then .panicking (pch (nr_flt r.2.2.1 r.2.2.2))else .returning
def rdV(r:NRes):FrameMode:=if r.1=0 then .panicking [{ v:=nr_flt r.2.2.1 r.2.2.2,recovered:=true }]else .returning
def rdM (r:NRes):List (Nat×AO):=if r.1=0 then rdB else rdF r
def nrdT:List (Nat×AV):=[(2,.pt 0 0 0),(3,.pt 1 0 0),(4,.pt 2 0 0),(5,.pt 3 0 0)]
def rdR (r:NRes):AV:=.tu [.sc (.int .u8 r.1),.ag [.ls 3 (r.2.1.cs.map eCrs),.ls 1 (r.2.1.st.map eInt),.ls 6 (r.2.1.evs.map eEv)],.sc (.int .i64 r.2.2.1),.sc (.int .i64 r.2.2.2)]
theorem rdD (t:List UInt8):CtoD Tryz.prog 37 nrdC (rdM (nr_read t)) 4 (rdU (nr_read t)) (rdV (nr_read t)) (rdF (nr_read t)):=by
 have hn:=nr_read_no (t:=t)
 obtain ⟨r,hr⟩:∃ z,nr_read t=z:=⟨_,rfl⟩
 rw [hr] at hn ⊢
 unfold rdM rdU rdV
 by_cases h:r.1=0
 ·rw [if_pos h,if_pos h,if_pos h]
  have e:=hn h
  have:=rd1_er r.2.2.1 r.2.2.2
  rw [← e] at this
  exact this
 ·rw [if_neg h,if_neg h,if_neg h]
  exact rd1_ok r
theorem read_G (t:List UInt8) (ht:t.length≤65536):Ctg tabN Tryz.prog 11 [.sc (.string (bs t))] (rdR (nr_read t)):=by
 have hW:=splitN_G 10 t zqo
 have hwb:=rq_wds_bytes 10 t
 have hwl:(rq_wds 10 t).length≤65537:=by
  rw [rq_wds_len,Lib.count_one]
  have:=List.count_le_length (a:=(10:UInt8)) (l:=t)
  omega
 have hD:=rdD t
 refine Ctg.introD (σ0:=⟨[(0,.sc (.string (bs t))),(2,.pt 0 0 0),(3,.pt 1 0 0),(4,.pt 2 0 0),(5,.pt 3 0 0)],rdB,4⟩) (σ1:=⟨[(0,.sc (.string (bs t))),(2,.pt 0 0 0),(3,.pt 1 0 0),(4,.pt 2 0 0),(5,.pt 3 0 0)],rdB,4⟩) (T:=nrdT) (caps:=nrdC) stabN Tryz.func11 rfl Tryz.ntmps11 (Nat.le_of_ble_eq_true rfl) (bd_all rfl)
  rfl rfl rfl rfl rfl rfl rfl rfl rfl rfl (callF Tryz.func37 rfl rfl) (fun w0 F0 hB=>?_) (fun w0 F0 hB=>?_) (fun w0 F0 pg ds hB=>?_) hD ?_ (fun C=>?_)
 ·unfold rdB
  dsimp only [St.init,number,Nat.reduceAdd]
  refine zqg40 ?_
  refine (?_:_=_∧Tr _ _ _)
  exact ⟨rfl,(zqt id)⟩
 ·unfold rdB
  refine zqg40 ?_
  refine (?_:_=_∧Tr _ _ _)
  exact ⟨rfl,(zqt id)⟩
 rotate_left
 ·unfold rdV;split<;>rfl
 ·unfold rdF nrdT rdR
  exact finN1 rfl rfl rfl rfl
 have hR:nr_read t=nr_one (rq_spl 10 t).2 (rq_spl 10 t).1:=rfl
 obtain ⟨R,hRe⟩:∃ z,nr_read t=z:=⟨_,rfl⟩
 rw [hRe] at hR ⊢
 clear hRe hD
 unfold rq_wds at hW hwb hwl
 obtain ⟨⟨F,tl⟩,hF⟩:∃ z,rq_spl 10 t=z:=⟨_,rfl⟩
 rw [hF] at hW hwb hwl hR
 dsimp only at hW hwb hwl hR
 have hhd:=nr_hd_or F tl
 have hnx:=rdL_nxt F tl
 have hgt:=fun k=>rdL_get F tl (k:=k)
 have hLl:=rdL_len F tl
 have hLb:∀ w∈rdL F tl,w.length≤65536:=fun w hw=>by
  have:w∈F++[tl]:=by
   unfold rdL at hw;split at hw
   ·exact List.mem_append_left _ hw
   ·exact hw
  have:=hwb w this;omega
 have hLn:(rdL F tl).length≤65537:=by rw [hLl];simp at hwl;split<;>omega
 have hhead:=head_G (rdL F tl) (decide (tl=[])) zqo (fun w hw=>by have:=hLb w hw;omega)
 have hFl:F.length≤65536:=by simp at hwl;omega
 have hml:((F++[tl]).map eTx).length=F.length+1:=by simp
 have hatl:((F++[tl]).map eTx)[((F.length:Int)+1 - 1).toNat]?=some (eTx tl):=by
  rw [show ((F.length:Int)+1 - 1).toNat=F.length by omega,List.getElem?_map,List.getElem?_append_right (Nat.le_refl _)];simp
 obtain ⟨W0,hW0⟩:∃ z,(F++[tl]).map eTx=z:=⟨_,rfl⟩
 rw [hW0] at hW hml hatl
 obtain ⟨LT,hLT⟩:∃ z,(rdL F tl).map eTx=z:=⟨_,rfl⟩
 have hLTl:LT.length=(rdL F tl).length:=by rw [← hLT];exact List.length_map _
 unfold nrdC rdB
 dsimp only [St.put]
 refine zqg40 ?_
 refine WL.vl rfl (WV.callG hB rfl (callF Tryz.func38 rfl rfl) rfl rfl hW) ?_
 refine zqg40 ?_
 refine WL.idx rfl rfl (by omega) (by rw [hml,Int.natCast_add];exact hatl) ?_
 refine zqg40 ?_
 refine W.meet ⟨[(2,.pt 0 0 0),(3,.pt 1 0 0),(4,.pt 2 0 0),(5,.pt 3 0 0),(6,.pt 4 0 0)],[(0,.box 23 [.sc (.int .u8 0)]),(1,.box 30 [.sc (.slice none 0 0),.sc (.slice none 0 0),.sc (.slice none 0 0)]),(2,.box 3 [.sc (.int .i64 0)]),(3,.box 31 [.sc (.int .i64 0)]),
  (4,.box 78 [.sc (.int .u8 0),.sc .nilIface,.ls 3 [],.ls 1 [],.sl 5,.sl 6,.sc (.int .i64 0),.ls 1 LT,.sc (.bool (decide (tl=[])))]),(5,.rwn 90 6 []),(6,.row 153 1 [])],7⟩ ?_ ?_
 ·by_cases htl:tl=[]
  ·have hb:(tl == ([]:List UInt8))=true:=by rw [htl];rfl
   have hpr:prt W0 0 ((W0.length:Int) - 1)=LT:=by
    rw [hml,Int.natCast_add,← hW0,← hLT]
    unfold prt rdL
    rw [if_pos htl,show ((F.length:Int)+((1:Nat):Int) - 1).toNat=F.length by omega]
    simp
   rw [decide_eq_true htl]
   rw [hb]
   refine zqg40 ?_
   refine WL.part_ rfl rfl ⟨by omega,by omega,by omega⟩ hpr ?_
   refine zqg40 ?_
   refine (?_:Tr _ _ _)
   refine Tr.trans (Tr.nilC 4 2 3 rfl rfl rfl) ?_
   refine Tr.trans (Tr.nilC 4 3 1 rfl rfl rfl) ?_
   refine Tr.trans (Tr.nilBox 90 6 (k:=4) (j:=4) rfl rfl rfl rfl) ?_
   refine Tr.trans (Tr.nilBox 153 1 (k:=4) (j:=5) rfl rfl rfl rfl) ?_
   refine Tr.trans (Tr.widen 5 rfl) ?_
   exact (zqt id)
  ·have hb:(tl == ([]:List UInt8))=false:=by simpa using htl
   have hpr:W0=LT:=by
    rw [← hW0,← hLT]
    unfold rdL
    rw [if_neg htl]
   rw [decide_eq_false htl]
   rw [hb,hpr]
   refine zqg40 ?_
   refine (?_:Tr _ _ _)
   refine Tr.trans (Tr.nilC 4 2 3 rfl rfl rfl) ?_
   refine Tr.trans (Tr.nilC 4 3 1 rfl rfl rfl) ?_
   refine Tr.trans (Tr.nilBox 90 6 (k:=4) (j:=4) rfl rfl rfl rfl) ?_
   refine Tr.trans (Tr.nilBox 153 1 (k:=4) (j:=5) rfl rfl rfl rfl) ?_
   refine Tr.trans (Tr.widen 5 rfl) ?_
   exact (zqt id)
 clear hW hwb hwl hml hatl hW0
 unfold nr_rd at hhd
 rcases hhd with ⟨n,e,h1,h2⟩|⟨s,l0,l1,F2,hFe,hs1,hs4,hin,h1,h2⟩
 ·rw [h2] at hR
  rw [h1] at hhead
  have hF2:Ctp tabN gloN Tryz.prog _ _ _ _ _:=(hhead.er_ rfl).frame (X:=[(1,.rwn 90 6 []),(2,.row 153 1 [])])
  rw [hLT] at hF2
  subst hR
  refine zqg40 ?_
  refine WL.ctp hB [4,5,6] rfl rfl (callF Tryz.func39 rfl rfl) hF2 rfl rfl rfl ⟨⟨rfl,rfl,rfl⟩,⟨rfl,rfl,rfl⟩,⟨rfl,rfl,rfl⟩,trivial⟩ ?_
  show mdOf (.panic (pch (nr_flt n e)))=some (rdU (nr_no n e))∧Tr _ _ ⟨nrdT,rdB,4⟩
  unfold nrdT rdB
  exact ⟨rfl,(zqt id)⟩
 have hs:1≤s∧s≤4:=⟨hs1,hs4⟩
 rw [h1] at hhead
 have hF2:Cto tabN gloN Tryz.prog _ _ _ _ _ _ _:=(hhead.ok_ rfl).fr2 (a:=.rwn 90 6 []) (b:=.row 153 1 [])
 rw [hLT] at hF2
 rw [h2] at hR
 have hI:=nr_ins_ok hin
 obtain ⟨⟨⟨cs,st⟩,e0⟩,hnI⟩:∃ z,nr_ins l1=z:=⟨_,rfl⟩
 rw [hnI] at hR hI hF2
 dsimp only at hR hI hF2
 obtain ⟨hc1,hc14,hst18,_,hcr⟩:=insE_len hI
 have hcb:∀ c∈cs,0≤c.2.1∧c.2.1≤1000:=fun c hc=>by
  obtain ⟨k,hk,e⟩:=List.getElem_of_mem hc
  have:=crsE_fr hcr k hk
  rw [e] at this;omega
 clear hhead h1 h2 hin
 refine zqg40 ?_
 refine WL.cto hB [4,5,6] rfl rfl (callF Tryz.func39 rfl rfl) hF2 rfl rfl rfl ⟨⟨rfl,rfl,rfl⟩,⟨rfl,rfl,rfl⟩,⟨rfl,rfl,rfl⟩,trivial⟩ rfl rfl rfl rfl ?_
 refine zqg40 ?_
 have hFl2:F.length=F2.length+2:=by rw [hFe];rfl
 have hLT2:LT.length=F2.length+2+(if tl=[] then 0 else 1):=by rw [hLTl,hLl,hFl2]
 by_cases hbig:400 < F2.length+(if tl=[] then 0 else 1)
 ·rw [if_pos hbig] at hR
  subst hR
  rw [decide_eq_true (show (402:Int) < (LT.length:Int) by omega)]
  refine zqg40 ?_
  refine WL.ctp (truH _) [4,5,6] rfl rfl (callF Tryz.func40 rfl rfl) (fail_G _ _ _ _ _ _ _ _) rfl rfl rfl ⟨⟨rfl,rfl,rfl⟩,trivial⟩ ?_
  show mdOf (.panic (pch (nr_flt (403) (2))))=some (rdU (nr_no (403) (2)))∧Tr _ _ ⟨nrdT,rdB,4⟩
  unfold nrdT rdB
  exact ⟨rfl,(zqt id)⟩
 rw [if_neg hbig] at hR
 rw [decide_eq_false (show ¬ (402:Int) < (LT.length:Int) by omega)]
 have hF2l:F2.length≤400:=by omega
 refine zqg40 ?_
 refine W.loop (fun k:Nat=>k≤F2.length∧∀ j (h:j < F2.length),j < k→nr_err s cs j F2[j]=0) (fun k=>⟨[(2,.pt 0 0 0),(3,.pt 1 0 0),(4,.pt 2 0 0),(5,.pt 3 0 0),(6,.pt 4 0 0)],
  [(0,.box 23 [.sc (.int .u8 0)]),(1,.box 30 [.sc (.slice none 0 0),.sc (.slice none 0 0),.sc (.slice none 0 0)]),(2,.box 3 [.sc (.int .i64 0)]),(3,.box 31 [.sc (.int .i64 0)]),(4,.box 78 [.sc (.int .u8 s),.sc (sysV s),.ls 3 (cs.map eCrs),.ls 1 (st.map eInt),.sl 5,.sl 6,.sc (.int .i64 ((k:Int)+2)),.ls 1 LT,.sc (.bool (decide (tl=[])))]),(5,.rwn 90 6 ((((F2.take k).map (nr_nc s cs)).map nr_ev0).map eEvO)),(6,.row 153 1 (((F2.take k).map (nr_nc s cs)).map (eNts s)))],8⟩) (fun k=>F2.length+1 - k) 0 ⟨by omega,fun j hj h=>absurd h (by omega)⟩ (zqt id) fun k hk=>?_
 obtain ⟨hk,hall⟩:=hk
 have hEl:((F2.take k).map (nr_nc s cs)).length=k:=by rw [List.length_map,List.length_take];omega
 by_cases hlt:k+2 < LT.length
 ·have hnk:=next_G (.int .u8 s) (sysV s) (cs.map eCrs) (st.map eInt) (rdL F tl) (decide (tl=[])) (k+2) zqo zqo
  rw [hnx (k+2),hLT,show ((k+2:Nat):Int)=(k:Int)+2 by omega] at hnk
  by_cases hkf:k < F2.length
  ·rw [decide_eq_true (show k+2 < F.length by omega),if_pos rfl] at hnk
   have hg:(rdL F tl).getD (k+2) []=F2[k]:=by
    rw [hgt (k+2) (by omega)];subst hFe;rfl
   rw [hg] at hnk
   have hco:=column_G s hs cs st ((k:Int)+2+1) LT (decide (tl=[])) ((F2.take k).map (nr_nc s cs)) F2[k] (by
    have:F2[k]∈F:=by rw [hFe];simp
    have:F2[k]∈rdL F tl:=by unfold rdL;split<;>simp [this]
    have:=hLb _ this;omega) zqo hcb zqo
   have hbad:=fun h=>nr_bad_at (s:=s) (cs:=cs) (L:=F2) (k:=0) (j:=k) hkf (fun i hi hik=>by rw [Nat.zero_add];exact hall i hi hik) h
   rw [Nat.zero_add] at hbad
   have hEo:=nr_coU_er (s:=s) (cs:=cs) (st:=st) (ln:=(k:Int)+2+1) (T:=LT) (cl:=decide (tl=[])) (E:=(F2.take k).map (nr_nc s cs)) (t:=F2[k])
   have hEk:=nr_coU_ok (s:=s) (cs:=cs) (st:=st) (ln:=(k:Int)+2+1) (T:=LT) (cl:=decide (tl=[])) (E:=(F2.take k).map (nr_nc s cs)) (t:=F2[k])
   rw [hEl] at hEo hEk
   have htk:(F2.take k).map (nr_nc s cs)++[nr_nc s cs F2[k]]=(F2.take (k+1)).map (nr_nc s cs):=by
    rw [List.take_succ_eq_append_getElem hkf,List.map_append];rfl
   rw [htk] at hEk
   obtain ⟨EV,hEV⟩:∃ z,(((F2.take k).map (nr_nc s cs)).map nr_ev0).map eEvO=z:=⟨_,rfl⟩
   obtain ⟨NT,hNT⟩:∃ z,((F2.take k).map (nr_nc s cs)).map (eNts s)=z:=⟨_,rfl⟩
   rw [hEV,hNT] at hco ⊢
   obtain ⟨EV1,hEV1⟩:∃ z,(((F2.take (k+1)).map (nr_nc s cs)).map nr_ev0).map eEvO=z:=⟨_,rfl⟩
   obtain ⟨NT1,hNT1⟩:∃ z,((F2.take (k+1)).map (nr_nc s cs)).map (eNts s)=z:=⟨_,rfl⟩
   rw [hEV1,hNT1] at hEk
   have hF1:Cto truB 0 Tryz.prog _ _ _ _ _ _ _:=(hnk.ok_ rfl).fr2 (a:=.rwn 90 6 EV) (b:=.row 153 1 NT)
   unfold nr_rd at hF1 hco
   by_cases he:nr_err s cs k F2[k]=0
   ·have hF3:Cto tabN gloN Tryz.prog _ _ _ _ _ _ _:=hco.ok_ (hEk he)
    have hnx2:∀ j (hj:j < F2.length),j < k+1→nr_err s cs j F2[j]=0:=fun j hj hjk=>by
     by_cases e:j=k
     ·subst e;exact he
     ·exact hall j hj zqo
    clear hall hnk hco hEo hEk hbad
    refine zqg40 ?_
    refine W.drawK zqk zqk ?_
    repeat (first|refine DK.vl rfl (WV.nch rfl rfl) ?_|refine DK.bt rfl rfl zqo ?_|refine DK.bf rfl rfl zqo ?_|refine DK.st rfl ?_|refine DK.len rfl rfl rfl ?_|refine DK.nil ?_)
    refine zqg40 ?_
    refine WL.cto (truH _) [4,5,6] rfl rfl (callF Tryz.func42 rfl rfl) hF1 rfl rfl rfl ⟨⟨rfl,rfl,rfl⟩,⟨rfl,rfl,rfl⟩,⟨rfl,rfl,rfl⟩,trivial⟩ rfl rfl rfl rfl ?_
    refine zqg40 ?_
    refine WL.cto hB [4,5,6] rfl rfl (callF Tryz.func41 rfl rfl) hF3 rfl rfl rfl ⟨⟨rfl,rfl,rfl⟩,⟨rfl,rfl,rfl⟩,⟨rfl,rfl,rfl⟩,trivial⟩ rfl rfl rfl rfl ?_
    refine zqg40 ?_
    refine ⟨k+1,⟨by omega,hnx2⟩,by omega,?_⟩
    rw [hEV1,hNT1,show ((k+1:Nat):Int)+2=(k:Int)+2+1 by omega]
    exact (zqu (fun q=>bif Nat.beq q 5 then 8 else bif Nat.beq q 6 then 9 else q) (by repeat (first|exact trivial|refine ⟨⟨?_,?_,?_⟩,?_⟩|rfl|exact congrArg (fun q=>some (AO.row _ _ q)) rfl|exact congrArg (fun q=>some (AO.rwn _ _ q)) rfl|exact congrArg (fun q=>some (AO.row _ _ q)) rfl|exact congrArg (fun q=>some (AO.rwn _ _ q)) rfl)) rfl)
   ·have hF3:Ctp tabN gloN Tryz.prog _ _ _ _ _:=hco.er_ (hEo he)
    have hRb:R=nr_no ((k:Int)+2+1) (nr_err s cs k F2[k]):=by
     rw [hR];unfold nr_evs;rw [hbad he]
     show nr_no ((k:Int)+3) _=_
     rw [show (k:Int)+3=(k:Int)+2+1 by omega]
    subst hRb
    clear hall hnk hco hEo hEk hbad hR
    obtain ⟨ER,hER⟩:∃ z,nr_err s cs k F2[k]=z:=⟨_,rfl⟩
    rw [hER] at hF3 ⊢
    refine zqg40 ?_
    refine W.drawK zqk zqk ?_
    repeat (first|refine DK.vl rfl (WV.nch rfl rfl) ?_|refine DK.bt rfl rfl zqo ?_|refine DK.bf rfl rfl zqo ?_|refine DK.st rfl ?_|refine DK.len rfl rfl rfl ?_|refine DK.nil ?_)
    refine zqg40 ?_
    refine WL.cto (truH _) [4,5,6] rfl rfl (callF Tryz.func42 rfl rfl) hF1 rfl rfl rfl ⟨⟨rfl,rfl,rfl⟩,⟨rfl,rfl,rfl⟩,⟨rfl,rfl,rfl⟩,trivial⟩ rfl rfl rfl rfl ?_
    refine zqg40 ?_
    refine WL.ctp hB [4,5,6] rfl rfl (callF Tryz.func41 rfl rfl) hF3 rfl rfl rfl ⟨⟨rfl,rfl,rfl⟩,⟨rfl,rfl,rfl⟩,⟨rfl,rfl,rfl⟩,trivial⟩ ?_
    show mdOf (.panic (pch (nr_flt ((k:Int)+2+1) (ER))))=some (rdU (nr_no ((k:Int)+2+1) (ER)))∧Tr _ _ ⟨nrdT,rdB,4⟩
    unfold nrdT rdB
    exact ⟨rfl,(zqt id)⟩
  ·obtain rfl:k=F2.length:=by omega
   have htl:tl≠[]:=by intro e;rw [if_pos e] at hLT2;omega
   rw [decide_eq_false (show ¬ F2.length+2 < F.length by omega),if_neg (by decide)] at hnk
   have hF1:Ctp truB 0 Tryz.prog _ _ _ _ _:=hnk.er_ rfl
   have hRb:R=nr_no ((F2.length:Int)+2+1) 4:=by
    rw [hR];unfold nr_evs;rw [nr_bad_none fun i hi=>by rw [Nat.zero_add];exact hall i hi hi]
    show (if tl≠[] then nr_no ((F2.length:Int)+3) 4 else _)=_
    rw [if_pos htl,show (F2.length:Int)+3=(F2.length:Int)+2+1 by omega]
   subst hRb
   clear hall hnk hR
   unfold nr_rd at hF1
   refine zqg40 ?_
   refine W.drawK zqk zqk ?_
   repeat (first|refine DK.vl rfl (WV.nch rfl rfl) ?_|refine DK.bt rfl rfl zqo ?_|refine DK.bf rfl rfl zqo ?_|refine DK.st rfl ?_|refine DK.len rfl rfl rfl ?_|refine DK.nil ?_)
   refine zqg40 ?_
   refine WL.ctp (truH _) [4,5,6] rfl rfl (callF Tryz.func42 rfl rfl) hF1 rfl rfl rfl ⟨⟨rfl,rfl,rfl⟩,trivial⟩ ?_
   show mdOf (.panic (pch (nr_flt ((F2.length:Int)+2+1) (4))))=some (rdU (nr_no ((F2.length:Int)+2+1) (4)))∧Tr _ _ ⟨nrdT,rdB,4⟩
   unfold nrdT rdB
   exact ⟨rfl,(zqt id)⟩
 obtain rfl:k=F2.length:=by omega
 have htl:tl=[]:=by
  by_cases e:tl=[]
  ·exact e
  ·rw [if_neg e] at hLT2;omega
 rw [List.take_length] at hEl ⊢
 have hRb:R=(match nr_hB s (F2.map (nr_nc s cs)) with
  | some i=>nr_no ((i:Int)+3) 24
  | none=>(s,⟨cs,st,nr_fin s (F2.map (nr_nc s cs))⟩,0,0)):=by
  rw [hR];unfold nr_evs;rw [nr_bad_none fun i hi=>by rw [Nat.zero_add];exact hall i hi hi]
  show (if tl≠[] then nr_no ((F2.length:Int)+3) 4 else _)=_
  rw [if_neg (by simpa using htl)]
  cases nr_hB s (F2.map (nr_nc s cs))<;>rfl
 refine zqg40 ?_
 refine W.drawK zqk zqk ?_
 repeat (first|refine DK.vl rfl (WV.nch rfl rfl) ?_|refine DK.bt rfl rfl zqo ?_|refine DK.bf rfl rfl zqo ?_|refine DK.st rfl ?_|refine DK.len rfl rfl rfl ?_|refine DK.nil ?_)
 refine zqg40 ?_
 have hH:=holds_G s hs cs st LT (decide (tl=[])) (F2.map (nr_nc s cs)) zqo zqo zqo (fun x hx=>by
  obtain ⟨u,_,rfl⟩:=List.mem_map.1 hx
  have:=nr_nc_len s cs u;omega)
 rw [hEl] at hH
 clear hall hR
 cases hb:nr_hB s (F2.map (nr_nc s cs)) with
 | some i =>
  rw [hb] at hH hRb
  dsimp only at hH hRb
  subst hRb
  have hF3:Ctp truB 0 Tryz.prog _ _ _ _ _:=hH.er_ rfl
  unfold nr_rd at hF3
  refine WL.ctp (truH _) [4,5,6] rfl rfl (callF Tryz.func43 rfl rfl) hF3 rfl rfl rfl ⟨⟨rfl,rfl,rfl⟩,⟨rfl,rfl,rfl⟩,⟨rfl,rfl,rfl⟩,trivial⟩ ?_
  show mdOf (.panic (pch (nr_flt ((i:Int)+3) 24)))=some (rdU (nr_no ((i:Int)+3) 24))∧Tr _ _ ⟨nrdT,rdB,4⟩
  unfold nrdT rdB
  exact ⟨rfl,(zqt id)⟩
 | none =>
 rw [hb] at hH hRb
 dsimp only at hH hRb
 have hF3:Cto truB 0 Tryz.prog _ _ _ _ _ _ _:=hH.ok_ rfl
 unfold nr_rd at hF3
 have hu:rdU R=.returning:=if_neg (by rw [hRb];show ¬ s=0;omega)
 have hm:rdM R=rdF R:=if_neg (by rw [hRb];show ¬ s=0;omega)
 rw [hu,hm,hRb]
 clear hu hm hRb hH hb
 obtain ⟨FE,hFE⟩:∃ z,nr_fin s (F2.map (nr_nc s cs))=z:=⟨_,rfl⟩
 rw [hFE] at hF3 ⊢
 refine WL.cto (truH _) [4,5,6] rfl rfl (callF Tryz.func43 rfl rfl) hF3 rfl rfl rfl ⟨⟨rfl,rfl,rfl⟩,⟨rfl,rfl,rfl⟩,⟨rfl,rfl,rfl⟩,trivial⟩ rfl rfl rfl rfl ?_
 refine zqg40 ?_
 refine W.tr (Tr.freezeI 5 1 rfl (eEvO_shal _) (eEvO_rows _)) ?_
 refine W.tr (Tr.freeze 5 rfl) ?_
 refine W.drawT 9 zqk zqk zqk ?_
 refine WA.dt [false,false,false,false,false,false,false,false,true] [4] [4] 8 zqk zqk zqk ⟨rfl,trivial⟩ ⟨rfl,trivial⟩ ?_
 refine DTK.v0 rfl (stepV_of rfl rfl) ?_
 refine DTK.v0 rfl (WV.nch rfl rfl) ?_
 refine DTK.v0 rfl (stepV_of rfl rfl) ?_
 refine DTK.v0 rfl (stepV_of rfl rfl) ?_
 refine DTK.v0 rfl (stepV_of rfl rfl) ?_
 refine DTK.v0 rfl (WV.nch rfl rfl) ?_
 refine DTK.v0 rfl (stepV_of rfl rfl) ?_
 refine DTK.v0 rfl (stepV_of rfl rfl) ?_
 refine DTK.sto rfl rfl rfl rfl rfl rfl rfl rfl rfl rfl rfl rfl rfl rfl ⟨rfl,trivial⟩ (fun h=>by cases h) ?_
 refine DTK.nil ?_
 refine ⟨rfl,?_⟩
 refine (?_:WL _ _ _ _ _ _)
 refine zqg40 ?_
 refine W.ret ?_
 refine (?_:_=_∧Tr _ _ ⟨nrdT,rdF (s,⟨cs,st,FE⟩,0,0),4⟩)
 unfold nrdT rdF
 exact ⟨rfl,(zqt id)⟩
end Go.Proofs.YthehkchjdkdbiaaGreatDoor
