/- sound: end, stay. -/
import Derived.Test.YtgelfflighgajaaGreatDoorNtPTq
import Derived.Test.YtgelfflighgajaaGreatDoorLngTq
set_option maxHeartbeats 4000000
set_option maxRecDepth 100000
set_option linter.unusedVariables false
set_option linter.unusedSimpArgs false
namespace Go.Proofs.YtgelfflighgajaaGreatDoor
open Go.RowKit
theorem rd_of_ints {w:World} {base e n cap B:Nat} {g:Nat} {l:List Int} (h:w.ownsRow base e 1 (.slice (some ⟨g,0,none⟩) n cap) n (l.map fun x=>.int .i64 x)) (hn:l.length=n) (hg:g<B):Rd w B 1 (some ⟨g,0,none⟩) (l.map intCell):=by
 intro _
 refine ⟨⟨g,0,none⟩,rfl,hg,fun k r hr j y hy=>?_⟩
 rw [List.getElem?_map] at hr
 cases hk:l[k]? with
 | none=>simp [hk] at hr
 | some x =>
  simp only [hk,Option.map_some,Option.some.injEq] at hr
  subst hr
  have hkl:=(List.getElem?_eq_some_iff.1 hk).1
  match j with
  | 0 =>
   cases hy
   have:=h.cellAt k (by omega)
   rw [List.getElem?_map,hk] at this
   have e:(⟨g,0,none⟩:Addr).add (k*1+0)=⟨g,k,none⟩:=by
    by_cases hz:k=0
    ·subst hz;rfl
    ·simp [Addr.add,hz]
   rw [e]
   simpa using this
  | j+1=>simp [intCell] at hy
theorem pOnsets_FS (p:Pce) (hO:PcOk p):Ctr Tryz.prog 111 [ePce p] (.tu [.ls 1 (if pceE p=0 then (onsL p.evs p.evs.length).map eInt else []),.sc (.int .i64 (pceE p))]):=by
 intro w F vs hF hR
 match vs,hR.1 with
 | [v],_ =>
  obtain ⟨M,rfl,hM⟩:=pc_of_rp hF (hR.2 0 _ v rfl rfl)
  by_cases h0:pceE p=0
  ·rw [if_pos h0,h0]
   refine (pOnsets_ok M p w hM hO h0).mono fun e w' ⟨v,he,hrow,hb⟩=>?_
   obtain ⟨g,cap,rfl⟩:∃ g cap,v=.slice (some ⟨g,0,none⟩) (p.evs.length+1) cap:=by
    rcases hrow.2 with⟨_,h⟩|⟨g,cap,cur,e,_⟩
    ·omega
    ·exact ⟨g,cap,e⟩
   have hlt:=hrow.lt g rfl
   have hcap:p.evs.length+1≤cap:=by
    rcases hrow.2 with⟨h,_⟩|⟨g',cap',cur,e,_,_,h,_⟩
    ·cases h
    ·cases e;exact h
   have hlen:(onsL p.evs p.evs.length).length=p.evs.length+1:=onsL_length _ _
   refine ⟨_,newF F w w',he,hb,newF_le hF,newF_fw hF hb,newF_new,.tu _ _ rfl fun i av u a b=>?_⟩
   match i with
   | 0 =>
    cases a;cases b
    have:=rp_of_rd (F:=F) (w:=w) (rd_of_ints (B:=w'.heap.size) hrow hlen hlt.2) (fun ad e=>by cases e;exact hlt.1) (c:=cap) (by omega) (e:=eInt) (fun _=>rfl) eInt_of
    rw [hlen] at this
    exact this
   | 1=>cases a;cases b;exact .sc _
   | i+2=>simp at a
  ·rw [if_neg h0]
   refine (pOnsets_bad M p w hM hO h0).mono fun e w' ⟨he,hb⟩=>?_
   refine ⟨_,newF F w w',he,hb,newF_le hF,newF_fw hF hb,newF_new,.tu _ _ rfl fun i av u a b=>?_⟩
   match i with
   | 0=>cases a;cases b;exact .ls 1 [] none 0 ⟨0,0,none⟩ (fun _ _=>undef) (by simp) (by simp) (by simp) (by simp) (by simp)
   | 1=>cases a;cases b;exact .sc _
   | i+2=>simp at a
end Go.Proofs.YtgelfflighgajaaGreatDoor
namespace Go.Proofs.YtgelfflighgajaaGreatDoor
open Go.RowKit
def onsR (p:Pce):List (List AV):=if pceE p=0 then (onsL p.evs p.evs.length).map eInt else []
def eSnd (p:Pce):AV:=.ag [.ls 3 (p.cs.map eCrs),.ls 1 (p.st.map eInt),.ls 6 (p.evs.map eEv),.ls 1 (onsR p)]
theorem listen_FS (p:Pce) (hO:PcOk p):Ctr Tryz.prog 208 [ePce p] (.tu [eSnd p,.sc (.int .i64 (pceE p))]):=by
 refine Ctr.intro Tryz.func208 rfl Tryz.ntmps208 (Nat.le_of_ble_eq_true rfl) (bd_all rfl) fun w0 F0=>?_;dsimp only [St.init,number,Nat.reduceAdd]
 repeat refine W.go rfl ?_
 refine (?_:WL _ _ _ _ _ _)
 refine WL.vl rfl (WV.call rfl (callF Tryz.func111 rfl rfl) rfl rfl (pOnsets_FS p hO)) ?_
 repeat (first|refine W.go rfl ?_|refine WL.ev rfl ?_)
 refine (?_:W _ _ _ _ _)
 exact W.ret (finN rfl rfl rfl rfl)
end Go.Proofs.YtgelfflighgajaaGreatDoor
namespace Go.Proofs.YtgelfflighgajaaGreatDoor
open Go.RowKit
theorem end_FS (p:Pce) (hO:PcOk p) (h0:pceE p=0):Ctr Tryz.prog 232 [eSnd p] (.sc (.int .i64 (onsAt p.evs p.evs.length))):=by
 have hn:=hO.n3
 have hl:(onsL p.evs p.evs.length).length=p.evs.length+1:=onsL_length _ _
 have he:eSnd p=.ag [.ls 3 (p.cs.map eCrs),.ls 1 (p.st.map eInt),.ls 6 (p.evs.map eEv),.ls 1 ((onsL p.evs p.evs.length).map eInt)]:=by unfold eSnd onsR;rw [if_pos h0]
 rw [he]
 refine Ctr.intro Tryz.func232 rfl Tryz.ntmps232 (Nat.le_of_ble_eq_true rfl) (bd_all rfl) fun w0 F0=>?_;dsimp only [St.init,number,Nat.reduceAdd]
 repeat (first|refine W.go rfl ?_|refine WL.ev rfl ?_|refine WL.ar rfl rfl (by unfold I64;omega) ?_|refine WL.len rfl rfl (by first|exact List.length_map _|exact List.length_replicate|rfl) ?_|refine WL.idx rfl rfl (by omega) (by first|exact map_at (by omega)|exact map_atZ (by omega) (by omega)) ?_)
 refine (?_:W _ _ _ _ _)
 refine W.ret (fin1 rfl rfl (sc_int ?_) rfl)
 simp [onsL]
end Go.Proofs.YtgelfflighgajaaGreatDoor
