import Derived.Test.YtnpdgmoeoidppaaVdQe
/- law 14: what the chapter tells -/
namespace Go.Proofs.Ytnpdgmoeoidppaa
open Go.RowKit Go.Shelf
set_option linter.unusedVariables false
set_option linter.unusedSimpArgs false

theorem bu_64_1 (x0 : Int) : Try.prog.built 64 [(1, .int .i64 x0)] = some [.bool false, .int .u64 0, .int .u64 0, .int .i64 x0].toArray := by kernel_rfl
theorem bu_67_0_1 (x0 : Bool) (x1 : Int) (x2 : Int) (x3 : Int) (x4 : Option Addr) (x5 : Nat) (x6 : Nat) : Try.prog.built 67 [(0, .agg [.bool x0, .int .u64 x1, .int .u64 x2, .int .i64 x3].toArray), (1, .slice x4 x5 x6)] = some [.bool x0, .int .u64 x1, .int .u64 x2, .int .i64 x3, .slice x4 x5 x6].toArray := by kernel_rfl
theorem ent_24 : Enters Try.prog 24 := enters_of Try.func24 (by kernel_rfl) rfl

theorem sub1 {α : Type} {a s : α} {S : List α} (ha : a ∈ S) (h : s ∈ [a]) : s ∈ S := by rw [List.mem_singleton.1 h]; exact ha
theorem sub2 {α : Type} {a b s : α} {S : List α} (ha : a ∈ S) (hb : b ∈ S) (h : s ∈ [a, b]) : s ∈ S := (List.mem_cons.1 h).elim (fun e => by rw [e]; exact ha) (sub1 hb)
theorem sub3 {α : Type} {a b c s : α} {S : List α} (ha : a ∈ S) (hb : b ∈ S) (hc : c ∈ S) (h : s ∈ [a, b, c]) : s ∈ S := (List.mem_cons.1 h).elim (fun e => by rw [e]; exact ha) (sub2 hb hc)
theorem keep_bad {v : Vp} {hm : Hm} {hosts : List aL} (h : hosts.all bZ = false) : c9 v hm hosts = (([], 2), hm) := if_pos h
theorem keep_cong {v v' : Vp} (h : v.rg = v'.rg ∧ v.res = v'.res ∧ v.room = v'.room) (hm : Hm) (hosts : List aL) : c9 v hm hosts = c9 v' hm hosts := by
  obtain ⟨rg, res, A, c, room, b, rh, ra⟩ := v
  obtain ⟨rg', res', A', c', room', b', rh', ra'⟩ := v'
  obtain ⟨h1, h2, h3⟩ := h
  dsimp only at h1 h2 h3
  subst h1 h2 h3
  rfl
def k14 : Hm := (c9 v14 [] [[1, 97], [1, 65], [1, 98], [1, 99], [1, 67]]).2
theorem kA : (c9 v14 [] [[1, 97], [1, 65], [1, 98], [1, 99], [1, 67]]).1 = ([[1, 99]], 0) := by decide +kernel
theorem kB : ([[1, 100], []] : List aL).all bZ = false := by decide +kernel
theorem pinv_nil : PInv [] := ⟨.nil, .nil, nofun⟩
theorem pinv_of {hm : Hm} (h : ((decide (hm.map fun p => p.1).Nodup) && (decide (hm.map fun p => p.2.ad).Nodup) && hm.all fun p => decide (p.1 = aT p.2.host) && bZ p.2.host) = true) : PInv hm := by
  simp only [Bool.and_eq_true, decide_eq_true_eq, List.all_eq_true] at h
  exact ⟨h.1.1, h.1.2, h.2⟩
theorem pinv_k : PInv k14 := pinv_of (by decide +kernel)
theorem k14_len : k14.length = 2 := by decide +kernel
theorem of14B : (ofV k14 [1, 66]).2 = true := by decide +kernel
theorem gv14z : bw v14 k14 (bS k14) [] = ((ad0, 2), k14, bS k14) := cA (by decide +kernel)
theorem dr14 : (ct k14 (bS k14) [1, 97]).2.1.length = 1 := by decide +kernel
theorem of14a : (ofV k14 [1, 97]).2 = true := by decide +kernel
theorem ho14 : hostV k14 (bS k14) (ofV k14 [1, 97]).1 = ([1, 97], true) := by decide +kernel
theorem dr14z : ct k14 (bS k14) [1, 122] = (5, k14, bS k14) := by
  rw [ct, if_neg (by decide +kernel), if_pos (by decide +kernel)]
theorem ck14b : eC (⟨⟨false, 0, 0⟩, 33⟩ :: ([] : List Rg)) = 2 := by decide +kernel
theorem ck14c : eC (eR :: [⟨⟨false, 0, 0⟩, -1⟩]) = 2 := by decide +kernel
theorem c_k14 {v : Vp} (h : v.rg = eR ∧ v.res = [] ∧ v.room = 2) (hm : Hm) (hosts : List aL) (A : Option Addr) (c : Nat) (hi0 : PInv hm) (hml : hm.length + hosts.length ≤ 1000000) (hhb : ∀ n ∈ hosts, n.length ≤ 1000000000) :
    UC Try.prog 29 #[.pointer (some ⟨v.b, 0, none⟩), .slice A hosts.length c] [Ch.row v.b (vpC v) 113, Ch.rd v.A 4 eb v.res, Ch.rd A 1 dy hosts] (vmC v hm (bS hm)) (α := Option Addr × Nat) (fun p => .tuple #[.slice p.1 (c9 v14 hm hosts).1.1.length p.2, .int .i64 (c9 v14 hm hosts).1.2]) (fun p => Ch.two (vmC v (c9 v14 hm hosts).2 (bS (c9 v14 hm hosts).2)) (Ch.ls p.1 p.2 37 1 dy (c9 v14 hm hosts).1.1)) := by
  rw [← keep_cong (v := v) (v' := v14) h]; exact c_vKeep v hm hosts A c (ok14 h) hi0 hml hhb

set_option maxRecDepth 100000 in
set_option maxHeartbeats 4000000 in
theorem c_VipsNames  : cI Try.prog 7 #[] (.bool true) := by
 intro w0
 refine aX (ok0 := no) (S := []) (args := []) 136 Try.func7 rfl rfl rfl (by simp) (by simp) ?_
 refine ao ?_
 refine aa ?_
 refine ap (ah rfl) rfl rfl ?_
 refine ae ?_
 refine aj ?_
 refine ao ?_
 refine ao ?_
 refine aa ?_
 refine aR rfl ent_26 c_lives14 rfl ?_
 refine bv (t := 18) (.bool true) rfl (congrArg Value.bool rfl) ?_
 refine ap (bG rfl) rfl rfl ?_
 refine ae ?_
 refine aj ?_
 refine av rfl ?_
 refine aG ?_
 refine aj ?_
 refine ao ?_
 refine aa ?_
 refine bi rfl ent_28 rfl c_two14 (fun w hw => aY) ?_
 refine o_callr3 rfl ent_27 rfl (c_vNew eR [] none 0 rg14_ok nofun (by decide) ck14) (fun w hw => (aN (rd_none) aY)) (fun ⟨v, hv⟩ => ?_)
 have hv14 : v.rg = eR ∧ v.res = [] ∧ v.room = 2 := ⟨hv.1, hv.2.1, hv.2.2.trans (by rw [fr14]; rfl)⟩
 refine bD (fun w h => h.f1.toRdV.f1.freeze) ?_
 refine ap (ak rfl) rfl rfl ?_
 refine ap (aw rfl rfl) rfl rfl ?_
 refine ap (aw rfl rfl) rfl rfl ?_
 refine ap (ah rfl) rfl rfl ?_
 refine ap (ah rfl) rfl rfl ?_
 refine ae ?_
 refine aj ?_
 refine ao ?_
 refine aa ?_
 refine ap (bl rfl (bu_64_1 _)) rfl rfl ?_
 refine ap (bl rfl (bu_67_0 _ _ _ _)) rfl rfl ?_
 refine bi rfl ent_27 rfl (c_vNewbad ⟨⟨false, 0, 0⟩, 33⟩ [] none 0 (by unfold RgOk AdOk; decide) nofun (by decide) (by rw [ck14b]; decide)) (fun w hw => (aN (rd_none) aY)) ?_
 refine ap (ak rfl) rfl rfl ?_
 refine ap (aw rfl rfl) rfl rfl ?_
 refine ap (aw rfl rfl) rfl rfl ?_
 refine ap (ah rfl) rfl rfl ?_
 refine ap (ah rfl) rfl rfl ?_
 refine ae ?_
 refine aj ?_
 refine ao ?_
 refine aa ?_
 refine ap (ak rfl) rfl rfl ?_
 refine el (vs := [_, _, _, _, _]) ([[1, 97], [1, 65], [1, 98], [1, 99], [1, 67]] : List (aL)) dx Try.underlying25 bE rfl rfl rfl rfl rfl rfl (fun As2 => ?_)
 refine bD (fun w h => h.toRdV) ?_
 refine bI rfl ent_29 rfl (c_k14 hv14 [] [[1, 97], [1, 65], [1, 98], [1, 99], [1, 67]] _ _ pinv_nil (by as_aux_lemma => decide +kernel) (by as_aux_lemma => decide +kernel)) (fun o => .z) (List.mem_of_getElem? (i := 0) rfl) (fun s hs => sub3 (List.mem_of_getElem? (i := 1) rfl) (List.mem_of_getElem? (i := 2) rfl) (List.mem_of_getElem? (i := 0) rfl) hs) (fun ⟨Ax, cx⟩ => ?_)
 refine bD (fun w h => h.untwo) ?_
 refine bv (t := 34) (.tuple #[.slice Ax 1 cx, .int .i64 0]) rfl (by rw [kA]; rfl) ?_
 refine bD (fun w h => by rw [kA] at h; exact h) ?_
 refine ap (ak rfl) rfl rfl ?_
 refine ap (aw rfl rfl) rfl rfl ?_
 refine ap (aw rfl rfl) rfl rfl ?_
 refine ap (ah rfl) rfl rfl ?_
 refine ap (ah rfl) rfl rfl ?_
 refine ae ?_
 refine aj ?_
 refine ao ?_
 refine aa ?_
 refine ap (ak rfl) rfl rfl ?_
 refine el (vs := [_, _]) ([[1, 100], []] : List (aL)) dx Try.underlying25 bE rfl rfl rfl rfl rfl rfl (fun As4 => ?_)
 refine bD (fun w h => h.toRdV) ?_
 refine bI rfl ent_29 rfl (c_k14 hv14 k14 [[1, 100], []] _ _ pinv_k (by as_aux_lemma => decide +kernel) (by as_aux_lemma => decide +kernel)) (fun o => .z) (List.mem_of_getElem? (i := 0) rfl) (fun s hs => sub3 (List.mem_of_getElem? (i := 2) rfl) (List.mem_of_getElem? (i := 3) rfl) (List.mem_of_getElem? (i := 0) rfl) hs) (fun ⟨Ay, cy⟩ => ?_)
 refine bD (fun w h => h.untwo) ?_
 refine bv (t := 40) (.tuple #[.slice Ay 0 cy, .int .i64 2]) rfl (by rw [keep_bad kB]; rfl) ?_
 refine bD (fun w h => by rw [keep_bad kB] at h; exact h) ?_
 refine ap (ak rfl) rfl rfl ?_
 refine ap (aw rfl rfl) rfl rfl ?_
 refine ap (aw rfl rfl) rfl rfl ?_
 refine ap (ah rfl) rfl rfl ?_
 refine ap (ah rfl) rfl rfl ?_
 refine ae ?_
 refine aj ?_
 refine ao ?_
 refine aa ?_
 refine ap (ak rfl) rfl rfl ?_
 refine bi rfl ent_30 rfl (c_vOf v k14 [1, 66] (by decide)) (fun w hw => (aN (cL 2 rfl hw) (aN (dL (d7 0 rfl hw)) aY))) ?_
 refine bv (t := 45) (.tuple #[.agg (dC (ofV k14 [1, 66]).1).toArray, .bool true]) rfl (by rw [of14B]) ?_
 refine ap (ak rfl) rfl rfl ?_
 refine ap (aw rfl rfl) rfl rfl ?_
 refine ap (aw rfl rfl) rfl rfl ?_
 refine bv (t := 47) (.bool true) rfl (congrArg Value.bool rfl) ?_
 refine bc aF rfl rfl (fun b6 => ?_)
 refine aH aF rfl rfl rfl .z rfl rfl rfl rfl ?_
 refine ap (ah rfl) rfl rfl ?_
 refine ae ?_
 refine aj ?_
 refine ao ?_
 refine aa ?_
 refine ap (ak rfl) rfl rfl ?_
 refine bI rfl ent_31 rfl (c_g14 hv14 k14 (bS k14) [] (by decide) (by as_aux_lemma => decide +kernel)) (fun o => (.s (.z))) (List.mem_of_getElem? (i := 1) rfl) (fun s hs => sub2 (List.mem_of_getElem? (i := 2) rfl) (List.mem_of_getElem? (i := 3) rfl) hs) (fun o6 => ?_)
 refine bv (t := 50) (.tuple #[.agg (dC ad0).toArray, .int .i64 2]) rfl (by rw [gv14z]) ?_
 refine bD (fun w h => by rw [gv14z] at h; exact h) ?_
 refine ap (ak rfl) rfl rfl ?_
 refine ap (aw rfl rfl) rfl rfl ?_
 refine ap (aw rfl rfl) rfl rfl ?_
 refine bc aF rfl rfl (fun b8 => ?_)
 refine aH aF rfl rfl rfl .z rfl rfl rfl rfl ?_
 refine ap (ah rfl) rfl rfl ?_
 refine ae ?_
 refine aj ?_
 refine ao ?_
 refine aa ?_
 refine ap (ak rfl) rfl rfl ?_
 refine o_callr2 rfl ent_32 rfl (c_vClone v k14 (bS k14)) (fun w hw => (aN (cL 2 rfl hw) (aN (dL (d7 2 rfl hw)) (aN (rd_two2 (d7 2 rfl hw)) aY)))) (fun ⟨u, hu⟩ => ?_)
 have hu14 : u.room = 2 := hu.2.2.2.2.trans hv14.2.2
 refine bD (fun w h => h.f1.freeze) ?_
 refine ap (ah rfl) rfl rfl ?_
 refine ae ?_
 refine aj ?_
 refine ao ?_
 refine aa ?_
 refine ap (ak rfl) rfl rfl ?_
 refine bI rfl ent_33 rfl (c_vDrop u k14 (bS k14) [1, 97] (by decide)) (fun o => .z) (List.mem_of_getElem? (i := 0) rfl) (fun s hs => sub1 (List.mem_of_getElem? (i := 0) rfl) hs) (fun o9 => ?_)
 have hvu : VOk u := ⟨hu.1 ▸ (ok14 hv14).rg, hu.2.1 ▸ (ok14 hv14).res, hu.2.1 ▸ (ok14 hv14).len, by rw [hu14]; decide⟩
 refine ae ?_
 refine aj ?_
 refine ao ?_
 refine aa ?_
 refine ap (ak rfl) rfl rfl ?_
 refine bi rfl ent_30 rfl (c_vOf v k14 [1, 97] (by decide)) (fun w hw => (aN (cL 3 rfl hw) (aN (dL (d7 3 rfl hw)) aY))) ?_
 refine bv (t := 59) (.tuple #[.agg (dC (ofV k14 [1, 97]).1).toArray, .bool true]) rfl (by rw [of14a]) ?_
 refine ap (ak rfl) rfl rfl ?_
 refine ap (aw rfl rfl) rfl rfl ?_
 refine ap (aw rfl rfl) rfl rfl ?_
 refine bv (t := 61) (.bool true) rfl (congrArg Value.bool rfl) ?_
 refine bc aF rfl rfl (fun b11 => ?_)
 refine aH aF rfl rfl rfl .z rfl rfl rfl rfl ?_
 refine ap (ah rfl) rfl rfl ?_
 refine ae ?_
 refine aj ?_
 refine ao ?_
 refine aa ?_
 refine ap (ak rfl) rfl rfl ?_
 refine ap (aM 0 aF rfl rfl rfl rfl) rfl rfl ?_
 refine bi rfl ent_34 rfl (c_vHost v k14 (bS k14) (ofV k14 [1, 97]).1) (fun w hw => (aN (cL 3 rfl hw) (aN (dL (d7 4 rfl hw)) (aN (rd_two2 (d7 4 rfl hw)) aY)))) ?_
 refine bv (t := 65) (.tuple #[.string (ba [1, 97]), .bool true]) rfl (by rw [ho14]) ?_
 refine ap (ak rfl) rfl rfl ?_
 refine ap (aw rfl rfl) rfl rfl ?_
 refine ap (aw rfl rfl) rfl rfl ?_
 refine bv (t := 67) (.bool true) rfl (congrArg Value.bool rfl) ?_
 refine ap (ah rfl) rfl rfl ?_
 refine ap (ah rfl) rfl rfl ?_
 refine ae ?_
 refine aj ?_
 refine ao ?_
 refine aa ?_
 refine ap (ak rfl) rfl rfl ?_
 refine ap (cH rfl rfl) rfl rfl ?_
 refine c7 (t := 69) rfl rfl ?_
 refine ap (ak rfl) rfl rfl ?_
 refine az rfl rfl ?_
 refine ap (ak rfl) rfl rfl ?_
 refine az rfl rfl ?_
 refine ap (cH rfl rfl) rfl rfl ?_
 refine c7 (t := 72) rfl rfl ?_
 refine ap (aQ rfl rfl) rfl rfl ?_
 refine ap (ak rfl) rfl rfl ?_
 refine az rfl rfl ?_
 refine ap (ak rfl) rfl rfl ?_
 refine az rfl rfl ?_
 refine el (vs := [_]) ([[1, 99]] : List (aL)) dx Try.underlying25 bE rfl rfl rfl rfl rfl rfl (fun As12 => ?_)
 refine az rfl rfl ?_
 refine bi rfl ent_24 rfl (c_kit_Same_n [[1, 99]] [[1, 99]] _ _ _ _ (by decide)) (fun w hw => (aN (eT 7 rfl hw) (aN (eT 0 rfl hw) aY))) ?_
 refine bv (t := 77) (.bool true) rfl (congrArg Value.bool rfl) ?_
 refine ap (aQ rfl rfl) rfl rfl ?_
 refine ap (ak rfl) rfl rfl ?_
 refine az rfl rfl ?_
 refine ap (ak rfl) rfl rfl ?_
 refine az rfl rfl ?_
 refine ap (cH rfl rfl) rfl rfl ?_
 refine c7 (t := 81) rfl rfl ?_
 refine ap (aQ rfl rfl) rfl rfl ?_
 refine ap (ak rfl) rfl rfl ?_
 refine az rfl rfl ?_
 refine ap (ak rfl) rfl rfl ?_
 refine ap (aQ rfl rfl) rfl rfl ?_
 refine ap (ak rfl) rfl rfl ?_
 refine az rfl rfl ?_
 refine ap (ak rfl) rfl rfl ?_
 refine az rfl rfl ?_
 refine ap (cH rfl rfl) rfl rfl ?_
 refine c7 (t := 88) rfl rfl ?_
 refine ap (aQ rfl rfl) rfl rfl ?_
 refine ap (ak rfl) rfl rfl ?_
 refine az rfl rfl ?_
 refine ap (ak rfl) rfl rfl ?_
 refine ap (aQ rfl rfl) rfl rfl ?_
 refine ap (ak rfl) rfl rfl ?_
 refine az rfl rfl ?_
 refine ap (ak rfl) rfl rfl ?_
 refine ap (aQ rfl rfl) rfl rfl ?_
 refine ap (ak rfl) rfl rfl ?_
 refine az rfl rfl ?_
 refine ap (ak rfl) rfl rfl ?_
 refine az rfl rfl ?_
 refine ap (y_eqls rfl rfl) rfl rfl ?_
 refine c7 (t := 98) rfl rfl ?_
 refine ap (aQ rfl rfl) rfl rfl ?_
 refine ap (ak rfl) rfl rfl ?_
 refine az rfl rfl ?_
 refine ap (ak rfl) rfl rfl ?_
 refine az rfl rfl ?_
 refine bi rfl ent_35 rfl (c_vFree v k14 (ok14 hv14) (by as_aux_lemma => decide +kernel)) (fun w hw => (aN (cL 3 rfl hw) (aN (dL (d7 5 rfl hw)) aY))) ?_
 refine az rfl rfl ?_
 refine ap (cH rfl rfl) rfl rfl ?_
 refine c7 (t := 103) rfl (by rw [hv14.2.2, k14_len]; rfl) ?_
 refine ap (aQ rfl rfl) rfl rfl ?_
 refine ap (ak rfl) rfl rfl ?_
 refine az rfl rfl ?_
 refine ap (ak rfl) rfl rfl ?_
 refine az rfl rfl ?_
 refine bi rfl ent_35 rfl (c_vFree u (ct k14 (bS k14) [1, 97]).2.1 hvu (by rw [dr14]; decide)) (fun w hw => (aN (cL 0 rfl hw) (aN (dL (d7 2 rfl hw)) aY))) ?_
 refine az rfl rfl ?_
 refine ap (cH rfl rfl) rfl rfl ?_
 refine c7 (t := 108) rfl (by rw [hu14, dr14]; rfl) ?_
 refine ap (aQ rfl rfl) rfl rfl ?_
 refine ap (ak rfl) rfl rfl ?_
 refine az rfl rfl ?_
 refine ap (ak rfl) rfl rfl ?_
 refine az rfl rfl ?_
 refine bF rfl ent_36 rfl (c_vAll v k14 (by as_aux_lemma => decide +kernel)) (fun w hw => (aN (cL 3 rfl hw) (aN (dL (d7 5 rfl hw)) aY))) (fun ⟨⟨o1, Ao1, co1⟩, ho1⟩ => ?_)
 refine az rfl rfl ?_
 refine ap (cp Try.underlying80 rfl) rfl rfl ?_
 refine az rfl rfl ?_
 refine ap (cH rfl rfl) rfl rfl ?_
 refine c7 (t := 114) rfl (by rw [show o1.length = 2 by have := ho1.1.length_eq; rw [List.length_map, k14_len] at this; exact this]; rfl) ?_
 refine ap (aQ rfl rfl) rfl rfl ?_
 refine ap (ak rfl) rfl rfl ?_
 refine az rfl rfl ?_
 refine ap (ak rfl) rfl rfl ?_
 refine az rfl rfl ?_
 refine bF rfl ent_36 rfl (c_vAll u (ct k14 (bS k14) [1, 97]).2.1 (by rw [dr14]; decide)) (fun w hw => (aN (cL 0 rfl hw) (aN (dL (d7 3 rfl hw)) aY))) (fun ⟨⟨o2, Ao2, co2⟩, ho2⟩ => ?_)
 refine az rfl rfl ?_
 refine ap (cp Try.underlying80 rfl) rfl rfl ?_
 refine az rfl rfl ?_
 refine ap (cH rfl rfl) rfl rfl ?_
 refine c7 (t := 120) rfl (by rw [show o2.length = 1 by have := ho2.1.length_eq; rw [List.length_map, dr14] at this; exact this]; rfl) ?_
 refine ap (aQ rfl rfl) rfl rfl ?_
 refine ap (ak rfl) rfl rfl ?_
 refine az rfl rfl ?_
 refine ap (ak rfl) rfl rfl ?_
 refine az rfl rfl ?_
 refine bI rfl ent_33 rfl (c_vDrop v k14 (bS k14) [1, 122] (by decide)) (fun o => (.s (.s (.s (.s (.s (.s (.s (.z))))))))) (List.mem_of_getElem? (i := 7) rfl) (fun s hs => sub1 (List.mem_of_getElem? (i := 3) rfl) hs) (fun o14 => ?_)
 refine bv (t := 124) (.int .i64 5) rfl (by rw [dr14z]) ?_
 refine bD (fun w h => by rw [dr14z] at h; exact h) ?_
 refine az rfl rfl ?_
 refine ap (cH rfl rfl) rfl rfl ?_
 refine c7 (t := 125) rfl rfl ?_
 refine ap (aQ rfl rfl) rfl rfl ?_
 refine ap (ak rfl) rfl rfl ?_
 refine az rfl rfl ?_
 refine bi rfl ent_28 rfl c_two14 (fun w hw => aY) ?_
 refine az rfl rfl ?_
 refine ap (y_fieldv (v := .agg (eb eR).toArray) rfl (fun w => by kernel_rfl)) rfl rfl ?_
 refine az rfl rfl ?_
 refine ap (bl rfl (bu_64_1 _)) rfl rfl ?_
 refine az rfl rfl ?_
 refine el (vs := [_]) ([(⟨⟨false, 0, 0⟩, -1⟩ : Rg)] : List (Rg)) enc_rg Try.underlying65 cc rfl rfl rfl rfl rfl rfl (fun As16 => ?_)
 refine az rfl rfl ?_
 refine ap (bl rfl (bu_67_0_1 _ _ _ _ _ _ _)) rfl rfl ?_
 refine az rfl rfl ?_
 refine bi rfl ent_37 rfl (c_vCheck eR [⟨⟨false, 0, 0⟩, -1⟩] _ _ rg14_ok (by intro x hx; rw [List.mem_singleton.1 hx]; unfold RgOk AdOk; decide) (by decide)) (fun w hw => (aN (eT 0 rfl hw) aY)) ?_
 refine az rfl rfl ?_
 refine ap (cH rfl rfl) rfl rfl ?_
 refine c7 (t := 134) rfl ck14c ?_
 refine ap (aQ rfl rfl) rfl rfl ?_
 refine ap (ah rfl) rfl rfl ?_
 refine ae ?_
 refine aj ?_
 refine aC ?_
 refine aJ (ts := [0]) rfl rfl rfl (fun w hw => ?_)
 exact ⟨rfl, hw.base⟩
end Go.Proofs.Ytnpdgmoeoidppaa
