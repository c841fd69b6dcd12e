import Derived.Test.YtfmelbpgkbiooaaGreatLuS
/- the index, said plainly: with what is held -/
namespace Go.Proofs.YtfmelbpgkbiooaaGreat
open Go.RowKit Go.Shelf
set_option linter.unusedVariables false
set_option linter.unusedSimpArgs false

theorem ent_113 : Enters Tryz.prog 113 := enters_of Tryz.func113 (by kernel_rfl) rfl
theorem ent_14 : Enters Tryz.prog 14 := enters_of Tryz.func14 (by kernel_rfl) rfl
theorem fa_117_0 : FA Tryz.prog 117 0 0 := fun b o w => by kernel_rfl
theorem fa_117_1 : FA Tryz.prog 117 1 2 := fun b o w => by kernel_rfl
theorem ty_25 : TyI Tryz.prog 25 false 1 24 (.slice none 0 0) := TyI.mk' (by kernel_rfl) (fun _ => by kernel_rfl)

abbrev rfC (v : Int) (F : Option Addr) (n d : Nat) (Q : Option Addr) (k q : Nat) : List Value := [.int .i64 v, .slice F n d, .slice Q k q]
def rfV : Option (Nat × Option Addr × Nat) → Value
  | some p => .tuple #[.pointer (some ⟨p.1, 0, none⟩), .int .i64 0]
  | none => .tuple #[.pointer none, .int .i64 2]
def rfD (v : Int) (F : Option Addr) (n d : Nat) (hs : List Hd) : Option (Nat × Option Addr × Nat) → List Ch
  | some p => [Ch.row p.1 (rfC v F n d p.2.1 hs.length p.2.2) 117, Ch.rd p.2.1 4 hdC hs]
  | none => []
theorem u_skip {x : Cx} {C : World → Prop} {l : Fr} {L S : List Ch} {Q : Exit → Act → World → Prop} {ops : Array Oper} {fuel m : Nat} {listed : Array Bool} {i d : Nat} {op : Op} {ty : TypeId} {pos : String} {af : Array Edge} {gd : Option (Nat × Bool)} {listed' : Array Bool} (hi : ops[i]? = some ⟨some d, op, ty, pos, af, gd⟩) (hw : ∀ a, Kn x.N x.ds l a → Region.wanted ⟨some d, op, ty, pos, af, gd⟩ (yielded ops a.tmps) = false)
    (hC : ∀ w, Hp x.ok0 x.w0 L S w → C w) (hN : Nat.blt d x.N = true) (hpk : PkOk Q)
    (hs : (Region.noSelect ops && Region.free .any ops listed i && (Region.ready .any ops listed).contains i && tailW2 ops m i && Nat.blt i m && noTail m listed && closedB ops listed) = true) (hl : listed.setIfInBounds i true = listed')
    (k : WU x C m ops fuel listed' ((d, undef) :: l) L S Q) : WU x C m ops (fuel + 1) listed l L S Q := fun a w ha hh => by
  simp only [Bool.and_eq_true] at hs
  obtain ⟨⟨⟨⟨⟨⟨h1, h2⟩, h3⟩, h4⟩, h5⟩, h6⟩, h7⟩ := hs
  exact wpAnyU_first hi (Region.noSelect_spec h1) (fun c a w h => hpk c a w _ _ h) h4 (Nat.le_of_ble_eq_true h5) fuel listed a w h6 (closed_of h7) (Region.free_spec hi h2) (by simpa using h3) (.inr ⟨hw a ha, rfl⟩) (hC w hh) (by rw [hl]; exact k _ w (ha.put (Nat.le_of_ble_eq_true hN) undef) hh)
theorem fe_yes {l : List Le} {h : Hd} {r : Option Le} (hr : FE l h.host r) (h1 : r.isSome = true) (h2 : (r.getD le0).e.kind = 2) (h3 : addrCk h.ad = 0) : nameCk h.host = 0 ∧ (∃ e, lookE (l.map (·.e)) (foldN h.host) = some e ∧ e.kind = 2) ∧ addrCk h.ad = 0 := by
  have h4 := hr.e
  cases r with
  | none => cases h1
  | some y =>
    rw [lookN] at h4
    split at h4
    · cases h4
    · exact ⟨by omega, ⟨_, h4.symm, h2⟩, h3⟩
theorem fe_no {l : List Le} {h : Hd} {r : Option Le} (hr : FE l h.host r) (hn : r.isSome = false ∨ (r.getD le0).e.kind ≠ 2 ∨ addrCk h.ad ≠ 0) {pre : List Hd} : ¬ okH (l.map (·.e)) pre h := fun ⟨q1, ⟨e, q2, q3⟩, q4, _⟩ => by
  have h4 := hr.e
  rw [lookN, if_neg (fun q => q q1), q2] at h4
  cases r with
  | none => cases h4
  | some y =>
    have h5 : y.e = e := Option.some.inj h4
    rcases hn with hn | hn | hn
    · cases hn
    · exact hn (by show y.e.kind = 2; rw [h5]; exact q3)
    · exact hn q4
/-- Up to i what is held may be; at i only what came earlier is not yet looked at. -/
def HkN (es : List En) (hs : List Hd) (i : Nat) : Prop := ∀ q, q < i → okH es (hs.take q) (hs.getD q hd0)
def OwN (es : List En) (h : Hd) : Prop := nameCk h.host = 0 ∧ (∃ e, lookE es (foldN h.host) = some e ∧ e.kind = 2) ∧ addrCk h.ad = 0
def FrN (hs : List Hd) (i j : Nat) : Prop := ∀ q, q < j → foldN (hs.getD q hd0).host ≠ foldN (hs.getD i hd0).host ∧ (hs.getD q hd0).ad ≠ (hs.getD i hd0).ad
theorem hk_step {es : List En} {hs : List Hd} {i : Nat} (h : HkN es hs i) (h1 : OwN es (hs.getD i hd0)) (h2 : FrN hs i i) (hi : i < hs.length) : HkN es hs (i + 1) := fun q hq => by
  by_cases e : q = i
  · subst e
    have h3 : ∀ p ∈ hs.take q, foldN p.host ≠ foldN (hs.getD q hd0).host ∧ p.ad ≠ (hs.getD q hd0).ad := fun p hp => by
      obtain ⟨k, hk, rfl⟩ := List.mem_iff_getElem.1 hp
      have hk2 : k < q := by simp at hk; omega
      have := h2 k hk2
      rw [List.getD_eq_getElem?_getD, List.getElem?_eq_getElem (by omega)] at this
      rw [List.getElem_take]; exact this
    exact ⟨h1.1, h1.2.1, h1.2.2, fun p hp => (h3 p hp).1, fun p hp => (h3 p hp).2⟩
  · exact h q (by omega)
theorem held_ne {es : List En} {hs : List Hd} (H : HeldOk es hs) {i j : Nat} (hij : j < i) (hi : i < hs.length) : foldN (hs.getD j hd0).host ≠ foldN (hs.getD i hd0).host ∧ (hs.getD j hd0).ad ≠ (hs.getD i hd0).ad := by
  have h1 := H i hi
  have hm : hs.getD j hd0 ∈ hs.take i := by
    rw [List.getD_eq_getElem?_getD, List.getElem?_eq_getElem (by omega)]
    exact List.mem_iff_getElem.2 ⟨j, by simp; omega, by rw [List.getElem_take]; rfl⟩
  exact ⟨h1.2.2.2.1 _ hm, h1.2.2.2.2 _ hm⟩
theorem same2_ck {a b : Str} (h : same2 a b = true) : nameCk a = 0 ∧ nameCk b = 0 := by
  simp only [same2, Bool.and_eq_true, decide_eq_true_eq] at h; exact ⟨h.1.1, h.1.2⟩
theorem fr_step {es : List En} {hs : List Hd} {i j : Nat} (hk : HkN es hs i) (ho : OwN es (hs.getD i hd0)) (h : FrN hs i j) (hj : j < i) (h1 : same2 (hs.getD j hd0).host (hs.getD i hd0).host = false) (h2 : (hs.getD j hd0).ad ≠ (hs.getD i hd0).ad) : FrN hs i (j + 1) := fun q hq => by
  by_cases e : q = j
  · subst e
    refine ⟨fun hf => ?_, h2⟩
    rw [(same2_iff (hk q hj).1 ho.1).2 hf] at h1; cases h1
  · exact h q (by omega)
theorem rd_fe {w : World} {l : List Le} {y : Le} (h : (Ch.rall (l.flatMap elR)).P w ∧ ∀ b, (Ch.rall (l.flatMap elR)).ok b → b < w.heap.size) (hm : y ∈ le0 :: l) : ((Ch.rd y.A 3 adC y.e.addrs).P w ∧ ∀ b, (Ch.rd y.A 3 adC y.e.addrs).ok b → b < w.heap.size) ∧ ((Ch.rd y.B 1 enci y.e.ports).P w ∧ ∀ b, (Ch.rd y.B 1 enci y.e.ports).ok b → b < w.heap.size) := by
  rcases List.mem_cons.1 hm with rfl | hm
  · exact ⟨rd_none1, rd_none1⟩
  · exact ⟨rd_all h (mem_flatR hm _ (elRA _)), rd_all h (mem_flatR hm _ (elRB _))⟩

set_option maxRecDepth 100000 in
set_option maxHeartbeats 1000000 in
theorem c_ref18_New (v : Int) (l : List Le) (A : Option Addr) (c : Nat) (Q : Option Addr) (hs : List Hd) (qc : Nat) (hok : TbOk l) (hlen : l.length ≤ 1000000000) (h0 : tabCk v l = 0) (hhl : hs.length ≤ 1000000) (hhh : ∀ h ∈ hs, h.host.length ≤ 1000 ∧ 0 ≤ h.ad.lo) : RC Tryz.prog 21 #[.agg (tbC v A l.length c).toArray, .slice Q hs.length qc] [Ch.rd A 7 elC l, Ch.rall (l.flatMap elR), Ch.rd Q 4 hdC hs] (α := {o : Option (Nat × Option Addr × Nat) // (o = none → ¬ HeldOk (l.map (·.e)) hs) ∧ (o ≠ none → HeldOk (l.map (·.e)) hs)}) (fun o => rfV o.1) (fun o => [Ch.rall (rfD v A l.length c hs o.1)]) := by
 refine rc_of_W (args := [.agg (tbC v A l.length c).toArray, .slice Q hs.length qc]) 83 Tryz.func21 rfl rfl rfl (fun w0 => ?_)
 refine w_seq ?_
 refine w_region ?_
 refine o_box rfl rfl rfl (fun b1 => ?_)
 refine o_y (y_assign rfl) rfl rfl ?_
 refine o_y (y_assign rfl) rfl rfl ?_
 refine wl_nil ?_
 refine e_seq ?_
 refine w_seq ?_
 refine w_region ?_
 refine o_y (y_loadrs 0 ty_24 rfl rfl rfl rfl) rfl rfl ?_
 refine o_callq rfl ent_39 rfl (c_ref17_Check _ _ _ _ hok (by omega)) (fun w hw => (rd_cons (rd_S 0 rfl hw) (rd_cons (rd_S 1 rfl hw) rd_nil))) ?_
 refine o_y (y_assign rfl) rfl rfl ?_
 refine wl_nil ?_
 refine e_seq ?_
 refine w_seq ?_
 refine w_seq ?_
 refine w_region ?_
 refine o_y (y_move rfl) rfl rfl ?_
 refine o_y (y_neq rfl rfl) rfl rfl ?_
 refine wl_af (t := 14) rfl (by omega) ?_
 refine wl_nil ?_
 refine e_seq ?_
 refine w_cond_f rfl ?_
 refine w_skip ?_
 refine e_seq ?_
 refine w_seq ?_
 refine w_seq ?_
 refine w_region ?_
 refine o_y (y_assign rfl) rfl rfl ?_
 refine wl_nil ?_
 refine e_seq ?_
 refine w_block ?_
 refine w_loop0 (σ := Nat) [4, 5, 7, 8, 9, 10, 16, 17, 18, 19, 20, 21, 22, 23, 24, 25, 26, 27, 28, 29, 30, 31, 32, 33, 34, 35, 36, 37, 38, 39, 40, 41, 42, 43, 44, 45, 46, 47, 48, 49, 50, 51, 52, 53, 54, 55, 56, 57, 58, 59, 60, 61, 62, 63, 64, 65, 66, 67, 68, 69, 70, 71, 72, 73, 74, 75, 76] (fun i => i ≤ hs.length ∧ HkN (l.map (·.e)) hs i) (fun i => hs.length - i) (fun i => [(7, .int .i64 i)]) (0) ?_ ⟨rfl, trivial⟩ (fun i hI => ?_)
 exact ⟨Nat.zero_le _, nofun⟩
 refine w_seq ?_
 refine w_seq ?_
 refine w_region ?_
 refine o_y (y_move rfl) rfl rfl ?_
 refine o_y (y_move rfl) rfl rfl ?_
 refine o_y (y_lenl Tryz.underlying25 rfl) rfl rfl ?_
 refine o_y (y_lss rfl rfl) rfl rfl ?_
 refine wl_splitp (t := 19) rfl (fun h5_3 => ?_) (fun h5_3 => ?_)
 have hi : i < hs.length := by omega
 have hp9 := mem_getD (d := hd0) hi
 have hpl := (hhh _ hp9).1
 have hpa := (hhh _ hp9).2
 refine wl_nil ?_
 refine e_seq ?_
 refine w_cond_t rfl ?_
 refine w_skip ?_
 refine e_seq ?_
 refine w_seq ?_
 refine w_block ?_
 refine w_joinX (σ := {r : Option Le // FE l (hs.getD i hd0).host r} × Nat) (fun g => [(8, .pointer (some ⟨g.2, 0, none⟩)), (9, .bool g.1.1.isSome)]) (fun g => [Ch.row g.2 (elC (g.1.1.getD le0)) 47]) (fun g => ?_) (fun J7 => ?_)
 refine w_seq ?_
 refine w_seq ?_
 obtain ⟨⟨rb, hrb⟩, qb⟩ := g
 refine w_region ?_
 refine o_y (y_move rfl) rfl rfl ?_
 refine wl_splitb (t := 32) rfl (fun h8_0 => ?_) (fun h8_0 => ?_)
 refine o_y (y_not rfl) rfl rfl ?_
 refine o_y (y_move rfl) rfl rfl ?_
 refine wl_gyes rfl rfl ?_
 refine o_y (y_field fa_47_1 rfl) rfl rfl ?_
 refine wl_gyes rfl rfl ?_
 refine o_y (y_loadr 0 ty_3 rfl rfl rfl) rfl rfl ?_
 refine wl_gyes rfl rfl ?_
 refine o_y (y_neq rfl rfl) rfl rfl ?_
 refine wl_splitp (t := 37) rfl (fun h8_5 => ?_) (fun h8_5 => ?_)
 refine o_y (y_pick_f rfl rfl) rfl rfl ?_
 refine o_y (y_move rfl) rfl rfl ?_
 refine wl_gno rfl rfl rfl rfl ?_
 refine wl_gno rfl rfl rfl rfl ?_
 refine wl_gno rfl rfl rfl rfl ?_
 refine wl_gno rfl rfl rfl rfl ?_
 refine wl_gno rfl rfl rfl rfl ?_
 refine wl_gno rfl rfl rfl rfl ?_
 refine wl_gno rfl rfl rfl rfl ?_
 refine o_y (y_pick_t rfl rfl) rfl rfl ?_
 refine wl_nil ?_
 refine e_seq ?_
 refine w_cond_t rfl ?_
 refine w_seq ?_
 refine w_region ?_
 refine o_y (y_assign rfl) rfl rfl ?_
 refine o_y (y_assign rfl) rfl rfl ?_
 refine wl_nil ?_
 refine e_seq ?_
 refine w_ret ?_
 refine e_seq_ret ?_
 refine e_blk_ret ?_
 refine e_seq_ret ?_
 refine e_loop_ret ?_
 refine e_blk_ret ?_
 refine e_seq_ret ?_
 refine e_ret (ts := [4, 5]) rfl rfl rfl (fun w hw => ?_)
 focus first
   | (have hno : ¬ HeldOk (l.map (·.e)) hs := fun H => fe_no hrb (by first | exact .inl h8_0 | exact .inr (.inl h8_5) | exact .inr (.inr h8_14)) (H i hi)
      exact ⟨⟨none, fun _ => hno, nofun⟩, rfl, hw.base, ((hw.weak (List.nil_sublist _) (fun s hs => hs)).rall0).toNews⟩)
   | (have hno : ¬ HeldOk (l.map (·.e)) hs := fun H => by
        have h9 := held_ne H hj hi
        focus first | exact h9.1 ((same2_iff (same2_ck h13_10).1 (same2_ck h13_10).2).1 h13_10) | exact h9.2 h13_22
      exact ⟨⟨none, fun _ => hno, nofun⟩, rfl, hw.base, ((hw.weak (List.nil_sublist _) (fun s hs => hs)).rall0).toNews⟩)
   | (trace_state; fail)
 refine o_y (y_pick_f rfl rfl) rfl rfl ?_
 refine o_y (y_move rfl) rfl rfl ?_
 refine wl_gyes rfl rfl ?_
 refine o_y (y_move rfl) rfl rfl ?_
 refine wl_gyes rfl rfl ?_
 refine o_y (y_move rfl) rfl rfl ?_
 refine wl_gyes rfl rfl ?_
 refine o_y (y_ixm  Tryz.underlying25 ty_42 rfl rfl (rs_S 2 rfl) rfl (by omega)) rfl rfl ?_
 refine wl_gyes rfl rfl ?_
 refine o_y (y_field fa_42_1 rfl) rfl rfl ?_
 refine wl_gyes rfl rfl ?_
 refine o_y (y_ldsm 1 enc_hd hd0 ty_28 rfl (rs_S 2 rfl) (by omega) rfl rfl rfl) rfl rfl ?_
 refine wl_gyes rfl rfl ?_
 refine o_callp rfl ent_65 (c_ref04_Check _ hpa) rfl ?_
 refine wl_gyes rfl rfl ?_
 refine o_y (y_neq rfl rfl) rfl rfl ?_
 refine wl_splitp (t := 46) rfl (fun h8_14 => ?_) (fun h8_14 => ?_)
 refine o_y (y_pick_f rfl rfl) rfl rfl ?_
 refine wl_nil ?_
 refine e_seq ?_
 refine w_cond_t rfl ?_
 refine w_seq ?_
 refine w_region ?_
 refine o_y (y_assign rfl) rfl rfl ?_
 refine o_y (y_assign rfl) rfl rfl ?_
 refine wl_nil ?_
 refine e_seq ?_
 refine w_ret ?_
 refine e_seq_ret ?_
 refine e_blk_ret ?_
 refine e_seq_ret ?_
 refine e_loop_ret ?_
 refine e_blk_ret ?_
 refine e_seq_ret ?_
 refine e_ret (ts := [4, 5]) rfl rfl rfl (fun w hw => ?_)
 focus first
   | (have hno : ¬ HeldOk (l.map (·.e)) hs := fun H => fe_no hrb (by first | exact .inl h8_0 | exact .inr (.inl h8_5) | exact .inr (.inr h8_14)) (H i hi)
      exact ⟨⟨none, fun _ => hno, nofun⟩, rfl, hw.base, ((hw.weak (List.nil_sublist _) (fun s hs => hs)).rall0).toNews⟩)
   | (have hno : ¬ HeldOk (l.map (·.e)) hs := fun H => by
        have h9 := held_ne H hj hi
        focus first | exact h9.1 ((same2_iff (same2_ck h13_10).1 (same2_ck h13_10).2).1 h13_10) | exact h9.2 h13_22
      exact ⟨⟨none, fun _ => hno, nofun⟩, rfl, hw.base, ((hw.weak (List.nil_sublist _) (fun s hs => hs)).rall0).toNews⟩)
   | (trace_state; fail)
 refine o_y (y_pick_f rfl rfl) rfl rfl ?_
 refine wl_nil ?_
 refine e_seq ?_
 refine w_cond_f rfl ?_
 refine w_skip ?_
 refine e_seq ?_
 refine w_seq ?_
 have hOw : OwN (l.map (·.e)) (hs.getD i hd0) := fe_yes hrb h8_0 (Decidable.not_not.1 h8_5) (Decidable.not_not.1 h8_14)
 have hHi := hI.2
 refine w_region ?_
 refine o_y (y_assign rfl) rfl rfl ?_
 refine wl_nil ?_
 refine e_seq ?_
 refine w_block ?_
 refine w_loop0 (σ := Nat) [4, 5, 10, 48, 49, 50, 51, 52, 53, 54, 55, 56, 57, 58, 59, 60, 61, 62, 63, 64, 65, 66, 67, 68, 69, 70, 71, 72, 73, 74, 75, 76] (fun j => j ≤ i ∧ FrN hs i j) (fun j => i - j) (fun j => [(10, .int .i64 j)]) (0) ?_ ⟨rfl, trivial⟩ (fun j hI => ?_)
 exact ⟨Nat.zero_le _, nofun⟩
 refine w_seq ?_
 refine w_seq ?_
 refine w_region ?_
 refine o_y (y_move rfl) rfl rfl ?_
 refine o_y (y_move rfl) rfl rfl ?_
 refine o_y (y_lss rfl rfl) rfl rfl ?_
 refine wl_splitp (t := 50) rfl (fun h11_2 => ?_) (fun h11_2 => ?_)
 have hj : j < i := by omega
 have hq9 := mem_getD (d := hd0) (show j < hs.length by omega)
 have hql := (hhh _ hq9).1
 refine wl_nil ?_
 refine e_seq ?_
 refine w_cond_t rfl ?_
 refine w_skip ?_
 refine e_seq ?_
 refine w_seq ?_
 refine w_block ?_
 refine w_seq ?_
 refine w_drawU 24 rfl mixed ?_
 refine u_take (i := 0) rfl wanted_none (y_move rfl) (fun w h => h) (fun w h => h) rfl (pk_seq (pk_blk (pk_seq (pk_loop (pk_blk (pk_blk (pk_seq (pk_loop (pk_blk (pk_seq pk_fn)))))))))) (by kernel_rfl) rfl ?_
 refine u_take (i := 1) rfl wanted_none (y_move rfl) (fun w h => h) (fun w h => h) rfl (pk_seq (pk_blk (pk_seq (pk_loop (pk_blk (pk_blk (pk_seq (pk_loop (pk_blk (pk_seq pk_fn)))))))))) (by kernel_rfl) rfl ?_
 refine u_take (i := 2) rfl wanted_none (y_ixm  Tryz.underlying25 ty_42 rfl rfl (rs_S 2 rfl) rfl (by omega)) (fun w h => h) (fun w h => h) rfl (pk_seq (pk_blk (pk_seq (pk_loop (pk_blk (pk_blk (pk_seq (pk_loop (pk_blk (pk_seq pk_fn)))))))))) (by kernel_rfl) rfl ?_
 refine u_take (i := 3) rfl wanted_none (y_field fa_42_0 rfl) (fun w h => h) (fun w h => h) rfl (pk_seq (pk_blk (pk_seq (pk_loop (pk_blk (pk_blk (pk_seq (pk_loop (pk_blk (pk_seq pk_fn)))))))))) (by kernel_rfl) rfl ?_
 refine u_take (i := 4) rfl wanted_none (y_ldm0 enc_hd hd0 ty_36 rfl (rs_S 2 rfl) (by omega) rfl rfl) (fun w h => h) (fun w h => h) rfl (pk_seq (pk_blk (pk_seq (pk_loop (pk_blk (pk_blk (pk_seq (pk_loop (pk_blk (pk_seq pk_fn)))))))))) (by kernel_rfl) rfl ?_
 refine u_take (i := 5) rfl wanted_none (y_move rfl) (fun w h => h) (fun w h => h) rfl (pk_seq (pk_blk (pk_seq (pk_loop (pk_blk (pk_blk (pk_seq (pk_loop (pk_blk (pk_seq pk_fn)))))))))) (by kernel_rfl) rfl ?_
 refine u_take (i := 6) rfl wanted_none (y_move rfl) (fun w h => h) (fun w h => h) rfl (pk_seq (pk_blk (pk_seq (pk_loop (pk_blk (pk_blk (pk_seq (pk_loop (pk_blk (pk_seq pk_fn)))))))))) (by kernel_rfl) rfl ?_
 refine u_take (i := 7) rfl wanted_none (y_ixm  Tryz.underlying25 ty_42 rfl rfl (rs_S 2 rfl) rfl (by omega)) (fun w h => h) (fun w h => h) rfl (pk_seq (pk_blk (pk_seq (pk_loop (pk_blk (pk_blk (pk_seq (pk_loop (pk_blk (pk_seq pk_fn)))))))))) (by kernel_rfl) rfl ?_
 refine u_take (i := 8) rfl wanted_none (y_field fa_42_0 rfl) (fun w h => h) (fun w h => h) rfl (pk_seq (pk_blk (pk_seq (pk_loop (pk_blk (pk_blk (pk_seq (pk_loop (pk_blk (pk_seq pk_fn)))))))))) (by kernel_rfl) rfl ?_
 refine u_take (i := 9) rfl wanted_none (y_ldm0 enc_hd hd0 ty_36 rfl (rs_S 2 rfl) (by omega) rfl rfl) (fun w h => h) (fun w h => h) rfl (pk_seq (pk_blk (pk_seq (pk_loop (pk_blk (pk_blk (pk_seq (pk_loop (pk_blk (pk_seq pk_fn)))))))))) (by kernel_rfl) rfl ?_
 refine u_one (i := 10) rfl rfl rfl (tame_call rfl ent_66) (by kernel_rfl) rfl ?_
 refine o_callp rfl ent_66 (c_ref02_Same _ _ (by omega) (by omega)) rfl ?_
 refine wl_nil ?_
 refine eu_one (fun w h => h) ?_
 refine wu_splitb (t := 63) rfl (fun h13_10 => ?_) (fun h13_10 => ?_)
 refine u_take (i := 11) rfl wanted_none (y_move rfl) (fun w h => h) (fun w h => h) rfl (pk_seq (pk_blk (pk_seq (pk_loop (pk_blk (pk_blk (pk_seq (pk_loop (pk_blk (pk_seq pk_fn)))))))))) (by kernel_rfl) rfl ?_
 refine u_skip (i := 12) rfl (wanted_no rfl rfl rfl) (fun w h => h) rfl (pk_seq (pk_blk (pk_seq (pk_loop (pk_blk (pk_blk (pk_seq (pk_loop (pk_blk (pk_seq pk_fn)))))))))) (by kernel_rfl) rfl ?_
 refine u_skip (i := 13) rfl (wanted_no rfl rfl rfl) (fun w h => h) rfl (pk_seq (pk_blk (pk_seq (pk_loop (pk_blk (pk_blk (pk_seq (pk_loop (pk_blk (pk_seq pk_fn)))))))))) (by kernel_rfl) rfl ?_
 refine u_skip (i := 14) rfl (wanted_no rfl rfl rfl) (fun w h => h) rfl (pk_seq (pk_blk (pk_seq (pk_loop (pk_blk (pk_blk (pk_seq (pk_loop (pk_blk (pk_seq pk_fn)))))))))) (by kernel_rfl) rfl ?_
 refine u_skip (i := 15) rfl (wanted_no rfl rfl rfl) (fun w h => h) rfl (pk_seq (pk_blk (pk_seq (pk_loop (pk_blk (pk_blk (pk_seq (pk_loop (pk_blk (pk_seq pk_fn)))))))))) (by kernel_rfl) rfl ?_
 refine u_skip (i := 16) rfl (wanted_no rfl rfl rfl) (fun w h => h) rfl (pk_seq (pk_blk (pk_seq (pk_loop (pk_blk (pk_blk (pk_seq (pk_loop (pk_blk (pk_seq pk_fn)))))))))) (by kernel_rfl) rfl ?_
 refine u_skip (i := 17) rfl (wanted_no rfl rfl rfl) (fun w h => h) rfl (pk_seq (pk_blk (pk_seq (pk_loop (pk_blk (pk_blk (pk_seq (pk_loop (pk_blk (pk_seq pk_fn)))))))))) (by kernel_rfl) rfl ?_
 refine u_skip (i := 18) rfl (wanted_no rfl rfl rfl) (fun w h => h) rfl (pk_seq (pk_blk (pk_seq (pk_loop (pk_blk (pk_blk (pk_seq (pk_loop (pk_blk (pk_seq pk_fn)))))))))) (by kernel_rfl) rfl ?_
 refine u_skip (i := 19) rfl (wanted_no rfl rfl rfl) (fun w h => h) rfl (pk_seq (pk_blk (pk_seq (pk_loop (pk_blk (pk_blk (pk_seq (pk_loop (pk_blk (pk_seq pk_fn)))))))))) (by kernel_rfl) rfl ?_
 refine u_skip (i := 20) rfl (wanted_no rfl rfl rfl) (fun w h => h) rfl (pk_seq (pk_blk (pk_seq (pk_loop (pk_blk (pk_blk (pk_seq (pk_loop (pk_blk (pk_seq pk_fn)))))))))) (by kernel_rfl) rfl ?_
 refine u_skip (i := 21) rfl (wanted_no rfl rfl rfl) (fun w h => h) rfl (pk_seq (pk_blk (pk_seq (pk_loop (pk_blk (pk_blk (pk_seq (pk_loop (pk_blk (pk_seq pk_fn)))))))))) (by kernel_rfl) rfl ?_
 refine u_skip (i := 22) rfl (wanted_no rfl rfl rfl) (fun w h => h) rfl (pk_seq (pk_blk (pk_seq (pk_loop (pk_blk (pk_blk (pk_seq (pk_loop (pk_blk (pk_seq pk_fn)))))))))) (by kernel_rfl) rfl ?_
 refine u_take (i := 23) rfl wanted_none (y_pick_t rfl rfl) (fun w h => h) (fun w h => h) rfl (pk_seq (pk_blk (pk_seq (pk_loop (pk_blk (pk_blk (pk_seq (pk_loop (pk_blk (pk_seq pk_fn)))))))))) (by kernel_rfl) rfl ?_
 refine u_done (by kernel_rfl) ?_
 refine e_seq ?_
 refine w_cond_t rfl ?_
 refine w_seq ?_
 refine w_region ?_
 refine o_y (y_assign rfl) rfl rfl ?_
 refine o_y (y_assign rfl) rfl rfl ?_
 refine wl_nil ?_
 refine e_seq ?_
 refine w_ret ?_
 refine e_blk_ret ?_
 refine e_seq_ret ?_
 refine e_loop_ret ?_
 refine e_blk_ret ?_
 refine e_blk_ret ?_
 refine e_seq_ret ?_
 refine e_loop_ret ?_
 refine e_blk_ret ?_
 refine e_seq_ret ?_
 refine e_ret (ts := [4, 5]) rfl rfl rfl (fun w hw => ?_)
 focus first
   | (have hno : ¬ HeldOk (l.map (·.e)) hs := fun H => fe_no hrb (by first | exact .inl h8_0 | exact .inr (.inl h8_5) | exact .inr (.inr h8_14)) (H i hi)
      exact ⟨⟨none, fun _ => hno, nofun⟩, rfl, hw.base, ((hw.weak (List.nil_sublist _) (fun s hs => hs)).rall0).toNews⟩)
   | (have hno : ¬ HeldOk (l.map (·.e)) hs := fun H => by
        have h9 := held_ne H hj hi
        focus first | exact h9.1 ((same2_iff (same2_ck h13_10).1 (same2_ck h13_10).2).1 h13_10) | exact h9.2 h13_22
      exact ⟨⟨none, fun _ => hno, nofun⟩, rfl, hw.base, ((hw.weak (List.nil_sublist _) (fun s hs => hs)).rall0).toNews⟩)
   | (trace_state; fail)
 refine u_take (i := 11) rfl wanted_none (y_move rfl) (fun w h => h) (fun w h => h) rfl (pk_seq (pk_blk (pk_seq (pk_loop (pk_blk (pk_blk (pk_seq (pk_loop (pk_blk (pk_seq pk_fn)))))))))) (by kernel_rfl) rfl ?_
 refine u_take (i := 12) rfl (wanted_yes rfl rfl) (y_move rfl) (fun w h => h) (fun w h => h) rfl (pk_seq (pk_blk (pk_seq (pk_loop (pk_blk (pk_blk (pk_seq (pk_loop (pk_blk (pk_seq pk_fn)))))))))) (by kernel_rfl) rfl ?_
 refine u_take (i := 13) rfl (wanted_yes rfl rfl) (y_move rfl) (fun w h => h) (fun w h => h) rfl (pk_seq (pk_blk (pk_seq (pk_loop (pk_blk (pk_blk (pk_seq (pk_loop (pk_blk (pk_seq pk_fn)))))))))) (by kernel_rfl) rfl ?_
 refine u_take (i := 14) rfl (wanted_yes rfl rfl) (y_ixm  Tryz.underlying25 ty_42 rfl rfl (rs_S 2 rfl) rfl (by omega)) (fun w h => h) (fun w h => h) rfl (pk_seq (pk_blk (pk_seq (pk_loop (pk_blk (pk_blk (pk_seq (pk_loop (pk_blk (pk_seq pk_fn)))))))))) (by kernel_rfl) rfl ?_
 refine u_take (i := 15) rfl (wanted_yes rfl rfl) (y_field fa_42_1 rfl) (fun w h => h) (fun w h => h) rfl (pk_seq (pk_blk (pk_seq (pk_loop (pk_blk (pk_blk (pk_seq (pk_loop (pk_blk (pk_seq pk_fn)))))))))) (by kernel_rfl) rfl ?_
 refine u_take (i := 16) rfl (wanted_yes rfl rfl) (y_ldsm 1 enc_hd hd0 ty_28 rfl (rs_S 2 rfl) (by omega) rfl rfl rfl) (fun w h => h) (fun w h => h) rfl (pk_seq (pk_blk (pk_seq (pk_loop (pk_blk (pk_blk (pk_seq (pk_loop (pk_blk (pk_seq pk_fn)))))))))) (by kernel_rfl) rfl ?_
 refine u_take (i := 17) rfl (wanted_yes rfl rfl) (y_move rfl) (fun w h => h) (fun w h => h) rfl (pk_seq (pk_blk (pk_seq (pk_loop (pk_blk (pk_blk (pk_seq (pk_loop (pk_blk (pk_seq pk_fn)))))))))) (by kernel_rfl) rfl ?_
 refine u_take (i := 18) rfl (wanted_yes rfl rfl) (y_move rfl) (fun w h => h) (fun w h => h) rfl (pk_seq (pk_blk (pk_seq (pk_loop (pk_blk (pk_blk (pk_seq (pk_loop (pk_blk (pk_seq pk_fn)))))))))) (by kernel_rfl) rfl ?_
 refine u_take (i := 19) rfl (wanted_yes rfl rfl) (y_ixm  Tryz.underlying25 ty_42 rfl rfl (rs_S 2 rfl) rfl (by omega)) (fun w h => h) (fun w h => h) rfl (pk_seq (pk_blk (pk_seq (pk_loop (pk_blk (pk_blk (pk_seq (pk_loop (pk_blk (pk_seq pk_fn)))))))))) (by kernel_rfl) rfl ?_
 refine u_take (i := 20) rfl (wanted_yes rfl rfl) (y_field fa_42_1 rfl) (fun w h => h) (fun w h => h) rfl (pk_seq (pk_blk (pk_seq (pk_loop (pk_blk (pk_blk (pk_seq (pk_loop (pk_blk (pk_seq pk_fn)))))))))) (by kernel_rfl) rfl ?_
 refine u_take (i := 21) rfl (wanted_yes rfl rfl) (y_ldsm 1 enc_hd hd0 ty_28 rfl (rs_S 2 rfl) (by omega) rfl rfl rfl) (fun w h => h) (fun w h => h) rfl (pk_seq (pk_blk (pk_seq (pk_loop (pk_blk (pk_blk (pk_seq (pk_loop (pk_blk (pk_seq pk_fn)))))))))) (by kernel_rfl) rfl ?_
 refine u_take (i := 22) rfl (wanted_yes rfl rfl) (y_eqst (by kernel_rfl) rfl rfl (eqd_ad _ _) rfl) (fun w h => h) (fun w h => h) rfl (pk_seq (pk_blk (pk_seq (pk_loop (pk_blk (pk_blk (pk_seq (pk_loop (pk_blk (pk_seq pk_fn)))))))))) (by kernel_rfl) rfl ?_
 refine wu_splitp (t := 75) rfl (fun h13_22 => ?_) (fun h13_22 => ?_)
 refine u_take (i := 23) rfl wanted_none (y_pick_f rfl rfl) (fun w h => h) (fun w h => h) rfl (pk_seq (pk_blk (pk_seq (pk_loop (pk_blk (pk_blk (pk_seq (pk_loop (pk_blk (pk_seq pk_fn)))))))))) (by kernel_rfl) rfl ?_
 refine u_done (by kernel_rfl) ?_
 refine e_seq ?_
 refine w_cond_t rfl ?_
 refine w_seq ?_
 refine w_region ?_
 refine o_y (y_assign rfl) rfl rfl ?_
 refine o_y (y_assign rfl) rfl rfl ?_
 refine wl_nil ?_
 refine e_seq ?_
 refine w_ret ?_
 refine e_blk_ret ?_
 refine e_seq_ret ?_
 refine e_loop_ret ?_
 refine e_blk_ret ?_
 refine e_blk_ret ?_
 refine e_seq_ret ?_
 refine e_loop_ret ?_
 refine e_blk_ret ?_
 refine e_seq_ret ?_
 refine e_ret (ts := [4, 5]) rfl rfl rfl (fun w hw => ?_)
 focus first
   | (have hno : ¬ HeldOk (l.map (·.e)) hs := fun H => fe_no hrb (by first | exact .inl h8_0 | exact .inr (.inl h8_5) | exact .inr (.inr h8_14)) (H i hi)
      exact ⟨⟨none, fun _ => hno, nofun⟩, rfl, hw.base, ((hw.weak (List.nil_sublist _) (fun s hs => hs)).rall0).toNews⟩)
   | (have hno : ¬ HeldOk (l.map (·.e)) hs := fun H => by
        have h9 := held_ne H hj hi
        focus first | exact h9.1 ((same2_iff (same2_ck h13_10).1 (same2_ck h13_10).2).1 h13_10) | exact h9.2 h13_22
      exact ⟨⟨none, fun _ => hno, nofun⟩, rfl, hw.base, ((hw.weak (List.nil_sublist _) (fun s hs => hs)).rall0).toNews⟩)
   | (trace_state; fail)
 refine u_take (i := 23) rfl wanted_none (y_pick_f rfl rfl) (fun w h => h) (fun w h => h) rfl (pk_seq (pk_blk (pk_seq (pk_loop (pk_blk (pk_blk (pk_seq (pk_loop (pk_blk (pk_seq pk_fn)))))))))) (by kernel_rfl) rfl ?_
 refine u_done (by kernel_rfl) ?_
 refine e_seq ?_
 refine w_cond_f rfl ?_
 refine w_skip ?_
 refine e_blk ?_
 refine e_seq ?_
 refine w_region ?_
 refine o_y (y_move rfl) rfl rfl ?_
 refine o_y (y_addi rfl rfl (by omega) (by omega)) rfl rfl ?_
 refine o_y (y_assign rfl) rfl rfl ?_
 refine wl_nil ?_
 refine e_back (j + 1) ?_ ?_ ⟨rfl, trivial⟩ (by repeat (first | exact trivial | refine ⟨rfl, ?_⟩)) (fun w h => h)
 exact ⟨by omega, fr_step hHi hOw hI.2 hj h13_10 h13_22⟩
 omega
 refine wl_nil ?_
 refine e_seq ?_
 refine w_cond_f rfl ?_
 refine w_exit ?_
 refine e_seq_exit ?_
 refine e_loop_exit ?_
 refine e_blk_hit ?_
 refine e_blk ?_
 refine e_seq ?_
 refine w_region ?_
 refine o_y (y_move rfl) rfl rfl ?_
 refine o_y (y_addi rfl rfl (by omega) (by omega)) rfl rfl ?_
 refine o_y (y_assign rfl) rfl rfl ?_
 refine wl_nil ?_
 refine e_back (i + 1) ?_ ?_ ⟨rfl, trivial⟩ (by repeat (first | exact trivial | refine ⟨rfl, ?_⟩)) (fun w h => h.weak (.cons _ (List.Sublist.refl _)) (fun s hs => hs))
 exact ⟨by omega, hk_step hHi hOw (fun q hq => hI.2 q (by omega)) hi⟩
 omega
 refine o_y (y_not rfl) rfl rfl ?_
 refine o_y (y_move rfl) rfl rfl ?_
 refine wl_gno rfl rfl rfl rfl ?_
 refine wl_gno rfl rfl rfl rfl ?_
 refine wl_gno rfl rfl rfl rfl ?_
 refine o_y (y_pick_t rfl rfl) rfl rfl ?_
 refine o_y (y_move rfl) rfl rfl ?_
 refine wl_gno rfl rfl rfl rfl ?_
 refine wl_gno rfl rfl rfl rfl ?_
 refine wl_gno rfl rfl rfl rfl ?_
 refine wl_gno rfl rfl rfl rfl ?_
 refine wl_gno rfl rfl rfl rfl ?_
 refine wl_gno rfl rfl rfl rfl ?_
 refine wl_gno rfl rfl rfl rfl ?_
 refine o_y (y_pick_t rfl rfl) rfl rfl ?_
 refine wl_nil ?_
 refine e_seq ?_
 refine w_cond_t rfl ?_
 refine w_seq ?_
 refine w_region ?_
 refine o_y (y_assign rfl) rfl rfl ?_
 refine o_y (y_assign rfl) rfl rfl ?_
 refine wl_nil ?_
 refine e_seq ?_
 refine w_ret ?_
 refine e_seq_ret ?_
 refine e_blk_ret ?_
 refine e_seq_ret ?_
 refine e_loop_ret ?_
 refine e_blk_ret ?_
 refine e_seq_ret ?_
 refine e_ret (ts := [4, 5]) rfl rfl rfl (fun w hw => ?_)
 focus first
   | (have hno : ¬ HeldOk (l.map (·.e)) hs := fun H => fe_no hrb (by first | exact .inl h8_0 | exact .inr (.inl h8_5) | exact .inr (.inr h8_14)) (H i hi)
      exact ⟨⟨none, fun _ => hno, nofun⟩, rfl, hw.base, ((hw.weak (List.nil_sublist _) (fun s hs => hs)).rall0).toNews⟩)
   | (have hno : ¬ HeldOk (l.map (·.e)) hs := fun H => by
        have h9 := held_ne H hj hi
        focus first | exact h9.1 ((same2_iff (same2_ck h13_10).1 (same2_ck h13_10).2).1 h13_10) | exact h9.2 h13_22
      exact ⟨⟨none, fun _ => hno, nofun⟩, rfl, hw.base, ((hw.weak (List.nil_sublist _) (fun s hs => hs)).rall0).toNews⟩)
   | (trace_state; fail)
 refine w_seq ?_
 refine w_drawU 11 rfl mixed ?_
 refine u_take (i := 0) rfl wanted_none (y_loadrs 0 ty_24 rfl rfl rfl rfl) (fun w h => h) (fun w h => h) rfl (pk_seq (pk_blk (pk_seq (pk_loop (pk_blk (pk_seq pk_fn)))))) (by kernel_rfl) rfl ?_
 refine u_take (i := 1) rfl wanted_none (y_move rfl) (fun w h => h) (fun w h => h) rfl (pk_seq (pk_blk (pk_seq (pk_loop (pk_blk (pk_seq pk_fn)))))) (by kernel_rfl) rfl ?_
 refine u_take (i := 2) rfl wanted_none (y_move rfl) (fun w h => h) (fun w h => h) rfl (pk_seq (pk_blk (pk_seq (pk_loop (pk_blk (pk_seq pk_fn)))))) (by kernel_rfl) rfl ?_
 refine u_take (i := 3) rfl wanted_none (y_ixm  Tryz.underlying25 ty_42 rfl rfl (rs_S 2 rfl) rfl (by omega)) (fun w h => h) (fun w h => h) rfl (pk_seq (pk_blk (pk_seq (pk_loop (pk_blk (pk_seq pk_fn)))))) (by kernel_rfl) rfl ?_
 refine u_take (i := 4) rfl wanted_none (y_field fa_42_0 rfl) (fun w h => h) (fun w h => h) rfl (pk_seq (pk_blk (pk_seq (pk_loop (pk_blk (pk_seq pk_fn)))))) (by kernel_rfl) rfl ?_
 refine u_take (i := 5) rfl wanted_none (y_ldm0 enc_hd hd0 ty_36 rfl (rs_S 2 rfl) (by omega) rfl rfl) (fun w h => h) (fun w h => h) rfl (pk_seq (pk_blk (pk_seq (pk_loop (pk_blk (pk_seq pk_fn)))))) (by kernel_rfl) rfl ?_
 refine u_many (js := [6, 10]) (by kernel_rfl) rfl ?_
 refine wru_cons (i := 6) rfl rfl rfl (tame_call rfl ent_14) rfl ?_ ?_
 refine o_callr0 rfl ent_14 rfl (c_ref17_Find v l _ _ (hs.getD i hd0).host hok (by omega) (by omega) h0) (fun w hw => (rd_cons (rd_S 0 rfl hw) (rd_cons (rd_S 1 rfl hw) rd_nil))) (fun ⟨rb, hrb⟩ => ?_)
 refine wl_nil ?_
 refine eu_one (fun w h => h) ?_
 refine u_take (i := 7) rfl wanted_none (y_move rfl) (fun w h => h) (fun w h => h) rfl (pk_seq (pk_blk (pk_seq (pk_loop (pk_blk (pk_seq pk_fn)))))) (by kernel_rfl) rfl ?_
 refine u_take (i := 8) rfl wanted_none (y_extract rfl rfl) (fun w h => h) (fun w h => h) rfl (pk_seq (pk_blk (pk_seq (pk_loop (pk_blk (pk_seq pk_fn)))))) (by kernel_rfl) rfl ?_
 refine u_many (js := [9, 10]) (by kernel_rfl) rfl ?_
 refine wru_cons (i := 9) rfl rfl rfl (fun _ _ _ => tame_op (by kernel_rfl)) rfl ?_ ?_
 refine o_y (y_extract rfl rfl) rfl rfl ?_
 refine wl_nil ?_
 refine eu_one (fun w h => h) ?_
 refine u_one (i := 10) rfl rfl rfl (fun _ _ _ => tame_op (by kernel_rfl)) (by kernel_rfl) rfl ?_
 refine o_alloc ty_47 rfl rfl (fun b3 => ?_)
 refine wl_nil ?_
 refine eu_one (fun w h => h.weak (.cons _ (List.Sublist.refl _)) (fun s hs => hs)) ?_
 refine u_one (i := 11) rfl rfl rfl (fun _ _ _ => tame_op (by kernel_rfl)) (by kernel_rfl) rfl ?_
 refine o_store ty_47 rfl rfl rfl .z rfl rfl rfl rfl ?_
 refine wl_nil ?_
 refine eu_tail rfl ?_
 refine u_one (i := 12) rfl rfl rfl (fun _ _ _ => tame_op (by kernel_rfl)) (by kernel_rfl) rfl ?_
 refine o_y (y_assign rfl) rfl rfl ?_
 refine wl_nil ?_
 refine eu_tail rfl ?_
 refine u_done (by kernel_rfl) ?_
 refine e_seq ?_
 refine w_heap (fun w h => h.weak (.cons_cons _ (List.Sublist.refl _)) (fun s hs => hs)) ?_
 exact J7 (⟨rb, hrb⟩, b3) _ (by repeat (first | exact trivial | refine ⟨rfl, ?_⟩))
 refine wru_cons (i := 10) rfl rfl rfl (fun _ _ _ => tame_op (by kernel_rfl)) rfl ?_ ?_
 refine o_alloc ty_47 rfl rfl (fun b4 => ?_)
 refine wl_nil ?_
 refine eu_one (fun w h => h.weak (.cons _ (List.Sublist.refl _)) (fun s hs => hs)) ?_
 refine u_many (js := [9, 11]) (by kernel_rfl) rfl ?_
 refine wru_cons (i := 9) rfl rfl rfl (fun _ _ _ => tame_op (by kernel_rfl)) rfl ?_ ?_
 refine o_y (y_extract rfl rfl) rfl rfl ?_
 refine wl_nil ?_
 refine eu_one (fun w h => h.weak (.cons _ (List.Sublist.refl _)) (fun s hs => hs)) ?_
 refine u_one (i := 11) rfl rfl rfl (fun _ _ _ => tame_op (by kernel_rfl)) (by kernel_rfl) rfl ?_
 refine o_store ty_47 rfl rfl rfl .z rfl rfl rfl rfl ?_
 refine wl_nil ?_
 refine eu_tail rfl ?_
 refine u_one (i := 12) rfl rfl rfl (fun _ _ _ => tame_op (by kernel_rfl)) (by kernel_rfl) rfl ?_
 refine o_y (y_assign rfl) rfl rfl ?_
 refine wl_nil ?_
 refine eu_tail rfl ?_
 refine u_done (by kernel_rfl) ?_
 refine e_seq ?_
 refine w_heap (fun w h => h.weak (.cons_cons _ (List.Sublist.refl _)) (fun s hs => hs)) ?_
 exact J7 (⟨rb, hrb⟩, b4) _ (by repeat (first | exact trivial | refine ⟨rfl, ?_⟩))
 refine wru_cons (i := 11) rfl rfl rfl (fun _ _ _ => tame_op (by kernel_rfl)) rfl ?_ ?_
 refine o_store ty_47 rfl rfl rfl .z rfl rfl rfl rfl ?_
 refine wl_nil ?_
 refine eu_tail rfl ?_
 refine u_one (i := 9) rfl rfl rfl (fun _ _ _ => tame_op (by kernel_rfl)) (by kernel_rfl) rfl ?_
 refine o_y (y_extract rfl rfl) rfl rfl ?_
 refine wl_nil ?_
 refine eu_tail rfl ?_
 refine u_one (i := 12) rfl rfl rfl (fun _ _ _ => tame_op (by kernel_rfl)) (by kernel_rfl) rfl ?_
 refine o_y (y_assign rfl) rfl rfl ?_
 refine wl_nil ?_
 refine eu_tail rfl ?_
 refine u_done (by kernel_rfl) ?_
 refine e_seq ?_
 refine w_heap (fun w h => h.weak (.cons_cons _ (List.Sublist.refl _)) (fun s hs => hs)) ?_
 exact J7 (⟨rb, hrb⟩, b4) _ (by repeat (first | exact trivial | refine ⟨rfl, ?_⟩))
 exact wru_nil
 exact wru_nil
 refine wru_cons (i := 10) rfl rfl rfl (fun _ _ _ => tame_op (by kernel_rfl)) rfl ?_ ?_
 refine o_alloc ty_47 rfl rfl (fun b5 => ?_)
 refine wl_nil ?_
 refine eu_one (fun w h => h.weak (.cons _ (List.Sublist.refl _)) (fun s hs => hs)) ?_
 refine u_one (i := 6) rfl rfl rfl (tame_call rfl ent_14) (by kernel_rfl) rfl ?_
 refine o_callr0 rfl ent_14 rfl (c_ref17_Find v l _ _ (hs.getD i hd0).host hok (by omega) (by omega) h0) (fun w hw => (rd_cons (rd_S 0 rfl hw) (rd_cons (rd_S 1 rfl hw) rd_nil))) (fun ⟨rb, hrb⟩ => ?_)
 refine wl_nil ?_
 refine eu_one (fun w h => h.weak (.cons _ (List.Sublist.refl _)) (fun s hs => hs)) ?_
 refine u_take (i := 7) rfl wanted_none (y_move rfl) (fun w h => h.weak (.cons _ (List.Sublist.refl _)) (fun s hs => hs)) (fun w h => h) rfl (pk_seq (pk_blk (pk_seq (pk_loop (pk_blk (pk_seq pk_fn)))))) (by kernel_rfl) rfl ?_
 refine u_take (i := 8) rfl wanted_none (y_extract rfl rfl) (fun w h => h.weak (.cons _ (List.Sublist.refl _)) (fun s hs => hs)) (fun w h => h) rfl (pk_seq (pk_blk (pk_seq (pk_loop (pk_blk (pk_seq pk_fn)))))) (by kernel_rfl) rfl ?_
 refine u_many (js := [9, 11]) (by kernel_rfl) rfl ?_
 refine wru_cons (i := 9) rfl rfl rfl (fun _ _ _ => tame_op (by kernel_rfl)) rfl ?_ ?_
 refine o_y (y_extract rfl rfl) rfl rfl ?_
 refine wl_nil ?_
 refine eu_one (fun w h => h.weak (.cons _ (List.Sublist.refl _)) (fun s hs => hs)) ?_
 refine u_one (i := 11) rfl rfl rfl (fun _ _ _ => tame_op (by kernel_rfl)) (by kernel_rfl) rfl ?_
 refine o_store ty_47 rfl rfl rfl .z rfl rfl rfl rfl ?_
 refine wl_nil ?_
 refine eu_tail rfl ?_
 refine u_one (i := 12) rfl rfl rfl (fun _ _ _ => tame_op (by kernel_rfl)) (by kernel_rfl) rfl ?_
 refine o_y (y_assign rfl) rfl rfl ?_
 refine wl_nil ?_
 refine eu_tail rfl ?_
 refine u_done (by kernel_rfl) ?_
 refine e_seq ?_
 refine w_heap (fun w h => h.weak (.cons_cons _ (List.Sublist.refl _)) (fun s hs => hs)) ?_
 exact J7 (⟨rb, hrb⟩, b5) _ (by repeat (first | exact trivial | refine ⟨rfl, ?_⟩))
 refine wru_cons (i := 11) rfl rfl rfl (fun _ _ _ => tame_op (by kernel_rfl)) rfl ?_ ?_
 refine o_store ty_47 rfl rfl rfl .z rfl rfl rfl rfl ?_
 refine wl_nil ?_
 refine eu_tail rfl ?_
 refine u_one (i := 9) rfl rfl rfl (fun _ _ _ => tame_op (by kernel_rfl)) (by kernel_rfl) rfl ?_
 refine o_y (y_extract rfl rfl) rfl rfl ?_
 refine wl_nil ?_
 refine eu_tail rfl ?_
 refine u_one (i := 12) rfl rfl rfl (fun _ _ _ => tame_op (by kernel_rfl)) (by kernel_rfl) rfl ?_
 refine o_y (y_assign rfl) rfl rfl ?_
 refine wl_nil ?_
 refine eu_tail rfl ?_
 refine u_done (by kernel_rfl) ?_
 refine e_seq ?_
 refine w_heap (fun w h => h.weak (.cons_cons _ (List.Sublist.refl _)) (fun s hs => hs)) ?_
 exact J7 (⟨rb, hrb⟩, b5) _ (by repeat (first | exact trivial | refine ⟨rfl, ?_⟩))
 exact wru_nil
 exact wru_nil
 refine wl_nil ?_
 refine e_seq ?_
 refine w_cond_f rfl ?_
 refine w_exit ?_
 refine e_seq_exit ?_
 refine e_loop_exit ?_
 refine e_blk_hit ?_
 refine e_seq ?_
 refine w_seq ?_
 refine w_drawU 8 rfl mixed ?_
 refine u_take (i := 0) rfl wanted_none (y_loadrs 0 ty_24 rfl rfl rfl rfl) (fun w h => h) (fun w h => h) rfl (pk_seq pk_fn) (by kernel_rfl) rfl ?_
 refine u_take (i := 2) rfl wanted_none (y_move rfl) (fun w h => h) (fun w h => h) rfl (pk_seq pk_fn) (by kernel_rfl) rfl ?_
 refine u_one (i := 1) rfl rfl rfl (fun _ _ _ => tame_op (by kernel_rfl)) (by kernel_rfl) rfl ?_
 refine o_bsl (vs := []) (([] : List Hd) : List (Hd)) enc_hd Tryz.underlying25 ty_42 rfl rfl rfl rfl rfl rfl (fun As7 => ?_)
 refine wl_nil ?_
 refine eu_one (fun w h => h.weak (.cons _ (List.Sublist.refl _)) (fun s hs => hs)) ?_
 refine u_one (i := 3) rfl rfl rfl (fun _ _ _ => tame_op (by kernel_rfl)) (by kernel_rfl) rfl ?_
 refine o_appm (enc := hdC) (sz := 4) hs Tryz.underlying25 ty_42 rfl rfl rfl (fun A c => .z) (src_S 2 Tryz.underlying25 rfl) (by simp only [List.length_cons, List.length_nil, Nat.zero_add]; omega) (by simp only [List.length_cons, List.length_nil, Nat.zero_add]; omega) rfl (fun A7 c7 => ?_)
 refine wl_nil ?_
 refine eu_one (fun w h => h.weak (.cons _ (List.Sublist.refl _)) (fun s hs => hs)) ?_
 refine u_take (i := 4) rfl wanted_none (y_build rfl (bu_117_0_1 _ _ _ _ _ _ _)) (fun w h => h.weak (.cons _ (List.Sublist.refl _)) (fun s hs => hs)) (fun w h => h) rfl (pk_seq pk_fn) (by kernel_rfl) rfl ?_
 refine u_one (i := 5) rfl rfl rfl (fun _ _ _ => tame_op (by kernel_rfl)) (by kernel_rfl) rfl ?_
 refine o_box rfl rfl rfl (fun b9 => ?_)
 refine wl_nil ?_
 refine eu_one (fun w h => h.weak (.cons _ (.cons _ (List.Sublist.refl _))) (fun s hs => hs)) ?_
 refine u_take (i := 6) rfl wanted_none (y_assign rfl) (fun w h => h.weak (.cons _ (.cons _ (List.Sublist.refl _))) (fun s hs => hs)) (fun w h => h) rfl (pk_seq pk_fn) (by kernel_rfl) rfl ?_
 refine u_take (i := 7) rfl wanted_none (y_assign rfl) (fun w h => h.weak (.cons _ (.cons _ (List.Sublist.refl _))) (fun s hs => hs)) (fun w h => h) rfl (pk_seq pk_fn) (by kernel_rfl) rfl ?_
 refine u_done (by kernel_rfl) ?_
 refine e_seq ?_
 refine w_ret ?_
 refine e_ret (ts := [4, 5]) rfl rfl rfl (fun w hw => ?_)
 have hHk : HeldOk (l.map (·.e)) hs := fun q hq => hI.2 q (by omega)
 exact ⟨⟨some (b9, A7, c7), nofun, fun _ => hHk⟩, rfl, hw.base, (Hp.toRall (M := rfD v A l.length c hs (some (b9, A7, c7))) hw (fun h9 => List.forall_mem_cons.2 ⟨h9 _ (.head _), List.forall_mem_cons.2 ⟨SlP.rs (h9 _ (.tail _ (.head _))), nofun⟩⟩) (List.forall_mem_cons.2 ⟨fun b hb => ⟨_, (.head _), hb⟩, List.forall_mem_cons.2 ⟨fun b hb => ⟨_, (.tail _ (.head _)), hb.2⟩, nofun⟩⟩)).toNews⟩

theorem of_held {l : List Le} {hs : List Hd} (H : HeldOk (l.map (·.e)) hs) {p : Hd} (hp : p ∈ hs) {r : Option Le} (hr : FE l p.host r) : r.map (·.e) = ofE (l.map (·.e)) hs p.ad := by
  obtain ⟨⟨q1, ⟨e, q2, -⟩, -⟩, q3, -⟩ := held_at H hp
  rw [hr.e, lookN, if_neg (fun q => q q1), ofE, hdAd, q3, Option.bind_some, q2]; rfl
theorem hdAd_none {hs : List Hd} {a : Ad} (h : ∀ q, q < hs.length → (hs.getD q hd0).ad ≠ a) : hdAd hs a = none := by
  rw [hdAd, List.find?_eq_none]
  intro p hp
  obtain ⟨q, hq, rfl⟩ := List.mem_iff_getElem.1 hp
  have := h q hq
  rw [List.getD_eq_getElem?_getD, List.getElem?_eq_getElem hq] at this
  exact fun h => this (of_decide_eq_true h)
theorem ofE_hit {l : List Le} {hs : List Hd} {a : Ad} (hh : hdAd hs a = none) {i : Nat} (hi : i < l.length) (hno : ∀ q, q < i → a ∉ (l.getD q le0).e.addrs) (ha : a ∈ (l.getD i le0).e.addrs) : some (l.getD i le0).e = ofE (l.map (·.e)) hs a := by
  have e9 : l.getD i le0 = l[i] := by rw [List.getD_eq_getElem?_getD, List.getElem?_eq_getElem hi]; rfl
  have h2 := find_first (F := fun y : Le => decide (a ∈ y.e.addrs)) hi (fun y hy => by
    obtain ⟨q, hq, rfl⟩ := List.mem_iff_getElem.1 hy
    have hq2 : q < i := by simp at hq; omega
    have := hno q hq2
    rw [List.getD_eq_getElem?_getD, List.getElem?_eq_getElem (by omega)] at this
    rw [List.getElem_take]
    exact decide_eq_false this) (by rw [e9] at ha; exact decide_eq_true ha)
  rw [ofE, hh, Option.bind_none, Option.none_or, List.find?_map, e9]
  exact (congrArg (Option.map (·.e)) h2).symm
theorem ofE_miss {l : List Le} {hs : List Hd} {a : Ad} (hh : hdAd hs a = none) (hno : ∀ q, q < l.length → a ∉ (l.getD q le0).e.addrs) : none = ofE (l.map (·.e)) hs a := by
  rw [ofE, hh, Option.bind_none, Option.none_or]
  refine (List.find?_eq_none.2 fun e he => ?_).symm
  obtain ⟨y, hy, rfl⟩ := List.mem_map.1 he
  obtain ⟨q, hq, rfl⟩ := List.mem_iff_getElem.1 hy
  have := hno q hq
  rw [List.getD_eq_getElem?_getD, List.getElem?_eq_getElem hq] at this
  exact fun h => this (of_decide_eq_true h)
theorem no_step {l : List Le} {a : Ad} {i : Nat} (h : ∀ q, q < i → a ∉ (l.getD q le0).e.addrs) (h2 : a ∉ (l.getD i le0).e.addrs) : ∀ q, q < i + 1 → a ∉ (l.getD q le0).e.addrs := fun q hq => by
  by_cases e : q = i
  · rw [e]; exact h2
  · exact h q (by omega)
theorem noh_step {hs : List Hd} {a : Ad} {i : Nat} (h : ∀ q, q < i → (hs.getD q hd0).ad ≠ a) (h2 : (hs.getD i hd0).ad ≠ a) : ∀ q, q < i + 1 → (hs.getD q hd0).ad ≠ a := fun q hq => by
  by_cases e : q = i
  · rw [e]; exact h2
  · exact h q (by omega)
theorem notake_succ {l : List Ad} {k : Nat} {a : Ad} (hk : k < l.length) (h1 : a ∉ l.take k) (h2 : l.getD k ad0 ≠ a) : a ∉ l.take (k + 1) := by
  rw [take_getD l ad0 k hk, List.mem_append, List.mem_singleton]
  rintro (h | h)
  · exact h1 h
  · exact h2 h.symm
theorem fe_bnd {l : List Le} (hok : TbOk l) {y : Le} (hm : y ∈ le0 :: l) : EnB y.e := by
  have h1 : TbOk (le0 :: l) := fun x hx => by
    rcases List.mem_cons.1 hx with rfl | hx
    · exact smE_ok (by decide)
    · exact hok x hx
  obtain ⟨k, hk, rfl⟩ := List.mem_iff_getElem.1 hm
  have := h1.at hk
  rwa [List.getD_eq_getElem?_getD, List.getElem?_eq_getElem hk] at this
/-- What of the held is a host's. -/
def hdF (hs : List Hd) (n : Str) (i : Nat) : List Ad := ((hs.take i).filter fun h => same2 h.host n).map (·.ad)
theorem hdF_step {hs : List Hd} {n : Str} {i : Nat} (hi : i < hs.length) : hdF hs n (i + 1) = hdF hs n i ++ if same2 (hs.getD i hd0).host n = true then [(hs.getD i hd0).ad] else [] := by
  rw [hdF, hdF, take_getD hs hd0 i hi, List.filter_append, List.map_append, List.filter_cons]
  split <;> rfl
theorem hdF_len (hs : List Hd) (n : Str) (i : Nat) : (hdF hs n i).length ≤ hs.length := by
  rw [hdF, List.length_map]
  refine Nat.le_trans (List.length_filter_le _ _) ?_
  rw [List.length_take]; omega
theorem hdF_mem {hs : List Hd} {n : Str} {i : Nat} {a : Ad} (h : a ∈ hdF hs n i) : ∃ p ∈ hs, p.ad = a := by
  obtain ⟨p, hp, e⟩ := List.mem_map.1 h
  exact ⟨p, List.mem_of_mem_take (List.mem_filter.1 hp).1, e⟩
theorem filter_one {key : Str} : ∀ {hs : List Hd}, (hs.Pairwise fun a b => foldN a.host ≠ foldN b.host) → hs.filter (fun h => decide (foldN h.host = key)) = (hs.find? fun h => decide (foldN h.host = key)).toList
  | [], _ => rfl
  | p :: r, h => by
    rw [List.pairwise_cons] at h
    rw [List.filter_cons, List.find?_cons]
    by_cases e : foldN p.host = key
    · rw [decide_eq_true e]
      have : r.filter (fun h => decide (foldN h.host = key)) = [] := by
        rw [List.filter_eq_nil_iff]
        exact fun q hq hk => h.1 q hq (e.trans (of_decide_eq_true hk).symm)
      simp [this]
    · rw [decide_eq_false e]
      simpa using filter_one h.2
theorem hdF_all {es : List En} {hs : List Hd} (H : HeldOk es hs) {n : Str} (hn : nameCk n = 0) : hdF hs n hs.length = ((hdHost hs (foldN n)).map (·.ad)).toList := by
  have h1 : hs.filter (fun h => same2 h.host n) = hs.filter fun h => decide (foldN h.host = foldN n) := List.filter_congr fun p hp => by
    rw [Bool.eq_iff_iff, same2_iff (held_at H hp).1.1 hn]; simp
  rw [hdF, List.take_length, h1, filter_one ((held_iff.1 H).2.imp fun h => h.1), hdHost]
  cases hs.find? fun h => decide (foldN h.host = foldN n) <;> rfl
theorem adsE_none {l : List Le} {hs : List Hd} {n : Str} {r : Option Le} (hr : FE l n r) (h : r.isSome = false) : adsE (l.map (·.e)) hs n = [] := by
  cases r with
  | none => rw [adsE, ← hr.e]; rfl
  | some y => cases h
theorem adsE_some {v : Int} {l : List Le} {hs : List Hd} (h0 : tabCk v l = 0) (H : HeldOk (l.map (·.e)) hs) {n : Str} {r : Option Le} (hr : FE l n r) (h : r.isSome = true) : adsE (l.map (·.e)) hs n = entAd (r.getD le0).e (hdF hs (r.getD le0).e.host hs.length) := by
  cases r with
  | none => cases h
  | some y =>
    have hm := hr.mem
    have hn : nameCk y.e.host = 0 := by
      have h1 := hr.e
      rw [lookN] at h1
      split at h1
      · cases h1
      · exact (tab_hosts h0).ck _ (look_mem h1.symm).1
    rw [adsE, ← hr.e]
    show entAd y.e _ = entAd y.e _
    exact congrArg (entAd y.e) (hdF_all H hn).symm

set_option maxRecDepth 100000 in
set_option maxHeartbeats 1000000 in
theorem c_ref18_Of (v : Int) (l : List Le) (A : Option Addr) (c : Nat) (b : Nat) (Q : Option Addr) (hs : List Hd) (qc : Nat) (a : Ad) (hok : TbOk l) (hlen : l.length ≤ 1000000000) (h0 : tabCk v l = 0) (H : HeldOk (l.map (·.e)) hs) (hhl : hs.length ≤ 1000000) (hhh : ∀ h ∈ hs, h.host.length ≤ 1000 ∧ 0 ≤ h.ad.lo) : RC Tryz.prog 67 #[.pointer (some ⟨b, 0, none⟩), .agg (adC a).toArray] [Ch.row b (rfC v A l.length c Q hs.length qc) 117, Ch.rd A 7 elC l, Ch.rall (l.flatMap elR), Ch.rd Q 4 hdC hs] (α := {r : Option Le // r.map (·.e) = ofE (l.map (·.e)) hs a ∧ r.getD le0 ∈ le0 :: l}) (fun o => .tuple #[.agg (elC (o.1.getD le0)).toArray, .bool o.1.isSome]) (fun o => []) := by
 refine rc_of_W (args := [.pointer (some ⟨b, 0, none⟩), .agg (adC a).toArray]) 78 Tryz.func67 rfl rfl rfl (fun w0 => ?_)
 refine w_seq ?_
 refine w_region ?_
 refine o_box rfl rfl rfl (fun b1 => ?_)
 refine o_alloc ty_47 rfl rfl (fun b2 => ?_)
 refine o_y (y_assign rfl) rfl rfl ?_
 refine wl_nil ?_
 refine e_seq ?_
 refine w_seq ?_
 refine w_seq ?_
 refine w_region ?_
 refine o_y (y_assign rfl) rfl rfl ?_
 refine wl_nil ?_
 refine e_seq ?_
 refine w_block ?_
 refine w_loop0 (σ := Nat) [5, 6, 10, 11, 12, 13, 14, 15, 16, 17, 18, 19, 20, 21, 22, 23, 24, 25, 26, 27, 28, 29, 30, 31, 32, 33, 34, 35, 36, 37, 38, 39, 40, 41, 42, 43] (fun i => i ≤ hs.length ∧ ∀ q, q < i → (hs.getD q hd0).ad ≠ a) (fun i => hs.length - i) (fun i => [(6, .int .i64 i)]) (0) ?_ ⟨rfl, trivial⟩ (fun i hI => ?_)
 exact ⟨Nat.zero_le _, nofun⟩
 refine w_seq ?_
 refine w_seq ?_
 refine w_region ?_
 refine o_y (y_move rfl) rfl rfl ?_
 refine o_y (y_move rfl) rfl rfl ?_
 refine o_y (y_nilCheck rfl) rfl rfl ?_
 refine o_y (y_field fa_117_1 rfl) rfl rfl ?_
 refine o_y (y_loadSo 0 ty_25 rfl rfl rfl) rfl rfl ?_
 refine o_y (y_lenl Tryz.underlying25 rfl) rfl rfl ?_
 refine o_y (y_lss rfl rfl) rfl rfl ?_
 refine wl_splitp (t := 16) rfl (fun h2_6 => ?_) (fun h2_6 => ?_)
 have hi : i < hs.length := by omega
 have hp9 := mem_getD (d := hd0) hi
 have hpl := (hhh _ hp9).1
 refine wl_nil ?_
 refine e_seq ?_
 refine w_cond_t rfl ?_
 refine w_skip ?_
 refine e_seq ?_
 refine w_seq ?_
 refine w_block ?_
 refine w_seq ?_
 refine w_draw 10 rfl mixed ?_
 refine a_take (i := 0) rfl wanted_none (y_move rfl) (fun w h => h) (fun w h => h) rfl (pk_seq (pk_blk (pk_seq (pk_loop (pk_blk (pk_seq pk_fn)))))) (by kernel_rfl) rfl ?_
 refine a_take (i := 1) rfl wanted_none (y_nilCheck rfl) (fun w h => h) (fun w h => h) rfl (pk_seq (pk_blk (pk_seq (pk_loop (pk_blk (pk_seq pk_fn)))))) (by kernel_rfl) rfl ?_
 refine a_take (i := 2) rfl wanted_none (y_field fa_117_1 rfl) (fun w h => h) (fun w h => h) rfl (pk_seq (pk_blk (pk_seq (pk_loop (pk_blk (pk_seq pk_fn)))))) (by kernel_rfl) rfl ?_
 refine a_take (i := 3) rfl wanted_none (y_loadSo 0 ty_25 rfl rfl rfl) (fun w h => h) (fun w h => h) rfl (pk_seq (pk_blk (pk_seq (pk_loop (pk_blk (pk_seq pk_fn)))))) (by kernel_rfl) rfl ?_
 refine a_take (i := 4) rfl wanted_none (y_move rfl) (fun w h => h) (fun w h => h) rfl (pk_seq (pk_blk (pk_seq (pk_loop (pk_blk (pk_seq pk_fn)))))) (by kernel_rfl) rfl ?_
 refine a_take (i := 5) rfl wanted_none (y_ixm  Tryz.underlying25 ty_42 rfl rfl (rs_S 3 rfl) rfl (by omega)) (fun w h => h) (fun w h => h) rfl (pk_seq (pk_blk (pk_seq (pk_loop (pk_blk (pk_seq pk_fn)))))) (by kernel_rfl) rfl ?_
 refine a_take (i := 6) rfl wanted_none (y_field fa_42_1 rfl) (fun w h => h) (fun w h => h) rfl (pk_seq (pk_blk (pk_seq (pk_loop (pk_blk (pk_seq pk_fn)))))) (by kernel_rfl) rfl ?_
 refine a_take (i := 7) rfl wanted_none (y_ldsm 1 enc_hd hd0 ty_28 rfl (rs_S 3 rfl) (by omega) rfl rfl rfl) (fun w h => h) (fun w h => h) rfl (pk_seq (pk_blk (pk_seq (pk_loop (pk_blk (pk_seq pk_fn)))))) (by kernel_rfl) rfl ?_
 refine a_take (i := 8) rfl wanted_none (y_loadrs 1 ty_28 rfl rfl rfl rfl) (fun w h => h) (fun w h => h) rfl (pk_seq (pk_blk (pk_seq (pk_loop (pk_blk (pk_seq pk_fn)))))) (by kernel_rfl) rfl ?_
 refine a_take (i := 9) rfl wanted_none (y_eqst (by kernel_rfl) rfl rfl (eqd_ad _ _) rfl) (fun w h => h) (fun w h => h) rfl (pk_seq (pk_blk (pk_seq (pk_loop (pk_blk (pk_seq pk_fn)))))) (by kernel_rfl) rfl ?_
 refine wa_splitp (t := 28) rfl (fun h4_9 => ?_) (fun h4_9 => ?_)
 refine a_done (by kernel_rfl) ?_
 refine e_seq ?_
 refine w_cond_t rfl ?_
 refine w_seq ?_
 refine w_draw 15 rfl mixed ?_
 refine a_take (i := 0) rfl wanted_none (y_move rfl) (fun w h => h) (fun w h => h) rfl (pk_seq (pk_blk (pk_seq (pk_loop (pk_blk (pk_seq pk_fn)))))) (by kernel_rfl) rfl ?_
 refine a_take (i := 1) rfl wanted_none (y_nilCheck rfl) (fun w h => h) (fun w h => h) rfl (pk_seq (pk_blk (pk_seq (pk_loop (pk_blk (pk_seq pk_fn)))))) (by kernel_rfl) rfl ?_
 refine a_take (i := 2) rfl wanted_none (y_field fa_117_0 rfl) (fun w h => h) (fun w h => h) rfl (pk_seq (pk_blk (pk_seq (pk_loop (pk_blk (pk_seq pk_fn)))))) (by kernel_rfl) rfl ?_
 refine a_take (i := 3) rfl wanted_none (y_loadSos 0 ty_24 rfl rfl rfl rfl) (fun w h => h) (fun w h => h) rfl (pk_seq (pk_blk (pk_seq (pk_loop (pk_blk (pk_seq pk_fn)))))) (by kernel_rfl) rfl ?_
 refine a_take (i := 4) rfl wanted_none (y_move rfl) (fun w h => h) (fun w h => h) rfl (pk_seq (pk_blk (pk_seq (pk_loop (pk_blk (pk_seq pk_fn)))))) (by kernel_rfl) rfl ?_
 refine a_take (i := 5) rfl wanted_none (y_nilCheck rfl) (fun w h => h) (fun w h => h) rfl (pk_seq (pk_blk (pk_seq (pk_loop (pk_blk (pk_seq pk_fn)))))) (by kernel_rfl) rfl ?_
 refine a_take (i := 6) rfl wanted_none (y_field fa_117_1 rfl) (fun w h => h) (fun w h => h) rfl (pk_seq (pk_blk (pk_seq (pk_loop (pk_blk (pk_seq pk_fn)))))) (by kernel_rfl) rfl ?_
 refine a_take (i := 7) rfl wanted_none (y_loadSo 0 ty_25 rfl rfl rfl) (fun w h => h) (fun w h => h) rfl (pk_seq (pk_blk (pk_seq (pk_loop (pk_blk (pk_seq pk_fn)))))) (by kernel_rfl) rfl ?_
 refine a_take (i := 8) rfl wanted_none (y_move rfl) (fun w h => h) (fun w h => h) rfl (pk_seq (pk_blk (pk_seq (pk_loop (pk_blk (pk_seq pk_fn)))))) (by kernel_rfl) rfl ?_
 refine a_take (i := 9) rfl wanted_none (y_ixm  Tryz.underlying25 ty_42 rfl rfl (rs_S 3 rfl) rfl (by omega)) (fun w h => h) (fun w h => h) rfl (pk_seq (pk_blk (pk_seq (pk_loop (pk_blk (pk_seq pk_fn)))))) (by kernel_rfl) rfl ?_
 refine a_take (i := 10) rfl wanted_none (y_field fa_42_0 rfl) (fun w h => h) (fun w h => h) rfl (pk_seq (pk_blk (pk_seq (pk_loop (pk_blk (pk_seq pk_fn)))))) (by kernel_rfl) rfl ?_
 refine a_take (i := 11) rfl wanted_none (y_ldm0 enc_hd hd0 ty_36 rfl (rs_S 3 rfl) (by omega) rfl rfl) (fun w h => h) (fun w h => h) rfl (pk_seq (pk_blk (pk_seq (pk_loop (pk_blk (pk_seq pk_fn)))))) (by kernel_rfl) rfl ?_
 refine a_one (i := 12) rfl rfl rfl (tame_call rfl ent_14) (by kernel_rfl) rfl ?_
 refine o_callr0 rfl ent_14 rfl (c_ref17_Find v l _ _ (hs.getD i hd0).host hok (by omega) (by omega) h0) (fun w hw => (rd_cons (rd_S 1 rfl hw) (rd_cons (rd_S 2 rfl hw) rd_nil))) (fun ⟨rb, hrb⟩ => ?_)
 refine wl_nil ?_
 refine e_one (fun w h => h) ?_
 refine a_take (i := 13) rfl wanted_none (y_extract rfl rfl) (fun w h => h) (fun w h => h) rfl (pk_seq (pk_blk (pk_seq (pk_loop (pk_blk (pk_seq pk_fn)))))) (by kernel_rfl) rfl ?_
 refine a_take (i := 14) rfl wanted_none (y_extract rfl rfl) (fun w h => h) (fun w h => h) rfl (pk_seq (pk_blk (pk_seq (pk_loop (pk_blk (pk_seq pk_fn)))))) (by kernel_rfl) rfl ?_
 refine a_one (i := 15) rfl rfl rfl (fun _ _ _ => tame_op (by kernel_rfl)) (by kernel_rfl) rfl ?_
 refine o_store ty_47 rfl rfl rfl .z rfl rfl rfl rfl ?_
 refine wl_nil ?_
 refine e_tail rfl ?_
 refine a_one (i := 16) rfl rfl rfl (fun _ _ _ => tame_op (by kernel_rfl)) (by kernel_rfl) rfl ?_
 refine o_y (y_assign rfl) rfl rfl ?_
 refine wl_nil ?_
 refine e_tail rfl ?_
 refine a_done (by kernel_rfl) ?_
 refine e_seq ?_
 refine w_ret ?_
 refine e_blk_ret ?_
 refine e_seq_ret ?_
 refine e_loop_ret ?_
 refine e_blk_ret ?_
 refine e_seq_ret ?_
 refine e_rsr (rs := [.cell 4 47, .tmp 5]) rfl (rs_cells 0 ty_47 rfl rfl rfl rfl (rs_tmp rfl rs_nil)) rfl (fun w hw => ?_)
 exact ⟨⟨rb, by rw [← h4_9]; exact of_held H hp9 hrb, hrb.mem⟩, rfl, hw.base, (hw.weak (List.nil_sublist _) (fun s hs => hs)).toNews⟩
 refine a_done (by kernel_rfl) ?_
 refine e_seq ?_
 refine w_cond_f rfl ?_
 refine w_skip ?_
 refine e_blk ?_
 refine e_seq ?_
 refine w_region ?_
 refine o_y (y_move rfl) rfl rfl ?_
 refine o_y (y_addi rfl rfl (by omega) (by omega)) rfl rfl ?_
 refine o_y (y_assign rfl) rfl rfl ?_
 refine wl_nil ?_
 refine e_back (i + 1) ?_ ?_ ⟨rfl, trivial⟩ (by repeat (first | exact trivial | refine ⟨rfl, ?_⟩)) (fun w h => h)
 exact ⟨by omega, noh_step hI.2 h4_9⟩
 omega
 refine wl_nil ?_
 refine e_seq ?_
 refine w_cond_f rfl ?_
 refine w_exit ?_
 refine e_seq_exit ?_
 refine e_loop_exit ?_
 refine e_blk_hit ?_
 refine e_seq ?_
 refine w_seq ?_
 refine w_seq ?_
 have hHn := hdAd_none (fun q hq => hI.2 q (by omega))
 refine w_region ?_
 refine o_y (y_assign rfl) rfl rfl ?_
 refine wl_nil ?_
 refine e_seq ?_
 refine w_block ?_
 refine w_loop0 (σ := Nat) [5, 7, 8, 9, 44, 45, 46, 47, 48, 49, 50, 51, 52, 53, 54, 55, 56, 57, 58, 59, 60, 61, 62, 63, 64, 65, 66, 67, 68, 69, 70, 71, 72, 73, 74, 75, 76] (fun j => j ≤ l.length ∧ ∀ q, q < j → a ∉ (l.getD q le0).e.addrs) (fun j => l.length - j) (fun j => [(7, .int .i64 j)]) (0) ?_ ⟨rfl, trivial⟩ (fun j hI => ?_)
 exact ⟨Nat.zero_le _, nofun⟩
 have hJ9 := hI.2
 refine w_seq ?_
 refine w_seq ?_
 refine w_region ?_
 refine o_y (y_move rfl) rfl rfl ?_
 refine o_y (y_move rfl) rfl rfl ?_
 refine o_y (y_nilCheck rfl) rfl rfl ?_
 refine o_y (y_field fa_117_0 rfl) rfl rfl ?_
 refine o_y (y_field fa_24_1 rfl) rfl rfl ?_
 refine o_y (y_loadSo 0 ty_22 rfl rfl rfl) rfl rfl ?_
 refine o_y (y_lenl Tryz.underlying22 rfl) rfl rfl ?_
 refine o_y (y_lss rfl rfl) rfl rfl ?_
 refine wl_splitp (t := 51) rfl (fun h7_7 => ?_) (fun h7_7 => ?_)
 have hj : j < l.length := by omega
 have hla9 := (hok.at hj).la
 refine wl_nil ?_
 refine e_seq ?_
 refine w_cond_t rfl ?_
 refine w_skip ?_
 refine e_seq ?_
 refine w_seq ?_
 refine w_block ?_
 refine w_seq ?_
 refine w_region ?_
 refine o_y (y_move rfl) rfl rfl ?_
 refine o_y (y_nilCheck rfl) rfl rfl ?_
 refine o_y (y_field fa_117_0 rfl) rfl rfl ?_
 refine o_y (y_field fa_24_1 rfl) rfl rfl ?_
 refine o_y (y_loadSo 0 ty_22 rfl rfl rfl) rfl rfl ?_
 refine o_y (y_move rfl) rfl rfl ?_
 refine o_y (y_ixm  Tryz.underlying22 ty_47 rfl rfl (rs_S 1 rfl) rfl (by omega)) rfl rfl ?_
 refine o_y (y_ldsm0 enc_le le0 ty_47 rfl (rs_S 1 rfl) (by omega) rfl rfl rfl) rfl rfl ?_
 refine o_alloc ty_47 rfl rfl (fun b4 => ?_)
 refine o_store ty_47 rfl rfl rfl .z rfl rfl rfl rfl ?_
 refine wl_nil ?_
 refine e_seq ?_
 refine w_seq ?_
 refine w_region ?_
 refine o_y (y_assign rfl) rfl rfl ?_
 refine wl_nil ?_
 refine e_seq ?_
 refine w_block ?_
 refine w_loop0 (σ := Nat) [5, 9, 62, 63, 64, 65, 66, 67, 68, 69, 70, 71, 72, 73, 74, 75, 76] (fun k => k ≤ (l.getD j le0).e.addrs.length ∧ a ∉ (l.getD j le0).e.addrs.take k) (fun k => (l.getD j le0).e.addrs.length - k) (fun k => [(9, .int .i64 k)]) (0) ?_ ⟨rfl, trivial⟩ (fun k hI => ?_)
 exact ⟨Nat.zero_le _, by simp⟩
 refine w_seq ?_
 refine w_seq ?_
 refine w_region ?_
 refine o_y (y_move rfl) rfl rfl ?_
 refine o_y (y_field fa_47_3 rfl) rfl rfl ?_
 refine o_y (y_loadr 0 ty_43 rfl rfl rfl) rfl rfl ?_
 refine o_y (y_lenl Tryz.underlying43 rfl) rfl rfl ?_
 refine o_y (y_lss rfl rfl) rfl rfl ?_
 refine wl_splitp (t := 66) rfl (fun h11_4 => ?_) (fun h11_4 => ?_)
 have hk : k < (l.getD j le0).e.addrs.length := by omega
 refine wl_nil ?_
 refine e_seq ?_
 refine w_cond_t rfl ?_
 refine w_skip ?_
 refine e_seq ?_
 refine w_seq ?_
 refine w_block ?_
 refine w_seq ?_
 refine w_draw 7 rfl mixed ?_
 refine a_take (i := 0) rfl wanted_none (y_field fa_47_3 rfl) (fun w h => h) (fun w h => h) rfl (pk_seq (pk_blk (pk_seq (pk_loop (pk_blk (pk_blk (pk_seq (pk_loop (pk_blk (pk_seq pk_fn)))))))))) (by kernel_rfl) rfl ?_
 refine a_take (i := 1) rfl wanted_none (y_loadr 0 ty_43 rfl rfl rfl) (fun w h => h) (fun w h => h) rfl (pk_seq (pk_blk (pk_seq (pk_loop (pk_blk (pk_blk (pk_seq (pk_loop (pk_blk (pk_seq pk_fn)))))))))) (by kernel_rfl) rfl ?_
 refine a_take (i := 2) rfl wanted_none (y_move rfl) (fun w h => h) (fun w h => h) rfl (pk_seq (pk_blk (pk_seq (pk_loop (pk_blk (pk_blk (pk_seq (pk_loop (pk_blk (pk_seq pk_fn)))))))))) (by kernel_rfl) rfl ?_
 refine a_take (i := 3) rfl wanted_none (y_ixm  Tryz.underlying43 ty_28 rfl rfl (fun w hw => (rd_all (rd_S 2 rfl hw) (mem_flatR (mem_getD (by omega)) _ (elRA _))).1) rfl (by omega)) (fun w h => h) (fun w h => h) rfl (pk_seq (pk_blk (pk_seq (pk_loop (pk_blk (pk_blk (pk_seq (pk_loop (pk_blk (pk_seq pk_fn)))))))))) (by kernel_rfl) rfl ?_
 refine a_take (i := 4) rfl wanted_none (y_ldsm0 enc_ad ad0 ty_28 rfl (fun w hw => (rd_all (rd_S 2 rfl hw) (mem_flatR (mem_getD (by omega)) _ (elRA _))).1) (by omega) rfl rfl rfl) (fun w h => h) (fun w h => h) rfl (pk_seq (pk_blk (pk_seq (pk_loop (pk_blk (pk_blk (pk_seq (pk_loop (pk_blk (pk_seq pk_fn)))))))))) (by kernel_rfl) rfl ?_
 refine a_take (i := 5) rfl wanted_none (y_loadrs 2 ty_28 rfl rfl rfl rfl) (fun w h => h) (fun w h => h) rfl (pk_seq (pk_blk (pk_seq (pk_loop (pk_blk (pk_blk (pk_seq (pk_loop (pk_blk (pk_seq pk_fn)))))))))) (by kernel_rfl) rfl ?_
 refine a_take (i := 6) rfl wanted_none (y_eqst (by kernel_rfl) rfl rfl (eqd_ad _ _) rfl) (fun w h => h) (fun w h => h) rfl (pk_seq (pk_blk (pk_seq (pk_loop (pk_blk (pk_blk (pk_seq (pk_loop (pk_blk (pk_seq pk_fn)))))))))) (by kernel_rfl) rfl ?_
 refine wa_splitp (t := 75) rfl (fun h13_6 => ?_) (fun h13_6 => ?_)
 refine a_done (by kernel_rfl) ?_
 refine e_seq ?_
 refine w_cond_t rfl ?_
 refine w_seq ?_
 refine w_region ?_
 refine o_y (y_loadrs 0 ty_47 rfl rfl rfl rfl) rfl rfl ?_
 refine o_store ty_47 rfl rfl rfl (.s (.z)) rfl rfl rfl rfl ?_
 refine o_y (y_assign rfl) rfl rfl ?_
 refine wl_nil ?_
 refine e_seq ?_
 refine w_ret ?_
 refine e_blk_ret ?_
 refine e_seq_ret ?_
 refine e_loop_ret ?_
 refine e_blk_ret ?_
 refine e_blk_ret ?_
 refine e_seq_ret ?_
 refine e_loop_ret ?_
 refine e_blk_ret ?_
 refine e_seq_ret ?_
 refine e_rsr (rs := [.cell 4 47, .tmp 5]) rfl (rs_cells 1 ty_47 rfl rfl rfl rfl (rs_tmp rfl rs_nil)) rfl (fun w hw => ?_)
 exact ⟨⟨some (l.getD j le0), ofE_hit hHn hj hJ9 (h13_6 ▸ mem_getD (d := ad0) hk), .tail _ (mem_getD hj)⟩, rfl, hw.base, (hw.weak (List.nil_sublist _) (fun s hs => hs)).toNews⟩
 refine a_done (by kernel_rfl) ?_
 refine e_seq ?_
 refine w_cond_f rfl ?_
 refine w_skip ?_
 refine e_blk ?_
 refine e_seq ?_
 have hJ8 := hI.2
 refine w_region ?_
 refine o_y (y_move rfl) rfl rfl ?_
 refine o_y (y_addi rfl rfl (by omega) (by omega)) rfl rfl ?_
 refine o_y (y_assign rfl) rfl rfl ?_
 refine wl_nil ?_
 refine e_back (k + 1) ?_ ?_ ⟨rfl, trivial⟩ (by repeat (first | exact trivial | refine ⟨rfl, ?_⟩)) (fun w h => h)
 exact ⟨by omega, notake_succ hk hI.2 h13_6⟩
 omega
 refine wl_nil ?_
 refine e_seq ?_
 refine w_cond_f rfl ?_
 refine w_exit ?_
 refine e_seq_exit ?_
 refine e_loop_exit ?_
 refine e_blk_hit ?_
 refine e_blk ?_
 refine e_seq ?_
 refine w_region ?_
 refine o_y (y_move rfl) rfl rfl ?_
 refine o_y (y_addi rfl rfl (by omega) (by omega)) rfl rfl ?_
 refine o_y (y_assign rfl) rfl rfl ?_
 refine wl_nil ?_
 refine e_back (j + 1) ?_ ?_ ⟨rfl, trivial⟩ (by repeat (first | exact trivial | refine ⟨rfl, ?_⟩)) (fun w h => h.weak (.cons _ (List.Sublist.refl _)) (fun s hs => hs))
 exact ⟨by omega, no_step hJ9 (by have := hI.2; rwa [List.take_of_length_le (by omega)] at this)⟩
 omega
 refine wl_nil ?_
 refine e_seq ?_
 refine w_cond_f rfl ?_
 refine w_exit ?_
 refine e_seq_exit ?_
 refine e_loop_exit ?_
 refine e_blk_hit ?_
 refine e_seq ?_
 refine w_seq ?_
 refine w_region ?_
 refine o_y (y_build rfl (bu_47)) rfl rfl ?_
 refine o_store ty_47 rfl rfl rfl .z rfl rfl rfl rfl ?_
 refine o_y (y_assign rfl) rfl rfl ?_
 refine wl_nil ?_
 refine e_seq ?_
 refine w_ret ?_
 refine e_rsr (rs := [.cell 4 47, .tmp 5]) rfl (rs_cells 0 ty_47 rfl rfl rfl rfl (rs_tmp rfl rs_nil)) rfl (fun w hw => ?_)
 exact ⟨⟨none, ofE_miss hHn (fun q hq => hI.2 q (by omega)), .head _⟩, rfl, hw.base, (hw.weak (List.nil_sublist _) (fun s hs => hs)).toNews⟩

set_option maxRecDepth 100000 in
set_option maxHeartbeats 1000000 in
theorem c_ref18_Addrs (v : Int) (l : List Le) (A : Option Addr) (c : Nat) (b : Nat) (Q : Option Addr) (hs : List Hd) (qc : Nat) (y : Le) (hyl : y.e.host.length ≤ 1000) (hok : TbOk l) (hlen : l.length ≤ 1000000000) (h0 : tabCk v l = 0) (H : HeldOk (l.map (·.e)) hs) (hhl : hs.length ≤ 1000000) (hhh : ∀ h ∈ hs, h.host.length ≤ 1000 ∧ 0 ≤ h.ad.lo) : RC Tryz.prog 68 #[.pointer (some ⟨b, 0, none⟩), .agg (elC y).toArray] [Ch.row b (rfC v A l.length c Q hs.length qc) 117, Ch.rd A 7 elC l, Ch.rall (l.flatMap elR), Ch.rd Q 4 hdC hs] (α := Option Addr × Nat) (fun p => .slice p.1 (adsE (l.map (·.e)) hs y.e.host).length p.2) (fun p => [Ch.ls p.1 p.2 28 3 adC (adsE (l.map (·.e)) hs y.e.host)]) := by
 refine rc_of_W (args := [.pointer (some ⟨b, 0, none⟩), .agg (elC y).toArray]) 55 Tryz.func68 rfl rfl rfl (fun w0 => ?_)
 refine w_seq ?_
 refine w_region ?_
 refine o_box rfl rfl rfl (fun b1 => ?_)
 refine o_y (y_assign rfl) rfl rfl ?_
 refine wl_nil ?_
 refine e_seq ?_
 refine w_joinX (σ := {r : Option Le // FE l y.e.host r} × Nat) (fun g => [(5, .pointer (some ⟨g.2, 0, none⟩)), (6, .bool g.1.1.isSome)]) (fun g => [Ch.row g.2 (elC (g.1.1.getD le0)) 47]) (fun g => ?_) (fun J1 => ?_)
 refine w_seq ?_
 refine w_seq ?_
 obtain ⟨⟨rb, hrb⟩, qb⟩ := g
 have hb9 := fe_bnd hok hrb.mem
 have hbl := hb9.h
 refine w_region ?_
 refine o_y (y_move rfl) rfl rfl ?_
 refine wl_splitb (t := 19) rfl (fun h2_0 => ?_) (fun h2_0 => ?_)
 refine o_y (y_not rfl) rfl rfl ?_
 refine wl_nil ?_
 refine e_seq ?_
 refine w_cond_f rfl ?_
 refine w_skip ?_
 refine e_seq ?_
 refine w_seq ?_
 refine w_region ?_
 refine o_y (y_assign rfl) rfl rfl ?_
 refine wl_nil ?_
 refine e_seq ?_
 refine w_seq ?_
 refine w_seq ?_
 refine w_region ?_
 refine o_y (y_assign rfl) rfl rfl ?_
 refine wl_nil ?_
 refine e_seq ?_
 refine w_block ?_
 refine w_heap (fun w h => h.nilsl 28 3) ?_
 refine w_loop1 (σ := Nat × Option Addr × Nat) [7, 8, 21, 22, 23, 24, 25, 26, 27, 28, 29, 30, 31, 32, 33, 34, 35, 36, 37, 38, 39, 40, 41, 42, 43, 44, 45, 46, 47, 48, 49, 50, 51] (fun q => q.1 ≤ hs.length) (fun q => hs.length - q.1) (fun q => [(8, .int .i64 q.1), (7, .slice q.2.1 (hdF hs (rb.getD le0).e.host q.1).length q.2.2)]) (fun q => Ch.ls q.2.1 q.2.2 28 3 adC (hdF hs (rb.getD le0).e.host q.1)) ((0, none, 0)) ?_ ⟨rfl, rfl, trivial⟩ rfl (fun q hI => ?_)
 exact Nat.zero_le _
 obtain ⟨i, Aq, cq⟩ := q
 dsimp only at hI ⊢
 refine w_seq ?_
 refine w_seq ?_
 refine w_region ?_
 refine o_y (y_move rfl) rfl rfl ?_
 refine o_y (y_move rfl) rfl rfl ?_
 refine o_y (y_nilCheck rfl) rfl rfl ?_
 refine o_y (y_field fa_117_1 rfl) rfl rfl ?_
 refine o_y (y_loadSo 0 ty_25 rfl rfl rfl) rfl rfl ?_
 refine o_y (y_lenl Tryz.underlying25 rfl) rfl rfl ?_
 refine o_y (y_lss rfl rfl) rfl rfl ?_
 refine wl_splitp (t := 27) rfl (fun h6_6 => ?_) (fun h6_6 => ?_)
 have hi : i < hs.length := by omega
 have hp9 := mem_getD (d := hd0) hi
 have hpl := (hhh _ hp9).1
 have hfl := hdF_len hs (rb.getD le0).e.host i
 refine wl_nil ?_
 refine e_seq ?_
 refine w_cond_t rfl ?_
 refine w_skip ?_
 refine e_seq ?_
 refine w_seq ?_
 refine w_block ?_
 refine w_seq ?_
 refine w_drawU 11 rfl mixed ?_
 refine u_take (i := 0) rfl wanted_none (y_move rfl) (fun w h => h) (fun w h => h) rfl (pk_seq (pk_blk (pk_seq (pk_loop (pk_blk (pk_seq pk_fn)))))) (by kernel_rfl) rfl ?_
 refine u_take (i := 1) rfl wanted_none (y_nilCheck rfl) (fun w h => h) (fun w h => h) rfl (pk_seq (pk_blk (pk_seq (pk_loop (pk_blk (pk_seq pk_fn)))))) (by kernel_rfl) rfl ?_
 refine u_take (i := 2) rfl wanted_none (y_field fa_117_1 rfl) (fun w h => h) (fun w h => h) rfl (pk_seq (pk_blk (pk_seq (pk_loop (pk_blk (pk_seq pk_fn)))))) (by kernel_rfl) rfl ?_
 refine u_take (i := 3) rfl wanted_none (y_loadSo 0 ty_25 rfl rfl rfl) (fun w h => h) (fun w h => h) rfl (pk_seq (pk_blk (pk_seq (pk_loop (pk_blk (pk_seq pk_fn)))))) (by kernel_rfl) rfl ?_
 refine u_take (i := 4) rfl wanted_none (y_move rfl) (fun w h => h) (fun w h => h) rfl (pk_seq (pk_blk (pk_seq (pk_loop (pk_blk (pk_seq pk_fn)))))) (by kernel_rfl) rfl ?_
 refine u_take (i := 5) rfl wanted_none (y_ixm  Tryz.underlying25 ty_42 rfl rfl (rs_S 3 rfl) rfl (by omega)) (fun w h => h) (fun w h => h) rfl (pk_seq (pk_blk (pk_seq (pk_loop (pk_blk (pk_seq pk_fn)))))) (by kernel_rfl) rfl ?_
 refine u_take (i := 6) rfl wanted_none (y_field fa_42_0 rfl) (fun w h => h) (fun w h => h) rfl (pk_seq (pk_blk (pk_seq (pk_loop (pk_blk (pk_seq pk_fn)))))) (by kernel_rfl) rfl ?_
 refine u_take (i := 7) rfl wanted_none (y_ldm0 enc_hd hd0 ty_36 rfl (rs_S 3 rfl) (by omega) rfl rfl) (fun w h => h) (fun w h => h) rfl (pk_seq (pk_blk (pk_seq (pk_loop (pk_blk (pk_seq pk_fn)))))) (by kernel_rfl) rfl ?_
 refine u_take (i := 8) rfl wanted_none (y_field fa_47_0 rfl) (fun w h => h) (fun w h => h) rfl (pk_seq (pk_blk (pk_seq (pk_loop (pk_blk (pk_seq pk_fn)))))) (by kernel_rfl) rfl ?_
 refine u_take (i := 9) rfl wanted_none (y_loadr 1 ty_36 rfl rfl rfl) (fun w h => h) (fun w h => h) rfl (pk_seq (pk_blk (pk_seq (pk_loop (pk_blk (pk_seq pk_fn)))))) (by kernel_rfl) rfl ?_
 refine u_one (i := 10) rfl rfl rfl (tame_call rfl ent_66) (by kernel_rfl) rfl ?_
 refine o_callp rfl ent_66 (c_ref02_Same _ _ (by omega) (by omega)) rfl ?_
 refine wl_nil ?_
 refine eu_one (fun w h => h) ?_
 refine wu_splitb (t := 40) rfl (fun h8_10 => ?_) (fun h8_10 => ?_)
 refine u_done (by kernel_rfl) ?_
 refine e_seq ?_
 refine w_cond_t rfl ?_
 refine w_region ?_
 refine o_y (y_move rfl) rfl rfl ?_
 refine o_y (y_move rfl) rfl rfl ?_
 refine o_y (y_nilCheck rfl) rfl rfl ?_
 refine o_y (y_field fa_117_1 rfl) rfl rfl ?_
 refine o_y (y_loadSo 0 ty_25 rfl rfl rfl) rfl rfl ?_
 refine o_y (y_move rfl) rfl rfl ?_
 refine o_y (y_ixm  Tryz.underlying25 ty_42 rfl rfl (rs_S 3 rfl) rfl (by omega)) rfl rfl ?_
 refine o_y (y_field fa_42_1 rfl) rfl rfl ?_
 refine o_y (y_ldsm 1 enc_hd hd0 ty_28 rfl (rs_S 3 rfl) (by omega) rfl rfl rfl) rfl rfl ?_
 refine o_bsl (vs := [_]) ([(hs.getD i hd0).ad] : List (Ad)) enc_ad Tryz.underlying43 ty_28 rfl rfl rfl rfl rfl rfl (fun As2 => ?_)
 refine o_appm (enc := adC) (sz := 3) [(hs.getD i hd0).ad] Tryz.underlying43 ty_28 rfl rfl rfl (fun A c => (.s (.z))) (src_L 0 Tryz.underlying43 rfl) (by simp only [List.length_cons, List.length_nil, Nat.zero_add]; omega) (by simp only [List.length_cons, List.length_nil, Nat.zero_add]; omega) rfl (fun A2 c2 => ?_)
 refine o_y (y_assign rfl) rfl rfl ?_
 refine wl_nil ?_
 refine e_blk ?_
 refine e_seq ?_
 refine w_region ?_
 refine o_y (y_move rfl) rfl rfl ?_
 refine o_y (y_addi rfl rfl (by omega) (by omega)) rfl rfl ?_
 refine o_y (y_assign rfl) rfl rfl ?_
 refine wl_nil ?_
 have hfs : hdF hs (rb.getD le0).e.host (i + 1) = (hdF hs (rb.getD le0).e.host i) ++ [(hs.getD i hd0).ad] := by rw [hdF_step hi, h8_10]; simp
 refine e_back ((i + 1, A2, c2)) ?_ ?_ ⟨rfl, lk rfl (by rw [hfs]), trivial⟩ (by repeat (first | exact trivial | refine ⟨rfl, ?_⟩)) (fun w h => by show Hp _ _ (Ch.ls _ _ _ _ _ (hdF hs (rb.getD le0).e.host (i + 1)) :: _) _ _; rw [hfs]; exact h.weak (.cons _ (.cons_cons _ (.cons_cons _ (.cons_cons _ (List.Sublist.refl _))))) (fun s hs => hs))
 (show i + 1 ≤ hs.length; omega)
 show hs.length - (i + 1) < hs.length - i
 omega
 refine u_done (by kernel_rfl) ?_
 refine e_seq ?_
 refine w_cond_f rfl ?_
 refine w_skip ?_
 refine e_blk ?_
 refine e_seq ?_
 refine w_region ?_
 refine o_y (y_move rfl) rfl rfl ?_
 refine o_y (y_addi rfl rfl (by omega) (by omega)) rfl rfl ?_
 refine o_y (y_assign rfl) rfl rfl ?_
 refine wl_nil ?_
 have hfs : hdF hs (rb.getD le0).e.host (i + 1) = (hdF hs (rb.getD le0).e.host i) := by rw [hdF_step hi, h8_10]; simp
 refine e_back ((i + 1, Aq, cq)) ?_ ?_ ⟨rfl, lk rfl (by rw [hfs]), trivial⟩ (by repeat (first | exact trivial | refine ⟨rfl, ?_⟩)) (fun w h => by show Hp _ _ (Ch.ls _ _ _ _ _ (hdF hs (rb.getD le0).e.host (i + 1)) :: _) _ _; rw [hfs]; exact h.weak (.cons_cons _ (.cons_cons _ (.cons_cons _ (List.Sublist.refl _)))) (fun s hs => hs))
 (show i + 1 ≤ hs.length; omega)
 show hs.length - (i + 1) < hs.length - i
 omega
 refine wl_nil ?_
 refine e_seq ?_
 refine w_cond_f rfl ?_
 refine w_exit ?_
 refine e_seq_exit ?_
 refine e_loop_exit ?_
 refine e_blk_hit ?_
 refine e_seq ?_
 refine w_seq ?_
 obtain rfl : i = hs.length := by omega
 have hwh9 : ∀ a ∈ hdF hs (rb.getD le0).e.host hs.length, 0 ≤ a.lo := fun a ha => by
   obtain ⟨p, hp, e⟩ := hdF_mem ha
   rw [← e]; exact (hhh _ hp).2
 have hfl9 := hdF_len hs (rb.getD le0).e.host hs.length
 refine w_region ?_
 refine o_y (y_loadrs 1 ty_47 rfl rfl rfl rfl) rfl rfl ?_
 refine o_y (y_move rfl) rfl rfl ?_
 refine o_callr1 rfl ent_113 rfl (c_ref16_Addrs (rb.getD le0).e (rb.getD le0).A (rb.getD le0).B (rb.getD le0).c (rb.getD le0).d _ _ (hdF hs (rb.getD le0).e.host hs.length) hwh9 (by omega) hb9.wa (by have := hb9.la; omega) (by have := hb9.lp; omega) hb9.k) (fun w hw => (rd_cons ((rd_fe (rd_S 2 rfl hw) hrb.mem).1) (rd_cons ((rd_fe (rd_S 2 rfl hw) hrb.mem).2) (rd_cons (rd_Ls 0 rfl hw) rd_nil)))) (fun ⟨A3, c3⟩ => ?_)
 refine o_y (y_assign rfl) rfl rfl ?_
 refine wl_nil ?_
 refine e_seq ?_
 refine w_ret ?_
 refine e_ret (ts := [4]) rfl rfl rfl (fun w hw => ?_)
 rw [adsE_some h0 H hrb h2_0]
 exact ⟨(A3, c3), rfl, hw.base, (hw.weak (.cons_cons _ (.cons _ (.cons _ (.cons _ .slnil)))) (fun s hs => hs)).toNews⟩
 refine o_y (y_not rfl) rfl rfl ?_
 refine wl_nil ?_
 refine e_seq ?_
 refine w_cond_t rfl ?_
 refine w_seq ?_
 refine w_region ?_
 refine o_y (y_assign rfl) rfl rfl ?_
 refine wl_nil ?_
 refine e_seq ?_
 refine w_ret ?_
 refine e_seq_ret ?_
 refine e_ret (ts := [4]) rfl rfl rfl (fun w hw => ?_)
 rw [adsE_none hrb h2_0]
 exact ⟨(none, 0), rfl, hw.base, ((hw.weak (List.nil_sublist _) (fun s hs => hs)).nilsl 28 3).toNews⟩
 refine w_seq ?_
 refine w_drawU 11 rfl mixed ?_
 refine u_take (i := 0) rfl wanted_none (y_move rfl) (fun w h => h) (fun w h => h) rfl (pk_seq pk_fn) (by kernel_rfl) rfl ?_
 refine u_take (i := 1) rfl wanted_none (y_nilCheck rfl) (fun w h => h) (fun w h => h) rfl (pk_seq pk_fn) (by kernel_rfl) rfl ?_
 refine u_take (i := 2) rfl wanted_none (y_field fa_117_0 rfl) (fun w h => h) (fun w h => h) rfl (pk_seq pk_fn) (by kernel_rfl) rfl ?_
 refine u_take (i := 3) rfl wanted_none (y_loadSos 0 ty_24 rfl rfl rfl rfl) (fun w h => h) (fun w h => h) rfl (pk_seq pk_fn) (by kernel_rfl) rfl ?_
 refine u_take (i := 4) rfl wanted_none (y_field fa_47_0 rfl) (fun w h => h) (fun w h => h) rfl (pk_seq pk_fn) (by kernel_rfl) rfl ?_
 refine u_take (i := 5) rfl wanted_none (y_loadr 0 ty_36 rfl rfl rfl) (fun w h => h) (fun w h => h) rfl (pk_seq pk_fn) (by kernel_rfl) rfl ?_
 refine u_many (js := [6, 10]) (by kernel_rfl) rfl ?_
 refine wru_cons (i := 6) rfl rfl rfl (tame_call rfl ent_14) rfl ?_ ?_
 refine o_callr0 rfl ent_14 rfl (c_ref17_Find v l _ _ y.e.host hok (by omega) (by omega) h0) (fun w hw => (rd_cons (rd_S 1 rfl hw) (rd_cons (rd_S 2 rfl hw) rd_nil))) (fun ⟨rb, hrb⟩ => ?_)
 refine wl_nil ?_
 refine eu_one (fun w h => h) ?_
 refine u_take (i := 7) rfl wanted_none (y_move rfl) (fun w h => h) (fun w h => h) rfl (pk_seq pk_fn) (by kernel_rfl) rfl ?_
 refine u_take (i := 8) rfl wanted_none (y_extract rfl rfl) (fun w h => h) (fun w h => h) rfl (pk_seq pk_fn) (by kernel_rfl) rfl ?_
 refine u_many (js := [9, 10]) (by kernel_rfl) rfl ?_
 refine wru_cons (i := 9) rfl rfl rfl (fun _ _ _ => tame_op (by kernel_rfl)) rfl ?_ ?_
 refine o_y (y_extract rfl rfl) rfl rfl ?_
 refine wl_nil ?_
 refine eu_one (fun w h => h) ?_
 refine u_one (i := 10) rfl rfl rfl (fun _ _ _ => tame_op (by kernel_rfl)) (by kernel_rfl) rfl ?_
 refine o_alloc ty_47 rfl rfl (fun b6 => ?_)
 refine wl_nil ?_
 refine eu_one (fun w h => h.weak (.cons _ (List.Sublist.refl _)) (fun s hs => hs)) ?_
 refine u_one (i := 11) rfl rfl rfl (fun _ _ _ => tame_op (by kernel_rfl)) (by kernel_rfl) rfl ?_
 refine o_store ty_47 rfl rfl rfl .z rfl rfl rfl rfl ?_
 refine wl_nil ?_
 refine eu_tail rfl ?_
 refine u_one (i := 12) rfl rfl rfl (fun _ _ _ => tame_op (by kernel_rfl)) (by kernel_rfl) rfl ?_
 refine o_y (y_assign rfl) rfl rfl ?_
 refine wl_nil ?_
 refine eu_tail rfl ?_
 refine u_done (by kernel_rfl) ?_
 refine e_seq ?_
 refine w_heap (fun w h => h.weak (.cons_cons _ (List.Sublist.refl _)) (fun s hs => hs)) ?_
 exact J1 (⟨rb, hrb⟩, b6) _ (by repeat (first | exact trivial | refine ⟨rfl, ?_⟩))
 refine wru_cons (i := 10) rfl rfl rfl (fun _ _ _ => tame_op (by kernel_rfl)) rfl ?_ ?_
 refine o_alloc ty_47 rfl rfl (fun b7 => ?_)
 refine wl_nil ?_
 refine eu_one (fun w h => h.weak (.cons _ (List.Sublist.refl _)) (fun s hs => hs)) ?_
 refine u_many (js := [9, 11]) (by kernel_rfl) rfl ?_
 refine wru_cons (i := 9) rfl rfl rfl (fun _ _ _ => tame_op (by kernel_rfl)) rfl ?_ ?_
 refine o_y (y_extract rfl rfl) rfl rfl ?_
 refine wl_nil ?_
 refine eu_one (fun w h => h.weak (.cons _ (List.Sublist.refl _)) (fun s hs => hs)) ?_
 refine u_one (i := 11) rfl rfl rfl (fun _ _ _ => tame_op (by kernel_rfl)) (by kernel_rfl) rfl ?_
 refine o_store ty_47 rfl rfl rfl .z rfl rfl rfl rfl ?_
 refine wl_nil ?_
 refine eu_tail rfl ?_
 refine u_one (i := 12) rfl rfl rfl (fun _ _ _ => tame_op (by kernel_rfl)) (by kernel_rfl) rfl ?_
 refine o_y (y_assign rfl) rfl rfl ?_
 refine wl_nil ?_
 refine eu_tail rfl ?_
 refine u_done (by kernel_rfl) ?_
 refine e_seq ?_
 refine w_heap (fun w h => h.weak (.cons_cons _ (List.Sublist.refl _)) (fun s hs => hs)) ?_
 exact J1 (⟨rb, hrb⟩, b7) _ (by repeat (first | exact trivial | refine ⟨rfl, ?_⟩))
 refine wru_cons (i := 11) rfl rfl rfl (fun _ _ _ => tame_op (by kernel_rfl)) rfl ?_ ?_
 refine o_store ty_47 rfl rfl rfl .z rfl rfl rfl rfl ?_
 refine wl_nil ?_
 refine eu_tail rfl ?_
 refine u_one (i := 9) rfl rfl rfl (fun _ _ _ => tame_op (by kernel_rfl)) (by kernel_rfl) rfl ?_
 refine o_y (y_extract rfl rfl) rfl rfl ?_
 refine wl_nil ?_
 refine eu_tail rfl ?_
 refine u_one (i := 12) rfl rfl rfl (fun _ _ _ => tame_op (by kernel_rfl)) (by kernel_rfl) rfl ?_
 refine o_y (y_assign rfl) rfl rfl ?_
 refine wl_nil ?_
 refine eu_tail rfl ?_
 refine u_done (by kernel_rfl) ?_
 refine e_seq ?_
 refine w_heap (fun w h => h.weak (.cons_cons _ (List.Sublist.refl _)) (fun s hs => hs)) ?_
 exact J1 (⟨rb, hrb⟩, b7) _ (by repeat (first | exact trivial | refine ⟨rfl, ?_⟩))
 exact wru_nil
 exact wru_nil
 refine wru_cons (i := 10) rfl rfl rfl (fun _ _ _ => tame_op (by kernel_rfl)) rfl ?_ ?_
 refine o_alloc ty_47 rfl rfl (fun b8 => ?_)
 refine wl_nil ?_
 refine eu_one (fun w h => h.weak (.cons _ (List.Sublist.refl _)) (fun s hs => hs)) ?_
 refine u_one (i := 6) rfl rfl rfl (tame_call rfl ent_14) (by kernel_rfl) rfl ?_
 refine o_callr0 rfl ent_14 rfl (c_ref17_Find v l _ _ y.e.host hok (by omega) (by omega) h0) (fun w hw => (rd_cons (rd_S 1 rfl hw) (rd_cons (rd_S 2 rfl hw) rd_nil))) (fun ⟨rb, hrb⟩ => ?_)
 refine wl_nil ?_
 refine eu_one (fun w h => h.weak (.cons _ (List.Sublist.refl _)) (fun s hs => hs)) ?_
 refine u_take (i := 7) rfl wanted_none (y_move rfl) (fun w h => h.weak (.cons _ (List.Sublist.refl _)) (fun s hs => hs)) (fun w h => h) rfl (pk_seq pk_fn) (by kernel_rfl) rfl ?_
 refine u_take (i := 8) rfl wanted_none (y_extract rfl rfl) (fun w h => h.weak (.cons _ (List.Sublist.refl _)) (fun s hs => hs)) (fun w h => h) rfl (pk_seq pk_fn) (by kernel_rfl) rfl ?_
 refine u_many (js := [9, 11]) (by kernel_rfl) rfl ?_
 refine wru_cons (i := 9) rfl rfl rfl (fun _ _ _ => tame_op (by kernel_rfl)) rfl ?_ ?_
 refine o_y (y_extract rfl rfl) rfl rfl ?_
 refine wl_nil ?_
 refine eu_one (fun w h => h.weak (.cons _ (List.Sublist.refl _)) (fun s hs => hs)) ?_
 refine u_one (i := 11) rfl rfl rfl (fun _ _ _ => tame_op (by kernel_rfl)) (by kernel_rfl) rfl ?_
 refine o_store ty_47 rfl rfl rfl .z rfl rfl rfl rfl ?_
 refine wl_nil ?_
 refine eu_tail rfl ?_
 refine u_one (i := 12) rfl rfl rfl (fun _ _ _ => tame_op (by kernel_rfl)) (by kernel_rfl) rfl ?_
 refine o_y (y_assign rfl) rfl rfl ?_
 refine wl_nil ?_
 refine eu_tail rfl ?_
 refine u_done (by kernel_rfl) ?_
 refine e_seq ?_
 refine w_heap (fun w h => h.weak (.cons_cons _ (List.Sublist.refl _)) (fun s hs => hs)) ?_
 exact J1 (⟨rb, hrb⟩, b8) _ (by repeat (first | exact trivial | refine ⟨rfl, ?_⟩))
 refine wru_cons (i := 11) rfl rfl rfl (fun _ _ _ => tame_op (by kernel_rfl)) rfl ?_ ?_
 refine o_store ty_47 rfl rfl rfl .z rfl rfl rfl rfl ?_
 refine wl_nil ?_
 refine eu_tail rfl ?_
 refine u_one (i := 9) rfl rfl rfl (fun _ _ _ => tame_op (by kernel_rfl)) (by kernel_rfl) rfl ?_
 refine o_y (y_extract rfl rfl) rfl rfl ?_
 refine wl_nil ?_
 refine eu_tail rfl ?_
 refine u_one (i := 12) rfl rfl rfl (fun _ _ _ => tame_op (by kernel_rfl)) (by kernel_rfl) rfl ?_
 refine o_y (y_assign rfl) rfl rfl ?_
 refine wl_nil ?_
 refine eu_tail rfl ?_
 refine u_done (by kernel_rfl) ?_
 refine e_seq ?_
 refine w_heap (fun w h => h.weak (.cons_cons _ (List.Sublist.refl _)) (fun s hs => hs)) ?_
 exact J1 (⟨rb, hrb⟩, b8) _ (by repeat (first | exact trivial | refine ⟨rfl, ?_⟩))
 exact wru_nil
 exact wru_nil
end Go.Proofs.YtfmelbpgkbiooaaGreat
