/- an index in plain words: whatever order; a host looked for in a table -/
import Derived.Test.YtckfjfnkombelaaJfQN
namespace Go.Proofs.Ytckfjfnkombelaa
open Go.RowKit Go.Shelf
set_option linter.unusedVariables false
set_option linter.unusedSimpArgs false

theorem ent_87 : Enters Try.prog 87 := enters_of Try.func87 (by kernel_rfl) rfl

def lookN (es : List En) (n : Str) : Option En := if nameCk n ≠ 0 then none else lookE es (foldN n)
def hdAd (hs : List Hd) (a : Ad) : Option Hd := hs.find? fun h => decide (h.ad = a)
def hdHost (hs : List Hd) (key : Str) : Option Hd := hs.find? fun h => decide (foldN h.host = key)
def ofE (es : List En) (hs : List Hd) (a : Ad) : Option En := ((hdAd hs a).bind fun h => lookE es (foldN h.host)).or (es.find? fun e => decide (a ∈ e.addrs))
def adsE (es : List En) (hs : List Hd) (n : Str) : List Ad := match lookN es n with
  | none => []
  | some e => entAd e ((hdHost hs (foldN e.host)).map (·.ad)).toList
def lostQ (hs : List Hd) (e : En) : Bool := decide (e.kind = 2) && !(hdHost hs (foldN e.host)).isSome
def lostE (es : List En) (hs : List Hd) : List Str := (es.filter (lostQ hs)).map (·.host)
theorem am_E {l : List Le} {hs : List Hd} {x : Ixd} (hx : IxOk2 l hs x) (a : Ad) : (lkp x.am a).map (·.e) = ofE (l.map (·.e)) hs a := by
  rw [hx.am a, ofE]
  have e : ∀ o p : Option Le, (o.or p).map (·.e) = (o.map (·.e)).or (p.map (·.e)) := fun o p => by cases o <;> rfl
  rw [e]
  congr 1
  · show Option.map _ ((hdAd hs a).bind _) = _
    cases hdAd hs a with
    | none => rfl
    | some p => exact lk_E hx.ix.hm hx.ix.es _
  · rw [← hx.ix.es, List.find?_map]; rfl
theorem dm_isSome {l : List Le} {hs : List Hd} {x : Ixd} (hx : IxOk2 l hs x) (key : Str) : (lkp x.dm key).isSome = (hdHost hs key).isSome := by
  rw [hx.dm key]; show (Option.map _ (hdHost hs key)).isSome = _; cases hdHost hs key <;> rfl
theorem ads_E {l : List Le} {hs : List Hd} {x : Ixd} (hx : IxOk2 l hs x) (n : Str) : adsI x n = adsE (l.map (·.e)) hs n := by
  have h1 : (ownI x n).map (·.e) = lookN (l.map (·.e)) n := by
    unfold ownI lookN
    split
    · rfl
    · exact lk_E hx.ix.hm hx.ix.es _
  rw [adsI, adsE, ← h1]
  cases ownI x n with
  | none => rfl
  | some y =>
    show entAd y.e (heldI x y) = entAd y.e _
    rw [heldI, hx.dm]; rfl
theorem lost_E {l : List Le} {hs : List Hd} {x : Ixd} (hx : IxOk2 l hs x) : lostI x x.l = lostE (l.map (·.e)) hs := by
  rw [lostI, lostE, ← hx.ix.es, List.filter_map, List.map_map]
  have : (lostP x) = (lostQ hs ∘ fun y : Le => y.e) := funext fun y => by
    show lostP x y = lostQ hs y.e
    rw [lostP, lostQ, dm_isSome hx]
  rw [this]; rfl
def okB (es : List En) (pre : List Hd) (h : Hd) : Bool := decide (nameCk h.host = 0) && ((match lookE es (foldN h.host) with | some e => decide (e.kind = 2) | none => false) && (decide (addrCk h.ad = 0) && ((pre.all fun p => decide (foldN p.host ≠ foldN h.host)) && pre.all fun p => decide (p.ad ≠ h.ad))))
theorem okB_iff {es : List En} {pre : List Hd} {h : Hd} : okB es pre h = true ↔ okH es pre h := by
  unfold okB okH
  simp only [Bool.and_eq_true, decide_eq_true_eq, List.all_eq_true]
  refine and_congr Iff.rfl (and_congr ?_ Iff.rfl)
  cases lookE es (foldN h.host) with
  | none => simp
  | some e => simp
def heldB (es : List En) (hs : List Hd) : Bool := (List.range hs.length).all fun i => okB es (hs.take i) (hs.getD i hd0)
theorem heldB_iff {es : List En} {hs : List Hd} : heldB es hs = true ↔ HeldOk es hs := by
  unfold heldB HeldOk
  simp only [List.all_eq_true, List.mem_range, okB_iff]
def FX (l : List Le) (n : Str) : Option Nat → Prop
  | none => ∀ q, q < l.length → same2 (hst l q) n = false
  | some i => i < l.length ∧ same2 (hst l i) n = true ∧ ∀ q, q < i → same2 (hst l q) n = false
/-- What a table tells of a host. -/
structure FE (l : List Le) (n : Str) (r : Option Le) : Prop where
  e : r.map (·.e) = lookN (l.map (·.e)) n
  mem : r.getD le0 ∈ le0 :: l
theorem fx_none {v : Int} {l : List Le} (h0 : tabCk v l = 0) {n : Str} {o : Option Nat} (h : FX l n o) (hb : bestI o < 0) : FE l n none := by
  cases o with
  | some j => exact absurd hb (by simp only [bestI]; omega)
  | none =>
    refine ⟨?_, .head _⟩
    unfold lookN
    split
    · rfl
    · rename_i hn
      cases hl : lookE (l.map (·.e)) (foldN n) with
      | none => rfl
      | some e =>
        obtain ⟨h1, h2⟩ := look_mem hl
        obtain ⟨x, hx, rfl⟩ := List.mem_map.1 h1
        have h3 : same2 x.e.host n = false := at_all (p := fun s => same2 s n = false) h x hx
        rw [(same2_iff ((tab_hosts h0).ck _ h1) (by omega)).2 h2] at h3; cases h3
theorem fx_some {v : Int} {l : List Le} (h0 : tabCk v l = 0) {n : Str} {o : Option Nat} (h : FX l n o) (hb : ¬ bestI o < 0) : (bestI o).toNat < l.length ∧ FE l n (some (l.getD (bestI o).toNat le0)) := by
  cases o with
  | none => exact absurd (by decide) hb
  | some i =>
    obtain ⟨h1, h2, h3⟩ := h
    have e : (bestI (some i)).toNat = i := by simp [bestI]
    rw [e]
    have hm : (l.getD i le0) ∈ l := mem_getD h1
    have hme : (l.getD i le0).e ∈ l.map (·.e) := List.mem_map.2 ⟨_, hm, rfl⟩
    have hn : nameCk n = 0 := by
      simp only [same2, Bool.and_eq_true, decide_eq_true_eq] at h2; exact h2.1.2
    refine ⟨h1, ?_, .tail _ hm⟩
    rw [lookN, if_neg (fun q => q hn), ← (same2_iff ((tab_hosts h0).ck _ hme) hn).1 h2, look_some (tab_hosts h0) hme]; rfl

theorem c_ref17_find (l : List Le) (A : Option Addr) (c : Nat) (n : Str) (hok : TbOk l) (hlen : l.length ≤ 1000000000) (hn : n.length ≤ 1000000000) : RC Try.prog 87 #[.slice A l.length c, .string (ba n)] [Ch.rd A 7 elC l] (α := {o : Option Nat // FX l n o}) (fun o => .int .i64 (bestI o.1)) (fun o => []) := by
  refine rc_of_W (args := [.slice A l.length c, .string (ba n)]) 20 Try.func87 rfl rfl rfl (fun w0 => ?_)
  refine w_seq ?_
  refine w_region ?_
  refine o_y (y_assign rfl) rfl rfl ?_
  refine wl_nil ?_
  refine e_seq ?_
  refine w_seq ?_
  refine w_seq ?_
  refine w_region ?_
  refine o_y (y_assign rfl) rfl rfl ?_
  refine wl_nil ?_
  refine e_seq ?_
  refine w_block ?_
  refine w_loop0 (σ := Nat) [4, 5, 6, 7, 8, 9, 10, 11, 12, 13, 14, 15, 16, 17, 18, 19] (fun k => k ≤ l.length ∧ ∀ q, q < k → same2 (hst l q) n = false) (fun k => l.length - k) (fun k => [(5, .int .i64 k)]) (0) ?_ ⟨rfl, trivial⟩ (fun k hI => ?_)
  · exact ⟨Nat.zero_le _, nofun⟩
  refine w_seq ?_
  refine w_seq ?_
  refine w_region ?_
  refine o_y (y_move rfl) rfl rfl ?_
  refine o_y (y_move rfl) rfl rfl ?_
  refine o_y (y_lenl Try.underlying39 rfl) rfl rfl ?_
  refine o_y (y_lss rfl rfl) rfl rfl ?_
  refine wl_splitp (t := 9) rfl (fun h2_3 => ?_) (fun h2_3 => ?_)
  · skip
    have hk : k < l.length := by omega
    have hb9 := hok.at hk
    have hh9 := hb9.h
    refine wl_nil ?_
    refine e_seq ?_
    refine w_cond_t rfl ?_
    refine w_skip ?_
    refine e_seq ?_
    refine w_seq ?_
    refine w_block ?_
    refine w_seq ?_
    refine w_region ?_
    refine o_y (y_move rfl) rfl rfl ?_
    refine o_y (y_move rfl) rfl rfl ?_
    refine o_y (y_ixm  Try.underlying39 ty_50 rfl rfl (rs_S 0 rfl) rfl (by omega)) rfl rfl ?_
    refine o_y (y_field fa_50_0 rfl) rfl rfl ?_
    refine o_y (y_ldm0 enc_le le0 ty_25 rfl (rs_S 0 rfl) (by omega) rfl rfl) rfl rfl ?_
    refine o_y (y_move rfl) rfl rfl ?_
    refine o_callp rfl ent_20 (c_ref02_Same _ _ (by omega) (by omega)) rfl ?_
    refine wl_splitb (t := 18) rfl (fun h4_6 => ?_) (fun h4_6 => ?_)
    · skip
      refine wl_nil ?_
      refine e_seq ?_
      refine w_cond_t rfl ?_
      refine w_seq ?_
      refine w_region ?_
      refine o_y (y_move rfl) rfl rfl ?_
      refine o_y (y_assign rfl) rfl rfl ?_
      refine wl_nil ?_
      refine e_seq ?_
      refine w_ret ?_
      refine e_blk_ret ?_
      refine e_seq_ret ?_
      refine e_loop_ret ?_
      refine e_blk_ret ?_
      refine e_seq_ret ?_
      refine e_ret (ts := [4]) rfl rfl rfl (fun w hw => ?_)
      exact ⟨⟨some k, by omega, h4_6, hI.2⟩, rfl, hw.base, (hw.weak (List.nil_sublist _) (fun s hs => hs)).toNews⟩
    · skip
      refine wl_nil ?_
      refine e_seq ?_
      refine w_cond_f rfl ?_
      refine w_skip ?_
      refine e_blk ?_
      refine e_seq ?_
      refine w_region ?_
      refine o_y (y_move rfl) rfl rfl ?_
      refine o_y (y_addi rfl rfl (by omega) (by omega)) rfl rfl ?_
      refine o_y (y_assign rfl) rfl rfl ?_
      refine wl_nil ?_
      refine e_back (k + 1) ?_ ?_ ⟨rfl, trivial⟩ (by repeat (first | exact trivial | refine ⟨rfl, ?_⟩)) (fun w h => h)
      · refine ⟨by omega, fun q hq => ?_⟩
        by_cases e : q = k
        · rw [e]; exact h4_6
        · exact hI.2 q (by omega)
      · omega
  · skip
    refine wl_nil ?_
    refine e_seq ?_
    refine w_cond_f rfl ?_
    refine w_exit ?_
    refine e_seq_exit ?_
    refine e_loop_exit ?_
    refine e_blk_hit ?_
    refine e_seq ?_
    refine w_seq ?_
    refine w_region ?_
    refine o_y (y_assign rfl) rfl rfl ?_
    refine wl_nil ?_
    refine e_seq ?_
    refine w_ret ?_
    refine e_ret (ts := [4]) rfl rfl rfl (fun w hw => ?_)
    exact ⟨⟨none, fun q hq => hI.2 q (by omega)⟩, rfl, hw.base, (hw.weak (List.nil_sublist _) (fun s hs => hs)).toNews⟩

set_option maxRecDepth 100000 in
theorem c_ref17_Find (v : Int) (l : List Le) (A : Option Addr) (c : Nat) (n : Str) (hok : TbOk l) (hlen : l.length ≤ 1000000000) (hn : n.length ≤ 1000000000) (h0 : tabCk v l = 0) : RC Try.prog 44 #[.agg (tbC v A l.length c).toArray, .string (ba n)] [Ch.rd A 7 elC l, Ch.rall (l.flatMap elR)] (α := {r : Option Le // FE l n r}) (fun o => .tuple #[.agg (elC (o.1.getD le0)).toArray, .bool o.1.isSome]) (fun o => []) := by
  refine rc_of_W (args := [.agg (tbC v A l.length c).toArray, .string (ba n)]) 23 Try.func44 rfl rfl rfl (fun w0 => ?_)
  refine w_seq ?_
  refine w_region ?_
  refine o_box rfl rfl rfl (fun b1 => ?_)
  refine o_alloc ty_50 rfl rfl (fun b2 => ?_)
  refine o_y (y_assign rfl) rfl rfl ?_
  refine wl_nil ?_
  refine e_seq ?_
  refine w_seq ?_
  refine w_seq ?_
  refine w_region ?_
  refine o_y (y_loadrs 1 ty_41 rfl rfl rfl rfl) rfl rfl ?_
  refine o_callq rfl ent_81 rfl (c_ref17_Check _ _ _ _ hok (by omega)) (fun w hw => (rd_cons (rd_S 0 rfl hw) (rd_cons (rd_S 1 rfl hw) rd_nil))) ?_
  refine o_y (y_neq rfl rfl) rfl rfl ?_
  refine wl_af (t := 9) rfl (fun h => h h0) ?_
  refine wl_nil ?_
  refine e_seq ?_
  refine w_cond_f rfl ?_
  refine w_skip ?_
  refine e_seq ?_
  refine w_seq ?_
  refine w_region ?_
  refine o_y (y_field fa_41_1 rfl) rfl rfl ?_
  refine o_y (y_loadr 1 ty_39 rfl rfl rfl) rfl rfl ?_
  refine o_y (y_move rfl) rfl rfl ?_
  refine o_callr0 rfl ent_87 rfl (c_ref17_find l A c n hok hlen hn) (fun w hw => (rd_cons (rd_S 0 rfl hw) rd_nil)) (fun ⟨fo, hfo⟩ => ?_)
  refine o_y (y_assign rfl) rfl rfl ?_
  refine wl_nil ?_
  refine e_seq ?_
  refine w_seq ?_
  refine w_seq ?_
  refine w_region ?_
  refine o_y (y_move rfl) rfl rfl ?_
  refine o_y (y_lss rfl rfl) rfl rfl ?_
  refine wl_splitp (t := 16) rfl (fun h4_1 => ?_) (fun h4_1 => ?_)
  · skip
    refine wl_nil ?_
    refine e_seq ?_
    refine w_cond_t rfl ?_
    refine w_seq ?_
    refine w_region ?_
    refine o_y (y_build rfl (bu_50)) rfl rfl ?_
    refine o_store ty_50 rfl rfl rfl .z rfl rfl rfl rfl ?_
    refine o_y (y_assign rfl) rfl rfl ?_
    refine wl_nil ?_
    refine e_seq ?_
    refine w_ret ?_
    refine e_seq_ret ?_
    refine e_rsr (rs := [.cell 4 50, .tmp 5]) rfl (rs_cells 0 ty_50 rfl rfl rfl rfl (rs_tmp rfl rs_nil)) rfl (fun w hw => ?_)
    exact ⟨⟨none, fx_none h0 hfo h4_1⟩, rfl, hw.base, (hw.weak (List.nil_sublist _) (fun s hs => hs)).toNews⟩
  · skip
    refine wl_nil ?_
    refine e_seq ?_
    refine w_cond_f rfl ?_
    refine w_skip ?_
    refine e_seq ?_
    refine w_seq ?_
    have hb4 : ¬ bestI fo < 0 := h4_1
    refine w_region ?_
    refine o_y (y_field fa_41_1 rfl) rfl rfl ?_
    refine o_y (y_loadr 1 ty_39 rfl rfl rfl) rfl rfl ?_
    refine o_y (y_move rfl) rfl rfl ?_
    refine o_y (y_ixm (k := (bestI fo).toNat) Try.underlying39 ty_50 rfl rfl (rs_S 0 rfl) (Int.toNat_of_nonneg (a := bestI fo) (by omega)).symm (fx_some h0 hfo h4_1).1) rfl rfl ?_
    refine o_y (y_ldsm0 enc_le le0 ty_50 rfl (rs_S 0 rfl) (fx_some h0 hfo h4_1).1 rfl rfl rfl) rfl rfl ?_
    refine o_store ty_50 rfl rfl rfl .z rfl rfl rfl rfl ?_
    refine o_y (y_assign rfl) rfl rfl ?_
    refine wl_nil ?_
    refine e_seq ?_
    refine w_ret ?_
    refine e_rsr (rs := [.cell 4 50, .tmp 5]) rfl (rs_cells 0 ty_50 rfl rfl rfl rfl (rs_tmp rfl rs_nil)) rfl (fun w hw => ?_)
    exact ⟨⟨some (l.getD (bestI fo).toNat le0), (fx_some h0 hfo h4_1).2⟩, rfl, hw.base, (hw.weak (List.nil_sublist _) (fun s hs => hs)).toNews⟩
end Go.Proofs.Ytckfjfnkombelaa
