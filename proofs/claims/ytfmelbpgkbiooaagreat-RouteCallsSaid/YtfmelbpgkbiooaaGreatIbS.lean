import Derived.Test.YtfmelbpgkbiooaaGreatPfS
import Derived.Test.YtfmelbpgkbiooaaGreatNaS
/- search: each candidate once; the laws of candidates -/
namespace Go.Proofs.YtfmelbpgkbiooaaGreat
open Go.RowKit Go.Shelf
set_option linter.unusedVariables false
set_option linter.unusedSimpArgs false

def namesE (s : Sr) (n : Str) : Int := if srCk s ≠ 0 then srCk s else nameCk n
end Go.Proofs.YtfmelbpgkbiooaaGreat

/- tables: looked at -/
namespace Go.Proofs.YtfmelbpgkbiooaaGreat
open Go.RowKit Go.Shelf
set_option linter.unusedVariables false
set_option linter.unusedSimpArgs false

theorem ent_45 : Enters Tryz.prog 45 := enters_of Tryz.func45 (by kernel_rfl) rfl
theorem ent_79 : Enters Tryz.prog 79 := enters_of Tryz.func79 (by kernel_rfl) rfl
theorem ent_89 : Enters Tryz.prog 89 := enters_of Tryz.func89 (by kernel_rfl) rfl
theorem ent_90 : Enters Tryz.prog 90 := enters_of Tryz.func90 (by kernel_rfl) rfl
theorem ent_91 : Enters Tryz.prog 91 := enters_of Tryz.func91 (by kernel_rfl) rfl
theorem fa_24_0 : FA Tryz.prog 24 0 0 := fun b o w => by kernel_rfl
theorem fa_24_1 : FA Tryz.prog 24 1 1 := fun b o w => by kernel_rfl
theorem ty_22 : TyI Tryz.prog 22 false 1 24 (.slice none 0 0) := TyI.mk' (by kernel_rfl) (fun _ => by kernel_rfl)

def tbC (v : Int) (A : Option Addr) (n c : Nat) : List Value := [.int .i64 v, .slice A n c]
def lightEs (l : List Le) (m : Int) : Bool := decide (∀ x ∈ l, lightE x.e = true) && decide ((l.length : Int) ≤ m)
theorem lightEs_bad {l : List Le} {m : Int} {k : Nat} (hk : k < l.length) (h : lightE (l.getD k le0).e = false) : lightEs l m = false := by
  rw [lightEs, decide_eq_false (fun q => by rw [q _ (mem_getD (d := le0) hk)] at h; cases h), Bool.false_and]
theorem lightEs_ok {l : List Le} {m : Int} (h : ∀ i, i < l.length → lightE (l.getD i le0).e = true) : lightEs l m = decide ((l.length : Int) ≤ m) := by
  rw [lightEs, decide_eq_true, Bool.true_and]
  intro s hs
  obtain ⟨i, hi, rfl⟩ := List.mem_iff_getElem.1 hs
  have := h i hi
  rwa [List.getD_eq_getElem?_getD, List.getElem?_eq_getElem hi] at this
theorem lightEs_le {l : List Le} {m : Int} (h : lightEs l m = true) : (∀ x ∈ l, lightE x.e = true) ∧ (l.length : Int) ≤ m := by
  simpa [lightEs] using h

theorem c_LightEntries (l : List Le) (A : Option Addr) (c : Nat) (m : Int) (hl : l.length ≤ 9223372036854775807) : RC Tryz.prog 10 #[.slice A l.length c, .int .i64 m] [Ch.rd A 7 elC l] (α := Unit) (fun _ => .bool (lightEs l m)) (fun _ => []) := by
 refine rc_of_W (args := [.slice A l.length c, .int .i64 m]) 22 Tryz.func10 rfl rfl rfl (fun w0 => ?_)
 refine w_seq ?_
 refine w_region ?_
 refine o_y (y_assign rfl) rfl rfl ?_
 refine wl_nil ?_
 refine e_seq ?_
 refine w_seq ?_
 refine w_seq ?_
 refine w_region ?_
 refine o_y (y_assign rfl) rfl rfl ?_
 refine wl_nil ?_
 refine e_seq ?_
 refine w_block ?_
 refine w_loop0 (σ := Nat) [4, 5, 6, 7, 8, 9, 10, 11, 12, 13, 14, 15, 16, 17] (fun k => k ≤ l.length ∧ ∀ i, i < k → lightE (l.getD i le0).e = true) (fun k => l.length - k) (fun k => [(5, .int .i64 k)]) (0) ?_ ⟨rfl, trivial⟩ (fun k hI => ?_)
 exact ⟨Nat.zero_le _, nofun⟩
 refine w_seq ?_
 refine w_seq ?_
 refine w_region ?_
 refine o_y (y_move rfl) rfl rfl ?_
 refine o_y (y_move rfl) rfl rfl ?_
 refine o_y (y_lenl Tryz.underlying22 rfl) rfl rfl ?_
 refine o_y (y_lss rfl rfl) rfl rfl ?_
 refine wl_splitp (t := 9) rfl (fun h2_3 => ?_) (fun h2_3 => ?_)
 refine wl_nil ?_
 refine e_seq ?_
 refine w_cond_t rfl ?_
 refine w_skip ?_
 refine e_seq ?_
 refine w_seq ?_
 refine w_block ?_
 refine w_seq ?_
 refine w_region ?_
 refine o_y (y_move rfl) rfl rfl ?_
 refine o_y (y_move rfl) rfl rfl ?_
 refine o_y (y_ixm  Tryz.underlying22 ty_47 rfl rfl (rs_S 0 rfl) rfl (by omega)) rfl rfl ?_
 refine o_y (y_ldsm0 enc_le le0 ty_47 rfl (rs_S 0 rfl) (by omega) rfl rfl rfl) rfl rfl ?_
 refine o_callp rfl ent_45 (c_LightEntry _ _ _ _ _) rfl ?_
 refine wl_splitb (t := 16) rfl (fun h4_4 => ?_) (fun h4_4 => ?_)
 refine o_y (y_not rfl) rfl rfl ?_
 refine wl_nil ?_
 refine e_seq ?_
 refine w_cond_f rfl ?_
 refine w_skip ?_
 refine e_blk ?_
 refine e_seq ?_
 refine w_region ?_
 refine o_y (y_move rfl) rfl rfl ?_
 refine o_y (y_addi rfl rfl (by omega) (by omega)) rfl rfl ?_
 refine o_y (y_assign rfl) rfl rfl ?_
 refine wl_nil ?_
 refine e_back (k + 1) ?_ ?_ ⟨rfl, trivial⟩ (by repeat (first | exact trivial | refine ⟨rfl, ?_⟩)) (fun w h => h)
 exact ⟨by omega, all_succ hI.2 h4_4⟩
 omega
 refine o_y (y_not rfl) rfl rfl ?_
 refine wl_nil ?_
 refine e_seq ?_
 refine w_cond_t rfl ?_
 refine w_seq ?_
 refine w_region ?_
 refine o_y (y_assign rfl) rfl rfl ?_
 refine wl_nil ?_
 refine e_seq ?_
 refine w_ret ?_
 refine e_blk_ret ?_
 refine e_seq_ret ?_
 refine e_loop_ret ?_
 refine e_blk_ret ?_
 refine e_seq_ret ?_
 refine e_ret (ts := [4]) rfl rfl rfl (fun w hw => ?_)
 exact ⟨(), by rw [lightEs_bad (k := k) (by omega) h4_4]; rfl, hw.base, (hw.weak (List.nil_sublist _) (fun s hs => hs)).toNews⟩
 refine wl_nil ?_
 refine e_seq ?_
 refine w_cond_f rfl ?_
 refine w_exit ?_
 refine e_seq_exit ?_
 refine e_loop_exit ?_
 refine e_blk_hit ?_
 refine e_seq ?_
 refine w_seq ?_
 refine w_region ?_
 refine o_y (y_move rfl) rfl rfl ?_
 refine o_y (y_lenl Tryz.underlying22 rfl) rfl rfl ?_
 refine o_y (y_move rfl) rfl rfl ?_
 refine o_y (y_leq rfl rfl) rfl rfl ?_
 refine o_y (y_assign rfl) rfl rfl ?_
 refine wl_nil ?_
 refine e_seq ?_
 refine w_ret ?_
 refine e_ret (ts := [4]) rfl rfl rfl (fun w hw => ?_)
 exact ⟨(), by rw [lightEs_ok (fun i hi => hI.2 i (by omega))]; rfl, hw.base, (hw.weak (List.nil_sublist _) (fun s hs => hs)).toNews⟩

def cmp1 (a b : Str) : Int := if cmpN a b ≠ 0 then cmpN a b else -1
def Rises (l : List Le) : Prop := ∀ i, 0 < i → i < l.length → 0 < cmpN (l.getD i le0).e.host (l.getD (i - 1) le0).e.host
instance (l : List Le) : Decidable (Rises l) := by
  have : Decidable (∀ i, i < l.length → (0 < i → 0 < cmpN (l.getD i le0).e.host (l.getD (i - 1) le0).e.host)) := inferInstance
  exact decidable_of_iff _ ⟨fun h i h0 hi => h i hi h0, fun h i hi h0 => h i h0 hi⟩
theorem cmp1_neg {a b : Str} : cmp1 a b < 0 ↔ ¬ 0 < cmpN a b := by
  unfold cmp1
  split
  · omega
  · constructor
    · intro _; omega
    · intro _; decide

theorem c_tCheck1 (x y : Le) (hx : x.e.host.length ≤ 1000000000) (hy : y.e.host.length ≤ 1000000000) : Pure Tryz.prog 90 #[.agg (elC x).toArray, .agg (elC y).toArray] (.int .i64 (cmp1 x.e.host y.e.host)) := by
 intro w0
 refine calls_of_W (ok0 := no) (S := []) (args := [.agg (elC x).toArray, .agg (elC y).toArray]) 14 Tryz.func90 rfl rfl rfl (by simp) (by simp) ?_
 refine w_seq ?_
 refine w_region ?_
 refine o_box rfl rfl rfl (fun b1 => ?_)
 refine o_box rfl rfl rfl (fun b2 => ?_)
 refine o_y (y_assign rfl) rfl rfl ?_
 refine wl_nil ?_
 refine e_seq ?_
 refine w_seq ?_
 refine w_seq ?_
 refine w_region ?_
 refine o_y (y_field fa_47_0 rfl) rfl rfl ?_
 refine o_y (y_loadr 1 ty_36 rfl rfl rfl) rfl rfl ?_
 refine o_y (y_field fa_47_0 rfl) rfl rfl ?_
 refine o_y (y_loadr 0 ty_36 rfl rfl rfl) rfl rfl ?_
 refine o_callp rfl ent_79 (p_name_Compare _ _ (by omega) (by omega)) rfl ?_
 refine o_y (y_assign rfl) rfl rfl ?_
 refine wl_nil ?_
 refine e_seq ?_
 refine w_seq ?_
 refine w_region ?_
 refine o_y (y_move rfl) rfl rfl ?_
 refine o_y (y_neq rfl rfl) rfl rfl ?_
 refine wl_splitp (t := 12) rfl (fun h2_1 => ?_) (fun h2_1 => ?_)
 refine wl_nil ?_
 refine e_seq ?_
 refine w_cond_t rfl ?_
 refine w_seq ?_
 refine w_region ?_
 refine o_y (y_move rfl) rfl rfl ?_
 refine o_y (y_assign rfl) rfl rfl ?_
 refine wl_nil ?_
 refine e_seq ?_
 refine w_ret ?_
 refine e_seq_ret ?_
 refine e_ret (ts := [4]) rfl rfl rfl (fun w hw => ?_)
 refine ⟨?_, hw.base⟩
 show Ending.returned (.int _ _) = _
 congr 2
 focus first
   | (rw [cmp1, if_pos h2_1]
      done)
   | (rw [cmp1, if_neg h2_1]
      done)
 refine wl_nil ?_
 refine e_seq ?_
 refine w_cond_f rfl ?_
 refine w_skip ?_
 refine e_seq ?_
 refine w_seq ?_
 refine w_region ?_
 refine o_y (y_assign rfl) rfl rfl ?_
 refine wl_nil ?_
 refine e_seq ?_
 refine w_ret ?_
 refine e_ret (ts := [4]) rfl rfl rfl (fun w hw => ?_)
 refine ⟨?_, hw.base⟩
 show Ending.returned (.int _ _) = _
 congr 2
 focus first
   | (rw [cmp1, if_pos h2_1]
      done)
   | (rw [cmp1, if_neg h2_1]
      done)

set_option maxRecDepth 100000 in
theorem c_IsSorted (l : List Le) (A : Option Addr) (c : Nat) (hl : l.length ≤ 1000000000) (hh : ∀ x ∈ l, x.e.host.length ≤ 1000000000) : RC Tryz.prog 89 #[.slice A l.length c, .func (.func 90) #[] #[]] [Ch.rd A 7 elC l] (α := Unit) (fun _ => .bool (decide (Rises l))) (fun _ => []) := by
 refine rc_of_W (args := [.slice A l.length c, .func (.func 90) #[] #[]]) 25 Tryz.func89 rfl rfl rfl (fun w0 => ?_)
 refine w_seq ?_
 refine w_region ?_
 refine o_y (y_assign rfl) rfl rfl ?_
 refine wl_nil ?_
 refine e_seq ?_
 refine w_seq ?_
 refine w_seq ?_
 refine w_region ?_
 refine o_y (y_move rfl) rfl rfl ?_
 refine o_y (y_lenl Tryz.underlying22 rfl) rfl rfl ?_
 refine o_y (y_subi rfl rfl (by omega) (by omega)) rfl rfl ?_
 refine o_y (y_assign rfl) rfl rfl ?_
 refine wl_nil ?_
 refine e_seq ?_
 refine w_block ?_
 refine w_loop0 (σ := Int) [4, 5, 9, 10, 11, 12, 13, 14, 15, 16, 17, 18, 19, 20, 21, 22, 23, 24] (fun jz => -1 ≤ jz ∧ jz ≤ (l.length : Int) - 1 ∧ ∀ i : Nat, jz < i → 0 < i → i < l.length → 0 < cmpN (l.getD i le0).e.host (l.getD (i - 1) le0).e.host) (fun jz => (jz + 1).toNat) (fun jz => [(5, .int .i64 jz)]) (((l.length : Int) - 1)) ?_ ⟨rfl, trivial⟩ (fun jz hI => ?_)
 exact ⟨by omega, by omega, fun i h1 h2 h3 => by omega⟩
 refine w_seq ?_
 refine w_seq ?_
 refine w_region ?_
 refine o_y (y_move rfl) rfl rfl ?_
 refine o_y (y_gtr rfl rfl) rfl rfl ?_
 refine wl_splitp (t := 10) rfl (fun h2_1 => ?_) (fun h2_1 => ?_)
 refine wl_nil ?_
 refine e_seq ?_
 refine w_cond_t rfl ?_
 refine w_skip ?_
 refine e_seq ?_
 refine w_seq ?_
 refine w_block ?_
 refine w_seq ?_
 refine w_draw 12 rfl mixed ?_
 refine a_take (i := 0) rfl wanted_none (y_move rfl) (fun w h => h) (fun w h => h) rfl (pk_seq (pk_blk (pk_seq (pk_loop (pk_blk (pk_seq pk_fn)))))) (by kernel_rfl) rfl ?_
 refine a_take (i := 1) rfl wanted_none (y_move rfl) (fun w h => h) (fun w h => h) rfl (pk_seq (pk_blk (pk_seq (pk_loop (pk_blk (pk_seq pk_fn)))))) (by kernel_rfl) rfl ?_
 refine a_take (i := 2) rfl wanted_none (y_move rfl) (fun w h => h) (fun w h => h) rfl (pk_seq (pk_blk (pk_seq (pk_loop (pk_blk (pk_seq pk_fn)))))) (by kernel_rfl) rfl ?_
 refine a_take (i := 3) rfl wanted_none (y_ixm (k := jz.toNat) Tryz.underlying22 ty_47 rfl rfl (rs_S 0 rfl) (by omega) (by omega)) (fun w h => h) (fun w h => h) rfl (pk_seq (pk_blk (pk_seq (pk_loop (pk_blk (pk_seq pk_fn)))))) (by kernel_rfl) rfl ?_
 refine a_take (i := 4) rfl wanted_none (y_ldsm0 enc_le le0 ty_47 rfl (rs_S 0 rfl) (by omega) rfl rfl rfl) (fun w h => h) (fun w h => h) rfl (pk_seq (pk_blk (pk_seq (pk_loop (pk_blk (pk_seq pk_fn)))))) (by kernel_rfl) rfl ?_
 refine a_take (i := 5) rfl wanted_none (y_move rfl) (fun w h => h) (fun w h => h) rfl (pk_seq (pk_blk (pk_seq (pk_loop (pk_blk (pk_seq pk_fn)))))) (by kernel_rfl) rfl ?_
 refine a_take (i := 6) rfl wanted_none (y_move rfl) (fun w h => h) (fun w h => h) rfl (pk_seq (pk_blk (pk_seq (pk_loop (pk_blk (pk_seq pk_fn)))))) (by kernel_rfl) rfl ?_
 refine a_take (i := 7) rfl wanted_none (y_subi rfl rfl (by omega) (by omega)) (fun w h => h) (fun w h => h) rfl (pk_seq (pk_blk (pk_seq (pk_loop (pk_blk (pk_seq pk_fn)))))) (by kernel_rfl) rfl ?_
 refine a_take (i := 8) rfl wanted_none (y_ixm (k := jz.toNat - 1) Tryz.underlying22 ty_47 rfl rfl (rs_S 0 rfl) (by omega) (by omega)) (fun w h => h) (fun w h => h) rfl (pk_seq (pk_blk (pk_seq (pk_loop (pk_blk (pk_seq pk_fn)))))) (by kernel_rfl) rfl ?_
 refine a_take (i := 9) rfl wanted_none (y_ldsm0 enc_le le0 ty_47 rfl (rs_S 0 rfl) (by omega) rfl rfl rfl) (fun w h => h) (fun w h => h) rfl (pk_seq (pk_blk (pk_seq (pk_loop (pk_blk (pk_seq pk_fn)))))) (by kernel_rfl) rfl ?_
 refine a_one (i := 10) rfl rfl rfl (tame_call rfl ent_90) (by kernel_rfl) rfl ?_
 refine o_callvp rfl rfl rfl ent_90 (c_tCheck1 _ _ (hh _ (mem_getD (by omega))) (hh _ (mem_getD (by omega)))) rfl ?_
 refine wl_nil ?_
 refine e_one (fun w h => h) ?_
 refine a_take (i := 11) rfl wanted_none (y_lss rfl rfl) (fun w h => h) (fun w h => h) rfl (pk_seq (pk_blk (pk_seq (pk_loop (pk_blk (pk_seq pk_fn)))))) (by kernel_rfl) rfl ?_
 refine wa_splitp (t := 24) rfl (fun h4_11 => ?_) (fun h4_11 => ?_)
 refine a_done (by kernel_rfl) ?_
 refine e_seq ?_
 refine w_cond_t rfl ?_
 refine w_seq ?_
 refine w_region ?_
 refine o_y (y_assign rfl) rfl rfl ?_
 refine wl_nil ?_
 refine e_seq ?_
 refine w_ret ?_
 refine e_blk_ret ?_
 refine e_seq_ret ?_
 refine e_loop_ret ?_
 refine e_blk_ret ?_
 refine e_seq_ret ?_
 refine e_ret (ts := [4]) rfl rfl rfl (fun w hw => ?_)
 have hR : ¬ Rises l := fun h => by
   have h9 := h4_11
   rw [cmp1_neg] at h9
   exact h9 (h _ (by omega) (by omega))
 exact ⟨(), by rw [decide_eq_false hR]; rfl, hw.base, (hw.weak (List.nil_sublist _) (fun s hs => hs)).toNews⟩
 refine a_done (by kernel_rfl) ?_
 refine e_seq ?_
 refine w_cond_f rfl ?_
 refine w_skip ?_
 refine e_blk ?_
 refine e_seq ?_
 refine w_region ?_
 refine o_y (y_move rfl) rfl rfl ?_
 refine o_y (y_subi rfl rfl (by omega) (by omega)) rfl rfl ?_
 refine o_y (y_assign rfl) rfl rfl ?_
 refine wl_nil ?_
 refine e_back (jz - 1) ?_ ?_ ⟨rfl, trivial⟩ (by repeat (first | exact trivial | refine ⟨rfl, ?_⟩)) (fun w h => h)
 refine ⟨by omega, by omega, fun i h1 h2 h3 => ?_⟩
 by_cases e : jz = i
 · have e2 : jz.toNat = i := by omega
   have h9 := h4_11
   rw [cmp1_neg, e2] at h9
   exact Decidable.not_not.1 h9
 · exact hI.2.2 i (by omega) h2 h3
 omega
 refine wl_nil ?_
 refine e_seq ?_
 refine w_cond_f rfl ?_
 refine w_exit ?_
 refine e_seq_exit ?_
 refine e_loop_exit ?_
 refine e_blk_hit ?_
 refine e_seq ?_
 refine w_seq ?_
 refine w_region ?_
 refine o_y (y_assign rfl) rfl rfl ?_
 refine wl_nil ?_
 refine e_seq ?_
 refine w_ret ?_
 refine e_ret (ts := [4]) rfl rfl rfl (fun w hw => ?_)
 have hR : Rises l := fun i h1 h2 => hI.2.2 i (by omega) h1 h2
 exact ⟨(), by rw [decide_eq_true hR]; rfl, hw.base, (hw.weak (List.nil_sublist _) (fun s hs => hs)).toNews⟩

def entsCk : List Le → Int
  | [] => 0
  | x :: r => if entCk x.e ≠ 0 then entCk x.e else entsCk r
theorem entsCk_zero : ∀ {l : List Le}, entsCk l = 0 ↔ ∀ x ∈ l, entCk x.e = 0
  | [] => by simp [entsCk]
  | d :: r => by
    rw [entsCk]
    by_cases h : entCk d.e ≠ 0
    · rw [if_pos h]; simp [h]
    · rw [if_neg h, entsCk_zero]
      have : entCk d.e = 0 := by omega
      simp [this]
/-- table.Check. -/
def tabCk (v : Int) (l : List Le) : Int := if 256 < l.length then 3 else if entsCk l ≠ 0 then entsCk l else if ¬ Rises l ∨ v < 0 ∨ 2147483647 < v then 2 else 0
/-- What is known of a table's entries: their octets are so many, their numbers are such. -/
def TbOk (l : List Le) : Prop := ∀ x ∈ l, EnOk x.e ∧ lightE x.e = true
structure EnB (e : En) : Prop where
  wa : ∀ a ∈ e.addrs, 0 ≤ a.lo
  la : e.addrs.length ≤ 1000
  lp : e.ports.length ≤ 1000
  k : -9223372036854775808 ≤ e.kind ∧ e.kind ≤ 9223372036854775807
  h : e.host.length ≤ 1000
  al : e.alias.length ≤ 1000
theorem TbOk.at {l : List Le} (h : TbOk l) {k : Nat} (hk : k < l.length) : EnB (l.getD k le0).e := by
  obtain ⟨h1, h2⟩ := h _ (mem_getD (d := le0) hk)
  have h3 := light_le h2
  exact ⟨h1.lo, by omega, by omega, h1.2.1, by omega, by omega⟩
theorem TbOk.hosts {l : List Le} (h : TbOk l) : ∀ x ∈ l, x.e.host.length ≤ 1000000000 := fun x hx => by
  have := light_le (h x hx).2; omega
theorem drop_getE {l : List Le} {k : Nat} (h : k < l.length) : l.drop k = l.getD k le0 :: l.drop (k + 1) := drop_getD l le0 k h

theorem c_table_Check (v : Int) (l : List Le) (A : Option Addr) (c : Nat) (hok : TbOk l) (hlen : l.length ≤ 9223372036854775807) : RC Tryz.prog 38 #[.agg (tbC v A l.length c).toArray] [Ch.rd A 7 elC l, Ch.rall (l.flatMap elR)] (α := Unit) (fun _ => .int .i64 (tabCk v l)) (fun _ => []) := by
 refine rc_of_W (args := [.agg (tbC v A l.length c).toArray]) 39 Tryz.func38 rfl rfl rfl (fun w0 => ?_)
 refine w_seq ?_
 refine w_region ?_
 refine o_box rfl rfl rfl (fun b1 => ?_)
 refine o_y (y_assign rfl) rfl rfl ?_
 refine wl_nil ?_
 refine e_seq ?_
 refine w_seq ?_
 refine w_seq ?_
 refine w_region ?_
 refine o_y (y_field fa_24_1 rfl) rfl rfl ?_
 refine o_y (y_loadr 0 ty_22 rfl rfl rfl) rfl rfl ?_
 refine o_y (y_lenl Tryz.underlying22 rfl) rfl rfl ?_
 refine o_y (y_gtr rfl rfl) rfl rfl ?_
 refine wl_splitp (t := 10) rfl (fun h1_3 => ?_) (fun h1_3 => ?_)
 refine wl_nil ?_
 refine e_seq ?_
 refine w_cond_t rfl ?_
 refine w_seq ?_
 refine w_region ?_
 refine o_y (y_assign rfl) rfl rfl ?_
 refine wl_nil ?_
 refine e_seq ?_
 refine w_ret ?_
 refine e_seq_ret ?_
 refine e_ret (ts := [2]) rfl rfl rfl (fun w hw => ?_)
 refine ⟨(), ?_, hw.base, (hw.weak (List.nil_sublist _) (fun s hs => hs)).toNews⟩
 show Ending.returned (.int _ _) = _
 congr 2
 focus first
   | (rw [tabCk, if_pos (by omega)]
      done)
   | (rw [tabCk, if_neg (by omega), if_pos (by omega)]
      exact he9.symm)
   | (rw [tabCk, if_neg (by omega), if_neg (by omega), if_pos (by first | exact .inl (of_decide_eq_false h10_2) | exact .inr (.inl (by omega)) | exact .inr (.inr (by omega)))]
      done)
   | (rw [tabCk, if_neg (by omega), if_neg (by omega), if_neg (fun q => q.elim (fun q => q (of_decide_eq_true h10_2)) (fun q => by omega))]
      done)
   | (trace_state; fail)
 refine wl_nil ?_
 refine e_seq ?_
 refine w_cond_f rfl ?_
 refine w_skip ?_
 refine e_seq ?_
 refine w_seq ?_
 refine w_seq ?_
 refine w_region ?_
 refine o_y (y_field fa_24_1 rfl) rfl rfl ?_
 refine o_y (y_loadr 0 ty_22 rfl rfl rfl) rfl rfl ?_
 refine o_y (y_lenl Tryz.underlying22 rfl) rfl rfl ?_
 refine o_y (y_move rfl) rfl rfl ?_
 refine wl_nil ?_
 refine e_seq ?_
 refine w_block ?_
 refine w_loop0 (σ := Nat) [2, 4, 5, 14, 15, 16, 17, 18, 19, 20, 21, 22, 23] (fun k => k ≤ l.length ∧ entsCk l = entsCk (l.drop k)) (fun k => l.length - k) (fun k => [(14, .int .i64 k)]) (0) ?_ ⟨rfl, trivial⟩ (fun k hI => ?_)
 exact ⟨Nat.zero_le _, rfl⟩
 refine w_seq ?_
 refine w_region ?_
 refine o_y (y_lss rfl rfl) rfl rfl ?_
 refine wl_splitp (t := 15) rfl (fun h4_0 => ?_) (fun h4_0 => ?_)
 have hk : k < l.length := by omega
 have hb9 := hok.at hk
 have hdk := drop_getE hk
 refine wl_nil ?_
 refine e_seq ?_
 refine w_seq ?_
 refine w_cond_t rfl ?_
 refine w_skip ?_
 refine e_seq ?_
 refine w_seq ?_
 refine w_block ?_
 refine w_seq ?_
 refine w_region ?_
 refine o_y (y_ixm  Tryz.underlying22 ty_47 rfl rfl (rs_S 0 rfl) rfl (by omega)) rfl rfl ?_
 refine o_y (y_ldsm0 enc_le le0 ty_47 rfl (rs_S 0 rfl) (by omega) rfl rfl rfl) rfl rfl ?_
 refine o_alloc ty_47 rfl rfl (fun b2 => ?_)
 refine o_store ty_47 rfl rfl rfl .z rfl rfl rfl rfl ?_
 refine wl_nil ?_
 refine e_seq ?_
 refine w_seq ?_
 refine w_region ?_
 refine o_y (y_loadrs 0 ty_47 rfl rfl rfl rfl) rfl rfl ?_
 refine o_callq rfl ent_88 rfl (c_entry_Check _ _ _ _ _ hb9.wa (by have := hb9.la; omega) (by have := hb9.lp; omega) hb9.k) (fun w hw => (rd_cons (rd_all (rd_S 1 rfl hw) (mem_flatR (mem_getD (by omega)) _ (elRA _))) (rd_cons (rd_all (rd_S 1 rfl hw) (mem_flatR (mem_getD (by omega)) _ (elRB _))) rd_nil))) ?_
 refine o_y (y_assign rfl) rfl rfl ?_
 refine wl_nil ?_
 refine e_seq ?_
 refine w_seq ?_
 refine w_region ?_
 refine o_y (y_move rfl) rfl rfl ?_
 refine o_y (y_neq rfl rfl) rfl rfl ?_
 refine wl_splitp (t := 21) rfl (fun h7_1 => ?_) (fun h7_1 => ?_)
 refine wl_nil ?_
 refine e_seq ?_
 refine w_cond_t rfl ?_
 refine w_seq ?_
 have he9 : entsCk l = entCk (l.getD k le0).e := by rw [hI.2, hdk, entsCk, if_pos h7_1]
 refine w_region ?_
 refine o_y (y_move rfl) rfl rfl ?_
 refine o_y (y_assign rfl) rfl rfl ?_
 refine wl_nil ?_
 refine e_seq ?_
 refine w_ret ?_
 refine e_blk_ret ?_
 refine e_seq_ret ?_
 refine e_loop_ret ?_
 refine e_blk_ret ?_
 refine e_seq_ret ?_
 refine e_ret (ts := [2]) rfl rfl rfl (fun w hw => ?_)
 refine ⟨(), ?_, hw.base, (hw.weak (List.nil_sublist _) (fun s hs => hs)).toNews⟩
 show Ending.returned (.int _ _) = _
 congr 2
 focus first
   | (rw [tabCk, if_pos (by omega)]
      done)
   | (rw [tabCk, if_neg (by omega), if_pos (by omega)]
      exact he9.symm)
   | (rw [tabCk, if_neg (by omega), if_neg (by omega), if_pos (by first | exact .inl (of_decide_eq_false h10_2) | exact .inr (.inl (by omega)) | exact .inr (.inr (by omega)))]
      done)
   | (rw [tabCk, if_neg (by omega), if_neg (by omega), if_neg (fun q => q.elim (fun q => q (of_decide_eq_true h10_2)) (fun q => by omega))]
      done)
   | (trace_state; fail)
 refine wl_nil ?_
 refine e_seq ?_
 refine w_cond_f rfl ?_
 refine w_skip ?_
 refine e_blk ?_
 refine e_seq ?_
 refine w_region ?_
 refine o_y (y_addi rfl rfl (by omega) (by omega)) rfl rfl ?_
 refine o_y (y_move rfl) rfl rfl ?_
 refine wl_nil ?_
 refine e_back (k + 1) ?_ ?_ ⟨rfl, trivial⟩ (by repeat (first | exact trivial | refine ⟨rfl, ?_⟩)) (fun w h => h.weak (.cons _ (List.Sublist.refl _)) (fun s hs => hs))
 exact ⟨by omega, by rw [hI.2, hdk, entsCk, if_neg h7_1]⟩
 omega
 refine wl_nil ?_
 refine e_seq ?_
 refine w_seq ?_
 refine w_cond_f rfl ?_
 refine w_exit ?_
 refine e_seq_exit ?_
 refine e_loop_exit ?_
 refine e_blk_hit ?_
 refine e_seq ?_
 refine w_seq ?_
 refine w_region ?_
 have he0 : entsCk l = 0 := by rw [hI.2, List.drop_of_length_le (by omega)]; rfl
 have hhs := hok.hosts
 refine o_y (y_field fa_24_1 rfl) rfl rfl ?_
 refine o_y (y_loadr 0 ty_22 rfl rfl rfl) rfl rfl ?_
 refine o_callq rfl ent_89 rfl (c_IsSorted _ _ _ (by omega) hhs) (fun w hw => (rd_cons (rd_S 0 rfl hw) rd_nil)) ?_
 refine wl_splitb (t := 26) rfl (fun h10_2 => ?_) (fun h10_2 => ?_)
 refine o_y (y_assign rfl) rfl rfl ?_
 refine wl_nil ?_
 refine e_seq ?_
 refine w_seq ?_
 refine w_seq ?_
 refine w_region ?_
 refine o_y (y_move rfl) rfl rfl ?_
 refine o_y (y_not rfl) rfl rfl ?_
 refine o_y (y_move rfl) rfl rfl ?_
 refine wl_gyes rfl rfl ?_
 refine o_y (y_field fa_24_0 rfl) rfl rfl ?_
 refine wl_gyes rfl rfl ?_
 refine o_y (y_loadr 0 ty_3 rfl rfl rfl) rfl rfl ?_
 refine wl_gyes rfl rfl ?_
 refine o_y (y_lss rfl rfl) rfl rfl ?_
 refine wl_splitp (t := 32) rfl (fun h11_5 => ?_) (fun h11_5 => ?_)
 refine o_y (y_pick_f rfl rfl) rfl rfl ?_
 refine o_y (y_move rfl) rfl rfl ?_
 refine wl_gno rfl rfl rfl rfl ?_
 refine wl_gno rfl rfl rfl rfl ?_
 refine wl_gno rfl rfl rfl rfl ?_
 refine o_y (y_pick_t rfl rfl) rfl rfl ?_
 refine wl_nil ?_
 refine e_seq ?_
 refine w_cond_t rfl ?_
 refine w_seq ?_
 refine w_region ?_
 refine o_y (y_assign rfl) rfl rfl ?_
 refine wl_nil ?_
 refine e_seq ?_
 refine w_ret ?_
 refine e_seq_ret ?_
 refine e_ret (ts := [2]) rfl rfl rfl (fun w hw => ?_)
 refine ⟨(), ?_, hw.base, (hw.weak (List.nil_sublist _) (fun s hs => hs)).toNews⟩
 show Ending.returned (.int _ _) = _
 congr 2
 focus first
   | (rw [tabCk, if_pos (by omega)]
      done)
   | (rw [tabCk, if_neg (by omega), if_pos (by omega)]
      exact he9.symm)
   | (rw [tabCk, if_neg (by omega), if_neg (by omega), if_pos (by first | exact .inl (of_decide_eq_false h10_2) | exact .inr (.inl (by omega)) | exact .inr (.inr (by omega)))]
      done)
   | (rw [tabCk, if_neg (by omega), if_neg (by omega), if_neg (fun q => q.elim (fun q => q (of_decide_eq_true h10_2)) (fun q => by omega))]
      done)
   | (trace_state; fail)
 refine o_y (y_pick_f rfl rfl) rfl rfl ?_
 refine o_y (y_move rfl) rfl rfl ?_
 refine wl_gyes rfl rfl ?_
 refine o_y (y_field fa_24_0 rfl) rfl rfl ?_
 refine wl_gyes rfl rfl ?_
 refine o_y (y_loadr 0 ty_3 rfl rfl rfl) rfl rfl ?_
 refine wl_gyes rfl rfl ?_
 refine o_y (y_gtr rfl rfl) rfl rfl ?_
 refine wl_splitp (t := 37) rfl (fun h11_10 => ?_) (fun h11_10 => ?_)
 refine o_y (y_pick_f rfl rfl) rfl rfl ?_
 refine wl_nil ?_
 refine e_seq ?_
 refine w_cond_t rfl ?_
 refine w_seq ?_
 refine w_region ?_
 refine o_y (y_assign rfl) rfl rfl ?_
 refine wl_nil ?_
 refine e_seq ?_
 refine w_ret ?_
 refine e_seq_ret ?_
 refine e_ret (ts := [2]) rfl rfl rfl (fun w hw => ?_)
 refine ⟨(), ?_, hw.base, (hw.weak (List.nil_sublist _) (fun s hs => hs)).toNews⟩
 show Ending.returned (.int _ _) = _
 congr 2
 focus first
   | (rw [tabCk, if_pos (by omega)]
      done)
   | (rw [tabCk, if_neg (by omega), if_pos (by omega)]
      exact he9.symm)
   | (rw [tabCk, if_neg (by omega), if_neg (by omega), if_pos (by first | exact .inl (of_decide_eq_false h10_2) | exact .inr (.inl (by omega)) | exact .inr (.inr (by omega)))]
      done)
   | (rw [tabCk, if_neg (by omega), if_neg (by omega), if_neg (fun q => q.elim (fun q => q (of_decide_eq_true h10_2)) (fun q => by omega))]
      done)
   | (trace_state; fail)
 refine o_y (y_pick_f rfl rfl) rfl rfl ?_
 refine wl_nil ?_
 refine e_seq ?_
 refine w_cond_f rfl ?_
 refine w_skip ?_
 refine e_seq ?_
 refine w_seq ?_
 refine w_region ?_
 refine o_y (y_assign rfl) rfl rfl ?_
 refine wl_nil ?_
 refine e_seq ?_
 refine w_ret ?_
 refine e_ret (ts := [2]) rfl rfl rfl (fun w hw => ?_)
 refine ⟨(), ?_, hw.base, (hw.weak (List.nil_sublist _) (fun s hs => hs)).toNews⟩
 show Ending.returned (.int _ _) = _
 congr 2
 focus first
   | (rw [tabCk, if_pos (by omega)]
      done)
   | (rw [tabCk, if_neg (by omega), if_pos (by omega)]
      exact he9.symm)
   | (rw [tabCk, if_neg (by omega), if_neg (by omega), if_pos (by first | exact .inl (of_decide_eq_false h10_2) | exact .inr (.inl (by omega)) | exact .inr (.inr (by omega)))]
      done)
   | (rw [tabCk, if_neg (by omega), if_neg (by omega), if_neg (fun q => q.elim (fun q => q (of_decide_eq_true h10_2)) (fun q => by omega))]
      done)
   | (trace_state; fail)
 refine o_y (y_assign rfl) rfl rfl ?_
 refine wl_nil ?_
 refine e_seq ?_
 refine w_seq ?_
 refine w_seq ?_
 refine w_region ?_
 refine o_y (y_move rfl) rfl rfl ?_
 refine o_y (y_not rfl) rfl rfl ?_
 refine o_y (y_move rfl) rfl rfl ?_
 refine wl_gno rfl rfl rfl rfl ?_
 refine wl_gno rfl rfl rfl rfl ?_
 refine wl_gno rfl rfl rfl rfl ?_
 refine o_y (y_pick_t rfl rfl) rfl rfl ?_
 refine o_y (y_move rfl) rfl rfl ?_
 refine wl_gno rfl rfl rfl rfl ?_
 refine wl_gno rfl rfl rfl rfl ?_
 refine wl_gno rfl rfl rfl rfl ?_
 refine o_y (y_pick_t rfl rfl) rfl rfl ?_
 refine wl_nil ?_
 refine e_seq ?_
 refine w_cond_t rfl ?_
 refine w_seq ?_
 refine w_region ?_
 refine o_y (y_assign rfl) rfl rfl ?_
 refine wl_nil ?_
 refine e_seq ?_
 refine w_ret ?_
 refine e_seq_ret ?_
 refine e_ret (ts := [2]) rfl rfl rfl (fun w hw => ?_)
 refine ⟨(), ?_, hw.base, (hw.weak (List.nil_sublist _) (fun s hs => hs)).toNews⟩
 show Ending.returned (.int _ _) = _
 congr 2
 focus first
   | (rw [tabCk, if_pos (by omega)]
      done)
   | (rw [tabCk, if_neg (by omega), if_pos (by omega)]
      exact he9.symm)
   | (rw [tabCk, if_neg (by omega), if_neg (by omega), if_pos (by first | exact .inl (of_decide_eq_false h10_2) | exact .inr (.inl (by omega)) | exact .inr (.inr (by omega)))]
      done)
   | (rw [tabCk, if_neg (by omega), if_neg (by omega), if_neg (fun q => q.elim (fun q => q (of_decide_eq_true h10_2)) (fun q => by omega))]
      done)
   | (trace_state; fail)

theorem rises_bad {l : List Le} {j : Nat} (h0 : 0 < j) (hj : j < l.length) (h : 0 ≤ cmpN (l.getD (j - 1) le0).e.host (l.getD j le0).e.host) : ¬ Rises l := fun q => by
  have := q j h0 hj
  rw [cmpN_anti (l.getD (j - 1) le0).e.host] at this
  omega
theorem rises_step {l : List Le} {j : Nat} (h : ¬ 0 ≤ cmpN (l.getD (j - 1) le0).e.host (l.getD j le0).e.host) : 0 < cmpN (l.getD j le0).e.host (l.getD (j - 1) le0).e.host := by
  rw [cmpN_anti (l.getD (j - 1) le0).e.host]; omega

set_option maxRecDepth 100000 in
theorem c_ref17_Check (v : Int) (l : List Le) (A : Option Addr) (c : Nat) (hok : TbOk l) (hlen : l.length ≤ 9223372036854775807) : RC Tryz.prog 39 #[.agg (tbC v A l.length c).toArray] [Ch.rd A 7 elC l, Ch.rall (l.flatMap elR)] (α := Unit) (fun _ => .int .i64 (tabCk v l)) (fun _ => []) := by
 refine rc_of_W (args := [.agg (tbC v A l.length c).toArray]) 56 Tryz.func39 rfl rfl rfl (fun w0 => ?_)
 refine w_seq ?_
 refine w_region ?_
 refine o_box rfl rfl rfl (fun b1 => ?_)
 refine o_y (y_assign rfl) rfl rfl ?_
 refine wl_nil ?_
 refine e_seq ?_
 refine w_seq ?_
 refine w_seq ?_
 refine w_region ?_
 refine o_y (y_field fa_24_1 rfl) rfl rfl ?_
 refine o_y (y_loadr 0 ty_22 rfl rfl rfl) rfl rfl ?_
 refine o_y (y_lenl Tryz.underlying22 rfl) rfl rfl ?_
 refine o_y (y_gtr rfl rfl) rfl rfl ?_
 refine wl_splitp (t := 9) rfl (fun h1_3 => ?_) (fun h1_3 => ?_)
 refine wl_nil ?_
 refine e_seq ?_
 refine w_cond_t rfl ?_
 refine w_seq ?_
 refine w_region ?_
 refine o_y (y_assign rfl) rfl rfl ?_
 refine wl_nil ?_
 refine e_seq ?_
 refine w_ret ?_
 refine e_seq_ret ?_
 refine e_ret (ts := [2]) rfl rfl rfl (fun w hw => ?_)
 refine ⟨(), ?_, hw.base, (hw.weak (List.nil_sublist _) (fun s hs => hs)).toNews⟩
 show Ending.returned (.int _ _) = _
 congr 2
 focus first
   | (rw [tabCk, if_pos (by omega)]
      done)
   | (rw [tabCk, if_neg (by omega), if_pos (by omega)]
      exact he9.symm)
   | (rw [tabCk, if_neg (by omega), if_neg (by omega), if_pos (by first | exact .inl (rises_bad (j := j) (by omega) (by omega) h12_14) | exact .inr (.inl (by omega)) | exact .inr (.inr (by omega)))]
      done)
   | (rw [tabCk, if_neg (by omega), if_neg (by omega), if_neg (fun q => q.elim (fun q => q hR9) (fun q => by omega))]
      done)
   | (trace_state; fail)
 refine wl_nil ?_
 refine e_seq ?_
 refine w_cond_f rfl ?_
 refine w_skip ?_
 refine e_seq ?_
 refine w_seq ?_
 refine w_seq ?_
 refine w_region ?_
 refine o_y (y_assign rfl) rfl rfl ?_
 refine wl_nil ?_
 refine e_seq ?_
 refine w_block ?_
 refine w_loop0 (σ := Nat) [2, 3, 4, 10, 11, 12, 13, 14, 15, 16, 17, 18, 19, 20, 21, 22, 23, 24, 25] (fun k => k ≤ l.length ∧ entsCk l = entsCk (l.drop k)) (fun k => l.length - k) (fun k => [(3, .int .i64 k)]) (0) ?_ ⟨rfl, trivial⟩ (fun k hI => ?_)
 exact ⟨Nat.zero_le _, rfl⟩
 refine w_seq ?_
 refine w_seq ?_
 refine w_region ?_
 refine o_y (y_move rfl) rfl rfl ?_
 refine o_y (y_field fa_24_1 rfl) rfl rfl ?_
 refine o_y (y_loadr 0 ty_22 rfl rfl rfl) rfl rfl ?_
 refine o_y (y_lenl Tryz.underlying22 rfl) rfl rfl ?_
 refine o_y (y_lss rfl rfl) rfl rfl ?_
 refine wl_splitp (t := 14) rfl (fun h4_4 => ?_) (fun h4_4 => ?_)
 have hk : k < l.length := by omega
 have hb9 := hok.at hk
 have hdk := drop_getE hk
 refine wl_nil ?_
 refine e_seq ?_
 refine w_cond_t rfl ?_
 refine w_skip ?_
 refine e_seq ?_
 refine w_seq ?_
 refine w_block ?_
 refine w_seq ?_
 refine w_region ?_
 refine o_y (y_field fa_24_1 rfl) rfl rfl ?_
 refine o_y (y_loadr 0 ty_22 rfl rfl rfl) rfl rfl ?_
 refine o_y (y_move rfl) rfl rfl ?_
 refine o_y (y_ixm  Tryz.underlying22 ty_47 rfl rfl (rs_S 0 rfl) rfl (by omega)) rfl rfl ?_
 refine o_y (y_ldsm0 enc_le le0 ty_47 rfl (rs_S 0 rfl) (by omega) rfl rfl rfl) rfl rfl ?_
 refine o_callq rfl ent_82 rfl (c_ref16_Check _ _ _ _ _ hb9.wa (by have := hb9.la; omega) (by have := hb9.lp; omega) hb9.k) (fun w hw => (rd_cons (rd_all (rd_S 1 rfl hw) (mem_flatR (mem_getD (by omega)) _ (elRA _))) (rd_cons (rd_all (rd_S 1 rfl hw) (mem_flatR (mem_getD (by omega)) _ (elRB _))) rd_nil))) ?_
 refine o_y (y_assign rfl) rfl rfl ?_
 refine wl_nil ?_
 refine e_seq ?_
 refine w_seq ?_
 refine w_region ?_
 refine o_y (y_move rfl) rfl rfl ?_
 refine o_y (y_neq rfl rfl) rfl rfl ?_
 refine wl_splitp (t := 24) rfl (fun h7_1 => ?_) (fun h7_1 => ?_)
 refine wl_nil ?_
 refine e_seq ?_
 refine w_cond_t rfl ?_
 refine w_seq ?_
 have he9 : entsCk l = entCk (l.getD k le0).e := by rw [hI.2, hdk, entsCk, if_pos h7_1]
 refine w_region ?_
 refine o_y (y_move rfl) rfl rfl ?_
 refine o_y (y_assign rfl) rfl rfl ?_
 refine wl_nil ?_
 refine e_seq ?_
 refine w_ret ?_
 refine e_blk_ret ?_
 refine e_seq_ret ?_
 refine e_loop_ret ?_
 refine e_blk_ret ?_
 refine e_seq_ret ?_
 refine e_ret (ts := [2]) rfl rfl rfl (fun w hw => ?_)
 refine ⟨(), ?_, hw.base, (hw.weak (List.nil_sublist _) (fun s hs => hs)).toNews⟩
 show Ending.returned (.int _ _) = _
 congr 2
 focus first
   | (rw [tabCk, if_pos (by omega)]
      done)
   | (rw [tabCk, if_neg (by omega), if_pos (by omega)]
      exact he9.symm)
   | (rw [tabCk, if_neg (by omega), if_neg (by omega), if_pos (by first | exact .inl (rises_bad (j := j) (by omega) (by omega) h12_14) | exact .inr (.inl (by omega)) | exact .inr (.inr (by omega)))]
      done)
   | (rw [tabCk, if_neg (by omega), if_neg (by omega), if_neg (fun q => q.elim (fun q => q hR9) (fun q => by omega))]
      done)
   | (trace_state; fail)
 refine wl_nil ?_
 refine e_seq ?_
 refine w_cond_f rfl ?_
 refine w_skip ?_
 refine e_blk ?_
 refine e_seq ?_
 refine w_region ?_
 refine o_y (y_move rfl) rfl rfl ?_
 refine o_y (y_addi rfl rfl (by omega) (by omega)) rfl rfl ?_
 refine o_y (y_assign rfl) rfl rfl ?_
 refine wl_nil ?_
 refine e_back (k + 1) ?_ ?_ ⟨rfl, trivial⟩ (by repeat (first | exact trivial | refine ⟨rfl, ?_⟩)) (fun w h => h)
 exact ⟨by omega, by rw [hI.2, hdk, entsCk, if_neg h7_1]⟩
 omega
 refine wl_nil ?_
 refine e_seq ?_
 refine w_cond_f rfl ?_
 refine w_exit ?_
 refine e_seq_exit ?_
 refine e_loop_exit ?_
 refine e_blk_hit ?_
 refine e_seq ?_
 refine w_seq ?_
 refine w_seq ?_
 have he0 : entsCk l = 0 := by rw [hI.2, List.drop_of_length_le (by omega)]; rfl
 refine w_region ?_
 refine o_y (y_assign rfl) rfl rfl ?_
 refine wl_nil ?_
 refine e_seq ?_
 refine w_block ?_
 refine w_loop0 (σ := Nat) [2, 5, 26, 27, 28, 29, 30, 31, 32, 33, 34, 35, 36, 37, 38, 39, 40, 41, 42, 43, 44, 45, 46, 47] (fun j => 1 ≤ j ∧ ∀ i, 0 < i → i < j → 0 < cmpN (l.getD i le0).e.host (l.getD (i - 1) le0).e.host) (fun j => l.length - j) (fun j => [(5, .int .i64 j)]) (1) ?_ ⟨rfl, trivial⟩ (fun j hI => ?_)
 exact ⟨Nat.le_refl _, fun i h1 h2 => by omega⟩
 refine w_seq ?_
 refine w_seq ?_
 refine w_region ?_
 refine o_y (y_move rfl) rfl rfl ?_
 refine o_y (y_field fa_24_1 rfl) rfl rfl ?_
 refine o_y (y_loadr 0 ty_22 rfl rfl rfl) rfl rfl ?_
 refine o_y (y_lenl Tryz.underlying22 rfl) rfl rfl ?_
 refine o_y (y_lss rfl rfl) rfl rfl ?_
 refine wl_splitp (t := 30) rfl (fun h10_4 => ?_) (fun h10_4 => ?_)
 have hj9 := hok.at (k := j) (by omega)
 have hj8 := hok.at (k := j - 1) (by omega)
 refine wl_nil ?_
 refine e_seq ?_
 refine w_cond_t rfl ?_
 refine w_skip ?_
 refine e_seq ?_
 refine w_seq ?_
 refine w_block ?_
 refine w_seq ?_
 refine w_draw 15 rfl mixed ?_
 refine a_take (i := 0) rfl wanted_none (y_field fa_24_1 rfl) (fun w h => h) (fun w h => h) rfl (pk_seq (pk_blk (pk_seq (pk_loop (pk_blk (pk_seq pk_fn)))))) (by kernel_rfl) rfl ?_
 refine a_take (i := 1) rfl wanted_none (y_loadr 0 ty_22 rfl rfl rfl) (fun w h => h) (fun w h => h) rfl (pk_seq (pk_blk (pk_seq (pk_loop (pk_blk (pk_seq pk_fn)))))) (by kernel_rfl) rfl ?_
 refine a_take (i := 2) rfl wanted_none (y_move rfl) (fun w h => h) (fun w h => h) rfl (pk_seq (pk_blk (pk_seq (pk_loop (pk_blk (pk_seq pk_fn)))))) (by kernel_rfl) rfl ?_
 refine a_take (i := 3) rfl wanted_none (y_subi rfl rfl (by omega) (by omega)) (fun w h => h) (fun w h => h) rfl (pk_seq (pk_blk (pk_seq (pk_loop (pk_blk (pk_seq pk_fn)))))) (by kernel_rfl) rfl ?_
 refine a_take (i := 4) rfl wanted_none (y_ixm (k := j - 1) Tryz.underlying22 ty_47 rfl rfl (rs_S 0 rfl) (by omega) (by omega)) (fun w h => h) (fun w h => h) rfl (pk_seq (pk_blk (pk_seq (pk_loop (pk_blk (pk_seq pk_fn)))))) (by kernel_rfl) rfl ?_
 refine a_take (i := 5) rfl wanted_none (y_field fa_47_0 rfl) (fun w h => h) (fun w h => h) rfl (pk_seq (pk_blk (pk_seq (pk_loop (pk_blk (pk_seq pk_fn)))))) (by kernel_rfl) rfl ?_
 refine a_take (i := 6) rfl wanted_none (y_ldm0 enc_le le0 ty_36 rfl (rs_S 0 rfl) (by omega) rfl rfl) (fun w h => h) (fun w h => h) rfl (pk_seq (pk_blk (pk_seq (pk_loop (pk_blk (pk_seq pk_fn)))))) (by kernel_rfl) rfl ?_
 refine a_take (i := 7) rfl wanted_none (y_field fa_24_1 rfl) (fun w h => h) (fun w h => h) rfl (pk_seq (pk_blk (pk_seq (pk_loop (pk_blk (pk_seq pk_fn)))))) (by kernel_rfl) rfl ?_
 refine a_take (i := 8) rfl wanted_none (y_loadr 0 ty_22 rfl rfl rfl) (fun w h => h) (fun w h => h) rfl (pk_seq (pk_blk (pk_seq (pk_loop (pk_blk (pk_seq pk_fn)))))) (by kernel_rfl) rfl ?_
 refine a_take (i := 9) rfl wanted_none (y_move rfl) (fun w h => h) (fun w h => h) rfl (pk_seq (pk_blk (pk_seq (pk_loop (pk_blk (pk_seq pk_fn)))))) (by kernel_rfl) rfl ?_
 refine a_take (i := 10) rfl wanted_none (y_ixm  Tryz.underlying22 ty_47 rfl rfl (rs_S 0 rfl) rfl (by omega)) (fun w h => h) (fun w h => h) rfl (pk_seq (pk_blk (pk_seq (pk_loop (pk_blk (pk_seq pk_fn)))))) (by kernel_rfl) rfl ?_
 refine a_take (i := 11) rfl wanted_none (y_field fa_47_0 rfl) (fun w h => h) (fun w h => h) rfl (pk_seq (pk_blk (pk_seq (pk_loop (pk_blk (pk_seq pk_fn)))))) (by kernel_rfl) rfl ?_
 refine a_take (i := 12) rfl wanted_none (y_ldm0 enc_le le0 ty_36 rfl (rs_S 0 rfl) (by omega) rfl rfl) (fun w h => h) (fun w h => h) rfl (pk_seq (pk_blk (pk_seq (pk_loop (pk_blk (pk_seq pk_fn)))))) (by kernel_rfl) rfl ?_
 refine a_one (i := 13) rfl rfl rfl (tame_call rfl ent_91) (by kernel_rfl) rfl ?_
 refine o_callp rfl ent_91 (p_ref02_Compare _ _ (by have := hj8.h; omega) (by have := hj9.h; omega)) rfl ?_
 refine wl_nil ?_
 refine e_one (fun w h => h) ?_
 refine a_take (i := 14) rfl wanted_none (y_geq rfl rfl) (fun w h => h) (fun w h => h) rfl (pk_seq (pk_blk (pk_seq (pk_loop (pk_blk (pk_seq pk_fn)))))) (by kernel_rfl) rfl ?_
 refine wa_splitp (t := 47) rfl (fun h12_14 => ?_) (fun h12_14 => ?_)
 refine a_done (by kernel_rfl) ?_
 refine e_seq ?_
 refine w_cond_t rfl ?_
 refine w_seq ?_
 refine w_region ?_
 refine o_y (y_assign rfl) rfl rfl ?_
 refine wl_nil ?_
 refine e_seq ?_
 refine w_ret ?_
 refine e_blk_ret ?_
 refine e_seq_ret ?_
 refine e_loop_ret ?_
 refine e_blk_ret ?_
 refine e_seq_ret ?_
 refine e_ret (ts := [2]) rfl rfl rfl (fun w hw => ?_)
 refine ⟨(), ?_, hw.base, (hw.weak (List.nil_sublist _) (fun s hs => hs)).toNews⟩
 show Ending.returned (.int _ _) = _
 congr 2
 focus first
   | (rw [tabCk, if_pos (by omega)]
      done)
   | (rw [tabCk, if_neg (by omega), if_pos (by omega)]
      exact he9.symm)
   | (rw [tabCk, if_neg (by omega), if_neg (by omega), if_pos (by first | exact .inl (rises_bad (j := j) (by omega) (by omega) h12_14) | exact .inr (.inl (by omega)) | exact .inr (.inr (by omega)))]
      done)
   | (rw [tabCk, if_neg (by omega), if_neg (by omega), if_neg (fun q => q.elim (fun q => q hR9) (fun q => by omega))]
      done)
   | (trace_state; fail)
 refine a_done (by kernel_rfl) ?_
 refine e_seq ?_
 refine w_cond_f rfl ?_
 refine w_skip ?_
 refine e_blk ?_
 refine e_seq ?_
 refine w_region ?_
 refine o_y (y_move rfl) rfl rfl ?_
 refine o_y (y_addi rfl rfl (by omega) (by omega)) rfl rfl ?_
 refine o_y (y_assign rfl) rfl rfl ?_
 refine wl_nil ?_
 refine e_back (j + 1) ?_ ?_ ⟨rfl, trivial⟩ (by repeat (first | exact trivial | refine ⟨rfl, ?_⟩)) (fun w h => h)
 refine ⟨by omega, fun i h1 h2 => ?_⟩
 by_cases e : i = j
 · rw [e]; exact rises_step h12_14
 · exact hI.2 i h1 (by omega)
 omega
 refine wl_nil ?_
 refine e_seq ?_
 refine w_cond_f rfl ?_
 refine w_exit ?_
 refine e_seq_exit ?_
 refine e_loop_exit ?_
 refine e_blk_hit ?_
 refine e_seq ?_
 refine w_seq ?_
 refine w_seq ?_
 have hR9 : Rises l := fun i h1 h2 => hI.2 i h1 (by omega)
 refine w_region ?_
 refine o_y (y_field fa_24_0 rfl) rfl rfl ?_
 refine o_y (y_loadr 0 ty_3 rfl rfl rfl) rfl rfl ?_
 refine o_y (y_lss rfl rfl) rfl rfl ?_
 refine wl_splitp (t := 50) rfl (fun h14_2 => ?_) (fun h14_2 => ?_)
 refine o_y (y_move rfl) rfl rfl ?_
 refine wl_gno rfl rfl rfl rfl ?_
 refine wl_gno rfl rfl rfl rfl ?_
 refine wl_gno rfl rfl rfl rfl ?_
 refine o_y (y_pick_t rfl rfl) rfl rfl ?_
 refine wl_nil ?_
 refine e_seq ?_
 refine w_cond_t rfl ?_
 refine w_seq ?_
 refine w_region ?_
 refine o_y (y_assign rfl) rfl rfl ?_
 refine wl_nil ?_
 refine e_seq ?_
 refine w_ret ?_
 refine e_seq_ret ?_
 refine e_ret (ts := [2]) rfl rfl rfl (fun w hw => ?_)
 refine ⟨(), ?_, hw.base, (hw.weak (List.nil_sublist _) (fun s hs => hs)).toNews⟩
 show Ending.returned (.int _ _) = _
 congr 2
 focus first
   | (rw [tabCk, if_pos (by omega)]
      done)
   | (rw [tabCk, if_neg (by omega), if_pos (by omega)]
      exact he9.symm)
   | (rw [tabCk, if_neg (by omega), if_neg (by omega), if_pos (by first | exact .inl (rises_bad (j := j) (by omega) (by omega) h12_14) | exact .inr (.inl (by omega)) | exact .inr (.inr (by omega)))]
      done)
   | (rw [tabCk, if_neg (by omega), if_neg (by omega), if_neg (fun q => q.elim (fun q => q hR9) (fun q => by omega))]
      done)
   | (trace_state; fail)
 refine o_y (y_move rfl) rfl rfl ?_
 refine wl_gyes rfl rfl ?_
 refine o_y (y_field fa_24_0 rfl) rfl rfl ?_
 refine wl_gyes rfl rfl ?_
 refine o_y (y_loadr 0 ty_3 rfl rfl rfl) rfl rfl ?_
 refine wl_gyes rfl rfl ?_
 refine o_y (y_gtr rfl rfl) rfl rfl ?_
 refine wl_splitp (t := 54) rfl (fun h14_6 => ?_) (fun h14_6 => ?_)
 refine o_y (y_pick_f rfl rfl) rfl rfl ?_
 refine wl_nil ?_
 refine e_seq ?_
 refine w_cond_t rfl ?_
 refine w_seq ?_
 refine w_region ?_
 refine o_y (y_assign rfl) rfl rfl ?_
 refine wl_nil ?_
 refine e_seq ?_
 refine w_ret ?_
 refine e_seq_ret ?_
 refine e_ret (ts := [2]) rfl rfl rfl (fun w hw => ?_)
 refine ⟨(), ?_, hw.base, (hw.weak (List.nil_sublist _) (fun s hs => hs)).toNews⟩
 show Ending.returned (.int _ _) = _
 congr 2
 focus first
   | (rw [tabCk, if_pos (by omega)]
      done)
   | (rw [tabCk, if_neg (by omega), if_pos (by omega)]
      exact he9.symm)
   | (rw [tabCk, if_neg (by omega), if_neg (by omega), if_pos (by first | exact .inl (rises_bad (j := j) (by omega) (by omega) h12_14) | exact .inr (.inl (by omega)) | exact .inr (.inr (by omega)))]
      done)
   | (rw [tabCk, if_neg (by omega), if_neg (by omega), if_neg (fun q => q.elim (fun q => q hR9) (fun q => by omega))]
      done)
   | (trace_state; fail)
 refine o_y (y_pick_f rfl rfl) rfl rfl ?_
 refine wl_nil ?_
 refine e_seq ?_
 refine w_cond_f rfl ?_
 refine w_skip ?_
 refine e_seq ?_
 refine w_seq ?_
 refine w_region ?_
 refine o_y (y_assign rfl) rfl rfl ?_
 refine wl_nil ?_
 refine e_seq ?_
 refine w_ret ?_
 refine e_ret (ts := [2]) rfl rfl rfl (fun w hw => ?_)
 refine ⟨(), ?_, hw.base, (hw.weak (List.nil_sublist _) (fun s hs => hs)).toNews⟩
 show Ending.returned (.int _ _) = _
 congr 2
 focus first
   | (rw [tabCk, if_pos (by omega)]
      done)
   | (rw [tabCk, if_neg (by omega), if_pos (by omega)]
      exact he9.symm)
   | (rw [tabCk, if_neg (by omega), if_neg (by omega), if_pos (by first | exact .inl (rises_bad (j := j) (by omega) (by omega) h12_14) | exact .inr (.inl (by omega)) | exact .inr (.inr (by omega)))]
      done)
   | (rw [tabCk, if_neg (by omega), if_neg (by omega), if_neg (fun q => q.elim (fun q => q hR9) (fun q => by omega))]
      done)
   | (trace_state; fail)
end Go.Proofs.YtfmelbpgkbiooaaGreat

/- an index: made of a table, asked for names -/
namespace Go.Proofs.YtfmelbpgkbiooaaGreat
open Go.RowKit Go.Shelf
set_option linter.unusedVariables false
set_option linter.unusedSimpArgs false

theorem bu_91_1_2_3 (x0 : Option Nat) (x1 : Option Nat) (x2 : Option Nat) : Tryz.prog.built 91 [(1, .map x0), (2, .map x1), (3, .map x2)] = some [.slice none 0 0, .map x0, .map x1, .map x2].toArray := by kernel_rfl
theorem ent_38 : Enters Tryz.prog 38 := enters_of Tryz.func38 (by kernel_rfl) rfl
theorem ent_46 : Enters Tryz.prog 46 := enters_of Tryz.func46 (by kernel_rfl) rfl
theorem ent_47 : Enters Tryz.prog 47 := enters_of Tryz.func47 (by kernel_rfl) rfl
theorem ent_48 : Enters Tryz.prog 48 := enters_of Tryz.func48 (by kernel_rfl) rfl
theorem ent_54 : Enters Tryz.prog 54 := enters_of Tryz.func54 (by kernel_rfl) rfl
theorem fa_91_0 : FA Tryz.prog 91 0 0 := fun b o w => by kernel_rfl
theorem fa_91_1 : FA Tryz.prog 91 1 1 := fun b o w => by kernel_rfl
theorem fa_91_3 : FA Tryz.prog 91 3 3 := fun b o w => by kernel_rfl
theorem ty_24 : TyI Tryz.prog 24 true 2 32 (.agg #[.int .i64 0, .slice none 0 0]) := TyI.mk' (by kernel_rfl) (fun _ => by kernel_rfl)
theorem ty_85 : TyI Tryz.prog 85 false 1 8 (.map none) := TyI.mk' (by kernel_rfl) (fun _ => by kernel_rfl)
theorem ty_89 : TyI Tryz.prog 89 false 1 8 (.map none) := TyI.mk' (by kernel_rfl) (fun _ => by kernel_rfl)

abbrev encN : Str → Value := fun s => .string (ba s)
abbrev encE : Le → Value := fun x => .agg (elC x).toArray
abbrev encA : Ad → Value := fun a => .agg (adC a).toArray
/-- The first one stays. -/
def putF {α β : Type} [DecidableEq α] (m : List (α × β)) (k : α) (v : β) : List (α × β) := if (lkp m k).isSome = true then m else upd m k v
theorem putF_old {α β : Type} [DecidableEq α] {m : List (α × β)} {k : α} {v : β} (h : (lkp m k).isSome = true) : putF m k v = m := if_pos h
theorem putF_new {α β : Type} [DecidableEq α] {m : List (α × β)} {k : α} {v : β} (h : (lkp m k).isSome = false) : putF m k v = upd m k v := if_neg (by rw [h]; decide)

theorem c_ask_h (m : List (Str × Le)) (r : Nat) (k : Str) : RC Tryz.prog 49 #[.map (some r), .string (ba k)] [Ch.mp r encN encE m] (α := Unit) (fun _ => .tuple #[.agg (elC ((lkp m k).getD le0)).toArray, .bool (lkp m k).isSome]) (fun _ => []) := by
 refine rc_of_W (args := [.map (some r), .string (ba k)]) 16 Tryz.func49 rfl rfl rfl (fun w0 => ?_)
 refine w_seq ?_
 refine w_region ?_
 refine o_alloc ty_47 rfl rfl (fun b1 => ?_)
 refine o_y (y_assign rfl) rfl rfl ?_
 refine wl_nil ?_
 refine e_seq ?_
 refine w_seq ?_
 refine w_region ?_
 refine o_y (y_move rfl) rfl rfl ?_
 refine o_y (y_move rfl) rfl rfl ?_
 refine o_y (y_lookup2 Tryz.underlying85 (keyl_str Tryz.underlying36) ty_47 rfl rfl (fun w hw => hw.sh _ (List.mem_of_getElem? (i := 0) rfl))) rfl rfl ?_
 refine wl_as (t := 11) (.tuple #[.agg (elC ((lkp m k).getD le0)).toArray, .bool (lkp m k).isSome]) rfl (by cases lkp m k <;> rfl) ?_
 refine o_y (y_move rfl) rfl rfl ?_
 refine o_y (y_extract rfl rfl) rfl rfl ?_
 refine o_y (y_extract rfl rfl) rfl rfl ?_
 refine o_alloc ty_47 rfl rfl (fun b2 => ?_)
 refine o_store ty_47 rfl rfl rfl .z rfl rfl rfl rfl ?_
 refine o_y (y_assign rfl) rfl rfl ?_
 refine wl_nil ?_
 refine e_seq ?_
 refine w_seq ?_
 refine w_region ?_
 refine o_y (y_loadrs 0 ty_47 rfl rfl rfl rfl) rfl rfl ?_
 refine o_y (y_move rfl) rfl rfl ?_
 refine o_store ty_47 rfl rfl rfl (.s (.z)) rfl rfl rfl rfl ?_
 refine o_y (y_assign rfl) rfl rfl ?_
 refine wl_nil ?_
 refine e_seq ?_
 refine w_ret ?_
 refine e_rsr (rs := [.cell 4 47, .tmp 5]) rfl (rs_cells 1 ty_47 rfl rfl rfl rfl (rs_tmp rfl rs_nil)) rfl (fun w hw => ?_)
 exact ⟨(), rfl, hw.base, (hw.weak (List.nil_sublist _) (fun s hs => hs)).toNews⟩

theorem c_put_h (m : List (Str × Le)) (r : Nat) (k : Str) (x : Le) : UC Tryz.prog 47 #[.map (some r), .string (ba k), .agg (elC x).toArray] [] (Ch.mp r encN encE m) (α := Unit) (fun _ => .bool (!(lkp m k).isSome)) (fun _ => Ch.mp r encN encE (putF m k x)) := by
 refine uc_of_W (args := [.map (some r), .string (ba k), .agg (elC x).toArray]) 19 Tryz.func47 rfl rfl rfl (fun w0 => ?_)
 refine w_seq ?_
 refine w_region ?_
 refine o_box rfl rfl rfl (fun b1 => ?_)
 refine o_y (y_assign rfl) rfl rfl ?_
 refine wl_nil ?_
 refine e_seq ?_
 refine w_seq ?_
 refine w_seq ?_
 refine w_region ?_
 refine o_y (y_move rfl) rfl rfl ?_
 refine o_y (y_move rfl) rfl rfl ?_
 refine o_y (y_lookup2 Tryz.underlying85 (keyl_str Tryz.underlying36) ty_47 rfl rfl (fun w hw => hw.own _ (List.mem_of_getElem? (i := 1) rfl))) rfl rfl ?_
 refine wl_as (t := 12) (.tuple #[.agg (elC ((lkp m k).getD le0)).toArray, .bool (lkp m k).isSome]) rfl (by cases lkp m k <;> rfl) ?_
 refine o_y (y_move rfl) rfl rfl ?_
 refine o_y (y_extract rfl rfl) rfl rfl ?_
 refine o_y (y_extract rfl rfl) rfl rfl ?_
 refine wl_splitb (t := 14) rfl (fun h1_5 => ?_) (fun h1_5 => ?_)
 refine o_alloc ty_47 rfl rfl (fun b2 => ?_)
 refine o_store ty_47 rfl rfl rfl .z rfl rfl rfl rfl ?_
 refine o_y (y_assign rfl) rfl rfl ?_
 refine wl_nil ?_
 refine e_seq ?_
 refine w_seq ?_
 refine w_region ?_
 refine o_y (y_move rfl) rfl rfl ?_
 refine wl_nil ?_
 refine e_seq ?_
 refine w_cond_t rfl ?_
 refine w_seq ?_
 refine w_region ?_
 refine o_y (y_assign rfl) rfl rfl ?_
 refine wl_nil ?_
 refine e_seq ?_
 refine w_ret ?_
 refine e_seq_ret ?_
 refine e_ret (ts := [6]) rfl rfl rfl (fun w hw => ?_)
 obtain ⟨h1, h2, h3⟩ := (hw.weak (.cons _ (.cons _ (.cons_cons _ .slnil))) (fun s hs => hs)).uc
 have hs : (lkp m k).isSome = true := h1_5
 rw [putF_old hs]
 exact ⟨(), by rw [hs]; rfl, h1, h2, h3⟩
 refine o_alloc ty_47 rfl rfl (fun b3 => ?_)
 refine o_store ty_47 rfl rfl rfl .z rfl rfl rfl rfl ?_
 refine o_y (y_assign rfl) rfl rfl ?_
 refine wl_nil ?_
 refine e_seq ?_
 refine w_seq ?_
 refine w_region ?_
 refine o_y (y_move rfl) rfl rfl ?_
 refine wl_nil ?_
 refine e_seq ?_
 refine w_cond_f rfl ?_
 refine w_skip ?_
 refine e_seq ?_
 refine w_seq ?_
 refine w_region ?_
 refine o_y (y_move rfl) rfl rfl ?_
 refine o_y (y_move rfl) rfl rfl ?_
 refine o_y (y_loadrs 1 ty_47 rfl rfl rfl rfl) rfl rfl ?_
 refine o_mapUpd (encK := encN) (encV := encE) (v := x) Tryz.underlying85 (keyl_str Tryz.underlying36) rfl rfl rfl (.s (.s (.z))) ?_
 refine wl_nil ?_
 refine e_seq ?_
 refine w_seq ?_
 refine w_region ?_
 refine o_y (y_assign rfl) rfl rfl ?_
 refine wl_nil ?_
 refine e_seq ?_
 refine w_ret ?_
 refine e_ret (ts := [6]) rfl rfl rfl (fun w hw => ?_)
 obtain ⟨h1, h2, h3⟩ := (hw.weak (.cons _ (.cons _ (.cons_cons _ .slnil))) (fun s hs => hs)).uc
 have hs : (lkp m k).isSome = false := h1_5
 rw [putF_new hs]
 exact ⟨(), by rw [hs]; rfl, h1, h2, h3⟩

theorem c_put_a (m : List (Ad × Le)) (r : Nat) (k : Ad) (x : Le) : UC Tryz.prog 54 #[.map (some r), .agg (adC k).toArray, .agg (elC x).toArray] [] (Ch.mp r encA encE m) (α := Unit) (fun _ => .bool (!(lkp m k).isSome)) (fun _ => Ch.mp r encA encE (putF m k x)) := by
 refine uc_of_W (args := [.map (some r), .agg (adC k).toArray, .agg (elC x).toArray]) 19 Tryz.func54 rfl rfl rfl (fun w0 => ?_)
 refine w_seq ?_
 refine w_region ?_
 refine o_box rfl rfl rfl (fun b1 => ?_)
 refine o_box rfl rfl rfl (fun b2 => ?_)
 refine o_y (y_assign rfl) rfl rfl ?_
 refine wl_nil ?_
 refine e_seq ?_
 refine w_seq ?_
 refine w_seq ?_
 refine w_region ?_
 refine o_y (y_move rfl) rfl rfl ?_
 refine o_y (y_loadrs 1 ty_28 rfl rfl rfl rfl) rfl rfl ?_
 refine o_y (y_lookup2 Tryz.underlying89 keyl_ad ty_47 rfl rfl (fun w hw => hw.own _ (List.mem_of_getElem? (i := 2) rfl))) rfl rfl ?_
 refine wl_as (t := 12) (.tuple #[.agg (elC ((lkp m k).getD le0)).toArray, .bool (lkp m k).isSome]) rfl (by cases lkp m k <;> rfl) ?_
 refine o_y (y_move rfl) rfl rfl ?_
 refine o_y (y_extract rfl rfl) rfl rfl ?_
 refine o_y (y_extract rfl rfl) rfl rfl ?_
 refine wl_splitb (t := 14) rfl (fun h1_5 => ?_) (fun h1_5 => ?_)
 refine o_alloc ty_47 rfl rfl (fun b3 => ?_)
 refine o_store ty_47 rfl rfl rfl .z rfl rfl rfl rfl ?_
 refine o_y (y_assign rfl) rfl rfl ?_
 refine wl_nil ?_
 refine e_seq ?_
 refine w_seq ?_
 refine w_region ?_
 refine o_y (y_move rfl) rfl rfl ?_
 refine wl_nil ?_
 refine e_seq ?_
 refine w_cond_t rfl ?_
 refine w_seq ?_
 refine w_region ?_
 refine o_y (y_assign rfl) rfl rfl ?_
 refine wl_nil ?_
 refine e_seq ?_
 refine w_ret ?_
 refine e_seq_ret ?_
 refine e_ret (ts := [6]) rfl rfl rfl (fun w hw => ?_)
 obtain ⟨h1, h2, h3⟩ := (hw.weak (.cons _ (.cons _ (.cons _ (.cons_cons _ .slnil)))) (fun s hs => hs)).uc
 have hs : (lkp m k).isSome = true := h1_5
 rw [putF_old hs]
 exact ⟨(), by rw [hs]; rfl, h1, h2, h3⟩
 refine o_alloc ty_47 rfl rfl (fun b4 => ?_)
 refine o_store ty_47 rfl rfl rfl .z rfl rfl rfl rfl ?_
 refine o_y (y_assign rfl) rfl rfl ?_
 refine wl_nil ?_
 refine e_seq ?_
 refine w_seq ?_
 refine w_region ?_
 refine o_y (y_move rfl) rfl rfl ?_
 refine wl_nil ?_
 refine e_seq ?_
 refine w_cond_f rfl ?_
 refine w_skip ?_
 refine e_seq ?_
 refine w_seq ?_
 refine w_region ?_
 refine o_y (y_move rfl) rfl rfl ?_
 refine o_y (y_loadrs 2 ty_28 rfl rfl rfl rfl) rfl rfl ?_
 refine o_y (y_loadrs 1 ty_47 rfl rfl rfl rfl) rfl rfl ?_
 refine o_mapUpd (encK := encA) (encV := encE) (v := x) Tryz.underlying89 keyl_ad rfl rfl rfl (.s (.s (.s (.z)))) ?_
 refine wl_nil ?_
 refine e_seq ?_
 refine w_seq ?_
 refine w_region ?_
 refine o_y (y_assign rfl) rfl rfl ?_
 refine wl_nil ?_
 refine e_seq ?_
 refine w_ret ?_
 refine e_ret (ts := [6]) rfl rfl rfl (fun w hw => ?_)
 obtain ⟨h1, h2, h3⟩ := (hw.weak (.cons _ (.cons _ (.cons _ (.cons_cons _ .slnil)))) (fun s hs => hs)).uc
 have hs : (lkp m k).isSome = false := h1_5
 rw [putF_new hs]
 exact ⟨(), by rw [hs]; rfl, h1, h2, h3⟩

/-- An index: where it lies, what it holds. -/
structure Ixd where
  b : Nat
  A : Option Addr
  c : Nat
  l : List Le
  rh : Nat
  rd : Nat
  ra : Nat
  hm : List (Str × Le)
  dm : List (Str × Ad)
  am : List (Ad × Le)
def ixC (x : Ixd) : List Value := [.slice x.A x.l.length x.c, .map (some x.rh), .map (some x.rd), .map (some x.ra)]
def ixR (x : Ixd) : List Ch := [Ch.row x.b (ixC x) 91, Ch.rd x.A 7 elC x.l, Ch.mp x.rh encN encE x.hm, Ch.mp x.rd encN encA x.dm, Ch.mp x.ra encA encE x.am, Ch.rall (x.l.flatMap elR)]
def HmOk (m : List (Str × Le)) (l : List Le) : Prop := ∀ key, lkp m key = l.find? (fun x : Le => decide (foldN x.e.host = key))
theorem lkp_putF {α β : Type} [DecidableEq α] (m : List (α × β)) (k a : α) (v : β) : lkp (putF m k v) a = (lkp m a).or (if a = k then some v else none) := by
  unfold putF
  split
  · rename_i h
    by_cases e : a = k
    · subst e
      cases h2 : lkp m a with
      | none => rw [h2] at h; cases h
      | some q => rfl
    · rw [if_neg e]; simp
  · rename_i h
    rw [lkp_upd]
    by_cases e : a = k
    · subst e
      rw [if_pos rfl, if_pos rfl]
      cases h2 : lkp m a with
      | none => rfl
      | some q => rw [h2] at h; exact absurd rfl h
    · rw [if_neg e, if_neg e]; simp
theorem hm_nil : HmOk [] [] := fun key => rfl
theorem hm_put {m : List (Str × Le)} {l : List Le} (h : HmOk m l) (x : Le) : HmOk (putF m (foldN x.e.host) x) (l ++ [x]) := fun key => by
  rw [lkp_putF, List.find?_append, h key]
  congr 1
  by_cases e : key = foldN x.e.host
  · subst e; simp
  · rw [if_neg e, List.find?_cons_of_neg (by simpa using fun q => e q.symm)]; rfl
/-- What a table's index is. -/
structure IxOk (l : List Le) (x : Ixd) : Prop where
  es : x.l.map (·.e) = l.map (·.e)
  hm : HmOk x.hm x.l

theorem take_len_eq {l : List Le} {lc : List Le} {k : Nat} (h : lc.map (·.e) = (l.take k).map (·.e)) : lc.length ≤ l.length := by
  have := congrArg List.length h; simp at this; omega
theorem getE_eq {l lc : List Le} (h : lc.map (·.e) = l.map (·.e)) (k : Nat) : (lc.getD k le0).e = (l.getD k le0).e := by
  have h1 := congrArg (fun q : List En => q[k]?) h
  simp only [List.getElem?_map] at h1
  rw [List.getD_eq_getElem?_getD, List.getD_eq_getElem?_getD]
  cases h2 : lc[k]? <;> cases h3 : l[k]? <;> simp_all
theorem EnB.eq {e f : En} (h : EnB e) (q : f = e) : EnB f := q ▸ h

end Go.Proofs.YtfmelbpgkbiooaaGreat

/- the laws of candidates -/
namespace Go.Proofs.YtfmelbpgkbiooaaGreat
open Go.RowKit Go.Shelf
set_option linter.unusedVariables false
set_option linter.unusedSimpArgs false

theorem Ok.pos {s : Sr} {n : Str} (h : Ok s n) : 1 ≤ (eachS s n).length := List.length_pos_of_mem h.mem
theorem Ok.nd {s : Sr} {n : Str} (h : Ok s n) (k : Int) (h1 : 0 ≤ k) (h2 : k ≤ 15) : Ok { s with ndots := k } n := by
  refine ⟨?_, h.n0⟩
  have h3 := h.s0
  unfold srCk at h3 ⊢
  split at h3
  · omega
  · rename_i q1
    split at h3
    · omega
    · rename_i q2
      split at h3
      · omega
      · rename_i q3
        rw [if_neg q1, if_neg q2, if_neg]
        rintro (q | q)
        · exact q3 (.inl q)
        · show False
          have q' : k < 0 ∨ 15 < k := q
          omega
theorem Ok.names {s : Sr} {n : Str} (h : Ok s n) : namesE s n = 0 := by rw [namesE, if_neg (by rw [h.s0]; decide)]; exact h.n0
end Go.Proofs.YtfmelbpgkbiooaaGreat

/- an index asked; the reference of indexes; the first candidate -/
namespace Go.Proofs.YtfmelbpgkbiooaaGreat
open Go.RowKit Go.Shelf
set_option linter.unusedVariables false
set_option linter.unusedSimpArgs false

theorem bu_117_0_1 (x0 : Int) (x1 : Option Addr) (x2 : Nat) (x3 : Nat) (x4 : Option Addr) (x5 : Nat) (x6 : Nat) : Tryz.prog.built 117 [(0, .agg [.int .i64 x0, .slice x1 x2 x3].toArray), (1, .slice x4 x5 x6)] = some [.int .i64 x0, .slice x1 x2 x3, .slice x4 x5 x6].toArray := by kernel_rfl
theorem ent_39 : Enters Tryz.prog 39 := enters_of Tryz.func39 (by kernel_rfl) rfl
theorem ty_42 : TyI Tryz.prog 42 true 4 40 (.agg #[.string ⟨#[]⟩, .bool false, .int .u64 0, .int .u64 0]) := TyI.mk' (by kernel_rfl) (fun _ => by kernel_rfl)

theorem none_of {α : Type} {o : Option α} (h : o.isSome = false) : o = none := by cases o with
  | none => rfl
  | some q => cases h

/-- What is held: a host, its address. -/
structure Hd where
  host : Str
  ad : Ad
def hdC (h : Hd) : List Value := [.string (ba h.host), .bool h.ad.six, .int .u64 h.ad.hi, .int .u64 h.ad.lo]
theorem enc_hd : Enc hdC 4 := ⟨fun _ => rfl, fun _ => rfl⟩
def hd0 : Hd := ⟨[], ad0⟩

def bestI : Option Nat → Int
  | none => -1
  | some j => j
def hst (l : List Le) (i : Nat) : Str := (l.getD i le0).e.host
theorem at_all {l : List Le} {p : Str → Prop} (h : ∀ q, q < l.length → p (hst l q)) : ∀ x ∈ l, p x.e.host := fun x hx => by
  obtain ⟨i, hi, rfl⟩ := List.mem_iff_getElem.1 hx
  have := h i hi
  rwa [hst, List.getD_eq_getElem?_getD, List.getElem?_eq_getElem hi] at this
end Go.Proofs.YtfmelbpgkbiooaaGreat
