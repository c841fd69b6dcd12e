import Derived.Test.YtnpdgmoeoidppaaUkQb
/- law 17: two tables told apart -/
namespace Go.Proofs.Ytnpdgmoeoidppaa
open Go.RowKit Go.Shelf
set_option linter.unusedVariables false
set_option linter.unusedSimpArgs false

theorem ent_13 : Enters Try.prog 13 := enters_of Try.func13 (by kernel_rfl) rfl
theorem ent_21 : Enters Try.prog 21 := enters_of Try.func21 (by kernel_rfl) rfl

theorem pick_nat (n : Int) (m : Nat) : ∃ k : Nat, pickI n ((m : Int) + 1) = (k : Int) ∧ k ≤ m := by
  unfold pickI
  split
  · exact ⟨0, rfl, Nat.zero_le _⟩
  · have h1 : 0 ≤ n % ((m : Int) + 1) := Int.emod_nonneg _ (by omega)
    have h2 : n % ((m : Int) + 1) < (m : Int) + 1 := Int.emod_lt_of_pos _ (by omega)
    exact ⟨(n % ((m : Int) + 1)).toNat, by first | omega | (simp; omega), by omega⟩
theorem rot_perm {α : Type} (l : List α) (m : Nat) : (l.drop m ++ l.take m).Perm l := by
  have h := List.perm_append_comm (l₁ := l.drop m) (l₂ := l.take m)
  rw [List.take_append_drop] at h; exact h

section
variable {v v2 : Int} {l l2 : List Le} (h1 : bX v l = 0) (h2 : bX v2 l2 = 0)
include h1 h2
theorem df_eq : dfP v l v2 l2 = cZ l l2 ∧ dfD v l v2 l2 = cJ l l2 ∧ ∀ x, dfV v l v2 l2 x = x := ⟨if_pos ⟨h1, h2⟩, if_pos ⟨h1, h2⟩, fun x => if_pos ⟨h1, h2⟩⟩
theorem df_ap (hv : v < v2) : (bM v l false (dfV v l v2 l2 v) (dfV v l v2 l2 v2) (dfP v l v2 l2) (dfD v l v2 l2)).1 = 0 ∧ (bM v l false (dfV v l v2 l2 v) (dfV v l v2 l2 v2) (dfP v l v2 l2) (dfD v l v2 l2)).2.map (·.e) = l2.map (·.e) := by
  obtain ⟨e1, e2, e3⟩ := df_eq h1 h2
  obtain ⟨r, hr, he⟩ := diff_ok h1 h2 hv
  rw [e1, e2, e3, e3, apply_ok.2 hr]; exact ⟨rfl, he⟩
theorem wh_ap (hv : v < v2) {w : List Le} (hp : w.Perm l2) : (bM v l true 0 v2 w []).1 = 0 ∧ (bM v l true 0 v2 w []).2.map (·.e) = l2.map (·.e) := by
  obtain ⟨r, hr, he⟩ := whole_ok h1 h2 hv hp
  rw [apply_ok.2 hr]; exact ⟨rfl, he⟩
end
theorem df_self {v2 : Int} {l2 : List Le} (h2 : bX v2 l2 = 0) : dfP v2 l2 v2 l2 = [] ∧ dfD v2 l2 v2 l2 = [] := by
  obtain ⟨e1, e2, e3⟩ := df_eq h2 h2
  rw [e1, e2]; exact diff_self h2
theorem dfP_sub {v v2 : Int} {l l2 : List Le} : ∀ x ∈ dfP v l v2 l2, x ∈ l2 := fun x hx => by
  unfold dfP at hx; split at hx
  · exact (List.mem_filter.1 hx).1
  · cases hx
theorem dfD_sub {v v2 : Int} {l l2 : List Le} {n : bg} (h : n ∈ dfD v l v2 l2) : ∃ x ∈ l, x.e.host = n := by
  unfold dfD at h; split at h
  · obtain ⟨x, hx, e⟩ := List.mem_map.1 h
    exact ⟨x, (List.mem_filter.1 hx).1, e⟩
  · cases h
theorem fb {l l2 : List Le} (h : ∀ x ∈ l, x ∈ l2) : ∀ c ∈ l.flatMap ff, c ∈ l2.flatMap ff := fun c hc => by
  obtain ⟨x, hx, hc⟩ := List.mem_flatMap.1 hc
  exact List.mem_flatMap.2 ⟨x, h x hx, hc⟩

theorem fc {w : World} {M M' : List Ch} (h : (Ch.rall M).P w ∧ ∀ b, (Ch.rall M).ok b → b < w.heap.size) (hs : ∀ c ∈ M', c ∈ M) : (Ch.rall M').P w ∧ ∀ b, (Ch.rall M').ok b → b < w.heap.size := ⟨fun c hc => h.1 c (hs c hc), fun b ⟨c, hc, hb⟩ => h.2 b ⟨c, hs c hc, hb⟩⟩

set_option maxRecDepth 100000 in
set_option maxHeartbeats 4000000 in
theorem c_TableDiffs (v : Int) (l : List Le) (A : Option Addr) (c : Nat) (v2 : Int) (l2 : List Le) (A2 : Option Addr) (c2 : Nat) (bq : Int) (hen : ∀ x ∈ l, EnOk x.e) (hll : l.length ≤ 9223372036854775807) (hen2 : ∀ x ∈ l2, EnOk x.e) (hll2 : l2.length ≤ 9223372036854775807) (hlc : l.length ≤ c) (hlc2 : l2.length ≤ c2) : RC Try.prog 5 #[.agg (cU v A l.length c).toArray, .agg (cU v2 A2 l2.length c2).toArray, .int .i64 bq] [Ch.rd A 7 d4 l, Ch.rall (l.flatMap ff), Ch.rd A2 7 d4 l2, Ch.rall (l2.flatMap ff)] (α := Unit) (fun _ => .bool true) (fun _ => []) := by
 refine bZ (args := [.agg (cU v A l.length c).toArray, .agg (cU v2 A2 l2.length c2).toArray, .int .i64 bq]) 123 Try.func5 rfl rfl rfl (fun w0 => ?_)
 refine ar ?_
 refine ah ?_
 refine cT rfl rfl rfl (fun b1 => ?_)
 refine cT rfl rfl rfl (fun b2 => ?_)
 refine ap (ai rfl) rfl rfl ?_
 refine ae ?_
 refine ao ?_
 refine ar ?_
 refine ar ?_
 refine ah ?_
 refine bR rfl ent_9 c_lives17 rfl ?_
 refine dx (t := 14) (.bool true) rfl (congrArg Value.bool rfl) ?_
 refine ap (ct rfl) rfl rfl ?_
 refine ae ?_
 refine ao ?_
 refine aN rfl ?_
 refine bd ?_
 refine ao ?_
 refine ar ?_
 refine ar ?_
 refine ah ?_
 refine ap (bp 1 aZ rfl rfl rfl rfl) rfl rfl ?_
 refine bi rfl ent_10 rfl (g2 v l _ _ (by omega)) (fun w hw => (ak (bW 0 rfl hw) aO)) ?_
 refine bS (t := 17) rfl (fun h3_1 => ?_) (fun h3_1 => ?_)
 have hle9 := eX h3_1
 have hok : TbOk l := fun x hx => ⟨hen x hx, hle9.1 x hx⟩
 have hl9 := hle9.2
 refine ap (ct rfl) rfl rfl ?_
 refine ap (am rfl) rfl rfl ?_
 refine aw rfl rfl ?_
 refine ap (bp 0 aZ rfl rfl rfl rfl) rfl rfl ?_
 refine aw rfl rfl ?_
 refine bi rfl ent_10 rfl (g2 v2 l2 _ _ (by omega)) (fun w hw => (ak (bW 2 rfl hw) aO)) ?_
 refine bS (t := 21) rfl (fun h3_5 => ?_) (fun h3_5 => ?_)
 have hle8 := eX h3_5
 have hok2 : TbOk l2 := fun x hx => ⟨hen2 x hx, hle8.1 x hx⟩
 have hl8 := hle8.2
 refine aw rfl rfl ?_
 refine ap (ct rfl) rfl rfl ?_
 refine ap (aQ rfl rfl) rfl rfl ?_
 refine ap (am rfl) rfl rfl ?_
 refine aw rfl rfl ?_
 refine ap (bp 1 aZ rfl rfl rfl rfl) rfl rfl ?_
 refine aw rfl rfl ?_
 refine bi rfl iE rfl (dP _ _ _ _ hok (by omega)) (fun w hw => (ak (bW 0 rfl hw) (ak (bW 1 rfl hw) aO))) ?_
 refine aw rfl rfl ?_
 refine ap (db rfl rfl) rfl rfl ?_
 refine aC (t := 27) rfl (fun h3_11 => ?_) (fun h3_11 => ?_)
 refine ap (aQ rfl rfl) rfl rfl ?_
 refine ap (am rfl) rfl rfl ?_
 refine aq rfl rfl rfl rfl ?_
 refine aq rfl rfl rfl rfl ?_
 refine aq rfl rfl rfl rfl ?_
 refine ap (aM rfl rfl) rfl rfl ?_
 refine ap (am rfl) rfl rfl ?_
 refine aq rfl rfl rfl rfl ?_
 refine aq rfl rfl rfl rfl ?_
 refine aq rfl rfl rfl rfl ?_
 refine aq rfl rfl rfl rfl ?_
 refine aq rfl rfl rfl rfl ?_
 refine ap (aM rfl rfl) rfl rfl ?_
 refine ae ?_
 refine ao ?_
 refine aI rfl ?_
 refine ar ?_
 refine ah ?_
 refine ap (ai rfl) rfl rfl ?_
 refine ae ?_
 refine ao ?_
 refine aV ?_
 refine aB ?_
 refine aY (ts := [6]) rfl rfl rfl (fun w hw => ?_)
 exact ⟨(), rfl, hw.base, (hw.weak (List.nil_sublist _) (fun s hs => hs)).toNews⟩
 refine ap (aQ rfl rfl) rfl rfl ?_
 refine ap (am rfl) rfl rfl ?_
 refine aw rfl rfl ?_
 refine ap (bp 0 aZ rfl rfl rfl rfl) rfl rfl ?_
 refine aw rfl rfl ?_
 refine bi rfl iE rfl (dP _ _ _ _ hok2 (by omega)) (fun w hw => (ak (bW 2 rfl hw) (ak (bW 3 rfl hw) aO))) ?_
 refine aw rfl rfl ?_
 refine ap (db rfl rfl) rfl rfl ?_
 refine aC (t := 32) rfl (fun h3_16 => ?_) (fun h3_16 => ?_)
 refine ap (aQ rfl rfl) rfl rfl ?_
 refine ap (am rfl) rfl rfl ?_
 refine aq rfl rfl rfl rfl ?_
 refine aq rfl rfl rfl rfl ?_
 refine aq rfl rfl rfl rfl ?_
 refine aq rfl rfl rfl rfl ?_
 refine aq rfl rfl rfl rfl ?_
 refine ap (aM rfl rfl) rfl rfl ?_
 refine ae ?_
 refine ao ?_
 refine aI rfl ?_
 refine ar ?_
 refine ah ?_
 refine ap (ai rfl) rfl rfl ?_
 refine ae ?_
 refine ao ?_
 refine aV ?_
 refine aB ?_
 refine aY (ts := [6]) rfl rfl rfl (fun w hw => ?_)
 exact ⟨(), rfl, hw.base, (hw.weak (List.nil_sublist _) (fun s hs => hs)).toNews⟩
 refine ap (aQ rfl rfl) rfl rfl ?_
 refine ap (am rfl) rfl rfl ?_
 refine aw rfl rfl ?_
 refine ap (aF cX rfl) rfl rfl ?_
 refine aw rfl rfl ?_
 refine ap (aG 0 cW rfl rfl rfl) rfl rfl ?_
 refine aw rfl rfl ?_
 refine ap (aF cX rfl) rfl rfl ?_
 refine aw rfl rfl ?_
 refine ap (aG 1 cW rfl rfl rfl) rfl rfl ?_
 refine aw rfl rfl ?_
 refine ap (eP rfl rfl) rfl rfl ?_
 refine aC (t := 39) rfl (fun h3_23 => ?_) (fun h3_23 => ?_)
 refine ap (aQ rfl rfl) rfl rfl ?_
 refine ae ?_
 refine ao ?_
 refine aI rfl ?_
 refine ar ?_
 refine ah ?_
 refine ap (ai rfl) rfl rfl ?_
 refine ae ?_
 refine ao ?_
 refine aV ?_
 refine aB ?_
 refine aY (ts := [6]) rfl rfl rfl (fun w hw => ?_)
 exact ⟨(), rfl, hw.base, (hw.weak (List.nil_sublist _) (fun s hs => hs)).toNews⟩
 refine ap (aQ rfl rfl) rfl rfl ?_
 refine ae ?_
 refine ao ?_
 refine aN rfl ?_
 refine bd ?_
 refine ao ?_
 refine ar ?_
 have hT1 : bX v l = 0 := Decidable.not_not.1 h3_11
 have hT2 : bX v2 l2 = 0 := Decidable.not_not.1 h3_16
 have hver : v < v2 := by omega
 obtain ⟨e1, e2, e3⟩ := df_eq hT1 hT2
 have hdd9 : ∀ n ∈ dfD v l v2 l2, n.length ≤ 1000 := fun n hn => by
   obtain ⟨x, hx, e⟩ := dfD_sub hn
   rw [← e]; exact (hok.mem17 hx).h
 obtain ⟨ha1, ha2⟩ := df_ap hT1 hT2 hver
 refine ah ?_
 refine ap (bp 1 aZ rfl rfl rfl rfl) rfl rfl ?_
 refine ap (bp 0 aZ rfl rfl rfl rfl) rfl rfl ?_
 refine a6 rfl ent_21 rfl (c_tDiff v l _ _ v2 l2 _ _ hok hok2 (by omega) (by omega) hlc hlc2) (fun w hw => (ak (bW 0 rfl hw) (ak (bW 1 rfl hw) (ak (bW 2 rfl hw) (ak (bW 3 rfl hw) aO))))) (fun ⟨⟨Ap, cp⟩, Ad, cd⟩ => ?_)
 refine bu er rfl rfl (fun b4 => ?_)
 refine aS er rfl rfl rfl .z rfl rfl rfl rfl ?_
 refine ae ?_
 refine ao ?_
 refine ar ?_
 refine ah ?_
 refine ap (bp 4 aZ rfl rfl rfl rfl) rfl rfl ?_
 refine ap (bp 0 er rfl rfl rfl rfl) rfl rfl ?_
 refine a6 rfl aU rfl (a8 v l _ _ false (dfV v l v2 l2 v) (dfV v l v2 l2 v2) (dfP v l v2 l2) _ _ (dfD v l v2 l2) _ _ hok (fun x hx => hok2 x (dfP_sub x hx)) (by omega) (by have := dfP_len v l v2 l2; omega) (by have := dfD_len v l v2 l2; omega) hdd9) (fun w hw => (ak (bW 0 rfl hw) (ak (bW 1 rfl hw) (ak (aK 2 rfl hw) (ak (fc (bW 3 rfl hw) (fb dfP_sub)) (ak (aK 1 rfl hw) aO)))))) (fun ⟨⟨ta, Aa, ca⟩, hta⟩ => ?_)
 have htaok : TbOk ta := ap_tb hok (fun x hx => hok2 x (dfP_sub x hx)) hta
 have htal : ta.length ≤ 256 := fW hta
 refine ap (am rfl) rfl rfl ?_
 refine ap (az rfl rfl) rfl rfl ?_
 refine ap (az rfl rfl) rfl rfl ?_
 refine bu aZ rfl rfl (fun b6 => ?_)
 refine aS aZ rfl rfl rfl .z rfl rfl rfl rfl ?_
 refine ap (ai rfl) rfl rfl ?_
 refine ae ?_
 refine ao ?_
 refine ar ?_
 refine ah ?_
 refine ap (am rfl) rfl rfl ?_
 refine ap (aF cL rfl) rfl rfl ?_
 refine ap (aG 6 bU rfl rfl rfl) rfl rfl ?_
 refine ap (bI Try.underlying22 rfl) rfl rfl ?_
 refine ap (bY rfl rfl (by omega) (by omega)) rfl rfl ?_
 refine bR rfl ent_13 (c_kit_Pick _ _ (by omega) (by omega)) rfl ?_
 obtain ⟨k, hkp, hkl⟩ := pick_nat bq l2.length
 refine dx (t := 55) (.int .i64 k) rfl (by rw [← hkp]) ?_
 have hwp : (l2.drop k ++ l2.take k).Perm l2 := rot_perm l2 k
 obtain ⟨hw1, hw2⟩ := wh_ap hT1 hT2 hver hwp
 refine ap (ai rfl) rfl rfl ?_
 refine ae ?_
 refine ao ?_
 refine ar ?_
 refine dX 12 rfl mixed ?_
 refine aX (i := 1) rfl aa (aF cL rfl) aD aD rfl (aj av) (by kernel_rfl) rfl ?_
 refine aX (i := 2) rfl aa (aG 6 bU rfl rfl rfl) aD aD rfl (aj av) (by kernel_rfl) rfl ?_
 refine aX (i := 3) rfl aa (am rfl) aD aD rfl (aj av) (by kernel_rfl) rfl ?_
 refine aX (i := 4) rfl aa (gI (m := k) Try.underlying22 a7 rfl rfl (by omega) (by omega)) aD aD rfl (aj av) (by kernel_rfl) rfl ?_
 refine aX (i := 6) rfl aa (aF cL rfl) aD aD rfl (aj av) (by kernel_rfl) rfl ?_
 refine aX (i := 7) rfl aa (aG 6 bU rfl rfl rfl) aD aD rfl (aj av) (by kernel_rfl) rfl ?_
 refine aX (i := 8) rfl aa (am rfl) aD aD rfl (aj av) (by kernel_rfl) rfl ?_
 refine aX (i := 9) rfl aa (y_takes (m := k) Try.underlying22 a7 rfl rfl (by omega) (by omega) (fun w hw => hlc2)) aD aD rfl (aj av) (by kernel_rfl) rfl ?_
 refine dl (i := 0) rfl rfl rfl (fun _ _ _ => ax (by kernel_rfl)) (by kernel_rfl) rfl ?_
 refine bf (vs := []) (([] : List Le) : List (Le)) bl Try.underlying22 a7 rfl rfl rfl rfl rfl rfl (fun As7 => ?_)
 refine ae ?_
 refine d8 (aL 1) ?_
 refine dl (i := 5) rfl rfl rfl (fun _ _ _ => ax (by kernel_rfl)) (by kernel_rfl) rfl ?_
 refine dh (enc := d4) (sz := 7) (l2.drop k) Try.underlying22 a7 rfl rfl rfl (fun A c => .z) (fun w hw => RsP.src Try.underlying22 (dL bl 2 rfl (by omega) hlc2 hw).1) (by simp; omega) (by simp; omega) rfl (fun A7 c7 => ?_)
 refine ae ?_
 refine d8 (aL 1) ?_
 refine dl (i := 10) rfl rfl rfl (fun _ _ _ => ax (by kernel_rfl)) (by kernel_rfl) rfl ?_
 refine dh (enc := d4) (sz := 7) (l2.take k) Try.underlying22 a7 rfl rfl rfl (fun A c => .z) (fun w hw => RsP.src Try.underlying22 (rd_takeS bl 2 rfl (by omega) hw).1) (by simp; omega) (by simp; omega) rfl (fun A8 c8 => ?_)
 refine ae ?_
 refine d8 (aL 1) ?_
 refine aX (i := 11) rfl aa (ai rfl) (aL 1) aD rfl (aj av) (by kernel_rfl) rfl ?_
 refine dm (by kernel_rfl) ?_
 refine ao ?_
 refine ar ?_
 refine ah ?_
 refine ap (bp 8 aZ rfl rfl rfl rfl) rfl rfl ?_
 refine ap (aF cX rfl) rfl rfl ?_
 refine ap (aG 7 cW rfl rfl rfl) rfl rfl ?_
 refine ap (am rfl) rfl rfl ?_
 refine ap (bm rfl (bu_27_0_2_3 _ _ _ _ _)) rfl rfl ?_
 refine a6 rfl aU rfl (a8 v l _ _ true 0 v2 (l2.drop k ++ l2.take k) _ _ [] _ _ hok (fun x hx => hok2 x (hwp.mem_iff.1 hx)) (by omega) (by rw [hwp.length_eq]; omega) (by decide) nofun) (fun w hw => (ak (bW 0 rfl hw) (ak (bW 1 rfl hw) (ak (aK 0 rfl hw) (ak (fc (bW 3 rfl hw) (fb (fun x hx => hwp.mem_iff.1 hx))) (ak (eZ) aO)))))) (fun ⟨⟨tw, Aw, cw⟩, htw⟩ => ?_)
 have htwok : TbOk tw := ap_tb hok (fun x hx => hok2 x (hwp.mem_iff.1 hx)) htw
 have htwl : tw.length ≤ 256 := fW htw
 refine ap (am rfl) rfl rfl ?_
 refine ap (az rfl rfl) rfl rfl ?_
 refine ap (az rfl rfl) rfl rfl ?_
 refine bu aZ rfl rfl (fun b11 => ?_)
 refine aS aZ rfl rfl rfl .z rfl rfl rfl rfl ?_
 refine ap (ai rfl) rfl rfl ?_
 refine ae ?_
 refine ao ?_
 refine ar ?_
 refine ah ?_
 refine ap (bp 10 aZ rfl rfl rfl rfl) rfl rfl ?_
 refine ap (bp 10 aZ rfl rfl rfl rfl) rfl rfl ?_
 refine a6 rfl ent_21 rfl (c_tDiff v2 l2 _ _ v2 l2 _ _ hok2 hok2 (by omega) (by omega) hlc2 hlc2) (fun w hw => (ak (bW 2 rfl hw) (ak (bW 3 rfl hw) (ak (bW 2 rfl hw) (ak (bW 3 rfl hw) aO))))) (fun ⟨⟨Apq, cpq⟩, Adq, cdq⟩ => ?_)
 have hq1 := congrArg List.length (df_self hT2).1
 have hq2 := congrArg List.length (df_self hT2).2
 rw [List.length_nil] at hq1 hq2
 refine bu er rfl rfl (fun b13 => ?_)
 refine aS er rfl rfl rfl .z rfl rfl rfl rfl ?_
 refine ae ?_
 refine ao ?_
 refine ar ?_
 refine ah ?_
 refine ap (am rfl) rfl rfl ?_
 refine ap (dg rfl rfl) rfl rfl ?_
 refine fd (t := 80) rfl ha1 ?_
 refine ap (am rfl) rfl rfl ?_
 refine aw rfl rfl ?_
 refine ap (bp 7 aZ rfl rfl rfl rfl) rfl rfl ?_
 refine aw rfl rfl ?_
 refine ap (bp 13 aZ rfl rfl rfl rfl) rfl rfl ?_
 refine aw rfl rfl ?_
 refine bi rfl ir rfl (gr (apV (bM v l false (dfV v l v2 l2 v) (dfV v l v2 l2 v2) (dfP v l v2 l2) (dfD v l v2 l2)).1 (dfV v l v2 l2 v2)) ta _ _ v2 l2 _ _ htaok (by have := htal; omega) (by omega)) (fun w hw => (ak (aK 9 rfl hw) (ak (ci 8 rfl hw) (ak (bW 2 rfl hw) (ak (bW 3 rfl hw) aO))))) ?_
 refine dx (t := 84) (.bool true) rfl (congrArg Value.bool (decide_eq_true ⟨by rw [ha1]; exact e3 _, hta.trans ha2⟩)) ?_
 refine ap (aM rfl rfl) rfl rfl ?_
 refine ap (am rfl) rfl rfl ?_
 refine aw rfl rfl ?_
 refine ap (am rfl) rfl rfl ?_
 refine aw rfl rfl ?_
 refine ap (dg rfl rfl) rfl rfl ?_
 refine fd (t := 88) rfl hw1 ?_
 refine ap (aM rfl rfl) rfl rfl ?_
 refine ap (am rfl) rfl rfl ?_
 refine aw rfl rfl ?_
 refine ap (bp 3 aZ rfl rfl rfl rfl) rfl rfl ?_
 refine aw rfl rfl ?_
 refine ap (bp 13 aZ rfl rfl rfl rfl) rfl rfl ?_
 refine aw rfl rfl ?_
 refine bi rfl ir rfl (gr (apV (bM v l true 0 v2 (l2.drop k ++ l2.take k) []).1 v2) tw _ _ v2 l2 _ _ htwok (by have := htwl; omega) (by omega)) (fun w hw => (ak (aK 5 rfl hw) (ak (ci 4 rfl hw) (ak (bW 2 rfl hw) (ak (bW 3 rfl hw) aO))))) ?_
 refine dx (t := 93) (.bool true) rfl (congrArg Value.bool (decide_eq_true ⟨by rw [hw1]; rfl, htw.trans hw2⟩)) ?_
 refine ap (aM rfl rfl) rfl rfl ?_
 refine ap (am rfl) rfl rfl ?_
 refine aw rfl rfl ?_
 refine ap (aF dz rfl) rfl rfl ?_
 refine aw rfl rfl ?_
 refine ap (aG 0 bU rfl rfl rfl) rfl rfl ?_
 refine aw rfl rfl ?_
 refine ap (bI Try.underlying22 rfl) rfl rfl ?_
 refine aw rfl rfl ?_
 refine ap (aF ef rfl) rfl rfl ?_
 refine aw rfl rfl ?_
 refine ap (aG 0 fO rfl rfl rfl) rfl rfl ?_
 refine aw rfl rfl ?_
 refine ap (bI Try.underlying25 rfl) rfl rfl ?_
 refine aw rfl rfl ?_
 refine ap (bY rfl rfl (by omega) (by omega)) rfl rfl ?_
 refine aw rfl rfl ?_
 refine ap (dg rfl rfl) rfl rfl ?_
 refine fd (t := 103) rfl (by rw [(df_self hT2).1, (df_self hT2).2]; rfl) ?_
 refine ap (aM rfl rfl) rfl rfl ?_
 refine ap (am rfl) rfl rfl ?_
 refine aw rfl rfl ?_
 refine ap (aF dz rfl) rfl rfl ?_
 refine aw rfl rfl ?_
 refine ap (aG 10 bU rfl rfl rfl) rfl rfl ?_
 refine aw rfl rfl ?_
 refine ap (bI Try.underlying22 rfl) rfl rfl ?_
 refine aw rfl rfl ?_
 refine ap (aF cL rfl) rfl rfl ?_
 refine aw rfl rfl ?_
 refine ap (aG 13 bU rfl rfl rfl) rfl rfl ?_
 refine aw rfl rfl ?_
 refine ap (bI Try.underlying22 rfl) rfl rfl ?_
 refine aw rfl rfl ?_
 refine ap (eP rfl rfl) rfl rfl ?_
 refine fd (t := 112) rfl (by have := dfP_len v l v2 l2; omega) ?_
 refine ap (aM rfl rfl) rfl rfl ?_
 refine ap (am rfl) rfl rfl ?_
 refine aw rfl rfl ?_
 refine ap (aF ef rfl) rfl rfl ?_
 refine aw rfl rfl ?_
 refine ap (aG 10 fO rfl rfl rfl) rfl rfl ?_
 refine aw rfl rfl ?_
 refine ap (bI Try.underlying25 rfl) rfl rfl ?_
 refine aw rfl rfl ?_
 refine ap (aF cL rfl) rfl rfl ?_
 refine aw rfl rfl ?_
 refine ap (aG 14 bU rfl rfl rfl) rfl rfl ?_
 refine aw rfl rfl ?_
 refine ap (bI Try.underlying22 rfl) rfl rfl ?_
 refine aw rfl rfl ?_
 refine ap (eP rfl rfl) rfl rfl ?_
 refine fd (t := 121) rfl (by have := dfD_len v l v2 l2; omega) ?_
 refine ap (aM rfl rfl) rfl rfl ?_
 refine ap (ai rfl) rfl rfl ?_
 refine ae ?_
 refine ao ?_
 refine aV ?_
 refine aY (ts := [6]) rfl rfl rfl (fun w hw => ?_)
 exact ⟨(), rfl, hw.base, (hw.weak (List.nil_sublist _) (fun s hs => hs)).toNews⟩
 refine aw rfl rfl ?_
 refine ap (ct rfl) rfl rfl ?_
 refine ap (aQ rfl rfl) rfl rfl ?_
 refine ap (am rfl) rfl rfl ?_
 refine aq rfl rfl rfl rfl ?_
 refine aq rfl rfl rfl rfl ?_
 refine aq rfl rfl rfl rfl ?_
 refine ap (aM rfl rfl) rfl rfl ?_
 refine ap (am rfl) rfl rfl ?_
 refine aq rfl rfl rfl rfl ?_
 refine aq rfl rfl rfl rfl ?_
 refine aq rfl rfl rfl rfl ?_
 refine ap (aM rfl rfl) rfl rfl ?_
 refine ap (am rfl) rfl rfl ?_
 refine aq rfl rfl rfl rfl ?_
 refine aq rfl rfl rfl rfl ?_
 refine aq rfl rfl rfl rfl ?_
 refine aq rfl rfl rfl rfl ?_
 refine aq rfl rfl rfl rfl ?_
 refine ap (aM rfl rfl) rfl rfl ?_
 refine ae ?_
 refine ao ?_
 refine aI rfl ?_
 refine ar ?_
 refine ah ?_
 refine ap (ai rfl) rfl rfl ?_
 refine ae ?_
 refine ao ?_
 refine aV ?_
 refine aB ?_
 refine aY (ts := [6]) rfl rfl rfl (fun w hw => ?_)
 exact ⟨(), rfl, hw.base, (hw.weak (List.nil_sublist _) (fun s hs => hs)).toNews⟩
 refine ap (ct rfl) rfl rfl ?_
 refine ap (am rfl) rfl rfl ?_
 refine aq rfl rfl rfl rfl ?_
 refine aq rfl rfl rfl rfl ?_
 refine aq rfl rfl rfl rfl ?_
 refine ap (aM rfl rfl) rfl rfl ?_
 refine ap (am rfl) rfl rfl ?_
 refine aq rfl rfl rfl rfl ?_
 refine aq rfl rfl rfl rfl ?_
 refine aq rfl rfl rfl rfl ?_
 refine ap (aM rfl rfl) rfl rfl ?_
 refine ap (am rfl) rfl rfl ?_
 refine aq rfl rfl rfl rfl ?_
 refine aq rfl rfl rfl rfl ?_
 refine aq rfl rfl rfl rfl ?_
 refine ap (aM rfl rfl) rfl rfl ?_
 refine ap (am rfl) rfl rfl ?_
 refine aq rfl rfl rfl rfl ?_
 refine aq rfl rfl rfl rfl ?_
 refine aq rfl rfl rfl rfl ?_
 refine aq rfl rfl rfl rfl ?_
 refine aq rfl rfl rfl rfl ?_
 refine ap (aM rfl rfl) rfl rfl ?_
 refine ae ?_
 refine ao ?_
 refine aI rfl ?_
 refine ar ?_
 refine ah ?_
 refine ap (ai rfl) rfl rfl ?_
 refine ae ?_
 refine ao ?_
 refine aV ?_
 refine aB ?_
 refine aY (ts := [6]) rfl rfl rfl (fun w hw => ?_)
 exact ⟨(), rfl, hw.base, (hw.weak (List.nil_sublist _) (fun s hs => hs)).toNews⟩
end Go.Proofs.Ytnpdgmoeoidppaa
