import Derived.Test.YtnpdgmoeoidppaaGreatUwQx
/- tables: the document pushes -/
namespace Go.Proofs.YtnpdgmoeoidppaaGreat
open Go.RowKit Go.Shelf
set_option linter.unusedVariables false
set_option linter.unusedSimpArgs false

section
variable {v : Int} {l : List Le} {full : Bool} {bs ver : Int} {put : List Le} {drop : List a6}
theorem jP {e : Int} (h0 : bI v l = 0) (h : dA v full bs ver drop.length = e) (he : e ≠ 0) : bx v l full bs ver put drop = (e, []) := by
  rw [bx, if_neg (fun q => q h0), if_pos (by rw [h]; exact he), h]
theorem gR {e : Int} (h0 : bI v l = 0) (h1 : dA v full bs ver drop.length = 0) (h : ct put drop = e) (he : e ≠ 0) : bx v l full bs ver put drop = (e, []) := by
  rw [bx, if_neg (fun q => q h0), if_neg (fun q => q h1), if_pos (by rw [h]; exact he), h]
theorem form_age (h : ver ≤ v ∨ 2147483647 < ver) {nd : Nat} : dA v full bs ver nd = 9 := if_pos h
theorem form_full (h : ¬ ver ≤ v) (h2 : ¬ 2147483647 < ver) (hf : full = true) {nd : Nat} (h3 : bs ≠ 0 ∨ 0 < nd) : dA v full bs ver nd = 2 := by
  rw [dA, if_neg (by omega), if_pos hf, if_pos h3]
theorem form_base (h : ¬ ver ≤ v) (h2 : ¬ 2147483647 < ver) (hf : full = false) {nd : Nat} (h3 : bs ≠ v) : dA v full bs ver nd = 9 := by
  rw [dA, if_neg (by omega), if_neg (by rw [hf]; decide), if_pos h3]
theorem form_okF (h : ¬ ver ≤ v) (h2 : ¬ 2147483647 < ver) (hf : full = true) {nd : Nat} (h3 : bs = 0) (h4 : nd = 0) : dA v full bs ver nd = 0 := by
  rw [dA, if_neg (by omega), if_pos hf, if_neg (by omega)]
theorem form_okD (h : ¬ ver ≤ v) (h2 : ¬ 2147483647 < ver) (hf : full = false) {nd : Nat} (h3 : bs = v) : dA v full bs ver nd = 0 := by
  rw [dA, if_neg (by omega), if_neg (by rw [hf]; decide), if_neg (fun q => q h3)]
theorem parts_ents {e : Int} (h : cA put = e) (he : e ≠ 0) : ct put drop = e := by rw [ct, if_pos (by rw [h]; exact he), h]
theorem parts_names {e : Int} (h0 : cA put = 0) (h : dm drop = e) (he : e ≠ 0) : ct put drop = e := by rw [ct, if_neg (fun q => q h0), if_pos (by rw [h]; exact he), h]
theorem parts_dup (h0 : cA put = 0) (h1 : dm drop = 0) (h : ¬ (cK put drop).Nodup) : ct put drop = 6 := by rw [ct, if_neg (fun q => q h0), if_neg (fun q => q h1), if_neg h]
theorem parts_ok (h0 : cA put = 0) (h1 : dm drop = 0) (h : (cK put drop).Nodup) : ct put drop = 0 := by rw [ct, if_neg (fun q => q h0), if_neg (fun q => q h1), if_pos h]
theorem nd_take {l : List a6} {k : Nat} (hk : k < l.length) (h : (l.take k).Nodup) (hn : l.getD k [] ∉ l.take k) : (l.take (k + 1)).Nodup := by
  rw [dh l [] k hk, List.nodup_append]
  exact ⟨h, by simp, fun x hx b hb e => by rw [List.mem_singleton.1 hb] at e; exact hn (e ▸ hx)⟩
end
theorem drop_find {m : List Le} (h : TbE (m.map (·.e))) {n : a6} {r : List a6} {k : Nat} (hk : k < m.length) (hf : a7 (m.getD k bm).e.host = a7 n) (hl : b8 (m.map (·.e)) (a7 n) = some (m.getD k bm).e) : ce m (n :: r) = ce (([] ++ m.take k) ++ m.drop (k + 1)) r := by
  rw [ce, hl, if_pos (show (some (m.getD k bm).e).isSome = true from rfl), List.nil_append]
  have := filt_at (f := fun y : Le => a7 y.e.host) bm h.lkeys hk
  rw [hf] at this
  rw [this]
theorem cut_sub {α : Type} {m : List α} {k : Nat} : (([] ++ m.take k) ++ m.drop (k + 1)).Sublist m := by
  rw [List.nil_append, ← List.eraseIdx_eq_take_drop_succ]; exact List.eraseIdx_sublist m k

set_option maxRecDepth 100000 in
set_option maxHeartbeats 4000000 in
theorem c_r17Apply (v : Int) (l : List Le) (A : Option Addr) (c : Nat) (full : Bool) (bs ver : Int) (put : List Le) (P : Option Addr) (pc : Nat) (drop : List a6) (D : Option Addr) (dc : Nat) (hok : TbOk l) (hpok : TbOk put) (hl : l.length ≤ 1000) (hpl : put.length ≤ 1000) (hdl : drop.length ≤ 1000) (hdb : ∀ n ∈ drop, n.length ≤ 1000) : RC Tryz.prog 56 #[.agg (eE v A l.length c).toArray, .agg (er full bs ver P put.length pc D drop.length dc).toArray] [Ch.rd A 7 dF l, Ch.rall (l.flatMap fm), Ch.rd P 7 dF put, Ch.rall (put.flatMap fm), Ch.rd D 1 dD drop] (α := Option Addr × Nat) (fun p => .tuple #[.agg (eE (apV (bx v l full bs ver put drop).1 ver) p.1 (bx v l full bs ver put drop).2.length p.2).toArray, .int .i64 (bx v l full bs ver put drop).1]) (fun p => [Ch.ls p.1 p.2 34 7 dF (bx v l full bs ver put drop).2]) := by
 refine bK (args := [.agg (eE v A l.length c).toArray, .agg (er full bs ver P put.length pc D drop.length dc).toArray]) 201 Tryz.func56 rfl rfl rfl (fun w0 => ?_)
 refine ap ?_
 refine ae ?_
 refine cL rfl rfl rfl (fun b1 => ?_)
 refine cL rfl rfl rfl (fun b2 => ?_)
 refine bH bw rfl rfl (fun b3 => ?_)
 refine aq (ai rfl) rfl rfl ?_
 refine aa ?_
 refine aj ?_
 refine ap ?_
 refine ae ?_
 refine aq (bu 2 bw rfl rfl rfl rfl) rfl rfl ?_
 refine bA rfl ent_62 rfl (eV _ _ _ _ hok (by omega)) (fun w hw => (az (bo 0 rfl hw) (az (bo 1 rfl hw) aY))) ?_
 refine aq (ai rfl) rfl rfl ?_
 refine aa ?_
 refine aj ?_
 refine ap ?_
 refine ap ?_
 refine ae ?_
 refine aq (am rfl) rfl rfl ?_
 refine aq (cO rfl rfl) rfl rfl ?_
 refine ay (t := 21) rfl (fun h2_1 => ?_) (fun h2_1 => ?_)
 refine aa ?_
 refine aj ?_
 refine aA rfl ?_
 refine ap ?_
 refine ae ?_
 refine aq (bP rfl (fg)) rfl rfl ?_
 refine aq (am rfl) rfl rfl ?_
 refine aW bw rfl rfl rfl .z rfl rfl rfl rfl ?_
 refine aq (ai rfl) rfl rfl ?_
 refine aa ?_
 refine aj ?_
 refine aN ?_
 refine ax ?_
 refine dP (rs := [.cell 4 24, .tmp 5]) rfl (bQ 0 bw rfl rfl rfl rfl (dv rfl cG)) rfl (fun w hw => ?_)
 have hA : (bx v l full bs ver put drop) = (bI v l, []) := if_pos h2_1
 have hA1 := congrArg Prod.fst hA
 have hA2 := congrArg Prod.snd hA
 dsimp only at hA1 hA2
 exact ⟨(none, 0), by rw [hA1, hA2, ey h2_1]; rfl, hw.base, by rw [hA2]; exact ((hw.weak (List.nil_sublist _) (fun s hs => hs)).nilsl 34 7).toNews⟩
 have hT : bI v l = 0 := by omega
 refine aa ?_
 refine aj ?_
 refine aD rfl ?_
 refine aQ ?_
 refine aj ?_
 refine ap ?_
 refine ap ?_
 refine ae ?_
 refine aq (aB fC rfl) rfl rfl ?_
 refine aq (aC 1 cX rfl rfl rfl) rfl rfl ?_
 refine aq (aB dZ rfl) rfl rfl ?_
 refine aq (aC 2 cX rfl rfl rfl) rfl rfl ?_
 refine aq (ff rfl rfl) rfl rfl ?_
 refine ay (t := 28) rfl (fun h4_4 => ?_) (fun h4_4 => ?_)
 refine aq (am rfl) rfl rfl ?_
 refine ar rfl rfl rfl rfl ?_
 refine ar rfl rfl rfl rfl ?_
 refine ar rfl rfl rfl rfl ?_
 refine aq (aH rfl rfl) rfl rfl ?_
 refine aa ?_
 refine aj ?_
 refine aA rfl ?_
 refine ap ?_
 refine ae ?_
 refine aq (bP rfl (fg)) rfl rfl ?_
 refine aW bw rfl rfl rfl .z rfl rfl rfl rfl ?_
 refine aq (ai rfl) rfl rfl ?_
 refine aa ?_
 refine aj ?_
 refine aN ?_
 refine ax ?_
 refine dP (rs := [.cell 4 24, .tmp 5]) rfl (bQ 0 bw rfl rfl rfl rfl (dv rfl cG)) rfl (fun w hw => ?_)
 have hA : (bx v l full bs ver put drop) = (9, []) := jP hT (form_age (by omega)) (by decide)
 have hA1 := congrArg Prod.fst hA
 have hA2 := congrArg Prod.snd hA
 dsimp only at hA1 hA2
 exact ⟨(none, 0), by rw [hA1, hA2, ey (by decide)]; rfl, hw.base, by rw [hA2]; exact ((hw.weak (List.nil_sublist _) (fun s hs => hs)).nilsl 34 7).toNews⟩
 refine aq (am rfl) rfl rfl ?_
 refine au rfl rfl ?_
 refine aq (aB fC rfl) rfl rfl ?_
 refine au rfl rfl ?_
 refine aq (aC 1 cX rfl rfl rfl) rfl rfl ?_
 refine au rfl rfl ?_
 refine aq (dB rfl rfl) rfl rfl ?_
 refine ay (t := 32) rfl (fun h4_8 => ?_) (fun h4_8 => ?_)
 refine aq (aF rfl rfl) rfl rfl ?_
 refine aa ?_
 refine aj ?_
 refine aA rfl ?_
 refine ap ?_
 refine ae ?_
 refine aq (bP rfl (fg)) rfl rfl ?_
 refine aW bw rfl rfl rfl .z rfl rfl rfl rfl ?_
 refine aq (ai rfl) rfl rfl ?_
 refine aa ?_
 refine aj ?_
 refine aN ?_
 refine ax ?_
 refine dP (rs := [.cell 4 24, .tmp 5]) rfl (bQ 0 bw rfl rfl rfl rfl (dv rfl cG)) rfl (fun w hw => ?_)
 have hA : (bx v l full bs ver put drop) = (9, []) := jP hT (form_age (by omega)) (by decide)
 have hA1 := congrArg Prod.fst hA
 have hA2 := congrArg Prod.snd hA
 dsimp only at hA1 hA2
 exact ⟨(none, 0), by rw [hA1, hA2, ey (by decide)]; rfl, hw.base, by rw [hA2]; exact ((hw.weak (List.nil_sublist _) (fun s hs => hs)).nilsl 34 7).toNews⟩
 refine aq (aF rfl rfl) rfl rfl ?_
 refine aa ?_
 refine aj ?_
 refine aD rfl ?_
 refine aQ ?_
 refine aj ?_
 refine ap ?_
 refine ap ?_
 refine ae ?_
 refine aq (aB eH rfl) rfl rfl ?_
 refine aq (aC 1 iu rfl rfl rfl) rfl rfl ?_
 refine bN (t := 36) rfl (fun h6_1 => ?_) (fun h6_1 => ?_)
 refine aq (am rfl) rfl rfl ?_
 refine au rfl rfl ?_
 refine aq (aB gm rfl) rfl rfl ?_
 refine au rfl rfl ?_
 refine aq (aC 1 cX rfl rfl rfl) rfl rfl ?_
 refine au rfl rfl ?_
 refine aq (cO rfl rfl) rfl rfl ?_
 refine ay (t := 40) rfl (fun h6_5 => ?_) (fun h6_5 => ?_)
 refine au rfl rfl ?_
 refine aq (am rfl) rfl rfl ?_
 refine ar rfl rfl rfl rfl ?_
 refine ar rfl rfl rfl rfl ?_
 refine ar rfl rfl rfl rfl ?_
 refine ar rfl rfl rfl rfl ?_
 refine au rfl rfl ?_
 refine aq (aH rfl rfl) rfl rfl ?_
 refine aq (aH rfl rfl) rfl rfl ?_
 refine aa ?_
 refine aj ?_
 refine aA rfl ?_
 refine ap ?_
 refine ae ?_
 refine aq (bP rfl (fg)) rfl rfl ?_
 refine aW bw rfl rfl rfl .z rfl rfl rfl rfl ?_
 refine aq (ai rfl) rfl rfl ?_
 refine aa ?_
 refine aj ?_
 refine aN ?_
 refine ax ?_
 refine dP (rs := [.cell 4 24, .tmp 5]) rfl (bQ 0 bw rfl rfl rfl rfl (dv rfl cG)) rfl (fun w hw => ?_)
 have hA : (bx v l full bs ver put drop) = (2, []) := jP hT (form_full (by omega) (by omega) h6_1 (by omega)) (by decide)
 have hA1 := congrArg Prod.fst hA
 have hA2 := congrArg Prod.snd hA
 dsimp only at hA1 hA2
 exact ⟨(none, 0), by rw [hA1, hA2, ey (by decide)]; rfl, hw.base, by rw [hA2]; exact ((hw.weak (List.nil_sublist _) (fun s hs => hs)).nilsl 34 7).toNews⟩
 refine au rfl rfl ?_
 refine aq (am rfl) rfl rfl ?_
 refine au rfl rfl ?_
 refine aq (aB cP rfl) rfl rfl ?_
 refine au rfl rfl ?_
 refine aq (aC 1 ew rfl rfl rfl) rfl rfl ?_
 refine au rfl rfl ?_
 refine aq (bg Tryz.underlying59 rfl) rfl rfl ?_
 refine au rfl rfl ?_
 refine aq (dB rfl rfl) rfl rfl ?_
 refine ay (t := 45) rfl (fun h6_10 => ?_) (fun h6_10 => ?_)
 refine au rfl rfl ?_
 refine aq (aF rfl rfl) rfl rfl ?_
 refine aq (aH rfl rfl) rfl rfl ?_
 refine aa ?_
 refine aj ?_
 refine aA rfl ?_
 refine ap ?_
 refine ae ?_
 refine aq (bP rfl (fg)) rfl rfl ?_
 refine aW bw rfl rfl rfl .z rfl rfl rfl rfl ?_
 refine aq (ai rfl) rfl rfl ?_
 refine aa ?_
 refine aj ?_
 refine aN ?_
 refine ax ?_
 refine dP (rs := [.cell 4 24, .tmp 5]) rfl (bQ 0 bw rfl rfl rfl rfl (dv rfl cG)) rfl (fun w hw => ?_)
 have hA : (bx v l full bs ver put drop) = (2, []) := jP hT (form_full (by omega) (by omega) h6_1 (by omega)) (by decide)
 have hA1 := congrArg Prod.fst hA
 have hA2 := congrArg Prod.snd hA
 dsimp only at hA1 hA2
 exact ⟨(none, 0), by rw [hA1, hA2, ey (by decide)]; rfl, hw.base, by rw [hA2]; exact ((hw.weak (List.nil_sublist _) (fun s hs => hs)).nilsl 34 7).toNews⟩
 refine au rfl rfl ?_
 refine aq (aF rfl rfl) rfl rfl ?_
 refine aq (aH rfl rfl) rfl rfl ?_
 refine aa ?_
 refine aj ?_
 refine aD rfl ?_
 refine aQ ?_
 refine aj ?_
 refine ap ?_
 refine ap ?_
 refine ae ?_
 refine aq (aB eH rfl) rfl rfl ?_
 refine aq (aC 1 iu rfl rfl rfl) rfl rfl ?_
 refine eo (t := 50) (.bool true) rfl (congrArg Value.bool h6_1) ?_
 refine aq (bS rfl) rfl rfl ?_
 refine aq (am rfl) rfl rfl ?_
 refine ar rfl rfl rfl rfl ?_
 refine ar rfl rfl rfl rfl ?_
 refine ar rfl rfl rfl rfl ?_
 refine ar rfl rfl rfl rfl ?_
 refine ar rfl rfl rfl rfl ?_
 refine aq (aF rfl rfl) rfl rfl ?_
 refine aa ?_
 refine aj ?_
 refine aD rfl ?_
 refine aQ ?_
 refine aj ?_
 refine ap ?_
 refine ap ?_
 have hF : dA v full bs ver drop.length = 0 := by
   focus first
     | exact form_okD (by omega) (by omega) h6_1 (by omega)
     | exact form_okF (by omega) (by omega) h6_1 (by omega) (by omega)
 refine ae ?_
 refine aq (ai rfl) rfl rfl ?_
 refine aa ?_
 refine aj ?_
 refine aS ?_
 refine cC (σ := Nat) [5, 6, 7, 60, 61, 62, 63, 64, 65, 66, 67, 68, 69, 70, 71, 72, 73, 74, 75, 76] (fun k => k ≤ put.length ∧ cA put = cA (put.drop k)) (fun k => put.length - k) (fun k => [(7, .int .i64 k)]) (0) ?_ ⟨rfl, trivial⟩ (fun k hI => ?_)
 exact ⟨Nat.zero_le _, rfl⟩
 refine ap ?_
 refine ap ?_
 refine ae ?_
 refine aq (am rfl) rfl rfl ?_
 refine aq (aB cE rfl) rfl rfl ?_
 refine aq (aC 1 bz rfl rfl rfl) rfl rfl ?_
 refine aq (bg Tryz.underlying22 rfl) rfl rfl ?_
 refine aq (bW rfl rfl) rfl rfl ?_
 refine ay (t := 64) rfl (fun h11_4 => ?_) (fun h11_4 => ?_)
 have hk : k < put.length := by omega
 have hb9 := hpok.mem17 (aZ (d := bm) hk)
 have hb8 := hpok.at hk
 refine aa ?_
 refine aj ?_
 refine aA rfl ?_
 refine aQ ?_
 refine aj ?_
 refine ap ?_
 refine aS ?_
 refine ap ?_
 refine ae ?_
 refine aq (aB cE rfl) rfl rfl ?_
 refine aq (aC 1 bz rfl rfl rfl) rfl rfl ?_
 refine aq (am rfl) rfl rfl ?_
 refine aq (bB  Tryz.underlying22 aU rfl rfl (bF 2 rfl) rfl (by omega)) rfl rfl ?_
 refine aq (b6 bp bm aU rfl (bF 2 rfl) (by omega) rfl rfl rfl) rfl rfl ?_
 refine bA rfl ent_133 rfl (gI _ _ _ _ _ hb8.wa (by have := hb8.la; omega) (by have := hb8.lp; omega) hb8.k) (fun w hw => (az (cJ (bo 3 rfl hw) (bM (aZ (by omega)) _ (hU _))) (az (cJ (bo 3 rfl hw) (bM (aZ (by omega)) _ (im _))) aY))) ?_
 refine aq (ai rfl) rfl rfl ?_
 refine aa ?_
 refine aj ?_
 refine ap ?_
 refine ae ?_
 refine aq (am rfl) rfl rfl ?_
 refine aq (cO rfl rfl) rfl rfl ?_
 refine ay (t := 74) rfl (fun h14_1 => ?_) (fun h14_1 => ?_)
 refine aa ?_
 refine aj ?_
 refine aA rfl ?_
 refine ap ?_
 refine ae ?_
 refine aq (bP rfl (fg)) rfl rfl ?_
 refine aq (am rfl) rfl rfl ?_
 refine aW bw rfl rfl rfl .z rfl rfl rfl rfl ?_
 refine aq (ai rfl) rfl rfl ?_
 refine aa ?_
 refine aj ?_
 refine aN ?_
 refine aJ ?_
 refine ax ?_
 refine bh ?_
 refine aJ ?_
 refine ax ?_
 refine dP (rs := [.cell 4 24, .tmp 5]) rfl (bQ 0 bw rfl rfl rfl rfl (dv rfl cG)) rfl (fun w hw => ?_)
 have hA : (bx v l full bs ver put drop) = (cV (put.getD k bm).e, []) := gR hT hF (parts_ents (by rw [hI.2, bG put bm k hk, cA, if_pos h14_1]) h14_1) h14_1
 have hA1 := congrArg Prod.fst hA
 have hA2 := congrArg Prod.snd hA
 dsimp only at hA1 hA2
 exact ⟨(none, 0), by rw [hA1, hA2, ey h14_1]; rfl, hw.base, by rw [hA2]; exact ((hw.weak (List.nil_sublist _) (fun s hs => hs)).nilsl 34 7).toNews⟩
 refine aa ?_
 refine aj ?_
 refine aD rfl ?_
 refine aQ ?_
 refine bj ?_
 refine aj ?_
 refine ae ?_
 refine aq (am rfl) rfl rfl ?_
 refine aq (br rfl rfl (by omega) (by omega)) rfl rfl ?_
 refine aq (ai rfl) rfl rfl ?_
 refine aa ?_
 refine bv (k + 1) ?_ ?_ ⟨rfl, trivial⟩ (by repeat (first | exact trivial | refine ⟨rfl, ?_⟩)) aG
 exact ⟨by omega, by rw [hI.2, bG put bm k hk, cA, if_neg h14_1]⟩
 omega
 refine aa ?_
 refine aj ?_
 refine aD rfl ?_
 refine bJ ?_
 refine aV ?_
 refine aX ?_
 refine a8 ?_
 refine aj ?_
 refine ap ?_
 refine ap ?_
 have hE0 : cA put = 0 := by rw [hI.2, List.drop_of_length_le (by omega)]; rfl
 refine ae ?_
 refine aq (ai rfl) rfl rfl ?_
 refine aa ?_
 refine aj ?_
 refine aS ?_
 refine cC (σ := Nat) [5, 6, 8, 77, 78, 79, 80, 81, 82, 83, 84, 85, 86, 87, 88, 89, 90, 91, 92, 93] (fun k => k ≤ drop.length ∧ dm drop = dm (drop.drop k)) (fun k => drop.length - k) (fun k => [(8, .int .i64 k)]) (0) ?_ ⟨rfl, trivial⟩ (fun k hI => ?_)
 exact ⟨Nat.zero_le _, rfl⟩
 refine ap ?_
 refine ap ?_
 refine ae ?_
 refine aq (am rfl) rfl rfl ?_
 refine aq (aB cP rfl) rfl rfl ?_
 refine aq (aC 1 ew rfl rfl rfl) rfl rfl ?_
 refine aq (bg Tryz.underlying59 rfl) rfl rfl ?_
 refine aq (bW rfl rfl) rfl rfl ?_
 refine ay (t := 81) rfl (fun h17_4 => ?_) (fun h17_4 => ?_)
 have hk : k < drop.length := by omega
 refine aa ?_
 refine aj ?_
 refine aA rfl ?_
 refine aQ ?_
 refine aj ?_
 refine ap ?_
 refine aS ?_
 refine ap ?_
 refine ae ?_
 refine aq (aB cP rfl) rfl rfl ?_
 refine aq (aC 1 ew rfl rfl rfl) rfl rfl ?_
 refine aq (am rfl) rfl rfl ?_
 refine aq (bB  Tryz.underlying59 bE rfl rfl (bF 4 rfl) rfl (by omega)) rfl rfl ?_
 refine aq (bZ bV ([] : a6) bE rfl (bF 4 rfl) (by omega) rfl rfl) rfl rfl ?_
 refine bD rfl gz (dV _) rfl ?_
 refine aq (ai rfl) rfl rfl ?_
 refine aa ?_
 refine aj ?_
 refine ap ?_
 refine ae ?_
 refine aq (am rfl) rfl rfl ?_
 refine aq (cO rfl rfl) rfl rfl ?_
 refine ay (t := 91) rfl (fun h20_1 => ?_) (fun h20_1 => ?_)
 refine aa ?_
 refine aj ?_
 refine aA rfl ?_
 refine ap ?_
 refine ae ?_
 refine aq (bP rfl (fg)) rfl rfl ?_
 refine aq (am rfl) rfl rfl ?_
 refine aW bw rfl rfl rfl .z rfl rfl rfl rfl ?_
 refine aq (ai rfl) rfl rfl ?_
 refine aa ?_
 refine aj ?_
 refine aN ?_
 refine aJ ?_
 refine ax ?_
 refine bh ?_
 refine aJ ?_
 refine ax ?_
 refine dP (rs := [.cell 4 24, .tmp 5]) rfl (bQ 0 bw rfl rfl rfl rfl (dv rfl cG)) rfl (fun w hw => ?_)
 have hA : (bx v l full bs ver put drop) = (bd (drop.getD k []), []) := gR hT hF (parts_names hE0 (by rw [hI.2, bG drop ([] : a6) k hk, dm, if_pos h20_1]) h20_1) h20_1
 have hA1 := congrArg Prod.fst hA
 have hA2 := congrArg Prod.snd hA
 dsimp only at hA1 hA2
 exact ⟨(none, 0), by rw [hA1, hA2, ey h20_1]; rfl, hw.base, by rw [hA2]; exact ((hw.weak (List.nil_sublist _) (fun s hs => hs)).nilsl 34 7).toNews⟩
 refine aa ?_
 refine aj ?_
 refine aD rfl ?_
 refine aQ ?_
 refine bj ?_
 refine aj ?_
 refine ae ?_
 refine aq (am rfl) rfl rfl ?_
 refine aq (br rfl rfl (by omega) (by omega)) rfl rfl ?_
 refine aq (ai rfl) rfl rfl ?_
 refine aa ?_
 refine bv (k + 1) ?_ ?_ ⟨rfl, trivial⟩ (by repeat (first | exact trivial | refine ⟨rfl, ?_⟩)) aG
 exact ⟨by omega, by rw [hI.2, bG drop ([] : a6) k hk, dm, if_neg h20_1]⟩
 omega
 refine aa ?_
 refine aj ?_
 refine aD rfl ?_
 refine bJ ?_
 refine aV ?_
 refine aX ?_
 refine a8 ?_
 refine aj ?_
 refine ap ?_
 have hN0 : dm drop = 0 := by rw [hI.2, List.drop_of_length_le (by omega)]; rfl
 have hnz := namesCk_zero.1 hN0
 refine ae ?_
 refine aq (ai rfl) rfl rfl ?_
 refine aa ?_
 refine aj ?_
 refine ap ?_
 refine ap ?_
 refine ae ?_
 refine aq (ai rfl) rfl rfl ?_
 refine aa ?_
 refine aj ?_
 refine aS ?_
 refine cz (fun w h => h.nilsl 26 1) ?_
 refine dn (σ := Nat × List a6 × Option Addr × Nat) [9, 10, 94, 95, 96, 97, 98, 99, 100, 101, 102, 103, 104, 105, 106, 107, 108, 109] (fun q => q.1 ≤ put.length ∧ q.2.1 = (put.take q.1).map (fun y : Le => a7 y.e.host)) (fun q => put.length - q.1) (fun q => [(10, .int .i64 q.1), (9, .slice q.2.2.1 q.2.1.length q.2.2.2)]) (fun q => Ch.ls q.2.2.1 q.2.2.2 26 1 dD q.2.1) ((0, [], none, 0)) ?_ ⟨rfl, rfl, trivial⟩ rfl (fun q hI => ?_)
 exact ⟨Nat.zero_le _, rfl⟩
 obtain ⟨k, acc, Ak, ck⟩ := q
 dsimp only at hI ⊢
 have hal : acc.length = k := by rw [hI.2, List.length_map, List.length_take]; omega
 refine ap ?_
 refine ap ?_
 refine ae ?_
 refine aq (am rfl) rfl rfl ?_
 refine aq (aB cE rfl) rfl rfl ?_
 refine aq (aC 2 bz rfl rfl rfl) rfl rfl ?_
 refine aq (bg Tryz.underlying22 rfl) rfl rfl ?_
 refine aq (bW rfl rfl) rfl rfl ?_
 refine ay (t := 98) rfl (fun h24_4 => ?_) (fun h24_4 => ?_)
 have hk : k < put.length := by omega
 have hb9 := hpok.mem17 (aZ (d := bm) hk)
 have hh9 := hb9.h
 refine aa ?_
 refine aj ?_
 refine aA rfl ?_
 refine aQ ?_
 refine aj ?_
 refine ap ?_
 refine aS ?_
 refine ae ?_
 refine aq (am rfl) rfl rfl ?_
 refine aq (aB cE rfl) rfl rfl ?_
 refine aq (aC 2 bz rfl rfl rfl) rfl rfl ?_
 refine aq (am rfl) rfl rfl ?_
 refine aq (bB  Tryz.underlying22 aU rfl rfl (bF 2 rfl) rfl (by omega)) rfl rfl ?_
 refine aq (b6 bp bm aU rfl (bF 2 rfl) (by omega) rfl rfl rfl) rfl rfl ?_
 refine bD rfl ent_134 (c_ref16_Key _ _ _ _ _ (by omega)) rfl ?_
 refine bY (vs := [_]) ([a7 (put.getD k bm).e.host] : List (a6)) bV Tryz.underlying59 bE rfl rfl rfl rfl rfl rfl (fun As4 => ?_)
 refine cv (enc := dD) (sz := 1) [a7 (put.getD k bm).e.host] Tryz.underlying59 bE rfl rfl rfl (fun A c => (.s (.z))) (d5 0 Tryz.underlying59 rfl) (by simp; omega) (by simp; omega) rfl (fun A4 c4 => ?_)
 refine aq (ai rfl) rfl rfl ?_
 refine aa ?_
 refine bj ?_
 refine aj ?_
 refine ae ?_
 refine aq (am rfl) rfl rfl ?_
 refine aq (br rfl rfl (by omega) (by omega)) rfl rfl ?_
 refine aq (ai rfl) rfl rfl ?_
 refine aa ?_
 refine bv ((k + 1, acc ++ [a7 (put.getD k bm).e.host], A4, c4)) ?_ ?_ ⟨rfl, rfl, trivial⟩ (by repeat (first | exact trivial | refine ⟨rfl, ?_⟩)) (bq 1)
 exact ⟨by show k + 1 ≤ _; omega, by show _ = (put.take (k + 1)).map _; rw [dh put bm k hk, List.map_append, ← hI.2]; rfl⟩
 show put.length - (k + 1) < put.length - k
 omega
 refine aa ?_
 refine aj ?_
 refine aD rfl ?_
 refine bJ ?_
 refine aV ?_
 refine aX ?_
 refine a8 ?_
 refine aj ?_
 refine ap ?_
 refine ap ?_
 have hkp : k = put.length := by omega
 obtain rfl : acc = put.map (fun y : Le => a7 y.e.host) := by rw [hI.2, hkp, List.take_length]
 have hml9 : (put.map (fun y : Le => a7 y.e.host)).length = put.length := List.length_map _
 refine ae ?_
 refine aq (ai rfl) rfl rfl ?_
 refine aa ?_
 refine aj ?_
 refine aS ?_
 refine dn (σ := Nat × List a6 × Option Addr × Nat) [9, 11, 110, 111, 112, 113, 114, 115, 116, 117, 118, 119, 120, 121, 122, 123, 124, 125] (fun q => q.1 ≤ drop.length ∧ q.2.1 = put.map (fun y : Le => a7 y.e.host) ++ (drop.take q.1).map a7) (fun q => drop.length - q.1) (fun q => [(11, .int .i64 q.1), (9, .slice q.2.2.1 q.2.1.length q.2.2.2)]) (fun q => Ch.ls q.2.2.1 q.2.2.2 26 1 dD q.2.1) ((0, put.map (fun y : Le => a7 y.e.host), Ak, ck)) ?_ ⟨rfl, rfl, trivial⟩ rfl (fun q hI => ?_)
 exact ⟨Nat.zero_le _, (List.append_nil _).symm⟩
 obtain ⟨k, acc, Ak, ck⟩ := q
 dsimp only at hI ⊢
 have hal : acc.length = put.length + k := by rw [hI.2, List.length_append, List.length_map, List.length_map, List.length_take]; omega
 refine ap ?_
 refine ap ?_
 refine ae ?_
 refine aq (am rfl) rfl rfl ?_
 refine aq (aB cP rfl) rfl rfl ?_
 refine aq (aC 2 ew rfl rfl rfl) rfl rfl ?_
 refine aq (bg Tryz.underlying59 rfl) rfl rfl ?_
 refine aq (bW rfl rfl) rfl rfl ?_
 refine ay (t := 114) rfl (fun h28_4 => ?_) (fun h28_4 => ?_)
 have hk : k < drop.length := by omega
 have hdk := hdb _ (aZ (d := ([] : a6)) hk)
 refine aa ?_
 refine aj ?_
 refine aA rfl ?_
 refine aQ ?_
 refine aj ?_
 refine ap ?_
 refine aS ?_
 refine ae ?_
 refine aq (am rfl) rfl rfl ?_
 refine aq (aB cP rfl) rfl rfl ?_
 refine aq (aC 2 ew rfl rfl rfl) rfl rfl ?_
 refine aq (am rfl) rfl rfl ?_
 refine aq (bB  Tryz.underlying59 bE rfl rfl (bF 4 rfl) rfl (by omega)) rfl rfl ?_
 refine aq (bZ bV ([] : a6) bE rfl (bF 4 rfl) (by omega) rfl rfl) rfl rfl ?_
 refine bA rfl jG rfl (ib (drop.getD k []) (by omega)) (fun w hw => aY) ?_
 refine bY (vs := [_]) ([a7 (drop.getD k [])] : List (a6)) bV Tryz.underlying59 bE rfl rfl rfl rfl rfl rfl (fun As6 => ?_)
 refine cv (enc := dD) (sz := 1) [a7 (drop.getD k [])] Tryz.underlying59 bE rfl rfl rfl (fun A c => (.s (.z))) (d5 0 Tryz.underlying59 rfl) (by simp; omega) (by simp; omega) rfl (fun A6 c6 => ?_)
 refine aq (ai rfl) rfl rfl ?_
 refine aa ?_
 refine bj ?_
 refine aj ?_
 refine ae ?_
 refine aq (am rfl) rfl rfl ?_
 refine aq (br rfl rfl (by omega) (by omega)) rfl rfl ?_
 refine aq (ai rfl) rfl rfl ?_
 refine aa ?_
 refine bv ((k + 1, acc ++ [a7 (drop.getD k [])], A6, c6)) ?_ ?_ ⟨rfl, rfl, trivial⟩ (by repeat (first | exact trivial | refine ⟨rfl, ?_⟩)) (bq 1)
 exact ⟨by show k + 1 ≤ _; omega, by show _ = _ ++ (drop.take (k + 1)).map a7; rw [dh drop ([] : a6) k hk, List.map_append, ← List.append_assoc, ← hI.2]; rfl⟩
 show drop.length - (k + 1) < drop.length - k
 omega
 refine aa ?_
 refine aj ?_
 refine aD rfl ?_
 refine bJ ?_
 refine aV ?_
 refine aX ?_
 refine a8 ?_
 refine aj ?_
 refine ap ?_
 have hkd : k = drop.length := by omega
 obtain rfl : acc = (cK put drop) := by rw [hI.2, hkd, List.take_length]; rfl
 have hkl : (cK put drop).length = put.length + drop.length := by rw [cK, List.length_append, List.length_map, List.length_map]
 refine ae ?_
 refine iT (fun s : a6 => .string (ba s)) (fun b : Bool => .bool b) rfl (fun r7 => ?_)
 refine aq (ai rfl) rfl rfl ?_
 refine aa ?_
 refine aj ?_
 refine ap ?_
 refine ap ?_
 refine ae ?_
 refine aq (ai rfl) rfl rfl ?_
 refine aa ?_
 refine aj ?_
 refine aS ?_
 refine dn (σ := Nat × List (a6 × Bool)) [5, 13, 127, 128, 129, 130, 131, 132, 133, 134, 135, 136, 137, 138, 139, 140, 141, 142, 143, 144] (fun q => q.1 ≤ (cK put drop).length ∧ MapIs q.2 ((cK put drop).take q.1) ∧ ((cK put drop).take q.1).Nodup) (fun q => (cK put drop).length - q.1) (fun q => [(13, .int .i64 q.1)]) (fun q => Ch.mp r7 (fun s : a6 => .string (ba s)) (fun b : Bool => .bool b) q.2) ((0, [])) ?_ ⟨rfl, trivial⟩ rfl (fun q hI => ?_)
 exact ⟨Nat.zero_le _, fun key => rfl, .nil⟩
 obtain ⟨k, mm⟩ := q
 dsimp only at hI ⊢
 refine ap ?_
 refine ap ?_
 refine ae ?_
 refine aq (am rfl) rfl rfl ?_
 refine aq (am rfl) rfl rfl ?_
 refine aq (bg Tryz.underlying59 rfl) rfl rfl ?_
 refine aq (bW rfl rfl) rfl rfl ?_
 refine ay (t := 130) rfl (fun h33_3 => ?_) (fun h33_3 => ?_)
 have hk : k < (cK put drop).length := by omega
 refine aa ?_
 refine aj ?_
 refine aA rfl ?_
 refine aQ ?_
 refine aj ?_
 refine ap ?_
 refine aS ?_
 refine ap ?_
 refine ap ?_
 refine ae ?_
 refine aq (am rfl) rfl rfl ?_
 refine aq (am rfl) rfl rfl ?_
 refine aq (am rfl) rfl rfl ?_
 refine aq (bB  Tryz.underlying59 bE rfl rfl (dL 1 rfl) rfl (by omega)) rfl rfl ?_
 refine aq (bZ bV ([] : a6) bE rfl (dL 1 rfl) (by omega) rfl rfl) rfl rfl ?_
 refine aq (ix Tryz.underlying167 (fM Tryz.underlying26) iu rfl rfl (fun w hw => hw.own _ (List.mem_of_getElem? (i := 0) rfl))) rfl rfl ?_
 refine eo (t := 138) (.bool (decide ((cK put drop).getD k [] ∈ (cK put drop).take k))) rfl (iW hI.2.1 _) ?_
 refine bN (t := 138) rfl (fun h35_5 => ?_) (fun h35_5 => ?_)
 refine aa ?_
 refine aj ?_
 refine aA rfl ?_
 refine ap ?_
 refine ae ?_
 refine aq (bP rfl (fg)) rfl rfl ?_
 refine aW bw rfl rfl rfl (.s (.s (.z))) rfl rfl rfl rfl ?_
 refine aq (ai rfl) rfl rfl ?_
 refine aa ?_
 refine aj ?_
 refine aN ?_
 refine ax ?_
 refine aJ ?_
 refine ax ?_
 refine bh ?_
 refine aJ ?_
 refine ax ?_
 refine dP (rs := [.cell 4 24, .tmp 5]) rfl (bQ 2 bw rfl rfl rfl rfl (dv rfl cG)) rfl (fun w hw => ?_)
 have hA : (bx v l full bs ver put drop) = (6, []) := gR hT hF (parts_dup hE0 hN0 (fun q => g7 q hk (of_decide_eq_true h35_5))) (by decide)
 have hA1 := congrArg Prod.fst hA
 have hA2 := congrArg Prod.snd hA
 dsimp only at hA1 hA2
 exact ⟨(none, 0), by rw [hA1, hA2, ey (by decide)]; rfl, hw.base, by rw [hA2]; exact ((hw.weak (List.nil_sublist _) (fun s hs => hs)).nilsl 34 7).toNews⟩
 refine aa ?_
 refine aj ?_
 refine aD rfl ?_
 refine aQ ?_
 refine aj ?_
 refine ae ?_
 refine aq (am rfl) rfl rfl ?_
 refine aq (am rfl) rfl rfl ?_
 refine aq (am rfl) rfl rfl ?_
 refine aq (bB  Tryz.underlying59 bE rfl rfl (dL 1 rfl) rfl (by omega)) rfl rfl ?_
 refine aq (bZ bV ([] : a6) bE rfl (dL 1 rfl) (by omega) rfl rfl) rfl rfl ?_
 refine iI (encK := (fun s : a6 => .string (ba s))) (encV := (fun b : Bool => .bool b)) (v := true) Tryz.underlying167 (fM Tryz.underlying26) rfl rfl rfl .z ?_
 refine aa ?_
 refine bj ?_
 refine aj ?_
 refine ae ?_
 refine aq (am rfl) rfl rfl ?_
 refine aq (br rfl rfl (by omega) (by omega)) rfl rfl ?_
 refine aq (ai rfl) rfl rfl ?_
 refine aa ?_
 refine bv ((k + 1, upd mm ((cK put drop).getD k []) true)) ?_ ?_ ⟨rfl, trivial⟩ (by repeat (first | exact trivial | refine ⟨rfl, ?_⟩)) aG
 exact ⟨by show k + 1 ≤ _; omega, g2 hI.2.1 hk, nd_take hk hI.2.2 (of_decide_eq_false h35_5)⟩
 show (cK put drop).length - (k + 1) < (cK put drop).length - k
 omega
 refine aa ?_
 refine aj ?_
 refine aD rfl ?_
 refine bJ ?_
 refine aV ?_
 refine aX ?_
 refine a8 ?_
 refine aj ?_
 refine ap ?_
 have hPa : ct put drop = 0 := by
   have h9 := hI.2.2
   rw [List.take_of_length_le (by omega)] at h9
   exact parts_ok hE0 hN0 h9
 refine ae ?_
 refine aq (ai rfl) rfl rfl ?_
 refine aa ?_
 refine aj ?_
 refine ap ?_
 refine ap ?_
 refine ae ?_
 refine aq (aB eH rfl) rfl rfl ?_
 refine aq (aC 3 iu rfl rfl rfl) rfl rfl ?_
 refine eo (t := 146) (.bool true) rfl (congrArg Value.bool h6_1) ?_
 refine aq (bS rfl) rfl rfl ?_
 refine aa ?_
 refine aj ?_
 refine aD rfl ?_
 refine aQ ?_
 refine aj ?_
 refine ap ?_
 refine ap ?_
 have hB : (if full = true then [] else l) = [] := by rw [h6_1]; rfl
 refine ae ?_
 refine aq (ai rfl) rfl rfl ?_
 refine aa ?_
 refine aj ?_
 refine aS ?_
 refine cz (fun w h => h.nilsl 34 7) ?_
 refine dn (σ := Nat × List Le × Option Addr × Nat) [5, 14, 15, 16, 152, 153, 154, 155, 156, 157, 158, 159, 160, 161, 162, 163, 164, 165, 166, 167, 168, 169, 170, 171, 172, 173, 174, 175, 176, 177, 178] (fun q => q.1 ≤ drop.length ∧ ce (if full = true then [] else l) drop = ce q.2.1 (drop.drop q.1) ∧ TbE (q.2.1.map (·.e)) ∧ (∀ x ∈ q.2.1, x ∈ l) ∧ q.2.1.length ≤ l.length) (fun q => drop.length - q.1) (fun q => [(15, .int .i64 q.1), (14, .slice q.2.2.1 q.2.1.length q.2.2.2)]) (fun q => Ch.ls q.2.2.1 q.2.2.2 34 7 dF q.2.1) ((0, [], none, 0)) ?_ ⟨rfl, rfl, trivial⟩ rfl (fun q hI => ?_)
 exact ⟨Nat.zero_le _, by rw [hB]; rfl, by have h9 := base_tbe (full := full) hT; rw [hB] at h9; exact h9, by have h9 := base_sub (full := full) (l := l); rw [hB] at h9; exact h9, by have h9 := base_len (full := full) (l := l); rw [hB] at h9; exact h9⟩
 obtain ⟨k, m, Am, cm⟩ := q
 dsimp only at hI ⊢
 refine ap ?_
 refine ap ?_
 refine ae ?_
 refine aq (am rfl) rfl rfl ?_
 refine aq (aB cP rfl) rfl rfl ?_
 refine aq (aC 4 ew rfl rfl rfl) rfl rfl ?_
 refine aq (bg Tryz.underlying59 rfl) rfl rfl ?_
 refine aq (bW rfl rfl) rfl rfl ?_
 refine ay (t := 156) rfl (fun h42_4 => ?_) (fun h42_4 => ?_)
 have hk : k < drop.length := by omega
 have hnm := aZ (d := ([] : a6)) hk
 have hdk := hdb _ hnm
 have hn0 := hnz _ hnm
 have hml := hI.2.2.2.2
 refine aa ?_
 refine aj ?_
 refine aA rfl ?_
 refine aQ ?_
 refine aj ?_
 refine ap ?_
 refine aS ?_
 refine ap ?_
 refine ae ?_
 refine aq (am rfl) rfl rfl ?_
 refine aq (aB cP rfl) rfl rfl ?_
 refine aq (aC 4 ew rfl rfl rfl) rfl rfl ?_
 refine aq (am rfl) rfl rfl ?_
 refine aq (bB  Tryz.underlying59 bE rfl rfl (bF 4 rfl) rfl (by omega)) rfl rfl ?_
 refine aq (bZ bV ([] : a6) bE rfl (bF 4 rfl) (by omega) rfl rfl) rfl rfl ?_
 refine eT rfl g8 rfl (gW m Am cm (drop.getD k []) (fun x hx => hok x (hI.2.2.2.1 x hx)) (by omega) (by omega)) (fun w hw => (az (ci 0 rfl hw) aY)) (fun ⟨i9, hfi⟩ => ?_)
 refine eo (t := 165) (.int .i64 i9) rfl rfl ?_
 refine aq (ai rfl) rfl rfl ?_
 refine aa ?_
 refine aj ?_
 refine ap ?_
 refine ap ?_
 refine ae ?_
 refine aq (am rfl) rfl rfl ?_
 refine aq (bW rfl rfl) rfl rfl ?_
 refine ay (t := 167) rfl (fun h45_1 => ?_) (fun h45_1 => ?_)
 obtain ⟨rfl, hno⟩ := hfi.resolve_right (fun ⟨k, h, _⟩ => by omega)
 refine aa ?_
 refine aj ?_
 refine aA rfl ?_
 refine ap ?_
 refine ae ?_
 refine aq (bP rfl (fg)) rfl rfl ?_
 refine aW bw rfl rfl rfl (.s (.s (.s (.z)))) rfl rfl rfl rfl ?_
 refine aq (ai rfl) rfl rfl ?_
 refine aa ?_
 refine aj ?_
 refine aN ?_
 refine ax ?_
 refine aJ ?_
 refine ax ?_
 refine bh ?_
 refine aJ ?_
 refine ax ?_
 refine dP (rs := [.cell 4 24, .tmp 5]) rfl (bQ 3 bw rfl rfl rfl rfl (dv rfl cG)) rfl (fun w hw => ?_)
 have hA : (bx v l full bs ver put drop) = (5, []) := ji ⟨hT, hF, hPa⟩ (by rw [hI.2.1, bG drop ([] : a6) k hk]; exact drop_stop (fp_no hI.2.2.1 hn0 hno))
 have hA1 := congrArg Prod.fst hA
 have hA2 := congrArg Prod.snd hA
 dsimp only at hA1 hA2
 exact ⟨(none, 0), by rw [hA1, hA2, ey (by decide)]; rfl, hw.base, by rw [hA2]; exact ((hw.weak (List.nil_sublist _) (fun s hs => hs)).nilsl 34 7).toNews⟩
 obtain ⟨k9, rfl, hk9, hs9⟩ := hfi.resolve_left (fun h => by omega)
 obtain ⟨f1, f2, f3⟩ := fp_yes hI.2.2.1 hk9 hs9
 refine aa ?_
 refine aj ?_
 refine aD rfl ?_
 refine aQ ?_
 refine aj ?_
 refine e7 11 rfl mixed ?_
 refine aI (i := 1) rfl ak (am rfl) aG aG rfl (ao (ah (av (ao (ah aw))))) (by kernel_rfl) rfl ?_
 refine aI (i := 2) rfl ak (am rfl) aG aG rfl (ao (ah (av (ao (ah aw))))) (by kernel_rfl) rfl ?_
 refine aI (i := 3) rfl ak (y_takes (m := k9) Tryz.underlying22 aU rfl rfl (by omega) (by omega) (cap_L 0 rfl)) aG aG rfl (ao (ah (av (ao (ah aw))))) (by kernel_rfl) rfl ?_
 refine aI (i := 5) rfl ak (am rfl) aG aG rfl (ao (ah (av (ao (ah aw))))) (by kernel_rfl) rfl ?_
 refine aI (i := 6) rfl ak (am rfl) aG aG rfl (ao (ah (av (ao (ah aw))))) (by kernel_rfl) rfl ?_
 refine aI (i := 7) rfl ak (br rfl rfl (by omega) (by omega)) aG aG rfl (ao (ah (av (ao (ah aw))))) (by kernel_rfl) rfl ?_
 refine aI (i := 8) rfl ak (iv (m := k9 + 1) Tryz.underlying22 aU rfl rfl (by omega) (by omega)) aG aG rfl (ao (ah (av (ao (ah aw))))) (by kernel_rfl) rfl ?_
 refine bl (i := 0) rfl rfl rfl (fun _ _ _ => aM (by kernel_rfl)) (by kernel_rfl) rfl ?_
 refine bY (vs := []) (([] : List Le) : List (Le)) bp Tryz.underlying22 aU rfl rfl rfl rfl rfl rfl (fun As10 => ?_)
 refine aa ?_
 refine aT (bq 1) ?_
 refine bl (i := 4) rfl rfl rfl (fun _ _ _ => aM (by kernel_rfl)) (by kernel_rfl) rfl ?_
 refine cv (enc := dF) (sz := 7) (m.take k9) Tryz.underlying22 aU rfl rfl rfl (fun A c => .z) (fun w hw => RsP.src Tryz.underlying22 (rd_takeL bp 1 rfl (by omega) hw).1) (by simp; omega) (by simp; omega) rfl (fun A10 c10 => ?_)
 refine aa ?_
 refine aT (bq 1) ?_
 refine bl (i := 9) rfl rfl rfl (fun _ _ _ => aM (by kernel_rfl)) (by kernel_rfl) rfl ?_
 refine cv (enc := dF) (sz := 7) (m.drop (k9 + 1)) Tryz.underlying22 aU rfl rfl rfl (fun A c => .z) (fun w hw => RsP.src Tryz.underlying22 (rd_dropL bp 1 rfl (by omega) hw).1) (by simp; omega) (by simp; omega) rfl (fun A11 c11 => ?_)
 refine aa ?_
 refine aT (bq 1) ?_
 refine aI (i := 10) rfl ak (ai rfl) (bq 1) aG rfl (ao (ah (av (ao (ah aw))))) (by kernel_rfl) rfl ?_
 refine cw (by kernel_rfl) ?_
 refine bj ?_
 refine aj ?_
 refine ae ?_
 refine aq (am rfl) rfl rfl ?_
 refine aq (br rfl rfl (by omega) (by omega)) rfl rfl ?_
 refine aq (ai rfl) rfl rfl ?_
 refine aa ?_
 refine bv ((k + 1, ([] ++ m.take k9) ++ m.drop (k9 + 1), A11, c11)) ?_ ?_ ⟨rfl, rfl, trivial⟩ (by repeat (first | exact trivial | refine ⟨rfl, ?_⟩)) (fun w h => (h.weak (.cons_cons _ (.cons _ (.cons_cons _ (.cons_cons _ (.cons_cons _ (.cons_cons _ (.cons_cons _ .slnil))))))) (fun s hs => hs)))
 refine ⟨by show k + 1 ≤ _; omega, ?_, ?_, fun x hx => hI.2.2.2.1 x (cut_sub.subset hx), Nat.le_trans cut_sub.length_le hI.2.2.2.2⟩
 · show _ = ce (([] ++ m.take k9) ++ m.drop (k9 + 1)) (drop.drop (k + 1))
   rw [hI.2.1, bG drop ([] : a6) k hk]; exact drop_find hI.2.2.1 hk9 f2 f3
 · exact hI.2.2.1.sub (cut_sub.map _)
 show drop.length - (k + 1) < drop.length - k
 omega
 refine aa ?_
 refine aj ?_
 refine aD rfl ?_
 refine bJ ?_
 refine aV ?_
 refine aX ?_
 refine a8 ?_
 refine aj ?_
 refine ap ?_
 refine ap ?_
 have hmm : ce (if full = true then [] else l) drop = some m := by rw [hI.2.1, List.drop_of_length_le (by omega)]; rfl
 have hmsub := hI.2.2.2.1
 have hmlen := hI.2.2.2.2
 refine ae ?_
 refine aq (ai rfl) rfl rfl ?_
 refine aa ?_
 refine aj ?_
 refine aS ?_
 refine dn (σ := Nat × List Le × Option Addr × Nat) [14, 17, 179, 180, 181, 182, 183, 184, 185, 186, 187, 188, 189, 190, 191, 192] (fun q => q.1 ≤ put.length ∧ q.2.1 = dz m (put.take q.1) ∧ TbOk q.2.1 ∧ q.2.1.length ≤ l.length + q.1) (fun q => put.length - q.1) (fun q => [(17, .int .i64 q.1), (14, .slice q.2.2.1 q.2.1.length q.2.2.2)]) (fun q => Ch.ls q.2.2.1 q.2.2.2 34 7 dF q.2.1) ((0, m, Am, cm)) ?_ ⟨rfl, rfl, trivial⟩ rfl (fun q hI => ?_)
 exact ⟨Nat.zero_le _, rfl, fun x hx => hok x (hmsub x hx), by show m.length ≤ l.length + 0; omega⟩
 obtain ⟨k, acc, Aa, ca⟩ := q
 dsimp only at hI ⊢
 refine ap ?_
 refine ap ?_
 refine ae ?_
 refine aq (am rfl) rfl rfl ?_
 refine aq (aB cE rfl) rfl rfl ?_
 refine aq (aC 4 bz rfl rfl rfl) rfl rfl ?_
 refine aq (bg Tryz.underlying22 rfl) rfl rfl ?_
 refine aq (bW rfl rfl) rfl rfl ?_
 refine ay (t := 183) rfl (fun h49_4 => ?_) (fun h49_4 => ?_)
 have hk : k < put.length := by omega
 have hb9 := hpok.mem17 (aZ (d := bm) hk)
 have hle9 := hI.2.2.2
 refine aa ?_
 refine aj ?_
 refine aA rfl ?_
 refine aQ ?_
 refine aj ?_
 refine ap ?_
 refine aS ?_
 refine ae ?_
 refine aq (am rfl) rfl rfl ?_
 refine aq (aB cE rfl) rfl rfl ?_
 refine aq (aC 4 bz rfl rfl rfl) rfl rfl ?_
 refine aq (am rfl) rfl rfl ?_
 refine aq (bB  Tryz.underlying22 aU rfl rfl (bF 2 rfl) rfl (by omega)) rfl rfl ?_
 refine aq (b6 bp bm aU rfl (bF 2 rfl) (by omega) rfl rfl rfl) rfl rfl ?_
 refine dE rfl ent_136 rfl (c_ref17_put acc Aa ca (put.getD k bm) hI.2.2.1 hb9.h (by omega)) (fun w hw => (az (ci 0 rfl hw) aY)) (fun ⟨A12, c12⟩ => ?_)
 refine aq (ai rfl) rfl rfl ?_
 refine aa ?_
 refine bj ?_
 refine aj ?_
 refine ae ?_
 refine aq (am rfl) rfl rfl ?_
 refine aq (br rfl rfl (by omega) (by omega)) rfl rfl ?_
 refine aq (ai rfl) rfl rfl ?_
 refine aa ?_
 refine bv ((k + 1, fQ acc (put.getD k bm), A12, c12)) ?_ ?_ ⟨rfl, rfl, trivial⟩ (by repeat (first | exact trivial | refine ⟨rfl, ?_⟩)) (fun w h => h.weak (.cons_cons _ (.cons _ (List.Sublist.refl _))) (fun s hs => hs))
 exact ⟨by show k + 1 ≤ _; omega, by show fQ acc _ = dz _ (put.take (k + 1)); rw [putAll_succ hk, ← hI.2.1], putE_tb hI.2.2.1 (hpok _ (aZ hk)), by show (fQ acc _).length ≤ l.length + (k + 1); have := putE_len acc (put.getD k bm); omega⟩
 show put.length - (k + 1) < put.length - k
 omega
 refine aa ?_
 refine aj ?_
 refine aD rfl ?_
 refine bJ ?_
 refine aV ?_
 refine aX ?_
 refine a8 ?_
 refine aj ?_
 refine ap ?_
 refine ap ?_
 have hE : acc = dz m put := by rw [hI.2.1, List.take_of_length_le (by omega)]
 have hle9 := hI.2.2.2
 refine ae ?_
 refine aq (am rfl) rfl rfl ?_
 refine aq (bg Tryz.underlying22 rfl) rfl rfl ?_
 refine aq (dB rfl rfl) rfl rfl ?_
 refine ay (t := 195) rfl (fun h52_2 => ?_) (fun h52_2 => ?_)
 refine aa ?_
 refine aj ?_
 refine aA rfl ?_
 refine ap ?_
 refine ae ?_
 refine aq (bP rfl (fg)) rfl rfl ?_
 refine aW bw rfl rfl rfl (.s (.s (.s (.z)))) rfl rfl rfl rfl ?_
 refine aq (ai rfl) rfl rfl ?_
 refine aa ?_
 refine aj ?_
 refine aN ?_
 refine ax ?_
 refine dP (rs := [.cell 4 24, .tmp 5]) rfl (bQ 3 bw rfl rfl rfl rfl (dv rfl cG)) rfl (fun w hw => ?_)
 have hA : (bx v l full bs ver put drop) = (3, []) := by rw [fE ⟨hT, hF, hPa⟩ hmm, if_pos (by rw [← hE]; omega)]
 have hA1 := congrArg Prod.fst hA
 have hA2 := congrArg Prod.snd hA
 dsimp only at hA1 hA2
 exact ⟨(none, 0), by rw [hA1, hA2, ey (by decide)]; rfl, hw.base, by rw [hA2]; exact ((hw.weak (List.nil_sublist _) (fun s hs => hs)).nilsl 34 7).toNews⟩
 refine aa ?_
 refine aj ?_
 refine aD rfl ?_
 refine aQ ?_
 refine aj ?_
 refine ap ?_
 refine ae ?_
 refine aq (aB fC rfl) rfl rfl ?_
 refine aq (aC 4 cX rfl rfl rfl) rfl rfl ?_
 refine aq (am rfl) rfl rfl ?_
 refine aq (bP rfl (bu_24_0_1 _ _ _ _)) rfl rfl ?_
 refine aW bw rfl rfl rfl (.s (.s (.s (.z)))) rfl rfl rfl rfl ?_
 refine aq (ai rfl) rfl rfl ?_
 refine aa ?_
 refine aj ?_
 refine aN ?_
 refine dP (rs := [.cell 4 24, .tmp 5]) rfl (bQ 3 bw rfl rfl rfl rfl (dv rfl cG)) rfl (fun w hw => ?_)
 have hA : (bx v l full bs ver put drop) = (0, dz m put) := by rw [fE ⟨hT, hF, hPa⟩ hmm, if_neg (by rw [← hE]; omega)]
 have hA1 := congrArg Prod.fst hA
 have hA2 := congrArg Prod.snd hA
 dsimp only at hA1 hA2
 exact ⟨(Aa, ca), by rw [hA1, hA2, ← hE]; rfl, hw.base, by rw [hA2, ← hE]; exact (hw.weak (.cons_cons _ (.cons _ (.cons _ (.cons _ (.cons _ (.cons _ .slnil)))))) (fun s hs => hs)).toNews⟩
 refine aq (am rfl) rfl rfl ?_
 refine ar rfl rfl rfl rfl ?_
 refine ar rfl rfl rfl rfl ?_
 refine ar rfl rfl rfl rfl ?_
 refine ar rfl rfl rfl rfl ?_
 refine cT rfl rfl rfl ?_
 refine cT rfl rfl rfl ?_
 refine cT rfl rfl rfl ?_
 refine cT rfl rfl rfl ?_
 refine ar rfl rfl rfl rfl ?_
 refine aq (aF rfl rfl) rfl rfl ?_
 refine aa ?_
 refine aj ?_
 refine aD rfl ?_
 refine aQ ?_
 refine aj ?_
 refine ap ?_
 refine ap ?_
 refine ae ?_
 refine aq (aB eH rfl) rfl rfl ?_
 refine aq (aC 1 iu rfl rfl rfl) rfl rfl ?_
 refine eo (t := 50) (.bool false) rfl (congrArg Value.bool h6_1) ?_
 refine aq (bS rfl) rfl rfl ?_
 refine aq (am rfl) rfl rfl ?_
 refine au rfl rfl ?_
 refine aq (aB gm rfl) rfl rfl ?_
 refine au rfl rfl ?_
 refine aq (aC 1 cX rfl rfl rfl) rfl rfl ?_
 refine au rfl rfl ?_
 refine aq (aB dZ rfl) rfl rfl ?_
 refine au rfl rfl ?_
 refine aq (aC 2 cX rfl rfl rfl) rfl rfl ?_
 refine au rfl rfl ?_
 refine aq (cO rfl rfl) rfl rfl ?_
 refine ay (t := 57) rfl (fun h8_8 => ?_) (fun h8_8 => ?_)
 refine aq (aH rfl rfl) rfl rfl ?_
 refine aa ?_
 refine aj ?_
 refine aA rfl ?_
 refine ap ?_
 refine ae ?_
 refine aq (bP rfl (fg)) rfl rfl ?_
 refine aW bw rfl rfl rfl .z rfl rfl rfl rfl ?_
 refine aq (ai rfl) rfl rfl ?_
 refine aa ?_
 refine aj ?_
 refine aN ?_
 refine ax ?_
 refine dP (rs := [.cell 4 24, .tmp 5]) rfl (bQ 0 bw rfl rfl rfl rfl (dv rfl cG)) rfl (fun w hw => ?_)
 have hA : (bx v l full bs ver put drop) = (9, []) := jP hT (form_base (by omega) (by omega) h6_1 h8_8) (by decide)
 have hA1 := congrArg Prod.fst hA
 have hA2 := congrArg Prod.snd hA
 dsimp only at hA1 hA2
 exact ⟨(none, 0), by rw [hA1, hA2, ey (by decide)]; rfl, hw.base, by rw [hA2]; exact ((hw.weak (List.nil_sublist _) (fun s hs => hs)).nilsl 34 7).toNews⟩
 refine aq (aH rfl rfl) rfl rfl ?_
 refine aa ?_
 refine aj ?_
 refine aD rfl ?_
 refine aQ ?_
 refine aj ?_
 refine ap ?_
 refine ap ?_
 have hF : dA v full bs ver drop.length = 0 := by
   focus first
     | exact form_okD (by omega) (by omega) h6_1 (by omega)
     | exact form_okF (by omega) (by omega) h6_1 (by omega) (by omega)
 refine ae ?_
 refine aq (ai rfl) rfl rfl ?_
 refine aa ?_
 refine aj ?_
 refine aS ?_
 refine cC (σ := Nat) [5, 6, 7, 60, 61, 62, 63, 64, 65, 66, 67, 68, 69, 70, 71, 72, 73, 74, 75, 76] (fun k => k ≤ put.length ∧ cA put = cA (put.drop k)) (fun k => put.length - k) (fun k => [(7, .int .i64 k)]) (0) ?_ ⟨rfl, trivial⟩ (fun k hI => ?_)
 exact ⟨Nat.zero_le _, rfl⟩
 refine ap ?_
 refine ap ?_
 refine ae ?_
 refine aq (am rfl) rfl rfl ?_
 refine aq (aB cE rfl) rfl rfl ?_
 refine aq (aC 1 bz rfl rfl rfl) rfl rfl ?_
 refine aq (bg Tryz.underlying22 rfl) rfl rfl ?_
 refine aq (bW rfl rfl) rfl rfl ?_
 refine ay (t := 64) rfl (fun h11_4 => ?_) (fun h11_4 => ?_)
 have hk : k < put.length := by omega
 have hb9 := hpok.mem17 (aZ (d := bm) hk)
 have hb8 := hpok.at hk
 refine aa ?_
 refine aj ?_
 refine aA rfl ?_
 refine aQ ?_
 refine aj ?_
 refine ap ?_
 refine aS ?_
 refine ap ?_
 refine ae ?_
 refine aq (aB cE rfl) rfl rfl ?_
 refine aq (aC 1 bz rfl rfl rfl) rfl rfl ?_
 refine aq (am rfl) rfl rfl ?_
 refine aq (bB  Tryz.underlying22 aU rfl rfl (bF 2 rfl) rfl (by omega)) rfl rfl ?_
 refine aq (b6 bp bm aU rfl (bF 2 rfl) (by omega) rfl rfl rfl) rfl rfl ?_
 refine bA rfl ent_133 rfl (gI _ _ _ _ _ hb8.wa (by have := hb8.la; omega) (by have := hb8.lp; omega) hb8.k) (fun w hw => (az (cJ (bo 3 rfl hw) (bM (aZ (by omega)) _ (hU _))) (az (cJ (bo 3 rfl hw) (bM (aZ (by omega)) _ (im _))) aY))) ?_
 refine aq (ai rfl) rfl rfl ?_
 refine aa ?_
 refine aj ?_
 refine ap ?_
 refine ae ?_
 refine aq (am rfl) rfl rfl ?_
 refine aq (cO rfl rfl) rfl rfl ?_
 refine ay (t := 74) rfl (fun h14_1 => ?_) (fun h14_1 => ?_)
 refine aa ?_
 refine aj ?_
 refine aA rfl ?_
 refine ap ?_
 refine ae ?_
 refine aq (bP rfl (fg)) rfl rfl ?_
 refine aq (am rfl) rfl rfl ?_
 refine aW bw rfl rfl rfl .z rfl rfl rfl rfl ?_
 refine aq (ai rfl) rfl rfl ?_
 refine aa ?_
 refine aj ?_
 refine aN ?_
 refine aJ ?_
 refine ax ?_
 refine bh ?_
 refine aJ ?_
 refine ax ?_
 refine dP (rs := [.cell 4 24, .tmp 5]) rfl (bQ 0 bw rfl rfl rfl rfl (dv rfl cG)) rfl (fun w hw => ?_)
 have hA : (bx v l full bs ver put drop) = (cV (put.getD k bm).e, []) := gR hT hF (parts_ents (by rw [hI.2, bG put bm k hk, cA, if_pos h14_1]) h14_1) h14_1
 have hA1 := congrArg Prod.fst hA
 have hA2 := congrArg Prod.snd hA
 dsimp only at hA1 hA2
 exact ⟨(none, 0), by rw [hA1, hA2, ey h14_1]; rfl, hw.base, by rw [hA2]; exact ((hw.weak (List.nil_sublist _) (fun s hs => hs)).nilsl 34 7).toNews⟩
 refine aa ?_
 refine aj ?_
 refine aD rfl ?_
 refine aQ ?_
 refine bj ?_
 refine aj ?_
 refine ae ?_
 refine aq (am rfl) rfl rfl ?_
 refine aq (br rfl rfl (by omega) (by omega)) rfl rfl ?_
 refine aq (ai rfl) rfl rfl ?_
 refine aa ?_
 refine bv (k + 1) ?_ ?_ ⟨rfl, trivial⟩ (by repeat (first | exact trivial | refine ⟨rfl, ?_⟩)) aG
 exact ⟨by omega, by rw [hI.2, bG put bm k hk, cA, if_neg h14_1]⟩
 omega
 refine aa ?_
 refine aj ?_
 refine aD rfl ?_
 refine bJ ?_
 refine aV ?_
 refine aX ?_
 refine a8 ?_
 refine aj ?_
 refine ap ?_
 refine ap ?_
 have hE0 : cA put = 0 := by rw [hI.2, List.drop_of_length_le (by omega)]; rfl
 refine ae ?_
 refine aq (ai rfl) rfl rfl ?_
 refine aa ?_
 refine aj ?_
 refine aS ?_
 refine cC (σ := Nat) [5, 6, 8, 77, 78, 79, 80, 81, 82, 83, 84, 85, 86, 87, 88, 89, 90, 91, 92, 93] (fun k => k ≤ drop.length ∧ dm drop = dm (drop.drop k)) (fun k => drop.length - k) (fun k => [(8, .int .i64 k)]) (0) ?_ ⟨rfl, trivial⟩ (fun k hI => ?_)
 exact ⟨Nat.zero_le _, rfl⟩
 refine ap ?_
 refine ap ?_
 refine ae ?_
 refine aq (am rfl) rfl rfl ?_
 refine aq (aB cP rfl) rfl rfl ?_
 refine aq (aC 1 ew rfl rfl rfl) rfl rfl ?_
 refine aq (bg Tryz.underlying59 rfl) rfl rfl ?_
 refine aq (bW rfl rfl) rfl rfl ?_
 refine ay (t := 81) rfl (fun h17_4 => ?_) (fun h17_4 => ?_)
 have hk : k < drop.length := by omega
 refine aa ?_
 refine aj ?_
 refine aA rfl ?_
 refine aQ ?_
 refine aj ?_
 refine ap ?_
 refine aS ?_
 refine ap ?_
 refine ae ?_
 refine aq (aB cP rfl) rfl rfl ?_
 refine aq (aC 1 ew rfl rfl rfl) rfl rfl ?_
 refine aq (am rfl) rfl rfl ?_
 refine aq (bB  Tryz.underlying59 bE rfl rfl (bF 4 rfl) rfl (by omega)) rfl rfl ?_
 refine aq (bZ bV ([] : a6) bE rfl (bF 4 rfl) (by omega) rfl rfl) rfl rfl ?_
 refine bD rfl gz (dV _) rfl ?_
 refine aq (ai rfl) rfl rfl ?_
 refine aa ?_
 refine aj ?_
 refine ap ?_
 refine ae ?_
 refine aq (am rfl) rfl rfl ?_
 refine aq (cO rfl rfl) rfl rfl ?_
 refine ay (t := 91) rfl (fun h20_1 => ?_) (fun h20_1 => ?_)
 refine aa ?_
 refine aj ?_
 refine aA rfl ?_
 refine ap ?_
 refine ae ?_
 refine aq (bP rfl (fg)) rfl rfl ?_
 refine aq (am rfl) rfl rfl ?_
 refine aW bw rfl rfl rfl .z rfl rfl rfl rfl ?_
 refine aq (ai rfl) rfl rfl ?_
 refine aa ?_
 refine aj ?_
 refine aN ?_
 refine aJ ?_
 refine ax ?_
 refine bh ?_
 refine aJ ?_
 refine ax ?_
 refine dP (rs := [.cell 4 24, .tmp 5]) rfl (bQ 0 bw rfl rfl rfl rfl (dv rfl cG)) rfl (fun w hw => ?_)
 have hA : (bx v l full bs ver put drop) = (bd (drop.getD k []), []) := gR hT hF (parts_names hE0 (by rw [hI.2, bG drop ([] : a6) k hk, dm, if_pos h20_1]) h20_1) h20_1
 have hA1 := congrArg Prod.fst hA
 have hA2 := congrArg Prod.snd hA
 dsimp only at hA1 hA2
 exact ⟨(none, 0), by rw [hA1, hA2, ey h20_1]; rfl, hw.base, by rw [hA2]; exact ((hw.weak (List.nil_sublist _) (fun s hs => hs)).nilsl 34 7).toNews⟩
 refine aa ?_
 refine aj ?_
 refine aD rfl ?_
 refine aQ ?_
 refine bj ?_
 refine aj ?_
 refine ae ?_
 refine aq (am rfl) rfl rfl ?_
 refine aq (br rfl rfl (by omega) (by omega)) rfl rfl ?_
 refine aq (ai rfl) rfl rfl ?_
 refine aa ?_
 refine bv (k + 1) ?_ ?_ ⟨rfl, trivial⟩ (by repeat (first | exact trivial | refine ⟨rfl, ?_⟩)) aG
 exact ⟨by omega, by rw [hI.2, bG drop ([] : a6) k hk, dm, if_neg h20_1]⟩
 omega
 refine aa ?_
 refine aj ?_
 refine aD rfl ?_
 refine bJ ?_
 refine aV ?_
 refine aX ?_
 refine a8 ?_
 refine aj ?_
 refine ap ?_
 have hN0 : dm drop = 0 := by rw [hI.2, List.drop_of_length_le (by omega)]; rfl
 have hnz := namesCk_zero.1 hN0
 refine ae ?_
 refine aq (ai rfl) rfl rfl ?_
 refine aa ?_
 refine aj ?_
 refine ap ?_
 refine ap ?_
 refine ae ?_
 refine aq (ai rfl) rfl rfl ?_
 refine aa ?_
 refine aj ?_
 refine aS ?_
 refine cz (fun w h => h.nilsl 26 1) ?_
 refine dn (σ := Nat × List a6 × Option Addr × Nat) [9, 10, 94, 95, 96, 97, 98, 99, 100, 101, 102, 103, 104, 105, 106, 107, 108, 109] (fun q => q.1 ≤ put.length ∧ q.2.1 = (put.take q.1).map (fun y : Le => a7 y.e.host)) (fun q => put.length - q.1) (fun q => [(10, .int .i64 q.1), (9, .slice q.2.2.1 q.2.1.length q.2.2.2)]) (fun q => Ch.ls q.2.2.1 q.2.2.2 26 1 dD q.2.1) ((0, [], none, 0)) ?_ ⟨rfl, rfl, trivial⟩ rfl (fun q hI => ?_)
 exact ⟨Nat.zero_le _, rfl⟩
 obtain ⟨k, acc, Ak, ck⟩ := q
 dsimp only at hI ⊢
 have hal : acc.length = k := by rw [hI.2, List.length_map, List.length_take]; omega
 refine ap ?_
 refine ap ?_
 refine ae ?_
 refine aq (am rfl) rfl rfl ?_
 refine aq (aB cE rfl) rfl rfl ?_
 refine aq (aC 2 bz rfl rfl rfl) rfl rfl ?_
 refine aq (bg Tryz.underlying22 rfl) rfl rfl ?_
 refine aq (bW rfl rfl) rfl rfl ?_
 refine ay (t := 98) rfl (fun h24_4 => ?_) (fun h24_4 => ?_)
 have hk : k < put.length := by omega
 have hb9 := hpok.mem17 (aZ (d := bm) hk)
 have hh9 := hb9.h
 refine aa ?_
 refine aj ?_
 refine aA rfl ?_
 refine aQ ?_
 refine aj ?_
 refine ap ?_
 refine aS ?_
 refine ae ?_
 refine aq (am rfl) rfl rfl ?_
 refine aq (aB cE rfl) rfl rfl ?_
 refine aq (aC 2 bz rfl rfl rfl) rfl rfl ?_
 refine aq (am rfl) rfl rfl ?_
 refine aq (bB  Tryz.underlying22 aU rfl rfl (bF 2 rfl) rfl (by omega)) rfl rfl ?_
 refine aq (b6 bp bm aU rfl (bF 2 rfl) (by omega) rfl rfl rfl) rfl rfl ?_
 refine bD rfl ent_134 (c_ref16_Key _ _ _ _ _ (by omega)) rfl ?_
 refine bY (vs := [_]) ([a7 (put.getD k bm).e.host] : List (a6)) bV Tryz.underlying59 bE rfl rfl rfl rfl rfl rfl (fun As14 => ?_)
 refine cv (enc := dD) (sz := 1) [a7 (put.getD k bm).e.host] Tryz.underlying59 bE rfl rfl rfl (fun A c => (.s (.z))) (d5 0 Tryz.underlying59 rfl) (by simp; omega) (by simp; omega) rfl (fun A14 c14 => ?_)
 refine aq (ai rfl) rfl rfl ?_
 refine aa ?_
 refine bj ?_
 refine aj ?_
 refine ae ?_
 refine aq (am rfl) rfl rfl ?_
 refine aq (br rfl rfl (by omega) (by omega)) rfl rfl ?_
 refine aq (ai rfl) rfl rfl ?_
 refine aa ?_
 refine bv ((k + 1, acc ++ [a7 (put.getD k bm).e.host], A14, c14)) ?_ ?_ ⟨rfl, rfl, trivial⟩ (by repeat (first | exact trivial | refine ⟨rfl, ?_⟩)) (bq 1)
 exact ⟨by show k + 1 ≤ _; omega, by show _ = (put.take (k + 1)).map _; rw [dh put bm k hk, List.map_append, ← hI.2]; rfl⟩
 show put.length - (k + 1) < put.length - k
 omega
 refine aa ?_
 refine aj ?_
 refine aD rfl ?_
 refine bJ ?_
 refine aV ?_
 refine aX ?_
 refine a8 ?_
 refine aj ?_
 refine ap ?_
 refine ap ?_
 have hkp : k = put.length := by omega
 obtain rfl : acc = put.map (fun y : Le => a7 y.e.host) := by rw [hI.2, hkp, List.take_length]
 have hml9 : (put.map (fun y : Le => a7 y.e.host)).length = put.length := List.length_map _
 refine ae ?_
 refine aq (ai rfl) rfl rfl ?_
 refine aa ?_
 refine aj ?_
 refine aS ?_
 refine dn (σ := Nat × List a6 × Option Addr × Nat) [9, 11, 110, 111, 112, 113, 114, 115, 116, 117, 118, 119, 120, 121, 122, 123, 124, 125] (fun q => q.1 ≤ drop.length ∧ q.2.1 = put.map (fun y : Le => a7 y.e.host) ++ (drop.take q.1).map a7) (fun q => drop.length - q.1) (fun q => [(11, .int .i64 q.1), (9, .slice q.2.2.1 q.2.1.length q.2.2.2)]) (fun q => Ch.ls q.2.2.1 q.2.2.2 26 1 dD q.2.1) ((0, put.map (fun y : Le => a7 y.e.host), Ak, ck)) ?_ ⟨rfl, rfl, trivial⟩ rfl (fun q hI => ?_)
 exact ⟨Nat.zero_le _, (List.append_nil _).symm⟩
 obtain ⟨k, acc, Ak, ck⟩ := q
 dsimp only at hI ⊢
 have hal : acc.length = put.length + k := by rw [hI.2, List.length_append, List.length_map, List.length_map, List.length_take]; omega
 refine ap ?_
 refine ap ?_
 refine ae ?_
 refine aq (am rfl) rfl rfl ?_
 refine aq (aB cP rfl) rfl rfl ?_
 refine aq (aC 2 ew rfl rfl rfl) rfl rfl ?_
 refine aq (bg Tryz.underlying59 rfl) rfl rfl ?_
 refine aq (bW rfl rfl) rfl rfl ?_
 refine ay (t := 114) rfl (fun h28_4 => ?_) (fun h28_4 => ?_)
 have hk : k < drop.length := by omega
 have hdk := hdb _ (aZ (d := ([] : a6)) hk)
 refine aa ?_
 refine aj ?_
 refine aA rfl ?_
 refine aQ ?_
 refine aj ?_
 refine ap ?_
 refine aS ?_
 refine ae ?_
 refine aq (am rfl) rfl rfl ?_
 refine aq (aB cP rfl) rfl rfl ?_
 refine aq (aC 2 ew rfl rfl rfl) rfl rfl ?_
 refine aq (am rfl) rfl rfl ?_
 refine aq (bB  Tryz.underlying59 bE rfl rfl (bF 4 rfl) rfl (by omega)) rfl rfl ?_
 refine aq (bZ bV ([] : a6) bE rfl (bF 4 rfl) (by omega) rfl rfl) rfl rfl ?_
 refine bA rfl jG rfl (ib (drop.getD k []) (by omega)) (fun w hw => aY) ?_
 refine bY (vs := [_]) ([a7 (drop.getD k [])] : List (a6)) bV Tryz.underlying59 bE rfl rfl rfl rfl rfl rfl (fun As16 => ?_)
 refine cv (enc := dD) (sz := 1) [a7 (drop.getD k [])] Tryz.underlying59 bE rfl rfl rfl (fun A c => (.s (.z))) (d5 0 Tryz.underlying59 rfl) (by simp; omega) (by simp; omega) rfl (fun A16 c16 => ?_)
 refine aq (ai rfl) rfl rfl ?_
 refine aa ?_
 refine bj ?_
 refine aj ?_
 refine ae ?_
 refine aq (am rfl) rfl rfl ?_
 refine aq (br rfl rfl (by omega) (by omega)) rfl rfl ?_
 refine aq (ai rfl) rfl rfl ?_
 refine aa ?_
 refine bv ((k + 1, acc ++ [a7 (drop.getD k [])], A16, c16)) ?_ ?_ ⟨rfl, rfl, trivial⟩ (by repeat (first | exact trivial | refine ⟨rfl, ?_⟩)) (bq 1)
 exact ⟨by show k + 1 ≤ _; omega, by show _ = _ ++ (drop.take (k + 1)).map a7; rw [dh drop ([] : a6) k hk, List.map_append, ← List.append_assoc, ← hI.2]; rfl⟩
 show drop.length - (k + 1) < drop.length - k
 omega
 refine aa ?_
 refine aj ?_
 refine aD rfl ?_
 refine bJ ?_
 refine aV ?_
 refine aX ?_
 refine a8 ?_
 refine aj ?_
 refine ap ?_
 have hkd : k = drop.length := by omega
 obtain rfl : acc = (cK put drop) := by rw [hI.2, hkd, List.take_length]; rfl
 have hkl : (cK put drop).length = put.length + drop.length := by rw [cK, List.length_append, List.length_map, List.length_map]
 refine ae ?_
 refine iT (fun s : a6 => .string (ba s)) (fun b : Bool => .bool b) rfl (fun r17 => ?_)
 refine aq (ai rfl) rfl rfl ?_
 refine aa ?_
 refine aj ?_
 refine ap ?_
 refine ap ?_
 refine ae ?_
 refine aq (ai rfl) rfl rfl ?_
 refine aa ?_
 refine aj ?_
 refine aS ?_
 refine dn (σ := Nat × List (a6 × Bool)) [5, 13, 127, 128, 129, 130, 131, 132, 133, 134, 135, 136, 137, 138, 139, 140, 141, 142, 143, 144] (fun q => q.1 ≤ (cK put drop).length ∧ MapIs q.2 ((cK put drop).take q.1) ∧ ((cK put drop).take q.1).Nodup) (fun q => (cK put drop).length - q.1) (fun q => [(13, .int .i64 q.1)]) (fun q => Ch.mp r17 (fun s : a6 => .string (ba s)) (fun b : Bool => .bool b) q.2) ((0, [])) ?_ ⟨rfl, trivial⟩ rfl (fun q hI => ?_)
 exact ⟨Nat.zero_le _, fun key => rfl, .nil⟩
 obtain ⟨k, mm⟩ := q
 dsimp only at hI ⊢
 refine ap ?_
 refine ap ?_
 refine ae ?_
 refine aq (am rfl) rfl rfl ?_
 refine aq (am rfl) rfl rfl ?_
 refine aq (bg Tryz.underlying59 rfl) rfl rfl ?_
 refine aq (bW rfl rfl) rfl rfl ?_
 refine ay (t := 130) rfl (fun h33_3 => ?_) (fun h33_3 => ?_)
 have hk : k < (cK put drop).length := by omega
 refine aa ?_
 refine aj ?_
 refine aA rfl ?_
 refine aQ ?_
 refine aj ?_
 refine ap ?_
 refine aS ?_
 refine ap ?_
 refine ap ?_
 refine ae ?_
 refine aq (am rfl) rfl rfl ?_
 refine aq (am rfl) rfl rfl ?_
 refine aq (am rfl) rfl rfl ?_
 refine aq (bB  Tryz.underlying59 bE rfl rfl (dL 1 rfl) rfl (by omega)) rfl rfl ?_
 refine aq (bZ bV ([] : a6) bE rfl (dL 1 rfl) (by omega) rfl rfl) rfl rfl ?_
 refine aq (ix Tryz.underlying167 (fM Tryz.underlying26) iu rfl rfl (fun w hw => hw.own _ (List.mem_of_getElem? (i := 0) rfl))) rfl rfl ?_
 refine eo (t := 138) (.bool (decide ((cK put drop).getD k [] ∈ (cK put drop).take k))) rfl (iW hI.2.1 _) ?_
 refine bN (t := 138) rfl (fun h35_5 => ?_) (fun h35_5 => ?_)
 refine aa ?_
 refine aj ?_
 refine aA rfl ?_
 refine ap ?_
 refine ae ?_
 refine aq (bP rfl (fg)) rfl rfl ?_
 refine aW bw rfl rfl rfl (.s (.s (.z))) rfl rfl rfl rfl ?_
 refine aq (ai rfl) rfl rfl ?_
 refine aa ?_
 refine aj ?_
 refine aN ?_
 refine ax ?_
 refine aJ ?_
 refine ax ?_
 refine bh ?_
 refine aJ ?_
 refine ax ?_
 refine dP (rs := [.cell 4 24, .tmp 5]) rfl (bQ 2 bw rfl rfl rfl rfl (dv rfl cG)) rfl (fun w hw => ?_)
 have hA : (bx v l full bs ver put drop) = (6, []) := gR hT hF (parts_dup hE0 hN0 (fun q => g7 q hk (of_decide_eq_true h35_5))) (by decide)
 have hA1 := congrArg Prod.fst hA
 have hA2 := congrArg Prod.snd hA
 dsimp only at hA1 hA2
 exact ⟨(none, 0), by rw [hA1, hA2, ey (by decide)]; rfl, hw.base, by rw [hA2]; exact ((hw.weak (List.nil_sublist _) (fun s hs => hs)).nilsl 34 7).toNews⟩
 refine aa ?_
 refine aj ?_
 refine aD rfl ?_
 refine aQ ?_
 refine aj ?_
 refine ae ?_
 refine aq (am rfl) rfl rfl ?_
 refine aq (am rfl) rfl rfl ?_
 refine aq (am rfl) rfl rfl ?_
 refine aq (bB  Tryz.underlying59 bE rfl rfl (dL 1 rfl) rfl (by omega)) rfl rfl ?_
 refine aq (bZ bV ([] : a6) bE rfl (dL 1 rfl) (by omega) rfl rfl) rfl rfl ?_
 refine iI (encK := (fun s : a6 => .string (ba s))) (encV := (fun b : Bool => .bool b)) (v := true) Tryz.underlying167 (fM Tryz.underlying26) rfl rfl rfl .z ?_
 refine aa ?_
 refine bj ?_
 refine aj ?_
 refine ae ?_
 refine aq (am rfl) rfl rfl ?_
 refine aq (br rfl rfl (by omega) (by omega)) rfl rfl ?_
 refine aq (ai rfl) rfl rfl ?_
 refine aa ?_
 refine bv ((k + 1, upd mm ((cK put drop).getD k []) true)) ?_ ?_ ⟨rfl, trivial⟩ (by repeat (first | exact trivial | refine ⟨rfl, ?_⟩)) aG
 exact ⟨by show k + 1 ≤ _; omega, g2 hI.2.1 hk, nd_take hk hI.2.2 (of_decide_eq_false h35_5)⟩
 show (cK put drop).length - (k + 1) < (cK put drop).length - k
 omega
 refine aa ?_
 refine aj ?_
 refine aD rfl ?_
 refine bJ ?_
 refine aV ?_
 refine aX ?_
 refine a8 ?_
 refine aj ?_
 refine ap ?_
 have hPa : ct put drop = 0 := by
   have h9 := hI.2.2
   rw [List.take_of_length_le (by omega)] at h9
   exact parts_ok hE0 hN0 h9
 refine ae ?_
 refine aq (ai rfl) rfl rfl ?_
 refine aa ?_
 refine aj ?_
 refine ap ?_
 refine ap ?_
 refine ae ?_
 refine aq (aB eH rfl) rfl rfl ?_
 refine aq (aC 3 iu rfl rfl rfl) rfl rfl ?_
 refine eo (t := 146) (.bool false) rfl (congrArg Value.bool h6_1) ?_
 refine aq (bS rfl) rfl rfl ?_
 refine aa ?_
 refine aj ?_
 refine aA rfl ?_
 refine ae ?_
 refine aq (am rfl) rfl rfl ?_
 refine aq (aB bX rfl) rfl rfl ?_
 refine aq (aC 4 bz rfl rfl rfl) rfl rfl ?_
 refine wl_heap (fun w h => h.nilsl 34 7) ?_
 refine cv (xs := ([] : List (Le))) (enc := dF) (sz := 7) l Tryz.underlying22 aU rfl rfl rfl (fun A c => .z) (je 0 Tryz.underlying22 rfl) (by simp only [List.length_cons, List.length_nil, Nat.zero_add]; omega) (by simp only [List.length_cons, List.length_nil, Nat.zero_add]; omega) rfl (fun A19 c19 => ?_)
 refine aq (ai rfl) rfl rfl ?_
 refine aa ?_
 refine aj ?_
 refine ap ?_
 refine ap ?_
 have hB : (if full = true then [] else l) = l := by rw [h6_1]; rfl
 refine ae ?_
 refine aq (ai rfl) rfl rfl ?_
 refine aa ?_
 refine aj ?_
 refine aS ?_
 refine dn (σ := Nat × List Le × Option Addr × Nat) [5, 14, 15, 16, 152, 153, 154, 155, 156, 157, 158, 159, 160, 161, 162, 163, 164, 165, 166, 167, 168, 169, 170, 171, 172, 173, 174, 175, 176, 177, 178] (fun q => q.1 ≤ drop.length ∧ ce (if full = true then [] else l) drop = ce q.2.1 (drop.drop q.1) ∧ TbE (q.2.1.map (·.e)) ∧ (∀ x ∈ q.2.1, x ∈ l) ∧ q.2.1.length ≤ l.length) (fun q => drop.length - q.1) (fun q => [(15, .int .i64 q.1), (14, .slice q.2.2.1 q.2.1.length q.2.2.2)]) (fun q => Ch.ls q.2.2.1 q.2.2.2 34 7 dF q.2.1) ((0, l, A19, c19)) ?_ ⟨rfl, rfl, trivial⟩ rfl (fun q hI => ?_)
 exact ⟨Nat.zero_le _, by rw [hB]; rfl, by have h9 := base_tbe (full := full) hT; rw [hB] at h9; exact h9, by have h9 := base_sub (full := full) (l := l); rw [hB] at h9; exact h9, by have h9 := base_len (full := full) (l := l); rw [hB] at h9; exact h9⟩
 obtain ⟨k, m, Am, cm⟩ := q
 dsimp only at hI ⊢
 refine ap ?_
 refine ap ?_
 refine ae ?_
 refine aq (am rfl) rfl rfl ?_
 refine aq (aB cP rfl) rfl rfl ?_
 refine aq (aC 4 ew rfl rfl rfl) rfl rfl ?_
 refine aq (bg Tryz.underlying59 rfl) rfl rfl ?_
 refine aq (bW rfl rfl) rfl rfl ?_
 refine ay (t := 156) rfl (fun h42_4 => ?_) (fun h42_4 => ?_)
 have hk : k < drop.length := by omega
 have hnm := aZ (d := ([] : a6)) hk
 have hdk := hdb _ hnm
 have hn0 := hnz _ hnm
 have hml := hI.2.2.2.2
 refine aa ?_
 refine aj ?_
 refine aA rfl ?_
 refine aQ ?_
 refine aj ?_
 refine ap ?_
 refine aS ?_
 refine ap ?_
 refine ae ?_
 refine aq (am rfl) rfl rfl ?_
 refine aq (aB cP rfl) rfl rfl ?_
 refine aq (aC 4 ew rfl rfl rfl) rfl rfl ?_
 refine aq (am rfl) rfl rfl ?_
 refine aq (bB  Tryz.underlying59 bE rfl rfl (bF 4 rfl) rfl (by omega)) rfl rfl ?_
 refine aq (bZ bV ([] : a6) bE rfl (bF 4 rfl) (by omega) rfl rfl) rfl rfl ?_
 refine eT rfl g8 rfl (gW m Am cm (drop.getD k []) (fun x hx => hok x (hI.2.2.2.1 x hx)) (by omega) (by omega)) (fun w hw => (az (ci 0 rfl hw) aY)) (fun ⟨i9, hfi⟩ => ?_)
 refine eo (t := 165) (.int .i64 i9) rfl rfl ?_
 refine aq (ai rfl) rfl rfl ?_
 refine aa ?_
 refine aj ?_
 refine ap ?_
 refine ap ?_
 refine ae ?_
 refine aq (am rfl) rfl rfl ?_
 refine aq (bW rfl rfl) rfl rfl ?_
 refine ay (t := 167) rfl (fun h45_1 => ?_) (fun h45_1 => ?_)
 obtain ⟨rfl, hno⟩ := hfi.resolve_right (fun ⟨k, h, _⟩ => by omega)
 refine aa ?_
 refine aj ?_
 refine aA rfl ?_
 refine ap ?_
 refine ae ?_
 refine aq (bP rfl (fg)) rfl rfl ?_
 refine aW bw rfl rfl rfl (.s (.s (.s (.z)))) rfl rfl rfl rfl ?_
 refine aq (ai rfl) rfl rfl ?_
 refine aa ?_
 refine aj ?_
 refine aN ?_
 refine ax ?_
 refine aJ ?_
 refine ax ?_
 refine bh ?_
 refine aJ ?_
 refine ax ?_
 refine dP (rs := [.cell 4 24, .tmp 5]) rfl (bQ 3 bw rfl rfl rfl rfl (dv rfl cG)) rfl (fun w hw => ?_)
 have hA : (bx v l full bs ver put drop) = (5, []) := ji ⟨hT, hF, hPa⟩ (by rw [hI.2.1, bG drop ([] : a6) k hk]; exact drop_stop (fp_no hI.2.2.1 hn0 hno))
 have hA1 := congrArg Prod.fst hA
 have hA2 := congrArg Prod.snd hA
 dsimp only at hA1 hA2
 exact ⟨(none, 0), by rw [hA1, hA2, ey (by decide)]; rfl, hw.base, by rw [hA2]; exact ((hw.weak (List.nil_sublist _) (fun s hs => hs)).nilsl 34 7).toNews⟩
 obtain ⟨k9, rfl, hk9, hs9⟩ := hfi.resolve_left (fun h => by omega)
 obtain ⟨f1, f2, f3⟩ := fp_yes hI.2.2.1 hk9 hs9
 refine aa ?_
 refine aj ?_
 refine aD rfl ?_
 refine aQ ?_
 refine aj ?_
 refine e7 11 rfl mixed ?_
 refine aI (i := 1) rfl ak (am rfl) aG aG rfl (ao (ah (av (ao (ah aw))))) (by kernel_rfl) rfl ?_
 refine aI (i := 2) rfl ak (am rfl) aG aG rfl (ao (ah (av (ao (ah aw))))) (by kernel_rfl) rfl ?_
 refine aI (i := 3) rfl ak (y_takes (m := k9) Tryz.underlying22 aU rfl rfl (by omega) (by omega) (cap_L 0 rfl)) aG aG rfl (ao (ah (av (ao (ah aw))))) (by kernel_rfl) rfl ?_
 refine aI (i := 5) rfl ak (am rfl) aG aG rfl (ao (ah (av (ao (ah aw))))) (by kernel_rfl) rfl ?_
 refine aI (i := 6) rfl ak (am rfl) aG aG rfl (ao (ah (av (ao (ah aw))))) (by kernel_rfl) rfl ?_
 refine aI (i := 7) rfl ak (br rfl rfl (by omega) (by omega)) aG aG rfl (ao (ah (av (ao (ah aw))))) (by kernel_rfl) rfl ?_
 refine aI (i := 8) rfl ak (iv (m := k9 + 1) Tryz.underlying22 aU rfl rfl (by omega) (by omega)) aG aG rfl (ao (ah (av (ao (ah aw))))) (by kernel_rfl) rfl ?_
 refine bl (i := 0) rfl rfl rfl (fun _ _ _ => aM (by kernel_rfl)) (by kernel_rfl) rfl ?_
 refine bY (vs := []) (([] : List Le) : List (Le)) bp Tryz.underlying22 aU rfl rfl rfl rfl rfl rfl (fun As22 => ?_)
 refine aa ?_
 refine aT (bq 1) ?_
 refine bl (i := 4) rfl rfl rfl (fun _ _ _ => aM (by kernel_rfl)) (by kernel_rfl) rfl ?_
 refine cv (enc := dF) (sz := 7) (m.take k9) Tryz.underlying22 aU rfl rfl rfl (fun A c => .z) (fun w hw => RsP.src Tryz.underlying22 (rd_takeL bp 1 rfl (by omega) hw).1) (by simp; omega) (by simp; omega) rfl (fun A22 c22 => ?_)
 refine aa ?_
 refine aT (bq 1) ?_
 refine bl (i := 9) rfl rfl rfl (fun _ _ _ => aM (by kernel_rfl)) (by kernel_rfl) rfl ?_
 refine cv (enc := dF) (sz := 7) (m.drop (k9 + 1)) Tryz.underlying22 aU rfl rfl rfl (fun A c => .z) (fun w hw => RsP.src Tryz.underlying22 (rd_dropL bp 1 rfl (by omega) hw).1) (by simp; omega) (by simp; omega) rfl (fun A23 c23 => ?_)
 refine aa ?_
 refine aT (bq 1) ?_
 refine aI (i := 10) rfl ak (ai rfl) (bq 1) aG rfl (ao (ah (av (ao (ah aw))))) (by kernel_rfl) rfl ?_
 refine cw (by kernel_rfl) ?_
 refine bj ?_
 refine aj ?_
 refine ae ?_
 refine aq (am rfl) rfl rfl ?_
 refine aq (br rfl rfl (by omega) (by omega)) rfl rfl ?_
 refine aq (ai rfl) rfl rfl ?_
 refine aa ?_
 refine bv ((k + 1, ([] ++ m.take k9) ++ m.drop (k9 + 1), A23, c23)) ?_ ?_ ⟨rfl, rfl, trivial⟩ (by repeat (first | exact trivial | refine ⟨rfl, ?_⟩)) (fun w h => (h.weak (.cons_cons _ (.cons _ (.cons_cons _ (.cons_cons _ (.cons_cons _ (.cons_cons _ (.cons_cons _ .slnil))))))) (fun s hs => hs)))
 refine ⟨by show k + 1 ≤ _; omega, ?_, ?_, fun x hx => hI.2.2.2.1 x (cut_sub.subset hx), Nat.le_trans cut_sub.length_le hI.2.2.2.2⟩
 · show _ = ce (([] ++ m.take k9) ++ m.drop (k9 + 1)) (drop.drop (k + 1))
   rw [hI.2.1, bG drop ([] : a6) k hk]; exact drop_find hI.2.2.1 hk9 f2 f3
 · exact hI.2.2.1.sub (cut_sub.map _)
 show drop.length - (k + 1) < drop.length - k
 omega
 refine aa ?_
 refine aj ?_
 refine aD rfl ?_
 refine bJ ?_
 refine aV ?_
 refine aX ?_
 refine a8 ?_
 refine aj ?_
 refine ap ?_
 refine ap ?_
 have hmm : ce (if full = true then [] else l) drop = some m := by rw [hI.2.1, List.drop_of_length_le (by omega)]; rfl
 have hmsub := hI.2.2.2.1
 have hmlen := hI.2.2.2.2
 refine ae ?_
 refine aq (ai rfl) rfl rfl ?_
 refine aa ?_
 refine aj ?_
 refine aS ?_
 refine dn (σ := Nat × List Le × Option Addr × Nat) [14, 17, 179, 180, 181, 182, 183, 184, 185, 186, 187, 188, 189, 190, 191, 192] (fun q => q.1 ≤ put.length ∧ q.2.1 = dz m (put.take q.1) ∧ TbOk q.2.1 ∧ q.2.1.length ≤ l.length + q.1) (fun q => put.length - q.1) (fun q => [(17, .int .i64 q.1), (14, .slice q.2.2.1 q.2.1.length q.2.2.2)]) (fun q => Ch.ls q.2.2.1 q.2.2.2 34 7 dF q.2.1) ((0, m, Am, cm)) ?_ ⟨rfl, rfl, trivial⟩ rfl (fun q hI => ?_)
 exact ⟨Nat.zero_le _, rfl, fun x hx => hok x (hmsub x hx), by show m.length ≤ l.length + 0; omega⟩
 obtain ⟨k, acc, Aa, ca⟩ := q
 dsimp only at hI ⊢
 refine ap ?_
 refine ap ?_
 refine ae ?_
 refine aq (am rfl) rfl rfl ?_
 refine aq (aB cE rfl) rfl rfl ?_
 refine aq (aC 4 bz rfl rfl rfl) rfl rfl ?_
 refine aq (bg Tryz.underlying22 rfl) rfl rfl ?_
 refine aq (bW rfl rfl) rfl rfl ?_
 refine ay (t := 183) rfl (fun h49_4 => ?_) (fun h49_4 => ?_)
 have hk : k < put.length := by omega
 have hb9 := hpok.mem17 (aZ (d := bm) hk)
 have hle9 := hI.2.2.2
 refine aa ?_
 refine aj ?_
 refine aA rfl ?_
 refine aQ ?_
 refine aj ?_
 refine ap ?_
 refine aS ?_
 refine ae ?_
 refine aq (am rfl) rfl rfl ?_
 refine aq (aB cE rfl) rfl rfl ?_
 refine aq (aC 4 bz rfl rfl rfl) rfl rfl ?_
 refine aq (am rfl) rfl rfl ?_
 refine aq (bB  Tryz.underlying22 aU rfl rfl (bF 2 rfl) rfl (by omega)) rfl rfl ?_
 refine aq (b6 bp bm aU rfl (bF 2 rfl) (by omega) rfl rfl rfl) rfl rfl ?_
 refine dE rfl ent_136 rfl (c_ref17_put acc Aa ca (put.getD k bm) hI.2.2.1 hb9.h (by omega)) (fun w hw => (az (ci 0 rfl hw) aY)) (fun ⟨A24, c24⟩ => ?_)
 refine aq (ai rfl) rfl rfl ?_
 refine aa ?_
 refine bj ?_
 refine aj ?_
 refine ae ?_
 refine aq (am rfl) rfl rfl ?_
 refine aq (br rfl rfl (by omega) (by omega)) rfl rfl ?_
 refine aq (ai rfl) rfl rfl ?_
 refine aa ?_
 refine bv ((k + 1, fQ acc (put.getD k bm), A24, c24)) ?_ ?_ ⟨rfl, rfl, trivial⟩ (by repeat (first | exact trivial | refine ⟨rfl, ?_⟩)) (fun w h => h.weak (.cons_cons _ (.cons _ (List.Sublist.refl _))) (fun s hs => hs))
 exact ⟨by show k + 1 ≤ _; omega, by show fQ acc _ = dz _ (put.take (k + 1)); rw [putAll_succ hk, ← hI.2.1], putE_tb hI.2.2.1 (hpok _ (aZ hk)), by show (fQ acc _).length ≤ l.length + (k + 1); have := putE_len acc (put.getD k bm); omega⟩
 show put.length - (k + 1) < put.length - k
 omega
 refine aa ?_
 refine aj ?_
 refine aD rfl ?_
 refine bJ ?_
 refine aV ?_
 refine aX ?_
 refine a8 ?_
 refine aj ?_
 refine ap ?_
 refine ap ?_
 have hE : acc = dz m put := by rw [hI.2.1, List.take_of_length_le (by omega)]
 have hle9 := hI.2.2.2
 refine ae ?_
 refine aq (am rfl) rfl rfl ?_
 refine aq (bg Tryz.underlying22 rfl) rfl rfl ?_
 refine aq (dB rfl rfl) rfl rfl ?_
 refine ay (t := 195) rfl (fun h52_2 => ?_) (fun h52_2 => ?_)
 refine aa ?_
 refine aj ?_
 refine aA rfl ?_
 refine ap ?_
 refine ae ?_
 refine aq (bP rfl (fg)) rfl rfl ?_
 refine aW bw rfl rfl rfl (.s (.s (.s (.z)))) rfl rfl rfl rfl ?_
 refine aq (ai rfl) rfl rfl ?_
 refine aa ?_
 refine aj ?_
 refine aN ?_
 refine ax ?_
 refine dP (rs := [.cell 4 24, .tmp 5]) rfl (bQ 3 bw rfl rfl rfl rfl (dv rfl cG)) rfl (fun w hw => ?_)
 have hA : (bx v l full bs ver put drop) = (3, []) := by rw [fE ⟨hT, hF, hPa⟩ hmm, if_pos (by rw [← hE]; omega)]
 have hA1 := congrArg Prod.fst hA
 have hA2 := congrArg Prod.snd hA
 dsimp only at hA1 hA2
 exact ⟨(none, 0), by rw [hA1, hA2, ey (by decide)]; rfl, hw.base, by rw [hA2]; exact ((hw.weak (List.nil_sublist _) (fun s hs => hs)).nilsl 34 7).toNews⟩
 refine aa ?_
 refine aj ?_
 refine aD rfl ?_
 refine aQ ?_
 refine aj ?_
 refine ap ?_
 refine ae ?_
 refine aq (aB fC rfl) rfl rfl ?_
 refine aq (aC 4 cX rfl rfl rfl) rfl rfl ?_
 refine aq (am rfl) rfl rfl ?_
 refine aq (bP rfl (bu_24_0_1 _ _ _ _)) rfl rfl ?_
 refine aW bw rfl rfl rfl (.s (.s (.s (.z)))) rfl rfl rfl rfl ?_
 refine aq (ai rfl) rfl rfl ?_
 refine aa ?_
 refine aj ?_
 refine aN ?_
 refine dP (rs := [.cell 4 24, .tmp 5]) rfl (bQ 3 bw rfl rfl rfl rfl (dv rfl cG)) rfl (fun w hw => ?_)
 have hA : (bx v l full bs ver put drop) = (0, dz m put) := by rw [fE ⟨hT, hF, hPa⟩ hmm, if_neg (by rw [← hE]; omega)]
 have hA1 := congrArg Prod.fst hA
 have hA2 := congrArg Prod.snd hA
 dsimp only at hA1 hA2
 exact ⟨(Aa, ca), by rw [hA1, hA2, ← hE]; rfl, hw.base, by rw [hA2, ← hE]; exact (hw.weak (.cons_cons _ (.cons _ (.cons _ (.cons _ (.cons _ (.cons _ .slnil)))))) (fun s hs => hs)).toNews⟩
end Go.Proofs.YtnpdgmoeoidppaaGreat
