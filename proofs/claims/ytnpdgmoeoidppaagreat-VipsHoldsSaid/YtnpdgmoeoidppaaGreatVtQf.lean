import Derived.Test.YtnpdgmoeoidppaaGreatVrQf
/- law 14: who holds what -/
namespace Go.Proofs.YtnpdgmoeoidppaaGreat
open Go.RowKit Go.Shelf
set_option linter.unusedVariables false
set_option linter.unusedSimpArgs false

theorem ent_105 : Enters Tryz.prog 105 := enters_of Tryz.func105 (by kernel_rfl) rfl
theorem ent_33 : Enters Tryz.prog 33 := enters_of Tryz.func33 (by kernel_rfl) rfl
theorem ent_37 : Enters Tryz.prog 37 := enters_of Tryz.func37 (by kernel_rfl) rfl
theorem ent_39 : Enters Tryz.prog 39 := enters_of Tryz.func39 (by kernel_rfl) rfl
theorem d4 : Enters Tryz.prog 44 := enters_of Tryz.func44 (by kernel_rfl) rfl
theorem ent_45 : Enters Tryz.prog 45 := enters_of Tryz.func45 (by kernel_rfl) rfl
theorem eT : FA Tryz.prog 46 0 0 := fun b o w => by kernel_rfl

theorem db (l : List aU) (A : Option Addr) (c : Nat) (n : aU) (hl : ∀ x ∈ l, x.length ≤ 1000000000) (hn : n.length ≤ 1000000000) (hll : l.length ≤ 9223372036854775807) : RC Tryz.prog 44 #[.slice A l.length c, .string (ba n)] [Ch.rd A 1 dV l] (α := Unit) (fun _ => .bool (fI l n)) (fun _ => []) := by
 refine bp (args := [.slice A l.length c, .string (ba n)]) 18 Tryz.func44 rfl rfl rfl (fun w0 => ?_)
 refine ap ?_
 refine ab ?_
 refine aq (ai rfl) rfl rfl ?_
 refine ae ?_
 refine ak ?_
 refine ap ?_
 refine ap ?_
 refine ab ?_
 refine aq (ai rfl) rfl rfl ?_
 refine ae ?_
 refine ak ?_
 refine aR ?_
 refine bY (σ := Nat) [4, 5, 6, 7, 8, 9, 10, 11, 12, 13, 14, 15, 16, 17] (fun k => k ≤ l.length ∧ ∀ q, q < k → eS (l.getD q []) n = false) (fun k => l.length - k) (fun k => [(5, .int .i64 k)]) (0) ?_ ⟨rfl, trivial⟩ (fun k hI => ?_)
 exact ⟨Nat.zero_le _, nofun⟩
 refine ap ?_
 refine ap ?_
 refine ab ?_
 refine aq (aj rfl) rfl rfl ?_
 refine aq (aj rfl) rfl rfl ?_
 refine aq (bK Tryz.underlying59 rfl) rfl rfl ?_
 refine aq (bP rfl rfl) rfl rfl ?_
 refine aG (t := 9) rfl (fun h2_3 => ?_) (fun h2_3 => ?_)
 have hk : k < l.length := by omega
 refine ae ?_
 refine ak ?_
 refine aA rfl ?_
 refine aH ?_
 refine ak ?_
 refine ap ?_
 refine aR ?_
 refine ap ?_
 refine ab ?_
 refine aq (aj rfl) rfl rfl ?_
 refine aq (aj rfl) rfl rfl ?_
 refine aq (bq  Tryz.underlying59 bC rfl rfl (bH 0 rfl) rfl (by omega)) rfl rfl ?_
 refine aq (bu cO ([] : aU) bC rfl (bH 0 rfl) (by omega) rfl rfl) rfl rfl ?_
 refine aq (aj rfl) rfl rfl ?_
 refine aV rfl ent_46 (eC _ _ (hl _ (bc hk)) hn) rfl ?_
 refine bi (t := 17) rfl (fun h4_5 => ?_) (fun h4_5 => ?_)
 refine ae ?_
 refine ak ?_
 refine aA rfl ?_
 refine ap ?_
 refine ab ?_
 refine aq (ai rfl) rfl rfl ?_
 refine ae ?_
 refine ak ?_
 refine aJ ?_
 refine aT ?_
 refine aC ?_
 refine bw ?_
 refine aT ?_
 refine aC ?_
 refine aN (ts := [4]) rfl rfl rfl (fun w hw => ?_)
 focus first
   | (have hE := among_yes hk h4_5
      exact ⟨(), by rw [hE]; rfl, hw.base, (hw.weak (List.nil_sublist _) (fun s hs => hs)).toNews⟩)
   | (have hE := among_no (l := l) (n := n) (fun q hq => hI.2 q (by omega))
      exact ⟨(), by rw [hE]; rfl, hw.base, (hw.weak (List.nil_sublist _) (fun s hs => hs)).toNews⟩)
   | (trace_state; fail)
 refine ae ?_
 refine ak ?_
 refine ay rfl ?_
 refine aH ?_
 refine bo ?_
 refine ak ?_
 refine ab ?_
 refine aq (aj rfl) rfl rfl ?_
 refine aq (bd rfl rfl (by omega) (by omega)) rfl rfl ?_
 refine aq (ai rfl) rfl rfl ?_
 refine ae ?_
 refine bj (k + 1) ?_ ?_ ⟨rfl, trivial⟩ (by repeat (first | exact trivial | refine ⟨rfl, ?_⟩)) av
 refine ⟨by omega, fun q hq => ?_⟩
 by_cases e : q = k
 · rw [e]; exact h4_5
 · exact hI.2 q (by omega)
 omega
 refine ae ?_
 refine ak ?_
 refine ay rfl ?_
 refine bE ?_
 refine aZ ?_
 refine aY ?_
 refine a7 ?_
 refine ak ?_
 refine ap ?_
 refine ab ?_
 refine aq (ai rfl) rfl rfl ?_
 refine ae ?_
 refine ak ?_
 refine aJ ?_
 refine aN (ts := [4]) rfl rfl rfl (fun w hw => ?_)
 focus first
   | (have hE := among_yes hk h4_5
      exact ⟨(), by rw [hE]; rfl, hw.base, (hw.weak (List.nil_sublist _) (fun s hs => hs)).toNews⟩)
   | (have hE := among_no (l := l) (n := n) (fun q hq => hI.2 q (by omega))
      exact ⟨(), by rw [hE]; rfl, hw.base, (hw.weak (List.nil_sublist _) (fun s hs => hs)).toNews⟩)
   | (trace_state; fail)

set_option maxRecDepth 100000 in
theorem c_holds14 (rg : Rg) (res : List Rg) (A : Option Addr) (c : Nat) (hs : List Hd) (Q : Option Addr) (q : Nat) (hr : RgOk rg) (hrs : ∀ x ∈ res, RgOk x) (hl : res.length ≤ 1000000000000) (hhl : hs.length ≤ 1000000) (hH : HeldG rg res hs) : RC Tryz.prog 39 #[.agg (plC rg A res.length c).toArray, .slice Q hs.length q] [Ch.rd A 4 ea res, Ch.rd Q 4 gI hs] (α := Unit) (fun _ => .bool true) (fun _ => []) := by
 refine bp (args := [.agg (plC rg A res.length c).toArray, .slice Q hs.length q]) 84 Tryz.func39 rfl rfl rfl (fun w0 => ?_)
 refine ap ?_
 refine ab ?_
 refine bI rfl rfl rfl (fun b1 => ?_)
 refine aq (ai rfl) rfl rfl ?_
 refine ae ?_
 refine ak ?_
 refine ap ?_
 refine ap ?_
 refine ab ?_
 refine aq (ai rfl) rfl rfl ?_
 refine ae ?_
 refine ak ?_
 refine aR ?_
 refine bY (σ := Nat) [4, 5, 6, 7, 8, 9, 10, 11, 12, 13, 14, 15, 16, 17, 18, 19, 20, 21, 22, 23, 24, 25, 26, 27, 28, 29, 30, 31, 32, 33, 34, 35, 36, 37, 38, 39, 40, 41, 42, 43, 44, 45, 46, 47, 48, 49, 50, 51, 52, 53, 54, 55, 56, 57, 58, 59, 60, 61, 62, 63, 64, 65, 66, 67, 68, 69, 70, 71, 72, 73, 74, 75, 76, 77, 78, 79, 80, 81, 82, 83] (fun i => i ≤ hs.length) (fun i => hs.length - i) (fun i => [(5, .int .i64 i)]) (0) ?_ ⟨rfl, trivial⟩ (fun i hI => ?_)
 exact Nat.zero_le _
 refine ap ?_
 refine ap ?_
 refine ab ?_
 refine aq (aj rfl) rfl rfl ?_
 refine aq (aj rfl) rfl rfl ?_
 refine aq (bK Tryz.underlying25 rfl) rfl rfl ?_
 refine aq (bP rfl rfl) rfl rfl ?_
 refine aG (t := 13) rfl (fun h2_3 => ?_) (fun h2_3 => ?_)
 have hi : i < hs.length := by omega
 obtain ⟨hi1, hi2, hi3⟩ := hH i hi
 refine ae ?_
 refine ak ?_
 refine aA rfl ?_
 refine aH ?_
 refine ak ?_
 refine ap ?_
 refine aR ?_
 refine ap ?_
 refine c5 13 rfl mixed ?_
 refine ax (i := 0) rfl ah (aF eG rfl) av av rfl (aa (ao (aa (au (ao (aa ar)))))) (by kernel_rfl) rfl ?_
 refine ax (i := 1) rfl ah (aM 0 ck rfl rfl rfl rfl) av av rfl (aa (ao (aa (au (ao (aa ar)))))) (by kernel_rfl) rfl ?_
 refine ax (i := 2) rfl ah (aj rfl) av av rfl (aa (ao (aa (au (ao (aa ar)))))) (by kernel_rfl) rfl ?_
 refine ax (i := 3) rfl ah (aj rfl) av av rfl (aa (ao (aa (au (ao (aa ar)))))) (by kernel_rfl) rfl ?_
 refine ax (i := 4) rfl ah (bq  Tryz.underlying25 bL rfl rfl (bH 1 rfl) rfl (by omega)) av av rfl (aa (ao (aa (au (ao (aa ar)))))) (by kernel_rfl) rfl ?_
 refine ax (i := 5) rfl ah (aF dy rfl) av av rfl (aa (ao (aa (au (ao (aa ar)))))) (by kernel_rfl) rfl ?_
 refine ax (i := 6) rfl ah (gZ 1 dd cV aO rfl (bH 1 rfl) (by omega) rfl rfl rfl) av av rfl (aa (ao (aa (au (ao (aa ar)))))) (by kernel_rfl) rfl ?_
 refine cu (i := 7) rfl rfl rfl (bf rfl ent_105) (by kernel_rfl) rfl ?_
 refine o_callr0 rfl ent_105 rfl (c_ref05Index rg (hs.getD i cV).ad hr hi1.2.1) (fun w hw => a8) (fun oi => ?_)
 refine ae ?_
 refine bz av ?_
 refine ax (i := 8) rfl ah (aj rfl) av av rfl (aa (ao (aa (au (ao (aa ar)))))) (by kernel_rfl) rfl ?_
 refine ax (i := 9) rfl ah (aI rfl rfl) av av rfl (aa (ao (aa (au (ao (aa ar)))))) (by kernel_rfl) rfl ?_
 refine ax (i := 10) rfl ah (aI rfl rfl) av av rfl (aa (ao (aa (au (ao (aa ar)))))) (by kernel_rfl) rfl ?_
 refine fx (t := 26) (.bool true) rfl (congrArg Value.bool hi1.1) ?_
 refine ax (i := 11) rfl ah (ai rfl) av av rfl (aa (ao (aa (au (ao (aa ar)))))) (by kernel_rfl) rfl ?_
 refine ax (i := 12) rfl ah (ai rfl) av av rfl (aa (ao (aa (au (ao (aa ar)))))) (by kernel_rfl) rfl ?_
 refine cm (by kernel_rfl) ?_
 refine ak ?_
 refine ap ?_
 refine ap ?_
 refine ab ?_
 refine aq (ai rfl) rfl rfl ?_
 refine ae ?_
 refine ak ?_
 refine aR ?_
 refine bY (σ := Nat) [7, 8, 27, 28, 29, 30, 31, 32, 33, 34, 35, 36, 37, 38, 39, 40, 41, 42, 43, 44, 45, 46, 47, 48] (fun k => k ≤ res.length) (fun k => res.length - k) (fun k => [(8, .int .i64 k), (7, .bool true)]) (0) ?_ ⟨rfl, rfl, trivial⟩ (fun k hI => ?_)
 exact Nat.zero_le _
 refine ap ?_
 refine ap ?_
 refine ab ?_
 refine aq (aj rfl) rfl rfl ?_
 refine aq (aF eD rfl) rfl rfl ?_
 refine aq (aQ 0 gJ rfl rfl rfl) rfl rfl ?_
 refine aq (bK Tryz.underlying65 rfl) rfl rfl ?_
 refine aq (bP rfl rfl) rfl rfl ?_
 refine aG (t := 31) rfl (fun h6_4 => ?_) (fun h6_4 => ?_)
 have hk : k < res.length := by omega
 refine ae ?_
 refine ak ?_
 refine aA rfl ?_
 refine aH ?_
 refine ak ?_
 refine ap ?_
 refine aR ?_
 refine c5 16 rfl mixed ?_
 refine ax (i := 0) rfl ah (aj rfl) av av rfl (ao (aa (au (ao (aa (ao (aa (au (ao (aa ar)))))))))) (by kernel_rfl) rfl ?_
 refine ax (i := 1) rfl ah (aj rfl) av av rfl (ao (aa (au (ao (aa (ao (aa (au (ao (aa ar)))))))))) (by kernel_rfl) rfl ?_
 refine ax (i := 2) rfl (aB rfl rfl) (aF eD rfl) av av rfl (ao (aa (au (ao (aa (ao (aa (au (ao (aa ar)))))))))) (by kernel_rfl) rfl ?_
 refine ax (i := 3) rfl (aB rfl rfl) (aQ 0 gJ rfl rfl rfl) av av rfl (ao (aa (au (ao (aa (ao (aa (au (ao (aa ar)))))))))) (by kernel_rfl) rfl ?_
 refine ax (i := 4) rfl (aB rfl rfl) (aj rfl) av av rfl (ao (aa (au (ao (aa (ao (aa (au (ao (aa ar)))))))))) (by kernel_rfl) rfl ?_
 refine ax (i := 5) rfl (aB rfl rfl) (bq  Tryz.underlying65 ck rfl rfl (bH 0 rfl) rfl (by omega)) av av rfl (ao (aa (au (ao (aa (ao (aa (au (ao (aa ar)))))))))) (by kernel_rfl) rfl ?_
 refine ax (i := 6) rfl (aB rfl rfl) (fN gn rg0 ck rfl (bH 0 rfl) (by omega) rfl rfl rfl) av av rfl (ao (aa (au (ao (aa (ao (aa (au (ao (aa ar)))))))))) (by kernel_rfl) rfl ?_
 refine ax (i := 7) rfl (aB rfl rfl) (aj rfl) av av rfl (ao (aa (au (ao (aa (ao (aa (au (ao (aa ar)))))))))) (by kernel_rfl) rfl ?_
 refine ax (i := 8) rfl (aB rfl rfl) (aj rfl) av av rfl (ao (aa (au (ao (aa (ao (aa (au (ao (aa ar)))))))))) (by kernel_rfl) rfl ?_
 refine ax (i := 9) rfl (aB rfl rfl) (bq  Tryz.underlying25 bL rfl rfl (bH 1 rfl) rfl (by omega)) av av rfl (ao (aa (au (ao (aa (ao (aa (au (ao (aa ar)))))))))) (by kernel_rfl) rfl ?_
 refine ax (i := 10) rfl (aB rfl rfl) (aF dy rfl) av av rfl (ao (aa (au (ao (aa (ao (aa (au (ao (aa ar)))))))))) (by kernel_rfl) rfl ?_
 refine ax (i := 11) rfl (aB rfl rfl) (gZ 1 dd cV aO rfl (bH 1 rfl) (by omega) rfl rfl rfl) av av rfl (ao (aa (au (ao (aa (ao (aa (au (ao (aa ar)))))))))) (by kernel_rfl) rfl ?_
 refine cu (i := 12) rfl rfl rfl (bf rfl ent_94) (by kernel_rfl) rfl ?_
 refine aw rfl rfl ?_
 refine aV rfl ent_94 (g6 (res.getD k rg0) (hs.getD i cV).ad (hrs _ (bc hk)).1 hi1.2.1) rfl ?_
 refine ae ?_
 refine bz av ?_
 refine fx (t := 46) (.bool false) rfl (congrArg Value.bool (hi1.2.2 _ (bc hk))) ?_
 refine ax (i := 13) rfl (aB rfl rfl) (bF rfl) av av rfl (ao (aa (au (ao (aa (ao (aa (au (ao (aa ar)))))))))) (by kernel_rfl) rfl ?_
 refine ax (i := 14) rfl ah (aS rfl rfl) av av rfl (ao (aa (au (ao (aa (ao (aa (au (ao (aa ar)))))))))) (by kernel_rfl) rfl ?_
 refine ax (i := 15) rfl ah (ai rfl) av av rfl (ao (aa (au (ao (aa (ao (aa (au (ao (aa ar)))))))))) (by kernel_rfl) rfl ?_
 refine cm (by kernel_rfl) ?_
 refine bo ?_
 refine ak ?_
 refine ab ?_
 refine aq (aj rfl) rfl rfl ?_
 refine aq (bd rfl rfl (by omega) (by omega)) rfl rfl ?_
 refine aq (ai rfl) rfl rfl ?_
 refine ae ?_
 refine bj (k + 1) ?_ ?_ ⟨rfl, rfl, trivial⟩ (by repeat (first | exact trivial | refine ⟨rfl, ?_⟩)) av
 show k + 1 ≤ _
 omega
 omega
 refine ae ?_
 refine ak ?_
 refine ay rfl ?_
 refine bE ?_
 refine aZ ?_
 refine aY ?_
 refine a7 ?_
 refine ak ?_
 refine ap ?_
 refine ap ?_
 refine ab ?_
 refine aq (ai rfl) rfl rfl ?_
 refine ae ?_
 refine ak ?_
 refine aR ?_
 refine bY (σ := Nat) [7, 9, 49, 50, 51, 52, 53, 54, 55, 56, 57, 58, 59, 60, 61, 62, 63, 64, 65, 66, 67, 68, 69, 70, 71, 72, 73, 74, 75, 76, 77, 78, 79, 80, 81] (fun k => k ≤ i) (fun k => i - k) (fun k => [(9, .int .i64 k), (7, .bool true)]) (0) ?_ ⟨rfl, rfl, trivial⟩ (fun k hI => ?_)
 exact Nat.zero_le _
 refine ap ?_
 refine ap ?_
 refine ab ?_
 refine aq (aj rfl) rfl rfl ?_
 refine aq (aj rfl) rfl rfl ?_
 refine aq (bP rfl rfl) rfl rfl ?_
 refine aG (t := 51) rfl (fun h10_2 => ?_) (fun h10_2 => ?_)
 have hk : k < i := by omega
 refine ae ?_
 refine ak ?_
 refine aA rfl ?_
 refine aH ?_
 refine ak ?_
 refine ap ?_
 refine aR ?_
 refine c5 29 rfl mixed ?_
 refine ax (i := 0) rfl ah (aj rfl) av av rfl (ao (aa (au (ao (aa (ao (aa (au (ao (aa ar)))))))))) (by kernel_rfl) rfl ?_
 refine ax (i := 1) rfl ah (aj rfl) av av rfl (ao (aa (au (ao (aa (ao (aa (au (ao (aa ar)))))))))) (by kernel_rfl) rfl ?_
 refine ax (i := 2) rfl (aB rfl rfl) (aj rfl) av av rfl (ao (aa (au (ao (aa (ao (aa (au (ao (aa ar)))))))))) (by kernel_rfl) rfl ?_
 refine ax (i := 3) rfl (aB rfl rfl) (aj rfl) av av rfl (ao (aa (au (ao (aa (ao (aa (au (ao (aa ar)))))))))) (by kernel_rfl) rfl ?_
 refine ax (i := 4) rfl (aB rfl rfl) (bq  Tryz.underlying25 bL rfl rfl (bH 1 rfl) rfl (by omega)) av av rfl (ao (aa (au (ao (aa (ao (aa (au (ao (aa ar)))))))))) (by kernel_rfl) rfl ?_
 refine ax (i := 5) rfl (aB rfl rfl) (aF dy rfl) av av rfl (ao (aa (au (ao (aa (ao (aa (au (ao (aa ar)))))))))) (by kernel_rfl) rfl ?_
 refine ax (i := 6) rfl (aB rfl rfl) (gZ 1 dd cV aO rfl (bH 1 rfl) (by omega) rfl rfl rfl) av av rfl (ao (aa (au (ao (aa (ao (aa (au (ao (aa ar)))))))))) (by kernel_rfl) rfl ?_
 refine ax (i := 7) rfl (aB rfl rfl) (aj rfl) av av rfl (ao (aa (au (ao (aa (ao (aa (au (ao (aa ar)))))))))) (by kernel_rfl) rfl ?_
 refine ax (i := 8) rfl (aB rfl rfl) (aj rfl) av av rfl (ao (aa (au (ao (aa (ao (aa (au (ao (aa ar)))))))))) (by kernel_rfl) rfl ?_
 refine ax (i := 9) rfl (aB rfl rfl) (bq  Tryz.underlying25 bL rfl rfl (bH 1 rfl) rfl (by omega)) av av rfl (ao (aa (au (ao (aa (ao (aa (au (ao (aa ar)))))))))) (by kernel_rfl) rfl ?_
 refine ax (i := 10) rfl (aB rfl rfl) (aF dy rfl) av av rfl (ao (aa (au (ao (aa (ao (aa (au (ao (aa ar)))))))))) (by kernel_rfl) rfl ?_
 refine ax (i := 11) rfl (aB rfl rfl) (gZ 1 dd cV aO rfl (bH 1 rfl) (by omega) rfl rfl rfl) av av rfl (ao (aa (au (ao (aa (ao (aa (au (ao (aa ar)))))))))) (by kernel_rfl) rfl ?_
 refine ax (i := 12) rfl (aB rfl rfl) (gw (by kernel_rfl) rfl rfl (fW _ _) rfl) av av rfl (ao (aa (au (ao (aa (ao (aa (au (ao (aa ar)))))))))) (by kernel_rfl) rfl ?_
 refine wu_at (t := 66) rfl (hi3 k hk).1 ?_
 refine ax (i := 13) rfl ah (aS rfl rfl) av av rfl (ao (aa (au (ao (aa (ao (aa (au (ao (aa ar)))))))))) (by kernel_rfl) rfl ?_
 refine ax (i := 14) rfl ah (aj rfl) av av rfl (ao (aa (au (ao (aa (ao (aa (au (ao (aa ar)))))))))) (by kernel_rfl) rfl ?_
 refine ax (i := 15) rfl (aB rfl rfl) (aj rfl) av av rfl (ao (aa (au (ao (aa (ao (aa (au (ao (aa ar)))))))))) (by kernel_rfl) rfl ?_
 refine ax (i := 16) rfl (aB rfl rfl) (aj rfl) av av rfl (ao (aa (au (ao (aa (ao (aa (au (ao (aa ar)))))))))) (by kernel_rfl) rfl ?_
 refine ax (i := 17) rfl (aB rfl rfl) (bq  Tryz.underlying25 bL rfl rfl (bH 1 rfl) rfl (by omega)) av av rfl (ao (aa (au (ao (aa (ao (aa (au (ao (aa ar)))))))))) (by kernel_rfl) rfl ?_
 refine ax (i := 18) rfl (aB rfl rfl) (aF eT rfl) av av rfl (ao (aa (au (ao (aa (ao (aa (au (ao (aa ar)))))))))) (by kernel_rfl) rfl ?_
 refine ax (i := 19) rfl (aB rfl rfl) (bu dd cV bC rfl (bH 1 rfl) (by omega) rfl rfl) av av rfl (ao (aa (au (ao (aa (ao (aa (au (ao (aa ar)))))))))) (by kernel_rfl) rfl ?_
 refine ax (i := 20) rfl (aB rfl rfl) (aj rfl) av av rfl (ao (aa (au (ao (aa (ao (aa (au (ao (aa ar)))))))))) (by kernel_rfl) rfl ?_
 refine ax (i := 21) rfl (aB rfl rfl) (aj rfl) av av rfl (ao (aa (au (ao (aa (ao (aa (au (ao (aa ar)))))))))) (by kernel_rfl) rfl ?_
 refine ax (i := 22) rfl (aB rfl rfl) (bq  Tryz.underlying25 bL rfl rfl (bH 1 rfl) rfl (by omega)) av av rfl (ao (aa (au (ao (aa (ao (aa (au (ao (aa ar)))))))))) (by kernel_rfl) rfl ?_
 refine ax (i := 23) rfl (aB rfl rfl) (aF eT rfl) av av rfl (ao (aa (au (ao (aa (ao (aa (au (ao (aa ar)))))))))) (by kernel_rfl) rfl ?_
 refine ax (i := 24) rfl (aB rfl rfl) (bu dd cV bC rfl (bH 1 rfl) (by omega) rfl rfl) av av rfl (ao (aa (au (ao (aa (ao (aa (au (ao (aa ar)))))))))) (by kernel_rfl) rfl ?_
 refine cu (i := 25) rfl rfl rfl (bf rfl ent_46) (by kernel_rfl) rfl ?_
 refine aw rfl rfl ?_
 refine aV rfl ent_46 (eC _ _ (by have := (hH k (by omega)).2.1; omega) (by omega)) rfl ?_
 refine ae ?_
 refine bz av ?_
 refine fx (t := 79) (.bool false) rfl (congrArg Value.bool (hi3 k hk).2) ?_
 refine ax (i := 26) rfl (aB rfl rfl) (bF rfl) av av rfl (ao (aa (au (ao (aa (ao (aa (au (ao (aa ar)))))))))) (by kernel_rfl) rfl ?_
 refine ax (i := 27) rfl ah (aS rfl rfl) av av rfl (ao (aa (au (ao (aa (ao (aa (au (ao (aa ar)))))))))) (by kernel_rfl) rfl ?_
 refine ax (i := 28) rfl ah (ai rfl) av av rfl (ao (aa (au (ao (aa (ao (aa (au (ao (aa ar)))))))))) (by kernel_rfl) rfl ?_
 refine cm (by kernel_rfl) ?_
 refine bo ?_
 refine ak ?_
 refine ab ?_
 refine aq (aj rfl) rfl rfl ?_
 refine aq (bd rfl rfl (by omega) (by omega)) rfl rfl ?_
 refine aq (ai rfl) rfl rfl ?_
 refine ae ?_
 refine bj (k + 1) ?_ ?_ ⟨rfl, rfl, trivial⟩ (by repeat (first | exact trivial | refine ⟨rfl, ?_⟩)) av
 show k + 1 ≤ _
 omega
 omega
 refine ae ?_
 refine ak ?_
 refine ay rfl ?_
 refine bE ?_
 refine aZ ?_
 refine aY ?_
 refine a7 ?_
 refine ak ?_
 refine ap ?_
 refine ab ?_
 refine aq (aj rfl) rfl rfl ?_
 refine aq (bF rfl) rfl rfl ?_
 refine ae ?_
 refine ak ?_
 refine ay rfl ?_
 refine aH ?_
 refine bo ?_
 refine ak ?_
 refine ab ?_
 refine aq (aj rfl) rfl rfl ?_
 refine aq (bd rfl rfl (by omega) (by omega)) rfl rfl ?_
 refine aq (ai rfl) rfl rfl ?_
 refine ae ?_
 refine bj (i + 1) ?_ ?_ ⟨rfl, trivial⟩ (by repeat (first | exact trivial | refine ⟨rfl, ?_⟩)) av
 show i + 1 ≤ _
 omega
 omega
 refine ae ?_
 refine ak ?_
 refine ay rfl ?_
 refine bE ?_
 refine aZ ?_
 refine aY ?_
 refine a7 ?_
 refine ak ?_
 refine ap ?_
 refine ab ?_
 refine aq (ai rfl) rfl rfl ?_
 refine ae ?_
 refine ak ?_
 refine aJ ?_
 refine aN (ts := [4]) rfl rfl rfl (fun w hw => ?_)
 exact ⟨(), rfl, hw.base, (hw.weak (List.nil_sublist _) (fun s hs => hs)).toNews⟩

set_option maxRecDepth 100000 in
set_option maxHeartbeats 4000000 in
theorem c_VipsHolds (rg : Rg) (res : List Rg) (A : Option Addr) (c : Nat) (hr : RgOk rg) (hrs : ∀ x ∈ res, RgOk x) (hres : res.length ≤ 9223372036854775807) (rows : List Nr) (R : Option Addr) (rc : Nat) (hrl : rows.length ≤ 9223372036854775807) (hrb : ∀ q ∈ rows, q.1.length ≤ 9223372036854775807 ∧ ∀ s ∈ q.1, s.length ≤ 9223372036854775807) : RC Tryz.prog 6 #[.agg (plC rg A res.length c).toArray, .slice R rows.length rc] [Ch.rd A 4 ea res, Ch.rd R 1 nrC rows, Ch.rall (rows.flatMap nrR)] (α := Unit) (fun _ => .bool true) (fun _ => []) := by
 refine bp (args := [.agg (plC rg A res.length c).toArray, .slice R rows.length rc]) 217 Tryz.func6 rfl rfl rfl (fun w0 => ?_)
 rcases Decidable.em (f5 (rg :: res) = 0) with hT | hT
 have hz9 : cC rg = 0 := cks_head hT
 refine ap ?_
 refine ab ?_
 refine bI rfl rfl rfl (fun b1 => ?_)
 refine aq (ai rfl) rfl rfl ?_
 refine ae ?_
 refine ak ?_
 refine ap ?_
 refine ap ?_
 refine ab ?_
 refine aV rfl ent_30 c_lives14 rfl ?_
 refine bZ (t := 21) (.bool true) rfl (congrArg Value.bool rfl) ?_
 refine aq (bF rfl) rfl rfl ?_
 refine ae ?_
 refine ak ?_
 refine ay rfl ?_
 refine aH ?_
 refine ak ?_
 refine ap ?_
 refine ap ?_
 refine ab ?_
 refine aq (aj rfl) rfl rfl ?_
 refine aq (bK Tryz.underlying83 rfl) rfl rfl ?_
 refine aq (dO rfl rfl) rfl rfl ?_
 refine aG (t := 25) rfl (fun h3_2 => ?_) (fun h3_2 => ?_)
 refine aq (aj rfl) rfl rfl ?_
 refine aK rfl rfl rfl rfl ?_
 refine aK rfl rfl rfl rfl ?_
 refine aK rfl rfl rfl rfl ?_
 refine aq (aS rfl rfl) rfl rfl ?_
 refine ae ?_
 refine ak ?_
 refine aA rfl ?_
 refine ap ?_
 refine ab ?_
 refine aq (ai rfl) rfl rfl ?_
 refine ae ?_
 refine ak ?_
 refine aJ ?_
 refine aC ?_
 refine aN (ts := [4]) rfl rfl rfl (fun w hw => ?_)
 exact ⟨(), rfl, hw.base, (hw.weak (List.nil_sublist _) (fun s hs => hs)).toNews⟩
 refine aq (aj rfl) rfl rfl ?_
 refine aw rfl rfl ?_
 refine aq (aM 0 fG rfl rfl rfl rfl) rfl rfl ?_
 refine aw rfl rfl ?_
 refine bh rfl ent_32 rfl (c_light14 rg res.length A c [] none 0 hr.1 hres (by decide)) (fun w hw => (aP (rd_none) (aP (rd_rall nofun) a8))) ?_
 refine bi (t := 28) rfl (fun h3_5 => ?_) (fun h3_5 => ?_)
 have hl6 := light_nil h3_5
 have hlb : res.length ≤ 1000000000000 := by omega
 have hfr := free_le rg res
 refine aw rfl rfl ?_
 refine aq (bF rfl) rfl rfl ?_
 refine aq (aL rfl rfl) rfl rfl ?_
 refine ae ?_
 refine ak ?_
 refine ay rfl ?_
 refine aH ?_
 refine ak ?_
 refine ap ?_
 refine ab ?_
 refine aq (aM 0 fG rfl rfl rfl rfl) rfl rfl ?_
 refine o_callr3 rfl ent_31 rfl (c_vNew rg res A c hr hrs hlb hT) (fun w hw => (aP (ce 0 rfl hw) a8)) (fun ⟨x, hx⟩ => ?_)
 refine di (fun w h => h.f1.toRdV.f1.freeze) ?_
 refine aq (aj rfl) rfl rfl ?_
 refine aq (aI rfl rfl) rfl rfl ?_
 refine aq (aI rfl rfl) rfl rfl ?_
 refine aq (ai rfl) rfl rfl ?_
 refine aq (ai rfl) rfl rfl ?_
 refine ae ?_
 refine ak ?_
 refine ap ?_
 refine ap ?_
 refine ab ?_
 refine aq (aj rfl) rfl rfl ?_
 refine aq (ct rfl rfl) rfl rfl ?_
 refine ey (t := 37) rfl (fun h => h rfl) ?_
 refine aq (aj rfl) rfl rfl ?_
 refine aw rfl rfl ?_
 refine aq (aj rfl) rfl rfl ?_
 refine aw rfl rfl ?_
 refine aq (gv Tryz.underlying68 rfl rfl) rfl rfl ?_
 refine bZ (t := 40) (.bool false) rfl (congrArg Value.bool rfl) ?_
 refine aq (aL rfl rfl) rfl rfl ?_
 refine ae ?_
 refine ak ?_
 refine ay rfl ?_
 refine aH ?_
 refine ak ?_
 refine ap ?_
 refine ab ?_
 refine aq (aF eG rfl) rfl rfl ?_
 refine aq (aM 1 ck rfl rfl rfl rfl) rfl rfl ?_
 refine aq (aF eD rfl) rfl rfl ?_
 refine aq (aQ 1 gJ rfl rfl rfl) rfl rfl ?_
 refine bh rfl ent_33 rfl (c_ref05Free rg res A c hr hrs hlb) (fun w hw => (aP (ce 2 rfl hw) a8)) ?_
 refine aq (ai rfl) rfl rfl ?_
 refine ae ?_
 refine ak ?_
 refine ap ?_
 refine ap ?_
 refine ab ?_
 refine aq (ai rfl) rfl rfl ?_
 refine ae ?_
 refine ak ?_
 refine aR ?_
 refine d5 (σ := Nat × Hm) [4, 8, 9, 10, 11, 12, 13, 14, 15, 16, 17, 18, 19, 20, 55, 56, 57, 58, 59, 60, 61, 62, 63, 64, 65, 66, 67, 68, 69, 70, 71, 72, 73, 74, 75, 76, 77, 78, 79, 80, 81, 82, 83, 84, 85, 86, 87, 88, 89, 90, 91, 92, 93, 94, 95, 96, 97, 98, 99, 100, 101, 102, 103, 104, 105, 106, 107, 108, 109, 110, 111, 112, 113, 114, 115, 116, 117, 118, 119, 120, 121, 122, 123, 124, 125, 126, 127, 128, 129, 130, 131, 132, 133, 134, 135, 136, 137, 138, 139, 140, 141, 142, 143, 144, 145, 146, 147, 148, 149, 150, 151, 152, 153, 154, 155, 156, 157, 158, 159, 160, 161, 162, 163, 164, 165, 166, 167, 168, 169, 170, 171, 172, 173, 174, 175, 176, 177, 178, 179, 180, 181, 182, 183, 184, 185, 186, 187, 188, 189, 190, 191, 192, 193, 194, 195, 196, 197, 198, 199, 200, 201, 202, 203, 204, 205, 206, 207, 208, 209, 210, 211, 212, 213, 214, 215, 216] (fun q => q.1 ≤ rows.length ∧ HInv (vR rg res) q.2) (fun q => rows.length - q.1) (fun q => [(8, .int .i64 q.1)]) (fun q => vmC x q.2 (cg q.2)) ((0, [])) ?_ ⟨rfl, trivial⟩ rfl (fun q hI => ?_)
 exact ⟨Nat.zero_le _, HInv.nil⟩
 obtain ⟨i, hm⟩ := q
 dsimp only at hI ⊢
 refine ap ?_
 refine ap ?_
 refine ab ?_
 refine aq (aj rfl) rfl rfl ?_
 refine aq (aj rfl) rfl rfl ?_
 refine aq (bK Tryz.underlying83 rfl) rfl rfl ?_
 refine aq (bP rfl rfl) rfl rfl ?_
 refine aG (t := 58) rfl (fun h10_3 => ?_) (fun h10_3 => ?_)
 have hi : i < rows.length := by omega
 refine ae ?_
 refine ak ?_
 refine aA rfl ?_
 refine aH ?_
 refine ak ?_
 refine ap ?_
 refine aR ?_
 refine ap ?_
 refine ap ?_
 refine c5 9 rfl mixed ?_
 refine ax (i := 0) rfl ah (aM 1 fG rfl rfl rfl rfl) av av rfl (aa (aa (ao (aa (au (ao (aa ar))))))) (by kernel_rfl) rfl ?_
 refine ax (i := 1) rfl ah (aj rfl) av av rfl (aa (aa (ao (aa (au (ao (aa ar))))))) (by kernel_rfl) rfl ?_
 refine ax (i := 2) rfl ah (aj rfl) av av rfl (aa (aa (ao (aa (au (ao (aa ar))))))) (by kernel_rfl) rfl ?_
 refine ax (i := 3) rfl ah (bq  Tryz.underlying83 cj rfl rfl (bH 3 rfl) rfl (by omega)) av av rfl (aa (aa (ao (aa (au (ao (aa ar))))))) (by kernel_rfl) rfl ?_
 refine ax (i := 4) rfl ah (bu c4 dm cj rfl (bH 3 rfl) (by omega) rfl rfl) av av rfl (aa (aa (ao (aa (au (ao (aa ar))))))) (by kernel_rfl) rfl ?_
 refine ax (i := 5) rfl ah (cc rfl (bu_85_2 _ _ _)) av av rfl (aa (aa (ao (aa (au (ao (aa ar))))))) (by kernel_rfl) rfl ?_
 refine cu (i := 6) rfl rfl rfl (fun _ _ _ => bx (by kernel_rfl)) (by kernel_rfl) rfl ?_
 refine gb (vs := [_]) ([(⟨0, [], (rows.getD i dm).1, (rows.getD i dm).2.1, (rows.getD i dm).2.2, ad0⟩ : Ac)] : List (Ac)) enc_ac Tryz.underlying86 ty_85 rfl rfl rfl rfl rfl rfl (fun As3 => ?_)
 refine ae ?_
 refine bz (cr 1) ?_
 refine cu (i := 7) rfl rfl rfl (bf rfl ent_32) (by kernel_rfl) rfl ?_
 refine bh rfl ent_32 rfl (c_light14 rg res.length A c [⟨0, [], (rows.getD i dm).1, (rows.getD i dm).2.1, (rows.getD i dm).2.2, ad0⟩] _ _ hr.1 hres (Nat.le_of_ble_eq_true rfl)) (fun w hw => (aP (d9 0 rfl hw) (aP (rd_rall (aP (cI (ce 4 rfl hw) (List.mem_flatMap.2 ⟨_, bc (d := dm) hi, .head _⟩)) a8)) a8))) ?_
 refine ae ?_
 refine bz (cr 1) ?_
 refine fy (t := 68) rfl (fun h12_7 => ?_) (fun h12_7 => ?_)
 obtain ⟨hhl, hhb4⟩ := light_one h12_7
 dsimp only at hhl hhb4
 have hhb : ∀ n ∈ (rows.getD i dm).1, n.length ≤ 1000000000 := fun n hn => by have := hhb4 n hn; omega
 obtain ⟨⟨⟨ls, er⟩, hm2⟩, hK⟩ : ∃ r, cU (vR rg res) hm (rows.getD i dm).1 = r := ⟨_, rfl⟩
 have hI2 := keep_inv hI.2 hK
 have hlsl := lost_len14 hK
 refine ax (i := 8) rfl ah (bF rfl) (cr 1) av rfl (aa (aa (ao (aa (au (ao (aa ar))))))) (by kernel_rfl) rfl ?_
 refine cm (by kernel_rfl) ?_
 refine ak ?_
 refine ay rfl ?_
 refine aH ?_
 refine ak ?_
 refine ap ?_
 refine dp (fun w h => h.memS (List.mem_of_getElem? (i := 4) rfl) (List.mem_flatMap.2 ⟨_, bc (d := dm) hi, .head _⟩)) ?_
 refine ab ?_
 refine aq (aj rfl) rfl rfl ?_
 refine cv rfl ent_36 rfl (c_vAll x hm (by have := dE hI.2; omega)) (fun w hw => (aP (ce 1 rfl hw) (aP (dH (eu 1 rfl hw)) a8))) (fun ⟨⟨o1, Ao1, co1⟩, ho1⟩ => ?_)
 refine bZ (t := 71) (.slice Ao1 o1.length co1) rfl rfl ?_
 have ho1p : o1.Perm (hm.map (·.2)) ∧ o1.Pairwise fun a b => ¬ eR b.ad a.ad < 0 := ho1
 have hol1 : o1.length ≤ 65536 := by rw [dB ho1p.1]; exact dE hI.2
 refine aq (ai rfl) rfl rfl ?_
 refine ae ?_
 refine ak ?_
 refine ap ?_
 refine ab ?_
 refine aq (aj rfl) rfl rfl ?_
 refine aq (aj rfl) rfl rfl ?_
 refine aq (aj rfl) rfl rfl ?_
 refine aq (bq  Tryz.underlying83 cj rfl rfl (bH 4 rfl) rfl (by omega)) rfl rfl ?_
 refine aq (bu c4 dm cj rfl (bH 4 rfl) (by omega) rfl rfl) rfl rfl ?_
 refine c6 rfl ent_41 rfl (c_kE hx hr hrs hlb hK _ _ hI.2.inv (by have := dE hI.2; omega) hhb) (fun o => (.s (.s (.z)))) (List.mem_of_getElem? (i := 2) rfl) (fun s hs => sub3 (List.mem_of_getElem? (i := 1) rfl) (List.mem_of_getElem? (i := 2) rfl) (List.mem_of_getElem? (i := 0) rfl) hs) (fun ⟨Aa, ca⟩ => ?_)
 refine di (fun w h => h.f2.untwo) ?_
 refine aq (aj rfl) rfl rfl ?_
 refine aq (aI rfl rfl) rfl rfl ?_
 refine aq (aI rfl rfl) rfl rfl ?_
 refine aq (ai rfl) rfl rfl ?_
 refine aq (ai rfl) rfl rfl ?_
 refine ae ?_
 refine ak ?_
 refine ap ?_
 refine ap ?_
 refine ab ?_
 refine aq (aj rfl) rfl rfl ?_
 refine aq (ct rfl rfl) rfl rfl ?_
 refine aG (t := 82) rfl (fun h16_1 => ?_) (fun h16_1 => ?_)
 obtain rfl := keep_err hK h16_1
 refine ae ?_
 refine ak ?_
 refine aA rfl ?_
 refine ap ?_
 refine ap ?_
 refine ab ?_
 refine aq (aj rfl) rfl rfl ?_
 refine cv rfl ent_36 rfl (c_vAll x hm2 (by have := dE hI2; omega)) (fun w hw => (aP (ce 1 rfl hw) (aP (dH (eu 0 rfl hw)) a8))) (fun ⟨⟨o2, Ao2, co2⟩, ho2⟩ => ?_)
 refine bZ (t := 84) (.slice Ao2 o2.length co2) rfl rfl ?_
 have ho2p : o2.Perm (hm2.map (·.2)) ∧ o2.Pairwise fun a b => ¬ eR b.ad a.ad < 0 := ho2
 have hol2 : o2.length ≤ 65536 := by rw [dB ho2p.1]; exact dE hI2
 refine aq (aj rfl) rfl rfl ?_
 refine bh rfl ent_42 rfl (c_kit_Same_hd o2 o1 _ _ _ _ (by rw [dB ho2p.1]; have := dE hI2; omega)) (fun w hw => (aP (d9 0 rfl hw) (aP (d9 3 rfl hw) a8))) ?_
 refine bZ (t := 86) (.bool true) rfl (congrArg Value.bool (decide_eq_true (all_same hI2.inv ho2p ho1p))) ?_
 refine aq (bF rfl) rfl rfl ?_
 refine ae ?_
 refine ak ?_
 refine ay rfl ?_
 refine aH ?_
 refine ak ?_
 refine bE ?_
 refine aZ ?_
 refine a7 ?_
 refine ak ?_
 refine ab ?_
 refine aq (aj rfl) rfl rfl ?_
 refine aq (bd rfl rfl (by omega) (by omega)) rfl rfl ?_
 refine aq (ai rfl) rfl rfl ?_
 refine ae ?_
 refine bj ((i + 1, hm2)) ?_ ?_ ⟨rfl, trivial⟩ (by repeat (first | exact trivial | refine ⟨rfl, ?_⟩)) (fun w h => (h.weak (.cons _ (.cons_cons _ (.cons _ (.cons _ (.cons _ (.cons_cons _ .slnil)))))) (fun s hs => .tail _ (hs))).f1.f1)
 exact ⟨by show i + 1 ≤ _; omega, hI2⟩
 show rows.length - (i + 1) < rows.length - i
 omega
 refine ae ?_
 refine ak ?_
 refine ay rfl ?_
 refine aH ?_
 refine ak ?_
 refine ap ?_
 have hI9 := hI.2
 have hlsb : ∀ x ∈ ls, x.length ≤ 1000000000 := lost_bnd hK h16_1 hhb
 refine ab ?_
 refine aq (aj rfl) rfl rfl ?_
 refine cv rfl ent_36 rfl (c_vAll x hm2 (by have := dE hI2; omega)) (fun w hw => (aP (ce 1 rfl hw) (aP (dH (eu 0 rfl hw)) a8))) (fun ⟨⟨o2, Ao2, co2⟩, ho2⟩ => ?_)
 refine bZ (t := 89) (.slice Ao2 o2.length co2) rfl rfl ?_
 have ho2p : o2.Perm (hm2.map (·.2)) ∧ o2.Pairwise fun a b => ¬ eR b.ad a.ad < 0 := ho2
 have hol2 : o2.length ≤ 65536 := by rw [dB ho2p.1]; exact dE hI2
 refine aq (ai rfl) rfl rfl ?_
 refine ae ?_
 refine ak ?_
 refine ap ?_
 refine ap ?_
 refine ab ?_
 refine aq (aM 5 fG rfl rfl rfl rfl) rfl rfl ?_
 refine aq (aj rfl) rfl rfl ?_
 refine bh rfl ent_39 rfl (c_holds14 rg res A c o2 _ _ hr hrs hlb (by rw [dB ho2p.1]; have := dE hI2; omega) (held_g hI2 hr hz9 ho2p.1)) (fun w hw => (aP (ce 3 rfl hw) (aP (d9 0 rfl hw) a8))) ?_
 refine bZ (t := 92) (.bool true) rfl (congrArg Value.bool rfl) ?_
 refine aq (bF rfl) rfl rfl ?_
 refine aq (aj rfl) rfl rfl ?_
 refine aw rfl rfl ?_
 refine aq (aj rfl) rfl rfl ?_
 refine aw rfl rfl ?_
 refine aq (bK Tryz.underlying25 rfl) rfl rfl ?_
 refine aw rfl rfl ?_
 refine aq (aj rfl) rfl rfl ?_
 refine aw rfl rfl ?_
 refine aq (dO rfl rfl) rfl rfl ?_
 refine ey (t := 98) rfl (by rw [dB ho2p.1]; have := hI2.len; show ¬ ((du rg res : Nat) : Int) < _; have h9 : hm2.length ≤ du rg res := hI2.len; omega) ?_
 refine aq (aL rfl rfl) rfl rfl ?_
 refine aq (aj rfl) rfl rfl ?_
 refine aw rfl rfl ?_
 refine aq (aj rfl) rfl rfl ?_
 refine aw rfl rfl ?_
 refine bh rfl ent_35 rfl (c_vFree x hm2 (new_ok hr hrs hlb hx) (by have := dE hI2; omega)) (fun w hw => (aP (ce 1 rfl hw) (aP (dH (eu 1 rfl hw)) a8))) ?_
 refine aw rfl rfl ?_
 refine aq (aj rfl) rfl rfl ?_
 refine aw rfl rfl ?_
 refine aq (aj rfl) rfl rfl ?_
 refine aw rfl rfl ?_
 refine aq (bK Tryz.underlying25 rfl) rfl rfl ?_
 refine aw rfl rfl ?_
 refine aq (ga rfl rfl (by omega) (by omega)) rfl rfl ?_
 refine aw rfl rfl ?_
 refine aq (ct rfl rfl) rfl rfl ?_
 refine ey (t := 107) rfl (fun h => h (by rw [hx.2.2, dB ho2p.1])) ?_
 refine aq (aL rfl rfl) rfl rfl ?_
 refine aq (aj rfl) rfl rfl ?_
 refine aw rfl rfl ?_
 refine aq (aj rfl) rfl rfl ?_
 refine aw rfl rfl ?_
 refine aq (bK Tryz.underlying59 rfl) rfl rfl ?_
 refine aw rfl rfl ?_
 refine aq (dO rfl rfl) rfl rfl ?_
 refine aG (t := 112) rfl (fun h20_22 => ?_) (fun h20_22 => ?_)
 refine aw rfl rfl ?_
 refine aq (aj rfl) rfl rfl ?_
 refine aw rfl rfl ?_
 refine aq (aj rfl) rfl rfl ?_
 refine aw rfl rfl ?_
 refine aq (bK Tryz.underlying25 rfl) rfl rfl ?_
 refine aw rfl rfl ?_
 refine aq (aj rfl) rfl rfl ?_
 refine aw rfl rfl ?_
 refine aq (ct rfl rfl) rfl rfl ?_
 refine ey (t := 117) rfl (fun h => h (by rw [dB ho2p.1]; exact congrArg Int.ofNat (keep_full hK h16_1 hI2 hr hz9 rfl (by omega)))) ?_
 refine aw rfl rfl ?_
 refine aq (aS rfl rfl) rfl rfl ?_
 refine aq (aL rfl rfl) rfl rfl ?_
 refine ae ?_
 refine ak ?_
 refine ay rfl ?_
 refine aH ?_
 refine ak ?_
 refine ap ?_
 refine ap ?_
 have hr9 := dB ho2p.1
 refine ab ?_
 refine aq (ai rfl) rfl rfl ?_
 refine ae ?_
 refine ak ?_
 refine aR ?_
 refine bY (σ := Nat) [4, 13, 14, 15, 120, 121, 122, 123, 124, 125, 126, 127, 128, 129, 130, 131, 132, 133, 134, 135, 136, 137, 138, 139, 140, 141, 142, 143, 144, 145, 146, 147, 148, 149, 150, 151, 152, 153, 154, 155, 156, 157, 158, 159] (fun k => k ≤ o1.length) (fun k => o1.length - k) (fun k => [(13, .int .i64 k)]) (0) ?_ ⟨rfl, trivial⟩ (fun k hI => ?_)
 exact Nat.zero_le _
 refine ap ?_
 refine ap ?_
 refine ab ?_
 refine aq (aj rfl) rfl rfl ?_
 refine aq (aj rfl) rfl rfl ?_
 refine aq (bK Tryz.underlying25 rfl) rfl rfl ?_
 refine aq (bP rfl rfl) rfl rfl ?_
 refine aG (t := 123) rfl (fun h23_3 => ?_) (fun h23_3 => ?_)
 have hk : k < o1.length := by omega
 obtain ⟨p9, hp9, he9⟩ := List.mem_map.1 (ho1p.1.mem_iff.1 (bc (d := cV) hk))
 have hkl : (o1.getD k cV).host.length ≤ 254 := by rw [← he9]; exact fS (hI9.inv.fold p9 hp9).2
 obtain ⟨hw1, hw2⟩ := of_was hK h16_1 hI9.inv hI2.inv hp9
 rw [he9] at hw1 hw2
 refine ae ?_
 refine ak ?_
 refine aA rfl ?_
 refine aH ?_
 refine ak ?_
 refine ap ?_
 refine aR ?_
 refine ap ?_
 refine ab ?_
 refine aq (aj rfl) rfl rfl ?_
 refine aq (aj rfl) rfl rfl ?_
 refine aq (aj rfl) rfl rfl ?_
 refine aq (bq  Tryz.underlying25 bL rfl rfl (cZ 3 rfl) rfl (by omega)) rfl rfl ?_
 refine aq (aF eT rfl) rfl rfl ?_
 refine aq (bu dd cV bC rfl (cZ 3 rfl) (by omega) rfl rfl) rfl rfl ?_
 refine bh rfl ent_37 rfl (c_vOf x hm2 (o1.getD k cV).host (by omega)) (fun w hw => (aP (ce 1 rfl hw) (aP (dH (eu 1 rfl hw)) a8))) ?_
 refine aq (aj rfl) rfl rfl ?_
 refine aq (aI rfl rfl) rfl rfl ?_
 refine aq (aI rfl rfl) rfl rfl ?_
 refine bi (t := 135) rfl (fun h25_9 => ?_) (fun h25_9 => ?_)
 refine br aO rfl rfl (fun b8 => ?_)
 refine aW aO rfl rfl rfl .z rfl rfl rfl rfl ?_
 refine aq (ai rfl) rfl rfl ?_
 refine ae ?_
 refine ak ?_
 refine ap ?_
 refine c5 24 rfl mixed ?_
 refine ax (i := 0) rfl ah (aj rfl) av av rfl (aa (ao (aa (au (ao (aa (ao (aa (au (ao (aa ar))))))))))) (by kernel_rfl) rfl ?_
 refine ax (i := 1) rfl ah (aj rfl) av av rfl (aa (ao (aa (au (ao (aa (ao (aa (au (ao (aa ar))))))))))) (by kernel_rfl) rfl ?_
 refine ax (i := 2) rfl ah (aj rfl) av av rfl (aa (ao (aa (au (ao (aa (ao (aa (au (ao (aa ar))))))))))) (by kernel_rfl) rfl ?_
 refine ax (i := 3) rfl ah (bq  Tryz.underlying83 cj rfl rfl (bH 4 rfl) rfl (by omega)) av av rfl (aa (ao (aa (au (ao (aa (ao (aa (au (ao (aa ar))))))))))) (by kernel_rfl) rfl ?_
 refine ax (i := 4) rfl ah (bu c4 dm cj rfl (bH 4 rfl) (by omega) rfl rfl) av av rfl (aa (ao (aa (au (ao (aa (ao (aa (au (ao (aa ar))))))))))) (by kernel_rfl) rfl ?_
 refine ax (i := 5) rfl ah (aj rfl) av av rfl (aa (ao (aa (au (ao (aa (ao (aa (au (ao (aa ar))))))))))) (by kernel_rfl) rfl ?_
 refine ax (i := 6) rfl ah (aj rfl) av av rfl (aa (ao (aa (au (ao (aa (ao (aa (au (ao (aa ar))))))))))) (by kernel_rfl) rfl ?_
 refine ax (i := 7) rfl ah (bq  Tryz.underlying25 bL rfl rfl (cZ 4 rfl) rfl (by omega)) av av rfl (aa (ao (aa (au (ao (aa (ao (aa (au (ao (aa ar))))))))))) (by kernel_rfl) rfl ?_
 refine ax (i := 8) rfl ah (aF eT rfl) av av rfl (aa (ao (aa (au (ao (aa (ao (aa (au (ao (aa ar))))))))))) (by kernel_rfl) rfl ?_
 refine ax (i := 9) rfl ah (bu dd cV bC rfl (cZ 4 rfl) (by omega) rfl rfl) av av rfl (aa (ao (aa (au (ao (aa (ao (aa (au (ao (aa ar))))))))))) (by kernel_rfl) rfl ?_
 refine cu (i := 10) rfl rfl rfl (bf rfl d4) (by kernel_rfl) rfl ?_
 refine bh rfl d4 rfl (db (rows.getD i dm).1 _ _ (o1.getD k cV).host hhb (by omega) (by omega)) (fun w hw => (aP (ce 0 rfl hw) a8)) ?_
 refine ae ?_
 refine bz av ?_
 refine ax (i := 11) rfl ah (y_neqb Tryz.underlying4 rfl rfl) av av rfl (aa (ao (aa (au (ao (aa (ao (aa (au (ao (aa ar))))))))))) (by kernel_rfl) rfl ?_
 refine wu_af (t := 147) rfl (fun h => h (h25_9.symm.trans hw1)) ?_
 refine ax (i := 12) rfl ah (aj rfl) av av rfl (aa (ao (aa (au (ao (aa (ao (aa (au (ao (aa ar))))))))))) (by kernel_rfl) rfl ?_
 refine ax (i := 13) rfl (aB rfl rfl) (aj rfl) av av rfl (aa (ao (aa (au (ao (aa (ao (aa (au (ao (aa ar))))))))))) (by kernel_rfl) rfl ?_
 refine ax (i := 14) rfl (aB rfl rfl) (aj rfl) av av rfl (aa (ao (aa (au (ao (aa (ao (aa (au (ao (aa ar))))))))))) (by kernel_rfl) rfl ?_
 refine ax (i := 15) rfl (aB rfl rfl) (aM 0 aO rfl rfl rfl rfl) av av rfl (aa (ao (aa (au (ao (aa (ao (aa (au (ao (aa ar))))))))))) (by kernel_rfl) rfl ?_
 refine ax (i := 16) rfl (aB rfl rfl) (aj rfl) av av rfl (aa (ao (aa (au (ao (aa (ao (aa (au (ao (aa ar))))))))))) (by kernel_rfl) rfl ?_
 refine ax (i := 17) rfl (aB rfl rfl) (aj rfl) av av rfl (aa (ao (aa (au (ao (aa (ao (aa (au (ao (aa ar))))))))))) (by kernel_rfl) rfl ?_
 refine ax (i := 18) rfl (aB rfl rfl) (bq  Tryz.underlying25 bL rfl rfl (cZ 4 rfl) rfl (by omega)) av av rfl (aa (ao (aa (au (ao (aa (ao (aa (au (ao (aa ar))))))))))) (by kernel_rfl) rfl ?_
 refine ax (i := 19) rfl (aB rfl rfl) (aF dy rfl) av av rfl (aa (ao (aa (au (ao (aa (ao (aa (au (ao (aa ar))))))))))) (by kernel_rfl) rfl ?_
 refine ax (i := 20) rfl (aB rfl rfl) (gZ 1 dd cV aO rfl (cZ 4 rfl) (by omega) rfl rfl rfl) av av rfl (aa (ao (aa (au (ao (aa (ao (aa (au (ao (aa ar))))))))))) (by kernel_rfl) rfl ?_
 refine ax (i := 21) rfl (aB rfl rfl) (gw (by kernel_rfl) rfl rfl (fW _ _) rfl) av av rfl (aa (ao (aa (au (ao (aa (ao (aa (au (ao (aa ar))))))))))) (by kernel_rfl) rfl ?_
 refine wu_af (t := 157) rfl (fun h => h (hw2 h25_9)) ?_
 refine ax (i := 22) rfl (aB rfl rfl) (aS rfl rfl) av av rfl (aa (ao (aa (au (ao (aa (ao (aa (au (ao (aa ar))))))))))) (by kernel_rfl) rfl ?_
 refine ax (i := 23) rfl ah (aL rfl rfl) av av rfl (aa (ao (aa (au (ao (aa (ao (aa (au (ao (aa ar))))))))))) (by kernel_rfl) rfl ?_
 refine cm (by kernel_rfl) ?_
 refine ak ?_
 refine ay rfl ?_
 refine aH ?_
 refine bo ?_
 refine ak ?_
 refine ab ?_
 refine aq (aj rfl) rfl rfl ?_
 refine aq (bd rfl rfl (by omega) (by omega)) rfl rfl ?_
 refine aq (ai rfl) rfl rfl ?_
 refine ae ?_
 refine bj (k + 1) ?_ ?_ ⟨rfl, trivial⟩ (by repeat (first | exact trivial | refine ⟨rfl, ?_⟩)) (cr 1)
 show k + 1 ≤ _
 omega
 omega
 refine br aO rfl rfl (fun b9 => ?_)
 refine aW aO rfl rfl rfl .z rfl rfl rfl rfl ?_
 refine aq (ai rfl) rfl rfl ?_
 refine ae ?_
 refine ak ?_
 refine ap ?_
 refine c5 24 rfl mixed ?_
 refine ax (i := 0) rfl ah (aj rfl) av av rfl (aa (ao (aa (au (ao (aa (ao (aa (au (ao (aa ar))))))))))) (by kernel_rfl) rfl ?_
 refine ax (i := 1) rfl ah (aj rfl) av av rfl (aa (ao (aa (au (ao (aa (ao (aa (au (ao (aa ar))))))))))) (by kernel_rfl) rfl ?_
 refine ax (i := 2) rfl ah (aj rfl) av av rfl (aa (ao (aa (au (ao (aa (ao (aa (au (ao (aa ar))))))))))) (by kernel_rfl) rfl ?_
 refine ax (i := 3) rfl ah (bq  Tryz.underlying83 cj rfl rfl (bH 4 rfl) rfl (by omega)) av av rfl (aa (ao (aa (au (ao (aa (ao (aa (au (ao (aa ar))))))))))) (by kernel_rfl) rfl ?_
 refine ax (i := 4) rfl ah (bu c4 dm cj rfl (bH 4 rfl) (by omega) rfl rfl) av av rfl (aa (ao (aa (au (ao (aa (ao (aa (au (ao (aa ar))))))))))) (by kernel_rfl) rfl ?_
 refine ax (i := 5) rfl ah (aj rfl) av av rfl (aa (ao (aa (au (ao (aa (ao (aa (au (ao (aa ar))))))))))) (by kernel_rfl) rfl ?_
 refine ax (i := 6) rfl ah (aj rfl) av av rfl (aa (ao (aa (au (ao (aa (ao (aa (au (ao (aa ar))))))))))) (by kernel_rfl) rfl ?_
 refine ax (i := 7) rfl ah (bq  Tryz.underlying25 bL rfl rfl (cZ 4 rfl) rfl (by omega)) av av rfl (aa (ao (aa (au (ao (aa (ao (aa (au (ao (aa ar))))))))))) (by kernel_rfl) rfl ?_
 refine ax (i := 8) rfl ah (aF eT rfl) av av rfl (aa (ao (aa (au (ao (aa (ao (aa (au (ao (aa ar))))))))))) (by kernel_rfl) rfl ?_
 refine ax (i := 9) rfl ah (bu dd cV bC rfl (cZ 4 rfl) (by omega) rfl rfl) av av rfl (aa (ao (aa (au (ao (aa (ao (aa (au (ao (aa ar))))))))))) (by kernel_rfl) rfl ?_
 refine cu (i := 10) rfl rfl rfl (bf rfl d4) (by kernel_rfl) rfl ?_
 refine bh rfl d4 rfl (db (rows.getD i dm).1 _ _ (o1.getD k cV).host hhb (by omega) (by omega)) (fun w hw => (aP (ce 0 rfl hw) a8)) ?_
 refine ae ?_
 refine bz av ?_
 refine ax (i := 11) rfl ah (y_neqb Tryz.underlying4 rfl rfl) av av rfl (aa (ao (aa (au (ao (aa (ao (aa (au (ao (aa ar))))))))))) (by kernel_rfl) rfl ?_
 refine wu_af (t := 147) rfl (fun h => h (h25_9.symm.trans hw1)) ?_
 refine ax (i := 12) rfl ah (aj rfl) av av rfl (aa (ao (aa (au (ao (aa (ao (aa (au (ao (aa ar))))))))))) (by kernel_rfl) rfl ?_
 refine ax (i := 13) rfl (aB rfl rfl) (aj rfl) av av rfl (aa (ao (aa (au (ao (aa (ao (aa (au (ao (aa ar))))))))))) (by kernel_rfl) rfl ?_
 refine ax (i := 14) rfl (aB rfl rfl) (aj rfl) av av rfl (aa (ao (aa (au (ao (aa (ao (aa (au (ao (aa ar))))))))))) (by kernel_rfl) rfl ?_
 refine bJ (i := 15) rfl (az rfl rfl rfl) av rfl (aa (ao (aa (au (ao (aa (ao (aa (au (ao (aa ar))))))))))) (by kernel_rfl) rfl ?_
 refine bJ (i := 16) rfl (az rfl rfl rfl) av rfl (aa (ao (aa (au (ao (aa (ao (aa (au (ao (aa ar))))))))))) (by kernel_rfl) rfl ?_
 refine bJ (i := 17) rfl (az rfl rfl rfl) av rfl (aa (ao (aa (au (ao (aa (ao (aa (au (ao (aa ar))))))))))) (by kernel_rfl) rfl ?_
 refine bJ (i := 18) rfl (az rfl rfl rfl) av rfl (aa (ao (aa (au (ao (aa (ao (aa (au (ao (aa ar))))))))))) (by kernel_rfl) rfl ?_
 refine bJ (i := 19) rfl (az rfl rfl rfl) av rfl (aa (ao (aa (au (ao (aa (ao (aa (au (ao (aa ar))))))))))) (by kernel_rfl) rfl ?_
 refine bJ (i := 20) rfl (az rfl rfl rfl) av rfl (aa (ao (aa (au (ao (aa (ao (aa (au (ao (aa ar))))))))))) (by kernel_rfl) rfl ?_
 refine bJ (i := 21) rfl (az rfl rfl rfl) av rfl (aa (ao (aa (au (ao (aa (ao (aa (au (ao (aa ar))))))))))) (by kernel_rfl) rfl ?_
 refine ax (i := 22) rfl (aB rfl rfl) (aL rfl rfl) av av rfl (aa (ao (aa (au (ao (aa (ao (aa (au (ao (aa ar))))))))))) (by kernel_rfl) rfl ?_
 refine ax (i := 23) rfl ah (aL rfl rfl) av av rfl (aa (ao (aa (au (ao (aa (ao (aa (au (ao (aa ar))))))))))) (by kernel_rfl) rfl ?_
 refine cm (by kernel_rfl) ?_
 refine ak ?_
 refine ay rfl ?_
 refine aH ?_
 refine bo ?_
 refine ak ?_
 refine ab ?_
 refine aq (aj rfl) rfl rfl ?_
 refine aq (bd rfl rfl (by omega) (by omega)) rfl rfl ?_
 refine aq (ai rfl) rfl rfl ?_
 refine ae ?_
 refine bj (k + 1) ?_ ?_ ⟨rfl, trivial⟩ (by repeat (first | exact trivial | refine ⟨rfl, ?_⟩)) (cr 1)
 show k + 1 ≤ _
 omega
 omega
 refine ae ?_
 refine ak ?_
 refine ay rfl ?_
 refine bE ?_
 refine aZ ?_
 refine aY ?_
 refine a7 ?_
 refine ak ?_
 refine ap ?_
 refine ab ?_
 refine aq (ai rfl) rfl rfl ?_
 refine ae ?_
 refine ak ?_
 refine aR ?_
 refine bY (σ := Nat) [4, 16, 17, 18, 19, 20, 160, 161, 162, 163, 164, 165, 166, 167, 168, 169, 170, 171, 172, 173, 174, 175, 176, 177, 178, 179, 180, 181, 182, 183, 184, 185, 186, 187, 188, 189, 190, 191, 192, 193, 194, 195, 196, 197, 198, 199, 200, 201, 202, 203, 204, 205, 206, 207, 208, 209, 210, 211, 212, 213, 214, 215, 216] (fun j => j ≤ (rows.getD i dm).1.length) (fun j => (rows.getD i dm).1.length - j) (fun j => [(16, .int .i64 j)]) (0) ?_ ⟨rfl, trivial⟩ (fun j hI => ?_)
 exact Nat.zero_le _
 refine ap ?_
 refine ap ?_
 refine ab ?_
 refine aq (aj rfl) rfl rfl ?_
 refine aq (aj rfl) rfl rfl ?_
 refine aq (aj rfl) rfl rfl ?_
 refine aq (bq  Tryz.underlying83 cj rfl rfl (bH 4 rfl) rfl (by omega)) rfl rfl ?_
 refine aq (bu c4 dm cj rfl (bH 4 rfl) (by omega) rfl rfl) rfl rfl ?_
 refine aq (bK Tryz.underlying59 rfl) rfl rfl ?_
 refine aq (bP rfl rfl) rfl rfl ?_
 refine aG (t := 166) rfl (fun h29_6 => ?_) (fun h29_6 => ?_)
 have hj : j < (rows.getD i dm).1.length := by omega
 have hjm := bc (d := ([] : aU)) hj
 have hjl := hhb4 _ hjm
 have hlo := of_lost hK h16_1 hjm
 have hjo := (eJ hK h16_1).1 _ hjm
 have hnl := host_len hI2.inv ((rows.getD i dm).1.getD j [])
 refine ae ?_
 refine ak ?_
 refine aA rfl ?_
 refine aH ?_
 refine ak ?_
 refine ap ?_
 refine aR ?_
 refine ap ?_
 refine ab ?_
 refine aq (aj rfl) rfl rfl ?_
 refine aq (aj rfl) rfl rfl ?_
 refine aq (aj rfl) rfl rfl ?_
 refine aq (bq  Tryz.underlying83 cj rfl rfl (bH 4 rfl) rfl (by omega)) rfl rfl ?_
 refine aq (bu c4 dm cj rfl (bH 4 rfl) (by omega) rfl rfl) rfl rfl ?_
 refine aq (aj rfl) rfl rfl ?_
 refine aq (bq  Tryz.underlying59 bC rfl rfl (fun w hw => (cI (ce 5 rfl hw) ((List.mem_flatMap.2 ⟨_, bc (d := dm) hi, .head _⟩))).1) rfl (by omega)) rfl rfl ?_
 refine aq (bu cO ([] : aU) bC rfl (fun w hw => (cI (ce 5 rfl hw) ((List.mem_flatMap.2 ⟨_, bc (d := dm) hi, .head _⟩))).1) (by omega) rfl rfl) rfl rfl ?_
 refine bh rfl ent_37 rfl (c_vOf x hm2 ((rows.getD i dm).1.getD j []) (by omega)) (fun w hw => (aP (ce 1 rfl hw) (aP (dH (eu 1 rfl hw)) a8))) ?_
 refine aq (aj rfl) rfl rfl ?_
 refine aq (aI rfl rfl) rfl rfl ?_
 refine aq (aI rfl rfl) rfl rfl ?_
 refine bi (t := 180) rfl (fun h31_11 => ?_) (fun h31_11 => ?_)
 refine br aO rfl rfl (fun b10 => ?_)
 refine aW aO rfl rfl rfl .z rfl rfl rfl rfl ?_
 refine aq (ai rfl) rfl rfl ?_
 refine ae ?_
 refine ak ?_
 refine ap ?_
 refine ab ?_
 refine aq (aj rfl) rfl rfl ?_
 refine aq (aM 0 aO rfl rfl rfl rfl) rfl rfl ?_
 refine bh rfl ent_45 rfl (c_vHost x hm2 (cg hm2) (ofV hm2 ((rows.getD i dm).1.getD j [])).1) (fun w hw => (aP (ce 1 rfl hw) (aP (dH (eu 2 rfl hw)) (aP (rd_two2 (eu 2 rfl hw)) a8)))) ?_
 refine aq (aj rfl) rfl rfl ?_
 refine aq (aI rfl rfl) rfl rfl ?_
 refine aq (aI rfl rfl) rfl rfl ?_
 refine bZ (t := 186) (.bool true) rfl (congrArg Value.bool (of_host hI2.inv hjo h31_11).1) ?_
 refine aq (ai rfl) rfl rfl ?_
 refine aq (ai rfl) rfl rfl ?_
 refine ae ?_
 refine ak ?_
 refine ap ?_
 refine ab ?_
 refine aq (aj rfl) rfl rfl ?_
 refine aq (aj rfl) rfl rfl ?_
 refine aq (aj rfl) rfl rfl ?_
 refine aq (aj rfl) rfl rfl ?_
 refine aq (bq  Tryz.underlying83 cj rfl rfl (bH 4 rfl) rfl (by omega)) rfl rfl ?_
 refine aq (bu c4 dm cj rfl (bH 4 rfl) (by omega) rfl rfl) rfl rfl ?_
 refine aq (aj rfl) rfl rfl ?_
 refine aq (bq  Tryz.underlying59 bC rfl rfl (fun w hw => (cI (ce 5 rfl hw) ((List.mem_flatMap.2 ⟨_, bc (d := dm) hi, .head _⟩))).1) rfl (by omega)) rfl rfl ?_
 refine aq (bu cO ([] : aU) bC rfl (fun w hw => (cI (ce 5 rfl hw) ((List.mem_flatMap.2 ⟨_, bc (d := dm) hi, .head _⟩))).1) (by omega) rfl rfl) rfl rfl ?_
 refine bh rfl d4 rfl (db ls _ _ ((rows.getD i dm).1.getD j []) hlsb (by omega) (by omega)) (fun w hw => (aP (d9 3 rfl hw) a8)) ?_
 refine aq (gW Tryz.underlying4 rfl rfl) rfl rfl ?_
 refine ey (t := 197) rfl (fun e => hlo (h31_11.trans e)) ?_
 refine aq (aj rfl) rfl rfl ?_
 refine aw rfl rfl ?_
 refine aq (aj rfl) rfl rfl ?_
 refine aw rfl rfl ?_
 refine aq (aj rfl) rfl rfl ?_
 refine aw rfl rfl ?_
 refine aq (aj rfl) rfl rfl ?_
 refine aw rfl rfl ?_
 refine aq (bF rfl) rfl rfl ?_
 refine aw rfl rfl ?_
 refine aq (aj rfl) rfl rfl ?_
 refine aw rfl rfl ?_
 refine aq (aj rfl) rfl rfl ?_
 refine aw rfl rfl ?_
 refine aq (aj rfl) rfl rfl ?_
 refine aw rfl rfl ?_
 refine aq (aj rfl) rfl rfl ?_
 refine aw rfl rfl ?_
 refine aq (bq  Tryz.underlying83 cj rfl rfl (bH 4 rfl) rfl (by omega)) rfl rfl ?_
 refine aw rfl rfl ?_
 refine aq (bu c4 dm cj rfl (bH 4 rfl) (by omega) rfl rfl) rfl rfl ?_
 refine aw rfl rfl ?_
 refine aq (aj rfl) rfl rfl ?_
 refine aw rfl rfl ?_
 refine aq (bq  Tryz.underlying59 bC rfl rfl (fun w hw => (cI (ce 5 rfl hw) ((List.mem_flatMap.2 ⟨_, bc (d := dm) hi, .head _⟩))).1) rfl (by omega)) rfl rfl ?_
 refine aw rfl rfl ?_
 refine aq (bu cO ([] : aU) bC rfl (fun w hw => (cI (ce 5 rfl hw) ((List.mem_flatMap.2 ⟨_, bc (d := dm) hi, .head _⟩))).1) (by omega) rfl rfl) rfl rfl ?_
 refine aw rfl rfl ?_
 refine aV rfl ent_46 (eC _ _ (by omega) (by omega)) rfl ?_
 refine bZ (t := 212) (.bool true) rfl (congrArg Value.bool (of_host hI2.inv hjo h31_11).2) ?_
 refine aw rfl rfl ?_
 refine aq (bF rfl) rfl rfl ?_
 refine aw rfl rfl ?_
 refine aq (aL rfl rfl) rfl rfl ?_
 refine aw rfl rfl ?_
 refine aq (aS rfl rfl) rfl rfl ?_
 refine aq (aL rfl rfl) rfl rfl ?_
 refine ae ?_
 refine ak ?_
 refine ay rfl ?_
 refine aH ?_
 refine bo ?_
 refine ak ?_
 refine ab ?_
 refine aq (aj rfl) rfl rfl ?_
 refine aq (bd rfl rfl (by omega) (by omega)) rfl rfl ?_
 refine aq (ai rfl) rfl rfl ?_
 refine ae ?_
 refine bj (j + 1) ?_ ?_ ⟨rfl, trivial⟩ (by repeat (first | exact trivial | refine ⟨rfl, ?_⟩)) (cr 1)
 show j + 1 ≤ _
 omega
 omega
 refine br aO rfl rfl (fun b11 => ?_)
 refine aW aO rfl rfl rfl .z rfl rfl rfl rfl ?_
 refine aq (ai rfl) rfl rfl ?_
 refine ae ?_
 refine ak ?_
 refine ap ?_
 refine ab ?_
 refine aq (aj rfl) rfl rfl ?_
 refine aq (aM 0 aO rfl rfl rfl rfl) rfl rfl ?_
 refine bh rfl ent_45 rfl (c_vHost x hm2 (cg hm2) (ofV hm2 ((rows.getD i dm).1.getD j [])).1) (fun w hw => (aP (ce 1 rfl hw) (aP (dH (eu 2 rfl hw)) (aP (rd_two2 (eu 2 rfl hw)) a8)))) ?_
 refine aq (aj rfl) rfl rfl ?_
 refine aq (aI rfl rfl) rfl rfl ?_
 refine aq (aI rfl rfl) rfl rfl ?_
 refine bi (t := 186) rfl (fun h32_5 => ?_) (fun h32_5 => ?_)
 refine aq (ai rfl) rfl rfl ?_
 refine aq (ai rfl) rfl rfl ?_
 refine ae ?_
 refine ak ?_
 refine ap ?_
 refine ab ?_
 refine aq (aj rfl) rfl rfl ?_
 refine aq (aj rfl) rfl rfl ?_
 refine aq (aj rfl) rfl rfl ?_
 refine aq (aj rfl) rfl rfl ?_
 refine aq (bq  Tryz.underlying83 cj rfl rfl (bH 4 rfl) rfl (by omega)) rfl rfl ?_
 refine aq (bu c4 dm cj rfl (bH 4 rfl) (by omega) rfl rfl) rfl rfl ?_
 refine aq (aj rfl) rfl rfl ?_
 refine aq (bq  Tryz.underlying59 bC rfl rfl (fun w hw => (cI (ce 5 rfl hw) ((List.mem_flatMap.2 ⟨_, bc (d := dm) hi, .head _⟩))).1) rfl (by omega)) rfl rfl ?_
 refine aq (bu cO ([] : aU) bC rfl (fun w hw => (cI (ce 5 rfl hw) ((List.mem_flatMap.2 ⟨_, bc (d := dm) hi, .head _⟩))).1) (by omega) rfl rfl) rfl rfl ?_
 refine bh rfl d4 rfl (db ls _ _ ((rows.getD i dm).1.getD j []) hlsb (by omega) (by omega)) (fun w hw => (aP (d9 3 rfl hw) a8)) ?_
 refine aq (gW Tryz.underlying4 rfl rfl) rfl rfl ?_
 refine ey (t := 197) rfl (fun e => hlo (h31_11.trans e)) ?_
 refine aq (aj rfl) rfl rfl ?_
 refine aw rfl rfl ?_
 refine aq (aj rfl) rfl rfl ?_
 refine aw rfl rfl ?_
 refine aq (aj rfl) rfl rfl ?_
 refine aK rfl rfl rfl rfl ?_
 refine aK rfl rfl rfl rfl ?_
 refine aK rfl rfl rfl rfl ?_
 refine bl rfl rfl rfl ?_
 refine bl rfl rfl rfl ?_
 refine bl rfl rfl rfl ?_
 refine bl rfl rfl rfl ?_
 refine bl rfl rfl rfl ?_
 refine bl rfl rfl rfl ?_
 refine bl rfl rfl rfl ?_
 refine bl rfl rfl rfl ?_
 refine bl rfl rfl rfl ?_
 refine bl rfl rfl rfl ?_
 refine aK rfl rfl rfl rfl ?_
 refine aw rfl rfl ?_
 refine aq (aL rfl rfl) rfl rfl ?_
 refine aq (aL rfl rfl) rfl rfl ?_
 refine ae ?_
 refine ak ?_
 refine ay rfl ?_
 refine aH ?_
 refine bo ?_
 refine ak ?_
 refine ab ?_
 refine aq (aj rfl) rfl rfl ?_
 refine aq (bd rfl rfl (by omega) (by omega)) rfl rfl ?_
 refine aq (ai rfl) rfl rfl ?_
 refine ae ?_
 refine bj (j + 1) ?_ ?_ ⟨rfl, trivial⟩ (by repeat (first | exact trivial | refine ⟨rfl, ?_⟩)) (cr 1)
 show j + 1 ≤ _
 omega
 omega
 refine aq (ai rfl) rfl rfl ?_
 refine aq (ai rfl) rfl rfl ?_
 refine ae ?_
 refine ak ?_
 refine ap ?_
 refine ab ?_
 refine aq (aj rfl) rfl rfl ?_
 refine aq (aj rfl) rfl rfl ?_
 refine aq (aj rfl) rfl rfl ?_
 refine aq (aj rfl) rfl rfl ?_
 refine aq (bq  Tryz.underlying83 cj rfl rfl (bH 4 rfl) rfl (by omega)) rfl rfl ?_
 refine aq (bu c4 dm cj rfl (bH 4 rfl) (by omega) rfl rfl) rfl rfl ?_
 refine aq (aj rfl) rfl rfl ?_
 refine aq (bq  Tryz.underlying59 bC rfl rfl (fun w hw => (cI (ce 5 rfl hw) ((List.mem_flatMap.2 ⟨_, bc (d := dm) hi, .head _⟩))).1) rfl (by omega)) rfl rfl ?_
 refine aq (bu cO ([] : aU) bC rfl (fun w hw => (cI (ce 5 rfl hw) ((List.mem_flatMap.2 ⟨_, bc (d := dm) hi, .head _⟩))).1) (by omega) rfl rfl) rfl rfl ?_
 refine bh rfl d4 rfl (db ls _ _ ((rows.getD i dm).1.getD j []) hlsb (by omega) (by omega)) (fun w hw => (aP (d9 3 rfl hw) a8)) ?_
 refine aq (gW Tryz.underlying4 rfl rfl) rfl rfl ?_
 refine ey (t := 197) rfl (fun e => hlo (h31_11.trans e)) ?_
 refine aq (aj rfl) rfl rfl ?_
 refine aw rfl rfl ?_
 refine aq (aj rfl) rfl rfl ?_
 refine aw rfl rfl ?_
 refine aq (aj rfl) rfl rfl ?_
 refine aK rfl rfl rfl rfl ?_
 refine aK rfl rfl rfl rfl ?_
 refine aK rfl rfl rfl rfl ?_
 refine bl rfl rfl rfl ?_
 refine bl rfl rfl rfl ?_
 refine bl rfl rfl rfl ?_
 refine bl rfl rfl rfl ?_
 refine bl rfl rfl rfl ?_
 refine bl rfl rfl rfl ?_
 refine bl rfl rfl rfl ?_
 refine bl rfl rfl rfl ?_
 refine bl rfl rfl rfl ?_
 refine bl rfl rfl rfl ?_
 refine aK rfl rfl rfl rfl ?_
 refine aw rfl rfl ?_
 refine aq (aL rfl rfl) rfl rfl ?_
 refine aq (aL rfl rfl) rfl rfl ?_
 refine ae ?_
 refine ak ?_
 refine ay rfl ?_
 refine aH ?_
 refine bo ?_
 refine ak ?_
 refine ab ?_
 refine aq (aj rfl) rfl rfl ?_
 refine aq (bd rfl rfl (by omega) (by omega)) rfl rfl ?_
 refine aq (ai rfl) rfl rfl ?_
 refine ae ?_
 refine bj (j + 1) ?_ ?_ ⟨rfl, trivial⟩ (by repeat (first | exact trivial | refine ⟨rfl, ?_⟩)) (cr 1)
 show j + 1 ≤ _
 omega
 omega
 refine ae ?_
 refine ak ?_
 refine ay rfl ?_
 refine bE ?_
 refine aZ ?_
 refine aY ?_
 refine a7 ?_
 refine bo ?_
 refine ak ?_
 refine ab ?_
 refine aq (aj rfl) rfl rfl ?_
 refine aq (bd rfl rfl (by omega) (by omega)) rfl rfl ?_
 refine aq (ai rfl) rfl rfl ?_
 refine ae ?_
 refine bj ((i + 1, hm2)) ?_ ?_ ⟨rfl, trivial⟩ (by repeat (first | exact trivial | refine ⟨rfl, ?_⟩)) (fun w h => (h.weak (.cons _ (.cons_cons _ (.cons _ (.cons _ (.cons _ (.cons_cons _ .slnil)))))) (fun s hs => .tail _ (hs))).f1.f1)
 exact ⟨by show i + 1 ≤ _; omega, hI2⟩
 show rows.length - (i + 1) < rows.length - i
 omega
 refine aw rfl rfl ?_
 refine aq (aj rfl) rfl rfl ?_
 refine aK rfl rfl rfl rfl ?_
 refine aK rfl rfl rfl rfl ?_
 refine aK rfl rfl rfl rfl ?_
 refine aK rfl rfl rfl rfl ?_
 refine aw rfl rfl ?_
 refine aq (aL rfl rfl) rfl rfl ?_
 refine aq (aL rfl rfl) rfl rfl ?_
 refine ae ?_
 refine ak ?_
 refine ay rfl ?_
 refine aH ?_
 refine ak ?_
 refine ap ?_
 refine ap ?_
 have hr9 := dB ho2p.1
 refine ab ?_
 refine aq (ai rfl) rfl rfl ?_
 refine ae ?_
 refine ak ?_
 refine aR ?_
 refine bY (σ := Nat) [4, 13, 14, 15, 120, 121, 122, 123, 124, 125, 126, 127, 128, 129, 130, 131, 132, 133, 134, 135, 136, 137, 138, 139, 140, 141, 142, 143, 144, 145, 146, 147, 148, 149, 150, 151, 152, 153, 154, 155, 156, 157, 158, 159] (fun k => k ≤ o1.length) (fun k => o1.length - k) (fun k => [(13, .int .i64 k)]) (0) ?_ ⟨rfl, trivial⟩ (fun k hI => ?_)
 exact Nat.zero_le _
 refine ap ?_
 refine ap ?_
 refine ab ?_
 refine aq (aj rfl) rfl rfl ?_
 refine aq (aj rfl) rfl rfl ?_
 refine aq (bK Tryz.underlying25 rfl) rfl rfl ?_
 refine aq (bP rfl rfl) rfl rfl ?_
 refine aG (t := 123) rfl (fun h23_3 => ?_) (fun h23_3 => ?_)
 have hk : k < o1.length := by omega
 obtain ⟨p9, hp9, he9⟩ := List.mem_map.1 (ho1p.1.mem_iff.1 (bc (d := cV) hk))
 have hkl : (o1.getD k cV).host.length ≤ 254 := by rw [← he9]; exact fS (hI9.inv.fold p9 hp9).2
 obtain ⟨hw1, hw2⟩ := of_was hK h16_1 hI9.inv hI2.inv hp9
 rw [he9] at hw1 hw2
 refine ae ?_
 refine ak ?_
 refine aA rfl ?_
 refine aH ?_
 refine ak ?_
 refine ap ?_
 refine aR ?_
 refine ap ?_
 refine ab ?_
 refine aq (aj rfl) rfl rfl ?_
 refine aq (aj rfl) rfl rfl ?_
 refine aq (aj rfl) rfl rfl ?_
 refine aq (bq  Tryz.underlying25 bL rfl rfl (cZ 3 rfl) rfl (by omega)) rfl rfl ?_
 refine aq (aF eT rfl) rfl rfl ?_
 refine aq (bu dd cV bC rfl (cZ 3 rfl) (by omega) rfl rfl) rfl rfl ?_
 refine bh rfl ent_37 rfl (c_vOf x hm2 (o1.getD k cV).host (by omega)) (fun w hw => (aP (ce 1 rfl hw) (aP (dH (eu 1 rfl hw)) a8))) ?_
 refine aq (aj rfl) rfl rfl ?_
 refine aq (aI rfl rfl) rfl rfl ?_
 refine aq (aI rfl rfl) rfl rfl ?_
 refine bi (t := 135) rfl (fun h25_9 => ?_) (fun h25_9 => ?_)
 refine br aO rfl rfl (fun b12 => ?_)
 refine aW aO rfl rfl rfl .z rfl rfl rfl rfl ?_
 refine aq (ai rfl) rfl rfl ?_
 refine ae ?_
 refine ak ?_
 refine ap ?_
 refine c5 24 rfl mixed ?_
 refine ax (i := 0) rfl ah (aj rfl) av av rfl (aa (ao (aa (au (ao (aa (ao (aa (au (ao (aa ar))))))))))) (by kernel_rfl) rfl ?_
 refine ax (i := 1) rfl ah (aj rfl) av av rfl (aa (ao (aa (au (ao (aa (ao (aa (au (ao (aa ar))))))))))) (by kernel_rfl) rfl ?_
 refine ax (i := 2) rfl ah (aj rfl) av av rfl (aa (ao (aa (au (ao (aa (ao (aa (au (ao (aa ar))))))))))) (by kernel_rfl) rfl ?_
 refine ax (i := 3) rfl ah (bq  Tryz.underlying83 cj rfl rfl (bH 4 rfl) rfl (by omega)) av av rfl (aa (ao (aa (au (ao (aa (ao (aa (au (ao (aa ar))))))))))) (by kernel_rfl) rfl ?_
 refine ax (i := 4) rfl ah (bu c4 dm cj rfl (bH 4 rfl) (by omega) rfl rfl) av av rfl (aa (ao (aa (au (ao (aa (ao (aa (au (ao (aa ar))))))))))) (by kernel_rfl) rfl ?_
 refine ax (i := 5) rfl ah (aj rfl) av av rfl (aa (ao (aa (au (ao (aa (ao (aa (au (ao (aa ar))))))))))) (by kernel_rfl) rfl ?_
 refine ax (i := 6) rfl ah (aj rfl) av av rfl (aa (ao (aa (au (ao (aa (ao (aa (au (ao (aa ar))))))))))) (by kernel_rfl) rfl ?_
 refine ax (i := 7) rfl ah (bq  Tryz.underlying25 bL rfl rfl (cZ 4 rfl) rfl (by omega)) av av rfl (aa (ao (aa (au (ao (aa (ao (aa (au (ao (aa ar))))))))))) (by kernel_rfl) rfl ?_
 refine ax (i := 8) rfl ah (aF eT rfl) av av rfl (aa (ao (aa (au (ao (aa (ao (aa (au (ao (aa ar))))))))))) (by kernel_rfl) rfl ?_
 refine ax (i := 9) rfl ah (bu dd cV bC rfl (cZ 4 rfl) (by omega) rfl rfl) av av rfl (aa (ao (aa (au (ao (aa (ao (aa (au (ao (aa ar))))))))))) (by kernel_rfl) rfl ?_
 refine cu (i := 10) rfl rfl rfl (bf rfl d4) (by kernel_rfl) rfl ?_
 refine bh rfl d4 rfl (db (rows.getD i dm).1 _ _ (o1.getD k cV).host hhb (by omega) (by omega)) (fun w hw => (aP (ce 0 rfl hw) a8)) ?_
 refine ae ?_
 refine bz av ?_
 refine ax (i := 11) rfl ah (y_neqb Tryz.underlying4 rfl rfl) av av rfl (aa (ao (aa (au (ao (aa (ao (aa (au (ao (aa ar))))))))))) (by kernel_rfl) rfl ?_
 refine wu_af (t := 147) rfl (fun h => h (h25_9.symm.trans hw1)) ?_
 refine ax (i := 12) rfl ah (aj rfl) av av rfl (aa (ao (aa (au (ao (aa (ao (aa (au (ao (aa ar))))))))))) (by kernel_rfl) rfl ?_
 refine ax (i := 13) rfl (aB rfl rfl) (aj rfl) av av rfl (aa (ao (aa (au (ao (aa (ao (aa (au (ao (aa ar))))))))))) (by kernel_rfl) rfl ?_
 refine ax (i := 14) rfl (aB rfl rfl) (aj rfl) av av rfl (aa (ao (aa (au (ao (aa (ao (aa (au (ao (aa ar))))))))))) (by kernel_rfl) rfl ?_
 refine ax (i := 15) rfl (aB rfl rfl) (aM 0 aO rfl rfl rfl rfl) av av rfl (aa (ao (aa (au (ao (aa (ao (aa (au (ao (aa ar))))))))))) (by kernel_rfl) rfl ?_
 refine ax (i := 16) rfl (aB rfl rfl) (aj rfl) av av rfl (aa (ao (aa (au (ao (aa (ao (aa (au (ao (aa ar))))))))))) (by kernel_rfl) rfl ?_
 refine ax (i := 17) rfl (aB rfl rfl) (aj rfl) av av rfl (aa (ao (aa (au (ao (aa (ao (aa (au (ao (aa ar))))))))))) (by kernel_rfl) rfl ?_
 refine ax (i := 18) rfl (aB rfl rfl) (bq  Tryz.underlying25 bL rfl rfl (cZ 4 rfl) rfl (by omega)) av av rfl (aa (ao (aa (au (ao (aa (ao (aa (au (ao (aa ar))))))))))) (by kernel_rfl) rfl ?_
 refine ax (i := 19) rfl (aB rfl rfl) (aF dy rfl) av av rfl (aa (ao (aa (au (ao (aa (ao (aa (au (ao (aa ar))))))))))) (by kernel_rfl) rfl ?_
 refine ax (i := 20) rfl (aB rfl rfl) (gZ 1 dd cV aO rfl (cZ 4 rfl) (by omega) rfl rfl rfl) av av rfl (aa (ao (aa (au (ao (aa (ao (aa (au (ao (aa ar))))))))))) (by kernel_rfl) rfl ?_
 refine ax (i := 21) rfl (aB rfl rfl) (gw (by kernel_rfl) rfl rfl (fW _ _) rfl) av av rfl (aa (ao (aa (au (ao (aa (ao (aa (au (ao (aa ar))))))))))) (by kernel_rfl) rfl ?_
 refine wu_af (t := 157) rfl (fun h => h (hw2 h25_9)) ?_
 refine ax (i := 22) rfl (aB rfl rfl) (aS rfl rfl) av av rfl (aa (ao (aa (au (ao (aa (ao (aa (au (ao (aa ar))))))))))) (by kernel_rfl) rfl ?_
 refine ax (i := 23) rfl ah (aL rfl rfl) av av rfl (aa (ao (aa (au (ao (aa (ao (aa (au (ao (aa ar))))))))))) (by kernel_rfl) rfl ?_
 refine cm (by kernel_rfl) ?_
 refine ak ?_
 refine ay rfl ?_
 refine aH ?_
 refine bo ?_
 refine ak ?_
 refine ab ?_
 refine aq (aj rfl) rfl rfl ?_
 refine aq (bd rfl rfl (by omega) (by omega)) rfl rfl ?_
 refine aq (ai rfl) rfl rfl ?_
 refine ae ?_
 refine bj (k + 1) ?_ ?_ ⟨rfl, trivial⟩ (by repeat (first | exact trivial | refine ⟨rfl, ?_⟩)) (cr 1)
 show k + 1 ≤ _
 omega
 omega
 refine br aO rfl rfl (fun b13 => ?_)
 refine aW aO rfl rfl rfl .z rfl rfl rfl rfl ?_
 refine aq (ai rfl) rfl rfl ?_
 refine ae ?_
 refine ak ?_
 refine ap ?_
 refine c5 24 rfl mixed ?_
 refine ax (i := 0) rfl ah (aj rfl) av av rfl (aa (ao (aa (au (ao (aa (ao (aa (au (ao (aa ar))))))))))) (by kernel_rfl) rfl ?_
 refine ax (i := 1) rfl ah (aj rfl) av av rfl (aa (ao (aa (au (ao (aa (ao (aa (au (ao (aa ar))))))))))) (by kernel_rfl) rfl ?_
 refine ax (i := 2) rfl ah (aj rfl) av av rfl (aa (ao (aa (au (ao (aa (ao (aa (au (ao (aa ar))))))))))) (by kernel_rfl) rfl ?_
 refine ax (i := 3) rfl ah (bq  Tryz.underlying83 cj rfl rfl (bH 4 rfl) rfl (by omega)) av av rfl (aa (ao (aa (au (ao (aa (ao (aa (au (ao (aa ar))))))))))) (by kernel_rfl) rfl ?_
 refine ax (i := 4) rfl ah (bu c4 dm cj rfl (bH 4 rfl) (by omega) rfl rfl) av av rfl (aa (ao (aa (au (ao (aa (ao (aa (au (ao (aa ar))))))))))) (by kernel_rfl) rfl ?_
 refine ax (i := 5) rfl ah (aj rfl) av av rfl (aa (ao (aa (au (ao (aa (ao (aa (au (ao (aa ar))))))))))) (by kernel_rfl) rfl ?_
 refine ax (i := 6) rfl ah (aj rfl) av av rfl (aa (ao (aa (au (ao (aa (ao (aa (au (ao (aa ar))))))))))) (by kernel_rfl) rfl ?_
 refine ax (i := 7) rfl ah (bq  Tryz.underlying25 bL rfl rfl (cZ 4 rfl) rfl (by omega)) av av rfl (aa (ao (aa (au (ao (aa (ao (aa (au (ao (aa ar))))))))))) (by kernel_rfl) rfl ?_
 refine ax (i := 8) rfl ah (aF eT rfl) av av rfl (aa (ao (aa (au (ao (aa (ao (aa (au (ao (aa ar))))))))))) (by kernel_rfl) rfl ?_
 refine ax (i := 9) rfl ah (bu dd cV bC rfl (cZ 4 rfl) (by omega) rfl rfl) av av rfl (aa (ao (aa (au (ao (aa (ao (aa (au (ao (aa ar))))))))))) (by kernel_rfl) rfl ?_
 refine cu (i := 10) rfl rfl rfl (bf rfl d4) (by kernel_rfl) rfl ?_
 refine bh rfl d4 rfl (db (rows.getD i dm).1 _ _ (o1.getD k cV).host hhb (by omega) (by omega)) (fun w hw => (aP (ce 0 rfl hw) a8)) ?_
 refine ae ?_
 refine bz av ?_
 refine ax (i := 11) rfl ah (y_neqb Tryz.underlying4 rfl rfl) av av rfl (aa (ao (aa (au (ao (aa (ao (aa (au (ao (aa ar))))))))))) (by kernel_rfl) rfl ?_
 refine wu_af (t := 147) rfl (fun h => h (h25_9.symm.trans hw1)) ?_
 refine ax (i := 12) rfl ah (aj rfl) av av rfl (aa (ao (aa (au (ao (aa (ao (aa (au (ao (aa ar))))))))))) (by kernel_rfl) rfl ?_
 refine ax (i := 13) rfl (aB rfl rfl) (aj rfl) av av rfl (aa (ao (aa (au (ao (aa (ao (aa (au (ao (aa ar))))))))))) (by kernel_rfl) rfl ?_
 refine ax (i := 14) rfl (aB rfl rfl) (aj rfl) av av rfl (aa (ao (aa (au (ao (aa (ao (aa (au (ao (aa ar))))))))))) (by kernel_rfl) rfl ?_
 refine bJ (i := 15) rfl (az rfl rfl rfl) av rfl (aa (ao (aa (au (ao (aa (ao (aa (au (ao (aa ar))))))))))) (by kernel_rfl) rfl ?_
 refine bJ (i := 16) rfl (az rfl rfl rfl) av rfl (aa (ao (aa (au (ao (aa (ao (aa (au (ao (aa ar))))))))))) (by kernel_rfl) rfl ?_
 refine bJ (i := 17) rfl (az rfl rfl rfl) av rfl (aa (ao (aa (au (ao (aa (ao (aa (au (ao (aa ar))))))))))) (by kernel_rfl) rfl ?_
 refine bJ (i := 18) rfl (az rfl rfl rfl) av rfl (aa (ao (aa (au (ao (aa (ao (aa (au (ao (aa ar))))))))))) (by kernel_rfl) rfl ?_
 refine bJ (i := 19) rfl (az rfl rfl rfl) av rfl (aa (ao (aa (au (ao (aa (ao (aa (au (ao (aa ar))))))))))) (by kernel_rfl) rfl ?_
 refine bJ (i := 20) rfl (az rfl rfl rfl) av rfl (aa (ao (aa (au (ao (aa (ao (aa (au (ao (aa ar))))))))))) (by kernel_rfl) rfl ?_
 refine bJ (i := 21) rfl (az rfl rfl rfl) av rfl (aa (ao (aa (au (ao (aa (ao (aa (au (ao (aa ar))))))))))) (by kernel_rfl) rfl ?_
 refine ax (i := 22) rfl (aB rfl rfl) (aL rfl rfl) av av rfl (aa (ao (aa (au (ao (aa (ao (aa (au (ao (aa ar))))))))))) (by kernel_rfl) rfl ?_
 refine ax (i := 23) rfl ah (aL rfl rfl) av av rfl (aa (ao (aa (au (ao (aa (ao (aa (au (ao (aa ar))))))))))) (by kernel_rfl) rfl ?_
 refine cm (by kernel_rfl) ?_
 refine ak ?_
 refine ay rfl ?_
 refine aH ?_
 refine bo ?_
 refine ak ?_
 refine ab ?_
 refine aq (aj rfl) rfl rfl ?_
 refine aq (bd rfl rfl (by omega) (by omega)) rfl rfl ?_
 refine aq (ai rfl) rfl rfl ?_
 refine ae ?_
 refine bj (k + 1) ?_ ?_ ⟨rfl, trivial⟩ (by repeat (first | exact trivial | refine ⟨rfl, ?_⟩)) (cr 1)
 show k + 1 ≤ _
 omega
 omega
 refine ae ?_
 refine ak ?_
 refine ay rfl ?_
 refine bE ?_
 refine aZ ?_
 refine aY ?_
 refine a7 ?_
 refine ak ?_
 refine ap ?_
 refine ab ?_
 refine aq (ai rfl) rfl rfl ?_
 refine ae ?_
 refine ak ?_
 refine aR ?_
 refine bY (σ := Nat) [4, 16, 17, 18, 19, 20, 160, 161, 162, 163, 164, 165, 166, 167, 168, 169, 170, 171, 172, 173, 174, 175, 176, 177, 178, 179, 180, 181, 182, 183, 184, 185, 186, 187, 188, 189, 190, 191, 192, 193, 194, 195, 196, 197, 198, 199, 200, 201, 202, 203, 204, 205, 206, 207, 208, 209, 210, 211, 212, 213, 214, 215, 216] (fun j => j ≤ (rows.getD i dm).1.length) (fun j => (rows.getD i dm).1.length - j) (fun j => [(16, .int .i64 j)]) (0) ?_ ⟨rfl, trivial⟩ (fun j hI => ?_)
 exact Nat.zero_le _
 refine ap ?_
 refine ap ?_
 refine ab ?_
 refine aq (aj rfl) rfl rfl ?_
 refine aq (aj rfl) rfl rfl ?_
 refine aq (aj rfl) rfl rfl ?_
 refine aq (bq  Tryz.underlying83 cj rfl rfl (bH 4 rfl) rfl (by omega)) rfl rfl ?_
 refine aq (bu c4 dm cj rfl (bH 4 rfl) (by omega) rfl rfl) rfl rfl ?_
 refine aq (bK Tryz.underlying59 rfl) rfl rfl ?_
 refine aq (bP rfl rfl) rfl rfl ?_
 refine aG (t := 166) rfl (fun h29_6 => ?_) (fun h29_6 => ?_)
 have hj : j < (rows.getD i dm).1.length := by omega
 have hjm := bc (d := ([] : aU)) hj
 have hjl := hhb4 _ hjm
 have hlo := of_lost hK h16_1 hjm
 have hjo := (eJ hK h16_1).1 _ hjm
 have hnl := host_len hI2.inv ((rows.getD i dm).1.getD j [])
 refine ae ?_
 refine ak ?_
 refine aA rfl ?_
 refine aH ?_
 refine ak ?_
 refine ap ?_
 refine aR ?_
 refine ap ?_
 refine ab ?_
 refine aq (aj rfl) rfl rfl ?_
 refine aq (aj rfl) rfl rfl ?_
 refine aq (aj rfl) rfl rfl ?_
 refine aq (bq  Tryz.underlying83 cj rfl rfl (bH 4 rfl) rfl (by omega)) rfl rfl ?_
 refine aq (bu c4 dm cj rfl (bH 4 rfl) (by omega) rfl rfl) rfl rfl ?_
 refine aq (aj rfl) rfl rfl ?_
 refine aq (bq  Tryz.underlying59 bC rfl rfl (fun w hw => (cI (ce 5 rfl hw) ((List.mem_flatMap.2 ⟨_, bc (d := dm) hi, .head _⟩))).1) rfl (by omega)) rfl rfl ?_
 refine aq (bu cO ([] : aU) bC rfl (fun w hw => (cI (ce 5 rfl hw) ((List.mem_flatMap.2 ⟨_, bc (d := dm) hi, .head _⟩))).1) (by omega) rfl rfl) rfl rfl ?_
 refine bh rfl ent_37 rfl (c_vOf x hm2 ((rows.getD i dm).1.getD j []) (by omega)) (fun w hw => (aP (ce 1 rfl hw) (aP (dH (eu 1 rfl hw)) a8))) ?_
 refine aq (aj rfl) rfl rfl ?_
 refine aq (aI rfl rfl) rfl rfl ?_
 refine aq (aI rfl rfl) rfl rfl ?_
 refine bi (t := 180) rfl (fun h31_11 => ?_) (fun h31_11 => ?_)
 refine br aO rfl rfl (fun b14 => ?_)
 refine aW aO rfl rfl rfl .z rfl rfl rfl rfl ?_
 refine aq (ai rfl) rfl rfl ?_
 refine ae ?_
 refine ak ?_
 refine ap ?_
 refine ab ?_
 refine aq (aj rfl) rfl rfl ?_
 refine aq (aM 0 aO rfl rfl rfl rfl) rfl rfl ?_
 refine bh rfl ent_45 rfl (c_vHost x hm2 (cg hm2) (ofV hm2 ((rows.getD i dm).1.getD j [])).1) (fun w hw => (aP (ce 1 rfl hw) (aP (dH (eu 2 rfl hw)) (aP (rd_two2 (eu 2 rfl hw)) a8)))) ?_
 refine aq (aj rfl) rfl rfl ?_
 refine aq (aI rfl rfl) rfl rfl ?_
 refine aq (aI rfl rfl) rfl rfl ?_
 refine bZ (t := 186) (.bool true) rfl (congrArg Value.bool (of_host hI2.inv hjo h31_11).1) ?_
 refine aq (ai rfl) rfl rfl ?_
 refine aq (ai rfl) rfl rfl ?_
 refine ae ?_
 refine ak ?_
 refine ap ?_
 refine ab ?_
 refine aq (aj rfl) rfl rfl ?_
 refine aq (aj rfl) rfl rfl ?_
 refine aq (aj rfl) rfl rfl ?_
 refine aq (aj rfl) rfl rfl ?_
 refine aq (bq  Tryz.underlying83 cj rfl rfl (bH 4 rfl) rfl (by omega)) rfl rfl ?_
 refine aq (bu c4 dm cj rfl (bH 4 rfl) (by omega) rfl rfl) rfl rfl ?_
 refine aq (aj rfl) rfl rfl ?_
 refine aq (bq  Tryz.underlying59 bC rfl rfl (fun w hw => (cI (ce 5 rfl hw) ((List.mem_flatMap.2 ⟨_, bc (d := dm) hi, .head _⟩))).1) rfl (by omega)) rfl rfl ?_
 refine aq (bu cO ([] : aU) bC rfl (fun w hw => (cI (ce 5 rfl hw) ((List.mem_flatMap.2 ⟨_, bc (d := dm) hi, .head _⟩))).1) (by omega) rfl rfl) rfl rfl ?_
 refine bh rfl d4 rfl (db ls _ _ ((rows.getD i dm).1.getD j []) hlsb (by omega) (by omega)) (fun w hw => (aP (d9 3 rfl hw) a8)) ?_
 refine aq (gW Tryz.underlying4 rfl rfl) rfl rfl ?_
 refine ey (t := 197) rfl (fun e => hlo (h31_11.trans e)) ?_
 refine aq (aj rfl) rfl rfl ?_
 refine aw rfl rfl ?_
 refine aq (aj rfl) rfl rfl ?_
 refine aw rfl rfl ?_
 refine aq (aj rfl) rfl rfl ?_
 refine aw rfl rfl ?_
 refine aq (aj rfl) rfl rfl ?_
 refine aw rfl rfl ?_
 refine aq (bF rfl) rfl rfl ?_
 refine aw rfl rfl ?_
 refine aq (aj rfl) rfl rfl ?_
 refine aw rfl rfl ?_
 refine aq (aj rfl) rfl rfl ?_
 refine aw rfl rfl ?_
 refine aq (aj rfl) rfl rfl ?_
 refine aw rfl rfl ?_
 refine aq (aj rfl) rfl rfl ?_
 refine aw rfl rfl ?_
 refine aq (bq  Tryz.underlying83 cj rfl rfl (bH 4 rfl) rfl (by omega)) rfl rfl ?_
 refine aw rfl rfl ?_
 refine aq (bu c4 dm cj rfl (bH 4 rfl) (by omega) rfl rfl) rfl rfl ?_
 refine aw rfl rfl ?_
 refine aq (aj rfl) rfl rfl ?_
 refine aw rfl rfl ?_
 refine aq (bq  Tryz.underlying59 bC rfl rfl (fun w hw => (cI (ce 5 rfl hw) ((List.mem_flatMap.2 ⟨_, bc (d := dm) hi, .head _⟩))).1) rfl (by omega)) rfl rfl ?_
 refine aw rfl rfl ?_
 refine aq (bu cO ([] : aU) bC rfl (fun w hw => (cI (ce 5 rfl hw) ((List.mem_flatMap.2 ⟨_, bc (d := dm) hi, .head _⟩))).1) (by omega) rfl rfl) rfl rfl ?_
 refine aw rfl rfl ?_
 refine aV rfl ent_46 (eC _ _ (by omega) (by omega)) rfl ?_
 refine bZ (t := 212) (.bool true) rfl (congrArg Value.bool (of_host hI2.inv hjo h31_11).2) ?_
 refine aw rfl rfl ?_
 refine aq (bF rfl) rfl rfl ?_
 refine aw rfl rfl ?_
 refine aq (aL rfl rfl) rfl rfl ?_
 refine aw rfl rfl ?_
 refine aq (aS rfl rfl) rfl rfl ?_
 refine aq (aL rfl rfl) rfl rfl ?_
 refine ae ?_
 refine ak ?_
 refine ay rfl ?_
 refine aH ?_
 refine bo ?_
 refine ak ?_
 refine ab ?_
 refine aq (aj rfl) rfl rfl ?_
 refine aq (bd rfl rfl (by omega) (by omega)) rfl rfl ?_
 refine aq (ai rfl) rfl rfl ?_
 refine ae ?_
 refine bj (j + 1) ?_ ?_ ⟨rfl, trivial⟩ (by repeat (first | exact trivial | refine ⟨rfl, ?_⟩)) (cr 1)
 show j + 1 ≤ _
 omega
 omega
 refine br aO rfl rfl (fun b15 => ?_)
 refine aW aO rfl rfl rfl .z rfl rfl rfl rfl ?_
 refine aq (ai rfl) rfl rfl ?_
 refine ae ?_
 refine ak ?_
 refine ap ?_
 refine ab ?_
 refine aq (aj rfl) rfl rfl ?_
 refine aq (aM 0 aO rfl rfl rfl rfl) rfl rfl ?_
 refine bh rfl ent_45 rfl (c_vHost x hm2 (cg hm2) (ofV hm2 ((rows.getD i dm).1.getD j [])).1) (fun w hw => (aP (ce 1 rfl hw) (aP (dH (eu 2 rfl hw)) (aP (rd_two2 (eu 2 rfl hw)) a8)))) ?_
 refine aq (aj rfl) rfl rfl ?_
 refine aq (aI rfl rfl) rfl rfl ?_
 refine aq (aI rfl rfl) rfl rfl ?_
 refine bi (t := 186) rfl (fun h32_5 => ?_) (fun h32_5 => ?_)
 refine aq (ai rfl) rfl rfl ?_
 refine aq (ai rfl) rfl rfl ?_
 refine ae ?_
 refine ak ?_
 refine ap ?_
 refine ab ?_
 refine aq (aj rfl) rfl rfl ?_
 refine aq (aj rfl) rfl rfl ?_
 refine aq (aj rfl) rfl rfl ?_
 refine aq (aj rfl) rfl rfl ?_
 refine aq (bq  Tryz.underlying83 cj rfl rfl (bH 4 rfl) rfl (by omega)) rfl rfl ?_
 refine aq (bu c4 dm cj rfl (bH 4 rfl) (by omega) rfl rfl) rfl rfl ?_
 refine aq (aj rfl) rfl rfl ?_
 refine aq (bq  Tryz.underlying59 bC rfl rfl (fun w hw => (cI (ce 5 rfl hw) ((List.mem_flatMap.2 ⟨_, bc (d := dm) hi, .head _⟩))).1) rfl (by omega)) rfl rfl ?_
 refine aq (bu cO ([] : aU) bC rfl (fun w hw => (cI (ce 5 rfl hw) ((List.mem_flatMap.2 ⟨_, bc (d := dm) hi, .head _⟩))).1) (by omega) rfl rfl) rfl rfl ?_
 refine bh rfl d4 rfl (db ls _ _ ((rows.getD i dm).1.getD j []) hlsb (by omega) (by omega)) (fun w hw => (aP (d9 3 rfl hw) a8)) ?_
 refine aq (gW Tryz.underlying4 rfl rfl) rfl rfl ?_
 refine ey (t := 197) rfl (fun e => hlo (h31_11.trans e)) ?_
 refine aq (aj rfl) rfl rfl ?_
 refine aw rfl rfl ?_
 refine aq (aj rfl) rfl rfl ?_
 refine aw rfl rfl ?_
 refine aq (aj rfl) rfl rfl ?_
 refine aK rfl rfl rfl rfl ?_
 refine aK rfl rfl rfl rfl ?_
 refine aK rfl rfl rfl rfl ?_
 refine bl rfl rfl rfl ?_
 refine bl rfl rfl rfl ?_
 refine bl rfl rfl rfl ?_
 refine bl rfl rfl rfl ?_
 refine bl rfl rfl rfl ?_
 refine bl rfl rfl rfl ?_
 refine bl rfl rfl rfl ?_
 refine bl rfl rfl rfl ?_
 refine bl rfl rfl rfl ?_
 refine bl rfl rfl rfl ?_
 refine aK rfl rfl rfl rfl ?_
 refine aw rfl rfl ?_
 refine aq (aL rfl rfl) rfl rfl ?_
 refine aq (aL rfl rfl) rfl rfl ?_
 refine ae ?_
 refine ak ?_
 refine ay rfl ?_
 refine aH ?_
 refine bo ?_
 refine ak ?_
 refine ab ?_
 refine aq (aj rfl) rfl rfl ?_
 refine aq (bd rfl rfl (by omega) (by omega)) rfl rfl ?_
 refine aq (ai rfl) rfl rfl ?_
 refine ae ?_
 refine bj (j + 1) ?_ ?_ ⟨rfl, trivial⟩ (by repeat (first | exact trivial | refine ⟨rfl, ?_⟩)) (cr 1)
 show j + 1 ≤ _
 omega
 omega
 refine aq (ai rfl) rfl rfl ?_
 refine aq (ai rfl) rfl rfl ?_
 refine ae ?_
 refine ak ?_
 refine ap ?_
 refine ab ?_
 refine aq (aj rfl) rfl rfl ?_
 refine aq (aj rfl) rfl rfl ?_
 refine aq (aj rfl) rfl rfl ?_
 refine aq (aj rfl) rfl rfl ?_
 refine aq (bq  Tryz.underlying83 cj rfl rfl (bH 4 rfl) rfl (by omega)) rfl rfl ?_
 refine aq (bu c4 dm cj rfl (bH 4 rfl) (by omega) rfl rfl) rfl rfl ?_
 refine aq (aj rfl) rfl rfl ?_
 refine aq (bq  Tryz.underlying59 bC rfl rfl (fun w hw => (cI (ce 5 rfl hw) ((List.mem_flatMap.2 ⟨_, bc (d := dm) hi, .head _⟩))).1) rfl (by omega)) rfl rfl ?_
 refine aq (bu cO ([] : aU) bC rfl (fun w hw => (cI (ce 5 rfl hw) ((List.mem_flatMap.2 ⟨_, bc (d := dm) hi, .head _⟩))).1) (by omega) rfl rfl) rfl rfl ?_
 refine bh rfl d4 rfl (db ls _ _ ((rows.getD i dm).1.getD j []) hlsb (by omega) (by omega)) (fun w hw => (aP (d9 3 rfl hw) a8)) ?_
 refine aq (gW Tryz.underlying4 rfl rfl) rfl rfl ?_
 refine ey (t := 197) rfl (fun e => hlo (h31_11.trans e)) ?_
 refine aq (aj rfl) rfl rfl ?_
 refine aw rfl rfl ?_
 refine aq (aj rfl) rfl rfl ?_
 refine aw rfl rfl ?_
 refine aq (aj rfl) rfl rfl ?_
 refine aK rfl rfl rfl rfl ?_
 refine aK rfl rfl rfl rfl ?_
 refine aK rfl rfl rfl rfl ?_
 refine bl rfl rfl rfl ?_
 refine bl rfl rfl rfl ?_
 refine bl rfl rfl rfl ?_
 refine bl rfl rfl rfl ?_
 refine bl rfl rfl rfl ?_
 refine bl rfl rfl rfl ?_
 refine bl rfl rfl rfl ?_
 refine bl rfl rfl rfl ?_
 refine bl rfl rfl rfl ?_
 refine bl rfl rfl rfl ?_
 refine aK rfl rfl rfl rfl ?_
 refine aw rfl rfl ?_
 refine aq (aL rfl rfl) rfl rfl ?_
 refine aq (aL rfl rfl) rfl rfl ?_
 refine ae ?_
 refine ak ?_
 refine ay rfl ?_
 refine aH ?_
 refine bo ?_
 refine ak ?_
 refine ab ?_
 refine aq (aj rfl) rfl rfl ?_
 refine aq (bd rfl rfl (by omega) (by omega)) rfl rfl ?_
 refine aq (ai rfl) rfl rfl ?_
 refine ae ?_
 refine bj (j + 1) ?_ ?_ ⟨rfl, trivial⟩ (by repeat (first | exact trivial | refine ⟨rfl, ?_⟩)) (cr 1)
 show j + 1 ≤ _
 omega
 omega
 refine ae ?_
 refine ak ?_
 refine ay rfl ?_
 refine bE ?_
 refine aZ ?_
 refine aY ?_
 refine a7 ?_
 refine bo ?_
 refine ak ?_
 refine ab ?_
 refine aq (aj rfl) rfl rfl ?_
 refine aq (bd rfl rfl (by omega) (by omega)) rfl rfl ?_
 refine aq (ai rfl) rfl rfl ?_
 refine ae ?_
 refine bj ((i + 1, hm2)) ?_ ?_ ⟨rfl, trivial⟩ (by repeat (first | exact trivial | refine ⟨rfl, ?_⟩)) (fun w h => (h.weak (.cons _ (.cons_cons _ (.cons _ (.cons _ (.cons _ (.cons_cons _ .slnil)))))) (fun s hs => .tail _ (hs))).f1.f1)
 exact ⟨by show i + 1 ≤ _; omega, hI2⟩
 show rows.length - (i + 1) < rows.length - i
 omega
 refine ax (i := 8) rfl ah (bF rfl) (cr 1) av rfl (aa (aa (ao (aa (au (ao (aa ar))))))) (by kernel_rfl) rfl ?_
 refine cm (by kernel_rfl) ?_
 refine ak ?_
 refine aA rfl ?_
 refine ap ?_
 refine ab ?_
 refine aq (ai rfl) rfl rfl ?_
 refine ae ?_
 refine ak ?_
 refine aJ ?_
 refine aC ?_
 refine aT ?_
 refine aC ?_
 refine bw ?_
 refine aT ?_
 refine aC ?_
 refine aN (ts := [4]) rfl rfl rfl (fun w hw => ?_)
 exact ⟨(), rfl, hw.base, (hw.weak (List.nil_sublist _) (fun s hs => hs)).toNews⟩
 refine ae ?_
 refine ak ?_
 refine ay rfl ?_
 refine bE ?_
 refine aZ ?_
 refine aY ?_
 refine a7 ?_
 refine ak ?_
 refine ap ?_
 refine ab ?_
 refine aq (ai rfl) rfl rfl ?_
 refine ae ?_
 refine ak ?_
 refine aJ ?_
 refine aN (ts := [4]) rfl rfl rfl (fun w hw => ?_)
 exact ⟨(), rfl, hw.base, (hw.weak (List.nil_sublist _) (fun s hs => hs)).toNews⟩
 refine aw rfl rfl ?_
 refine aq (bF rfl) rfl rfl ?_
 refine aq (aL rfl rfl) rfl rfl ?_
 refine ae ?_
 refine ak ?_
 refine aA rfl ?_
 refine ap ?_
 refine ab ?_
 refine aq (ai rfl) rfl rfl ?_
 refine ae ?_
 refine ak ?_
 refine aJ ?_
 refine aC ?_
 refine aN (ts := [4]) rfl rfl rfl (fun w hw => ?_)
 exact ⟨(), rfl, hw.base, (hw.weak (List.nil_sublist _) (fun s hs => hs)).toNews⟩
 refine ap ?_
 refine ab ?_
 refine bI rfl rfl rfl (fun b16 => ?_)
 refine aq (ai rfl) rfl rfl ?_
 refine ae ?_
 refine ak ?_
 refine ap ?_
 refine ap ?_
 refine ab ?_
 refine aV rfl ent_30 c_lives14 rfl ?_
 refine bZ (t := 21) (.bool true) rfl (congrArg Value.bool rfl) ?_
 refine aq (bF rfl) rfl rfl ?_
 refine ae ?_
 refine ak ?_
 refine ay rfl ?_
 refine aH ?_
 refine ak ?_
 refine ap ?_
 refine ap ?_
 refine ab ?_
 refine aq (aj rfl) rfl rfl ?_
 refine aq (bK Tryz.underlying83 rfl) rfl rfl ?_
 refine aq (dO rfl rfl) rfl rfl ?_
 refine aG (t := 25) rfl (fun h3_2 => ?_) (fun h3_2 => ?_)
 refine aq (aj rfl) rfl rfl ?_
 refine aK rfl rfl rfl rfl ?_
 refine aK rfl rfl rfl rfl ?_
 refine aK rfl rfl rfl rfl ?_
 refine aq (aS rfl rfl) rfl rfl ?_
 refine ae ?_
 refine ak ?_
 refine aA rfl ?_
 refine ap ?_
 refine ab ?_
 refine aq (ai rfl) rfl rfl ?_
 refine ae ?_
 refine ak ?_
 refine aJ ?_
 refine aC ?_
 refine aN (ts := [4]) rfl rfl rfl (fun w hw => ?_)
 exact ⟨(), rfl, hw.base, (hw.weak (List.nil_sublist _) (fun s hs => hs)).toNews⟩
 refine aq (aj rfl) rfl rfl ?_
 refine aw rfl rfl ?_
 refine aq (aM 0 fG rfl rfl rfl rfl) rfl rfl ?_
 refine aw rfl rfl ?_
 refine bh rfl ent_32 rfl (c_light14 rg res.length A c [] none 0 hr.1 hres (by decide)) (fun w hw => (aP (rd_none) (aP (rd_rall nofun) a8))) ?_
 refine bi (t := 28) rfl (fun h3_5 => ?_) (fun h3_5 => ?_)
 have hl6 := light_nil h3_5
 have hlb : res.length ≤ 1000000000000 := by omega
 have hfr := free_le rg res
 refine aw rfl rfl ?_
 refine aq (bF rfl) rfl rfl ?_
 refine aq (aL rfl rfl) rfl rfl ?_
 refine ae ?_
 refine ak ?_
 refine ay rfl ?_
 refine aH ?_
 refine ak ?_
 refine ap ?_
 refine ab ?_
 refine aq (aM 0 fG rfl rfl rfl rfl) rfl rfl ?_
 refine bh rfl ent_31 rfl (c_vNewbad rg res A c hr hrs hlb hT) (fun w hw => (aP (ce 0 rfl hw) a8)) ?_
 refine aq (aj rfl) rfl rfl ?_
 refine aq (aI rfl rfl) rfl rfl ?_
 refine aq (aI rfl rfl) rfl rfl ?_
 refine aq (ai rfl) rfl rfl ?_
 refine aq (ai rfl) rfl rfl ?_
 refine ae ?_
 refine ak ?_
 refine ap ?_
 refine ap ?_
 refine ab ?_
 refine aq (aj rfl) rfl rfl ?_
 refine aq (ct rfl rfl) rfl rfl ?_
 refine gK (t := 37) rfl hT ?_
 refine aq (aj rfl) rfl rfl ?_
 refine aK rfl rfl rfl rfl ?_
 refine aK rfl rfl rfl rfl ?_
 refine aq (aS rfl rfl) rfl rfl ?_
 refine ae ?_
 refine ak ?_
 refine aA rfl ?_
 refine ap ?_
 refine ab ?_
 refine aq (aj rfl) rfl rfl ?_
 refine aq (aM 0 fG rfl rfl rfl rfl) rfl rfl ?_
 refine bh rfl ent_43 rfl (c_vCheck rg res A c hr hrs hlb) (fun w hw => (aP (ce 0 rfl hw) a8)) ?_
 refine aq (fc rfl rfl) rfl rfl ?_
 refine gK (t := 45) rfl rfl ?_
 refine aq (aj rfl) rfl rfl ?_
 refine aw rfl rfl ?_
 refine aq (aj rfl) rfl rfl ?_
 refine aw rfl rfl ?_
 refine aq (ct rfl rfl) rfl rfl ?_
 refine gK (t := 48) rfl hT ?_
 refine aq (aS rfl rfl) rfl rfl ?_
 refine aq (ai rfl) rfl rfl ?_
 refine ae ?_
 refine ak ?_
 refine aJ ?_
 refine aC ?_
 refine aN (ts := [4]) rfl rfl rfl (fun w hw => ?_)
 exact ⟨(), rfl, hw.base, (hw.weak (List.nil_sublist _) (fun s hs => hs)).toNews⟩
 refine aw rfl rfl ?_
 refine aq (bF rfl) rfl rfl ?_
 refine aq (aL rfl rfl) rfl rfl ?_
 refine ae ?_
 refine ak ?_
 refine aA rfl ?_
 refine ap ?_
 refine ab ?_
 refine aq (ai rfl) rfl rfl ?_
 refine ae ?_
 refine ak ?_
 refine aJ ?_
 refine aC ?_
 refine aN (ts := [4]) rfl rfl rfl (fun w hw => ?_)
 exact ⟨(), rfl, hw.base, (hw.weak (List.nil_sublist _) (fun s hs => hs)).toNews⟩
end Go.Proofs.YtnpdgmoeoidppaaGreat
