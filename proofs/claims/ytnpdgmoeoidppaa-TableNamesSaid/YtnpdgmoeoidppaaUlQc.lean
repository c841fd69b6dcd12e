import Derived.Test.YtnpdgmoeoidppaaUmQc
import Derived.Test.YtnpdgmoeoidppaaLxQc
/- law 17: what the chapter tells -/
namespace Go.Proofs.Ytnpdgmoeoidppaa
open Go.RowKit Go.Shelf
set_option linter.unusedVariables false
set_option linter.unusedSimpArgs false

theorem bu_24_1 (x0 : Option Addr) (x1 : Nat) (x2 : Nat) : Try.prog.built 24 [(1, .slice x0 x1 x2)] = some [.int .i64 0, .slice x0 x1 x2].toArray := by kernel_rfl
theorem bu_27_0_1_2 (x0 : Bool) (x1 : Int) (x2 : Int) : Try.prog.built 27 [(0, .bool x0), (1, .int .i64 x1), (2, .int .i64 x2)] = some [.bool x0, .int .i64 x1, .int .i64 x2, .slice none 0 0, .slice none 0 0].toArray := by kernel_rfl
theorem eW (x0 : Int) (x1 : Int) (x2 : Option Addr) (x3 : Nat) (x4 : Nat) : Try.prog.built 27 [(1, .int .i64 x0), (2, .int .i64 x1), (4, .slice x2 x3 x4)] = some [.bool false, .int .i64 x0, .int .i64 x1, .slice none 0 0, .slice x2 x3 x4].toArray := by kernel_rfl
theorem ez : Enters Try.prog 24 := enters_of Try.func24 (by kernel_rfl) rfl
theorem fd : Enters Try.prog 25 := enters_of Try.func25 (by kernel_rfl) rfl

set_option maxRecDepth 100000 in
set_option maxHeartbeats 4000000 in
theorem c_TableNames  : d4 Try.prog 6 #[] (.bool true) := by
 intro w0
 refine bR (ok0 := no) (S := []) (args := []) 197 Try.func6 rfl rfl rfl (by simp) (by simp) ?_
 refine ap ?_
 refine ah ?_
 refine au (aj rfl) rfl rfl ?_
 refine aa ?_
 refine am ?_
 refine ap ?_
 refine ap ?_
 refine ah ?_
 refine bL rfl ent_9 c_lives17 rfl ?_
 refine du (t := 21) (.bool true) rfl (congrArg Value.bool rfl) ?_
 refine au (cC rfl) rfl rfl ?_
 refine aa ?_
 refine am ?_
 refine aK rfl ?_
 refine aZ ?_
 refine am ?_
 refine ap ?_
 refine ah ?_
 refine au (bB rfl (bu_24)) rfl rfl ?_
 refine bh (vs := [_]) ([[98]] : List (aW)) bm Try.underlying105 bK rfl rfl rfl rfl rfl rfl (fun As1 => ?_)
 refine aS rfl bU rfl (ct _ _ _ (by decide)) (fun w hw => (ao (aP 0 rfl hw) aM)) ?_
 refine bh (vs := [_]) ([[97]] : List (aW)) bm Try.underlying105 bK rfl rfl rfl rfl rfl rfl (fun As2 => ?_)
 refine aS rfl bU rfl (ct _ _ _ (by decide)) (fun w hw => (ao (aP 0 rfl hw) aM)) ?_
 refine bh (vs := [_, _]) (pN17 : List (Le)) bw Try.underlying22 a7 rfl rfl rfl rfl rfl rfl (fun As3 => ?_)
 refine au (bB rfl (ek _ _ _ _ _)) rfl rfl ?_
 refine bC rfl bz rfl (bJ 0 [] _ _ true 0 3 pN17 _ _ [] none _ nofun pN17_tb (by decide) (by decide) (by decide) nofun) (fun w hw => (ao (cT) (ao (bM nofun) (ao (aP 0 rfl hw) (ao (bM pN17_rd) (ao (cT) aM)))))) (fun ⟨⟨ta, Aa, ca⟩, hta⟩ => ?_)
 refine du (t := 31) (.tuple #[.agg (dU 3 Aa ta.length ca).toArray, .int .i64 0]) rfl (by rw [apN_a.1]; rfl) ?_
 have hta2 : ta.map (·.e) = rN17.map (·.e) := hta.trans apN_a.2
 have htaok := rN17_tb hta2
 have htal : ta.length ≤ 1000 := by rw [eh hta2]; decide
 have htm : bY 3 ta = 0 := (f7 3 hta2).trans tabN17
 refine au (ak rfl) rfl rfl ?_
 refine au (aL rfl rfl) rfl rfl ?_
 refine au (aL rfl rfl) rfl rfl ?_
 refine bo bd rfl rfl (fun b5 => ?_)
 refine bf bd rfl rfl rfl .z rfl rfl rfl rfl ?_
 refine au (aj rfl) rfl rfl ?_
 refine aa ?_
 refine am ?_
 refine ap ?_
 refine ah ?_
 refine au (bj 0 bd rfl rfl rfl rfl) rfl rfl ?_
 refine au (bB rfl (bu_27_1_2 _ _)) rfl rfl ?_
 refine bC rfl bz rfl (bJ 3 ta _ _ false 2 4 [] none _ [] none _ htaok nofun htal (by decide) (by decide) nofun) (fun w hw => (ao (aP 2 rfl hw) (ao (cz 1 rfl hw) (ao (cT) (ao (bM nofun) (ao (cT) aM)))))) (fun ⟨⟨te, Ae, ce⟩, hte⟩ => ?_)
 have he9 : (bv 3 ta false 2 4 [] []).1 = 9 := ((cN hta2 rfl).1).trans apN_1
 refine du (t := 37) (.tuple #[.agg (dU 0 Ae te.length ce).toArray, .int .i64 9]) rfl (by rw [he9]; rfl) ?_
 refine au (ak rfl) rfl rfl ?_
 refine au (aL rfl rfl) rfl rfl ?_
 refine au (aL rfl rfl) rfl rfl ?_
 refine bo bd rfl rfl (fun b7 => ?_)
 refine bf bd rfl rfl rfl .z rfl rfl rfl rfl ?_
 refine au (aj rfl) rfl rfl ?_
 refine aa ?_
 refine am ?_
 refine ga (σ := Unit) (fun g => [(6, .int .i64 5)]) (fun g => [Ch.row b5 (dU 3 Aa ta.length ca) 24, Ch.rall (ta.flatMap fv), Ch.ls Aa ca 44 7 dT ta]) (fun g => ?_) (fun J5 => ?_)
 refine ga (σ := Unit) (fun g => [(8, .int .i64 6)]) (fun g => [Ch.row b5 (dU 3 Aa ta.length ca) 24, Ch.rall (ta.flatMap fv), Ch.ls Aa ca 44 7 dT ta]) (fun g => ?_) (fun J6 => ?_)
 refine ap ?_
 refine ah ?_
 refine au (bj 0 bd rfl rfl rfl rfl) rfl rfl ?_
 refine au (bB rfl (bu_27_0_1_2 _ _ _)) rfl rfl ?_
 refine bC rfl bz rfl (bJ 3 ta _ _ true 3 4 [] none _ [] none _ htaok nofun htal (by decide) (by decide) nofun) (fun w hw => (ao (aP 2 rfl hw) (ao (cz 1 rfl hw) (ao (cT) (ao (bM nofun) (ao (cT) aM)))))) (fun ⟨⟨th, Ah, ch⟩, hth⟩ => ?_)
 have hh9 : (bv 3 ta true 3 4 [] []).1 = 2 := ((cN hta2 rfl).1).trans apN_4
 refine du (t := 64) (.tuple #[.agg (dU 0 Ah th.length ch).toArray, .int .i64 2]) rfl (by rw [hh9]; rfl) ?_
 refine au (ak rfl) rfl rfl ?_
 refine au (aL rfl rfl) rfl rfl ?_
 refine au (aL rfl rfl) rfl rfl ?_
 refine bo bd rfl rfl (fun b9 => ?_)
 refine bf bd rfl rfl rfl .z rfl rfl rfl rfl ?_
 refine au (aj rfl) rfl rfl ?_
 refine aa ?_
 refine am ?_
 refine ap ?_
 refine ah ?_
 refine au (bj 3 bd rfl rfl rfl rfl) rfl rfl ?_
 refine au (bB rfl (bu_44)) rfl rfl ?_
 refine bh (vs := [_]) ([bQ] : List (Le)) bw Try.underlying22 a7 rfl rfl rfl rfl rfl rfl (fun As10 => ?_)
 refine au (bB rfl (ek _ _ _ _ _)) rfl rfl ?_
 refine bC rfl bz rfl (bJ 3 ta _ _ true 0 4 [bQ] _ _ [] none _ htaok zN17_tb htal (by decide) (by decide) nofun) (fun w hw => (ao (aP 6 rfl hw) (ao (cz 5 rfl hw) (ao (aP 0 rfl hw) (ao (bM zN17_rd) (ao (cT) aM)))))) (fun ⟨⟨ti, Ai, ci⟩, hti⟩ => ?_)
 have hi9 : (bv 3 ta true 0 4 [bQ] []).1 = 2 := ((cN hta2 rfl).1).trans apN_5
 refine du (t := 72) (.tuple #[.agg (dU 0 Ai ti.length ci).toArray, .int .i64 2]) rfl (by rw [hi9]; rfl) ?_
 refine au (ak rfl) rfl rfl ?_
 refine au (aL rfl rfl) rfl rfl ?_
 refine au (aL rfl rfl) rfl rfl ?_
 refine bo bd rfl rfl (fun b12 => ?_)
 refine bf bd rfl rfl rfl .z rfl rfl rfl rfl ?_
 refine au (aj rfl) rfl rfl ?_
 refine aa ?_
 refine am ?_
 refine ga (σ := {x : Option Le // x.map (·.e) = some (auE17 [[97]])} × Nat) (fun g => [(13, .pointer (some ⟨g.2, 0, none⟩)), (14, .bool true)]) (fun g => [Ch.row g.2 (dT (g.1.1.getD bQ)) 44, Ch.row b5 (dU 3 Aa ta.length ca) 24, Ch.rall (ta.flatMap fv), Ch.ls Aa ca 44 7 dT ta]) (fun g => ?_) (fun J9 => ?_)
 obtain ⟨⟨x9, hx8⟩, q13⟩ := g
 dsimp only at hx8 ⊢
 refine ap ?_
 refine ah ?_
 refine au (aj rfl) rfl rfl ?_
 refine aa ?_
 refine am ?_
 refine ap ?_
 refine ap ?_
 refine ah ?_
 refine au (aj rfl) rfl rfl ?_
 refine aa ?_
 refine am ?_
 refine bk ?_
 refine cu (fun w h => h.nilsl 44 7) ?_
 refine dZ (σ := Nat × List Le × Option Addr × Nat) [15, 16, 82, 83, 84, 85, 86, 87, 88, 89, 90, 91, 92, 93, 94, 95, 96, 97, 98, 99, 100] (fun q => q.1 ≤ 257 ∧ q.2.1 = c8 q.1) (fun q => 257 - q.1) (fun q => [(16, .int .i64 q.1), (15, .slice q.2.2.1 q.2.1.length q.2.2.2)]) (fun q => Ch.ls q.2.2.1 q.2.2.2 44 7 dT q.2.1) ((0, [], none, 0)) ?_ ⟨rfl, rfl, trivial⟩ rfl (fun q hI => ?_)
 exact ⟨Nat.zero_le _, rfl⟩
 obtain ⟨i, acc, Aq, cq⟩ := q
 dsimp only at hI ⊢
 refine ap ?_
 refine ap ?_
 refine ah ?_
 refine au (ak rfl) rfl rfl ?_
 refine au (cX rfl rfl) rfl rfl ?_
 refine aG (t := 83) rfl (fun h12_1 => ?_) (fun h12_1 => ?_)
 have hi : i < 257 := by omega
 have hal : acc.length = i := by rw [hI.2, eL]
 refine aa ?_
 refine am ?_
 refine aI rfl ?_
 refine aZ ?_
 refine am ?_
 refine ap ?_
 refine bk ?_
 refine ah ?_
 refine au (ak rfl) rfl rfl ?_
 refine au (ak rfl) rfl rfl ?_
 refine au (y_rem rfl rfl (by omega)) rfl rfl ?_
 refine du (t := 88) (.int .i64 ((i % 16 : Nat) : Int)) rfl rfl ?_
 refine au (cr rfl rfl (by omega) (by omega)) rfl rfl ?_
 refine au (fU Try.underlying3 Try.underlying5 rfl) rfl rfl ?_
 refine du (t := 90) (.int .u8 ((UInt8.ofNat (97 + i % 16)).toNat : Int)) rfl (congrArg _ (by rw [eX (by omega) (by omega), u8n (by omega)]; omega)) ?_
 refine au (ak rfl) rfl rfl ?_
 refine au (y_quo rfl rfl (by omega)) rfl rfl ?_
 refine du (t := 92) (.int .i64 ((i / 16 : Nat) : Int)) rfl (congrArg _ (wrap_i64 (n := ((i / 16 : Nat) : Int)) (by omega) (by omega))) ?_
 refine au (cr rfl rfl (by omega) (by omega)) rfl rfl ?_
 refine au (fU Try.underlying3 Try.underlying5 rfl) rfl rfl ?_
 refine du (t := 94) (.int .u8 ((UInt8.ofNat (97 + i / 16)).toNat : Int)) rfl (congrArg _ (by rw [eX (by omega) (by omega), u8n (by omega)]; omega)) ?_
 refine bh (vs := [_, _]) ([UInt8.ofNat (97 + i % 16), UInt8.ofNat (97 + i / 16)] : List (UInt8)) enc_b Try.underlying54 ty_5 rfl rfl rfl rfl rfl rfl (fun As13 => ?_)
 refine au (y_b2s Try.underlying54 Try.underlying9 Try.underlying5 rfl (dS 0 rfl)) rfl rfl ?_
 refine bh (vs := [_]) ([[UInt8.ofNat (97 + i % 16), UInt8.ofNat (97 + i / 16)]] : List (aW)) bm Try.underlying105 bK rfl rfl rfl rfl rfl rfl (fun As14 => ?_)
 refine aS rfl bU rfl (ct _ _ _ (by show 1 ≤ 1000000000000; decide)) (fun w hw => (ao (aP 0 rfl hw) aM)) ?_
 refine bh (vs := [_]) ([mE17 i] : List (Le)) bw Try.underlying22 a7 rfl rfl rfl rfl rfl rfl (fun As15 => ?_)
 refine d1 (enc := dT) (sz := 7) [mE17 i] Try.underlying22 a7 rfl rfl rfl (fun A c => (.s (.s (.s (.z))))) (gt 0 Try.underlying22 rfl) (by simp only [List.length_cons, List.length_nil, Nat.zero_add]; omega) (by simp only [List.length_cons, List.length_nil, Nat.zero_add]; omega) rfl (fun A15 c15 => ?_)
 refine au (aj rfl) rfl rfl ?_
 refine aa ?_
 refine bV ?_
 refine am ?_
 refine ah ?_
 refine au (ak rfl) rfl rfl ?_
 refine au (cr rfl rfl (by omega) (by omega)) rfl rfl ?_
 refine au (aj rfl) rfl rfl ?_
 refine aa ?_
 refine cn ((i + 1, acc ++ [mE17 i], A15, c15)) ?_ ?_ ⟨rfl, rfl, trivial⟩ (by repeat (first | exact trivial | refine ⟨rfl, ?_⟩)) (aJ 3)
 exact ⟨by show i + 1 ≤ _; omega, by show _ = c8 (i + 1); rw [many_succ, ← hI.2]⟩
 show 257 - (i + 1) < 257 - i
 omega
 refine aa ?_
 refine am ?_
 refine aK rfl ?_
 refine cB ?_
 refine bl ?_
 refine bq ?_
 refine bA ?_
 refine am ?_
 refine ap ?_
 obtain rfl : i = 257 := by omega
 obtain rfl := hI.2
 refine ah ?_
 refine au (bj 2 bd rfl rfl rfl rfl) rfl rfl ?_
 refine au (ak rfl) rfl rfl ?_
 refine au (bB rfl (ek _ _ _ _ _)) rfl rfl ?_
 refine bC rfl bz rfl (bJ 3 ta _ _ true 0 4 (c8 257) _ _ [] none _ htaok many_tb htal (by rw [eL]; decide) (by decide) nofun) (fun w hw => (ao (aP 4 rfl hw) (ao (cz 3 rfl hw) (ao (aP 0 rfl hw) (ao (bM many_rd) (ao (cT) aM)))))) (fun ⟨⟨tj, Aj, cj⟩, htj⟩ => ?_)
 have hj9 : (bv 3 ta true 0 4 (c8 257) []).1 = 3 := ap_many_long htm
 refine du (t := 105) (.tuple #[.agg (dU 0 Aj tj.length cj).toArray, .int .i64 3]) rfl (by rw [hj9]; rfl) ?_
 refine au (ak rfl) rfl rfl ?_
 refine au (aL rfl rfl) rfl rfl ?_
 refine au (aL rfl rfl) rfl rfl ?_
 refine bo bd rfl rfl (fun b18 => ?_)
 refine bf bd rfl rfl rfl .z rfl rfl rfl rfl ?_
 refine au (aj rfl) rfl rfl ?_
 refine aa ?_
 refine am ?_
 refine ga (σ := {q : List Le × Option Addr × Nat // q.1.length = 256} × Nat) (fun g => [(19, .pointer (some ⟨g.2, 0, none⟩)), (20, .int .i64 0)]) (fun g => [Ch.rall (g.1.1.1.flatMap fv), Ch.ls g.1.1.2.1 g.1.1.2.2 44 7 dT g.1.1.1, Ch.row g.2 (dU 4 g.1.1.2.1 g.1.1.1.length g.1.1.2.2) 24, Ch.row q13 (dT (x9.getD bQ)) 44, Ch.row b5 (dU 3 Aa ta.length ca) 24, Ch.rall (ta.flatMap fv), Ch.ls Aa ca 44 7 dT ta]) (fun g => ?_) (fun J16 => ?_)
 obtain ⟨⟨⟨tb, Ab, cb⟩, htb8⟩, q19⟩ := g
 dsimp only at htb8 ⊢
 refine ap ?_
 refine eG 82 rfl mixed ?_
 apply wu_k7 #[true, true, true, true, true, true, true, true, true, true, true, true, true, true, true, true, true, true, true, true, true, true, true, true, true, true, true, true, true, true, true, true, true, true, true, true, true, true, true, true, true, true, true, true, true, true, true, true, true, true, true, true, true, true, true, true, true, true, true, true, true, true, true, true, true, true, true, true, true, true, true, true, true, false, false, false, false, false, false, false, false, false] 9
 intro K17_6
 apply wu_k6 #[true, true, true, true, true, true, true, true, true, true, true, true, true, true, true, true, true, true, true, true, true, true, true, true, true, true, true, true, true, true, true, true, true, true, true, true, true, true, true, true, true, true, true, true, true, true, true, true, true, true, true, true, true, true, true, true, true, true, true, true, true, true, true, true, true, true, true, true, true, true, true, true, false, false, false, false, false, false, false, false, false, false] 10
 intro K17_5
 apply wu_k4 #[true, true, true, true, true, true, true, true, true, true, true, true, true, true, true, true, true, true, true, true, true, true, true, true, true, true, true, true, true, true, true, true, true, true, true, false, false, false, false, false, false, false, false, false, false, false, false, false, false, false, false, false, false, false, false, false, false, false, false, false, false, false, false, false, false, false, false, false, false, false, false, false, false, false, false, false, false, false, false, false, false, false] 47
 intro K17_4
 apply eO #[true, true, true, true, true, true, true, true, true, true, true, true, true, true, true, true, true, true, true, true, true, true, true, true, true, true, true, true, true, true, true, true, true, false, false, false, true, false, false, false, false, false, false, false, false, false, false, false, false, false, false, false, false, false, false, false, false, false, false, false, false, false, false, false, false, false, false, false, false, false, false, false, false, false, false, false, false, false, false, false, false, false] 48
 intro K17_3
 apply eO #[true, true, true, true, true, true, true, true, true, true, true, true, true, true, true, true, true, true, true, true, true, true, true, true, true, true, true, true, true, true, true, true, true, false, true, false, false, false, false, false, false, false, false, false, false, false, false, false, false, false, false, false, false, false, false, false, false, false, false, false, false, false, false, false, false, false, false, false, false, false, false, false, false, false, false, false, false, false, false, false, false, false] 48
 intro K17_2
 apply fP #[true, true, true, true, true, true, true, true, true, true, true, true, true, true, true, true, true, true, true, true, true, true, true, true, true, true, true, true, true, true, true, true, true, true, false, false, false, false, false, false, false, false, false, false, false, false, false, false, false, false, false, false, false, false, false, false, false, false, false, false, false, false, false, false, false, false, false, false, false, false, false, false, false, false, false, false, false, false, false, false, false, false] 48
 intro K17_1
 apply ft #[true, true, true, true, true, true, true, true, true, true, true, true, true, true, true, true, true, true, true, true, true, true, true, true, true, true, true, true, true, true, true, true, true, false, false, false, false, false, false, false, false, false, false, false, false, false, false, false, false, false, false, false, false, false, false, false, false, false, false, false, false, false, false, false, false, false, false, false, false, false, false, false, false, false, false, false, false, false, false, false, false, false] 49
 intro K17_0
 refine aQ (i := 0) rfl rfl rfl (aB rfl ent_9) (by as_aux_lemma => kernel_rfl) rfl ?_
 refine bL rfl ent_9 c_lives17 rfl ?_
 refine aa ?_
 refine ax aD ?_
 refine bO (t := 116) (.bool true) rfl (congrArg Value.bool rfl) ?_
 refine aq (i := 1) rfl ae (ak rfl) aD aD rfl (ai ar) (by as_aux_lemma => kernel_rfl) rfl ?_
 refine aq (i := 2) rfl (ay rfl rfl) (ak rfl) aD aD rfl (ai ar) (by as_aux_lemma => kernel_rfl) rfl ?_
 refine aq (i := 3) rfl (ay rfl rfl) (bW rfl rfl) aD aD rfl (ai ar) (by as_aux_lemma => kernel_rfl) rfl ?_
 refine cH (t := 119) rfl rfl ?_
 refine aq (i := 4) rfl ae (aF rfl rfl) aD aD rfl (ai ar) (by as_aux_lemma => kernel_rfl) rfl ?_
 refine aq (i := 5) rfl ae (ak rfl) aD aD rfl (ai ar) (by as_aux_lemma => kernel_rfl) rfl ?_
 refine aq (i := 6) rfl (ay rfl rfl) (ak rfl) aD aD rfl (ai ar) (by as_aux_lemma => kernel_rfl) rfl ?_
 refine aq (i := 7) rfl (ay rfl rfl) (bW rfl rfl) aD aD rfl (ai ar) (by as_aux_lemma => kernel_rfl) rfl ?_
 refine cH (t := 123) rfl rfl ?_
 refine aq (i := 8) rfl ae (aF rfl rfl) aD aD rfl (ai ar) (by as_aux_lemma => kernel_rfl) rfl ?_
 refine aq (i := 9) rfl ae (ak rfl) aD aD rfl (ai ar) (by as_aux_lemma => kernel_rfl) rfl ?_
 refine aq (i := 10) rfl (ay rfl rfl) (ak rfl) aD aD rfl (ai ar) (by as_aux_lemma => kernel_rfl) rfl ?_
 refine aq (i := 11) rfl (ay rfl rfl) (bW rfl rfl) aD aD rfl (ai ar) (by as_aux_lemma => kernel_rfl) rfl ?_
 refine cH (t := 127) rfl rfl ?_
 refine aq (i := 12) rfl ae (aF rfl rfl) aD aD rfl (ai ar) (by as_aux_lemma => kernel_rfl) rfl ?_
 refine aq (i := 13) rfl ae (ak rfl) aD aD rfl (ai ar) (by as_aux_lemma => kernel_rfl) rfl ?_
 refine aq (i := 14) rfl (ay rfl rfl) (ak rfl) aD aD rfl (ai ar) (by as_aux_lemma => kernel_rfl) rfl ?_
 refine aq (i := 15) rfl (ay rfl rfl) (bW rfl rfl) aD aD rfl (ai ar) (by as_aux_lemma => kernel_rfl) rfl ?_
 refine cH (t := 131) rfl rfl ?_
 refine aq (i := 16) rfl ae (aF rfl rfl) aD aD rfl (ai ar) (by as_aux_lemma => kernel_rfl) rfl ?_
 refine aq (i := 17) rfl ae (ak rfl) aD aD rfl (ai ar) (by as_aux_lemma => kernel_rfl) rfl ?_
 refine aq (i := 18) rfl (ay rfl rfl) (ak rfl) aD aD rfl (ai ar) (by as_aux_lemma => kernel_rfl) rfl ?_
 refine aq (i := 19) rfl (ay rfl rfl) (bW rfl rfl) aD aD rfl (ai ar) (by as_aux_lemma => kernel_rfl) rfl ?_
 refine cH (t := 135) rfl rfl ?_
 refine aq (i := 20) rfl ae (aF rfl rfl) aD aD rfl (ai ar) (by as_aux_lemma => kernel_rfl) rfl ?_
 refine aq (i := 21) rfl ae (ak rfl) aD aD rfl (ai ar) (by as_aux_lemma => kernel_rfl) rfl ?_
 refine aq (i := 22) rfl (ay rfl rfl) (ak rfl) aD aD rfl (ai ar) (by as_aux_lemma => kernel_rfl) rfl ?_
 refine bO (t := 138) (.bool true) rfl (congrArg Value.bool rfl) ?_
 refine aq (i := 23) rfl ae (aF rfl rfl) aD aD rfl (ai ar) (by as_aux_lemma => kernel_rfl) rfl ?_
 refine aq (i := 24) rfl ae (ak rfl) aD aD rfl (ai ar) (by as_aux_lemma => kernel_rfl) rfl ?_
 refine aq (i := 25) rfl (ay rfl rfl) (aR db rfl) aD aD rfl (ai ar) (by as_aux_lemma => kernel_rfl) rfl ?_
 refine aq (i := 26) rfl (ay rfl rfl) (aN 3 bN rfl rfl rfl) aD aD rfl (ai ar) (by as_aux_lemma => kernel_rfl) rfl ?_
 refine aQ (i := 27) rfl rfl rfl (fun _ _ _ => az (by as_aux_lemma => kernel_rfl)) (by as_aux_lemma => kernel_rfl) rfl ?_
 refine av rfl rfl ?_
 refine bh (vs := [_]) ([[97]] : List (aW)) bm Try.underlying105 bK rfl rfl rfl rfl rfl rfl (fun As19 => ?_)
 refine aa ?_
 refine ax (aJ 1) ?_
 refine aQ (i := 28) rfl rfl rfl (aB rfl bp) (by as_aux_lemma => kernel_rfl) rfl ?_
 refine av rfl rfl ?_
 refine aS rfl bp rfl (bH _ _ _ (by decide)) (fun w hw => (ao (aP 0 rfl hw) aM)) ?_
 refine aa ?_
 refine ax (aJ 1) ?_
 refine aq (i := 29) rfl (ay rfl rfl) (d8 rfl rfl) (aJ 1) aD rfl (ai ar) (by as_aux_lemma => kernel_rfl) rfl ?_
 refine cH (t := 145) rfl (by rw [(eT hx8).2]; rfl) ?_
 refine aq (i := 30) rfl ae (aF rfl rfl) (aJ 1) aD rfl (ai ar) (by as_aux_lemma => kernel_rfl) rfl ?_
 refine aq (i := 31) rfl ae (ak rfl) (aJ 1) aD rfl (ai ar) (by as_aux_lemma => kernel_rfl) rfl ?_
 refine aq (i := 32) rfl (ay rfl rfl) (bj 4 bd rfl rfl rfl rfl) (aJ 1) aD rfl (ai ar) (by as_aux_lemma => kernel_rfl) rfl ?_
 refine bn (listed' := #[true, true, true, true, true, true, true, true, true, true, true, true, true, true, true, true, true, true, true, true, true, true, true, true, true, true, true, true, true, true, true, true, true, false, false, false, false, false, false, false, false, false, false, false, false, false, false, false, false, false, false, false, false, false, false, false, false, false, false, false, false, false, false, false, false, false, false, false, false, false, false, false, false, false, false, false, false, false, false, false, false, false]) (by as_aux_lemma => kernel_rfl) ?_
 exact K17_0 As19 _ bx
 intro As19
 refine bI (js := [33, 34, 36]) (by as_aux_lemma => kernel_rfl) rfl ?_
 refine aH (i := 33) rfl rfl rfl (aB rfl fd) rfl ?_ ?_
 refine av rfl rfl ?_
 refine cY rfl fd rfl (fX 3 ta _ _ htaok (by omega)) (fun w hw => (ao (aP 7 rfl hw) (ao (cz 6 rfl hw) aM))) (fun ⟨A19, c19⟩ => ?_)
 refine aa ?_
 refine ax (aJ 2) ?_
 refine bn (listed' := #[true, true, true, true, true, true, true, true, true, true, true, true, true, true, true, true, true, true, true, true, true, true, true, true, true, true, true, true, true, true, true, true, true, true, false, false, false, false, false, false, false, false, false, false, false, false, false, false, false, false, false, false, false, false, false, false, false, false, false, false, false, false, false, false, false, false, false, false, false, false, false, false, false, false, false, false, false, false, false, false, false, false]) (by as_aux_lemma => kernel_rfl) ?_
 exact K17_1 As19 A19 c19 _ bx
 refine aH (i := 34) rfl rfl rfl (fun _ _ _ => az (by as_aux_lemma => kernel_rfl)) rfl ?_ ?_
 refine av rfl rfl ?_
 refine bh (vs := [_]) ([[97]] : List (aW)) bm Try.underlying105 bK rfl rfl rfl rfl rfl rfl (fun As21 => ?_)
 refine aa ?_
 refine ax (aJ 2) ?_
 refine bn (listed' := #[true, true, true, true, true, true, true, true, true, true, true, true, true, true, true, true, true, true, true, true, true, true, true, true, true, true, true, true, true, true, true, true, true, false, true, false, false, false, false, false, false, false, false, false, false, false, false, false, false, false, false, false, false, false, false, false, false, false, false, false, false, false, false, false, false, false, false, false, false, false, false, false, false, false, false, false, false, false, false, false, false, false]) (by as_aux_lemma => kernel_rfl) ?_
 exact K17_2 As19 As21 _ bx
 refine aH (i := 36) rfl rfl rfl (fun _ _ _ => az (by as_aux_lemma => kernel_rfl)) rfl ?_ ?_
 refine av rfl rfl ?_
 refine bh (vs := [_]) ([[98]] : List (aW)) bm Try.underlying105 bK rfl rfl rfl rfl rfl rfl (fun As22 => ?_)
 refine aa ?_
 refine ax (aJ 2) ?_
 refine bn (listed' := #[true, true, true, true, true, true, true, true, true, true, true, true, true, true, true, true, true, true, true, true, true, true, true, true, true, true, true, true, true, true, true, true, true, false, false, false, true, false, false, false, false, false, false, false, false, false, false, false, false, false, false, false, false, false, false, false, false, false, false, false, false, false, false, false, false, false, false, false, false, false, false, false, false, false, false, false, false, false, false, false, false, false]) (by as_aux_lemma => kernel_rfl) ?_
 exact K17_3 As19 As22 _ bx
 exact br
 intro As19 A19 c19
 refine bI (js := [34, 36]) (by as_aux_lemma => kernel_rfl) rfl ?_
 refine aH (i := 34) rfl rfl rfl (fun _ _ _ => az (by as_aux_lemma => kernel_rfl)) rfl ?_ ?_
 refine av rfl rfl ?_
 refine bh (vs := [_]) ([[97]] : List (aW)) bm Try.underlying105 bK rfl rfl rfl rfl rfl rfl (fun As23 => ?_)
 refine aa ?_
 refine ax (aJ 3) ?_
 refine bn (listed' := #[true, true, true, true, true, true, true, true, true, true, true, true, true, true, true, true, true, true, true, true, true, true, true, true, true, true, true, true, true, true, true, true, true, true, true, false, false, false, false, false, false, false, false, false, false, false, false, false, false, false, false, false, false, false, false, false, false, false, false, false, false, false, false, false, false, false, false, false, false, false, false, false, false, false, false, false, false, false, false, false, false, false]) (by as_aux_lemma => kernel_rfl) ?_
 exact K17_4 As19 A19 c19 As23 _ bx
 refine aH (i := 36) rfl rfl rfl (fun _ _ _ => az (by as_aux_lemma => kernel_rfl)) rfl ?_ ?_
 refine av rfl rfl ?_
 refine bh (vs := [_]) ([[98]] : List (aW)) bm Try.underlying105 bK rfl rfl rfl rfl rfl rfl (fun As24 => ?_)
 refine aa ?_
 refine ax (aJ 3) ?_
 refine aQ (i := 34) rfl rfl rfl (fun _ _ _ => az (by as_aux_lemma => kernel_rfl)) (by as_aux_lemma => kernel_rfl) rfl ?_
 refine av rfl rfl ?_
 refine bh (vs := [_]) ([[97]] : List (aW)) bm Try.underlying105 bK rfl rfl rfl rfl rfl rfl (fun As25 => ?_)
 refine aa ?_
 refine ax (aJ 4) ?_
 refine aQ (i := 35) rfl rfl rfl (aB rfl bp) (by as_aux_lemma => kernel_rfl) rfl ?_
 refine av rfl rfl ?_
 refine aS rfl bp rfl (bH _ _ _ (by decide)) (fun w hw => (ao (aP 0 rfl hw) aM)) ?_
 refine aa ?_
 refine ax (aJ 4) ?_
 refine aQ (i := 37) rfl rfl rfl (aB rfl bp) (by as_aux_lemma => kernel_rfl) rfl ?_
 refine av rfl rfl ?_
 refine aS rfl bp rfl (bH _ _ _ (by decide)) (fun w hw => (ao (aP 1 rfl hw) aM)) ?_
 refine aa ?_
 refine ax (aJ 4) ?_
 refine aQ (i := 38) rfl rfl rfl (fun _ _ _ => az (by as_aux_lemma => kernel_rfl)) (by as_aux_lemma => kernel_rfl) rfl ?_
 refine av rfl rfl ?_
 refine bh (vs := [_, _]) ([cQ 97, cQ 98] : List (aW)) bm Try.underlying25 bN rfl rfl rfl rfl rfl rfl (fun As26 => ?_)
 refine aa ?_
 refine ax (aJ 5) ?_
 refine aQ (i := 39) rfl rfl rfl (aB rfl ez) (by as_aux_lemma => kernel_rfl) rfl ?_
 refine av rfl rfl ?_
 refine aS rfl ez rfl (dG (auL ta) [cQ 97, cQ 98] _ _ _ _ (by have := gM ta; omega)) (fun w hw => (ao (aP 3 rfl hw) (ao (aP 0 rfl hw) aM))) ?_
 refine aa ?_
 refine ax (aJ 5) ?_
 refine bO (t := 155) (.bool true) rfl (congrArg Value.bool (decide_eq_true ((auL_e hta2).trans auN17))) ?_
 refine aq (i := 40) rfl ae (aF rfl rfl) (aJ 5) aD rfl (ai ar) (by as_aux_lemma => kernel_rfl) rfl ?_
 refine aq (i := 41) rfl ae (ak rfl) (aJ 5) aD rfl (ai ar) (by as_aux_lemma => kernel_rfl) rfl ?_
 refine aq (i := 42) rfl (ay rfl rfl) (ak rfl) (aJ 5) aD rfl (ai ar) (by as_aux_lemma => kernel_rfl) rfl ?_
 refine aq (i := 43) rfl (ay rfl rfl) (bW rfl rfl) (aJ 5) aD rfl (ai ar) (by as_aux_lemma => kernel_rfl) rfl ?_
 refine cH (t := 159) rfl rfl ?_
 refine aq (i := 44) rfl ae (aF rfl rfl) (aJ 5) aD rfl (ai ar) (by as_aux_lemma => kernel_rfl) rfl ?_
 refine aq (i := 45) rfl ae (ak rfl) (aJ 5) aD rfl (ai ar) (by as_aux_lemma => kernel_rfl) rfl ?_
 refine aq (i := 46) rfl (ay rfl rfl) (ak rfl) (aJ 5) aD rfl (ai ar) (by as_aux_lemma => kernel_rfl) rfl ?_
 refine aq (i := 47) rfl (ay rfl rfl) (bW rfl rfl) (aJ 5) aD rfl (ai ar) (by as_aux_lemma => kernel_rfl) rfl ?_
 refine cH (t := 163) rfl rfl ?_
 refine aq (i := 48) rfl ae (aF rfl rfl) (aJ 5) aD rfl (ai ar) (by as_aux_lemma => kernel_rfl) rfl ?_
 refine aq (i := 49) rfl ae (ak rfl) (aJ 5) aD rfl (ai ar) (by as_aux_lemma => kernel_rfl) rfl ?_
 refine aq (i := 50) rfl (ay rfl rfl) (aR cS rfl) (aJ 5) aD rfl (ai ar) (by as_aux_lemma => kernel_rfl) rfl ?_
 refine aq (i := 51) rfl (ay rfl rfl) (aN 2 bX rfl rfl rfl) (aJ 5) aD rfl (ai ar) (by as_aux_lemma => kernel_rfl) rfl ?_
 refine aq (i := 52) rfl (ay rfl rfl) (bu Try.underlying22 rfl) (aJ 5) aD rfl (ai ar) (by as_aux_lemma => kernel_rfl) rfl ?_
 refine aq (i := 53) rfl (ay rfl rfl) (bW rfl rfl) (aJ 5) aD rfl (ai ar) (by as_aux_lemma => kernel_rfl) rfl ?_
 refine cH (t := 169) rfl (by rw [htb8]; rfl) ?_
 refine aq (i := 54) rfl ae (aF rfl rfl) (aJ 5) aD rfl (ai ar) (by as_aux_lemma => kernel_rfl) rfl ?_
 refine aq (i := 55) rfl ae (ak rfl) (aJ 5) aD rfl (ai ar) (by as_aux_lemma => kernel_rfl) rfl ?_
 refine aq (i := 56) rfl (ay rfl rfl) (bj 4 bd rfl rfl rfl rfl) (aJ 5) aD rfl (ai ar) (by as_aux_lemma => kernel_rfl) rfl ?_
 refine aq (i := 57) rfl (ay rfl rfl) (bj 4 bd rfl rfl rfl rfl) (aJ 5) aD rfl (ai ar) (by as_aux_lemma => kernel_rfl) rfl ?_
 refine aQ (i := 58) rfl rfl rfl (aB rfl cU) (by as_aux_lemma => kernel_rfl) rfl ?_
 refine av rfl rfl ?_
 refine aS rfl cU rfl (dO 3 ta _ _ 3 ta _ _ htaok (by omega) (by omega)) (fun w hw => (ao (aP 11 rfl hw) (ao (cz 10 rfl hw) (ao (aP 11 rfl hw) (ao (cz 10 rfl hw) aM))))) ?_
 refine aa ?_
 refine ax (aJ 5) ?_
 refine bO (t := 174) (.bool true) rfl (congrArg Value.bool (decide_eq_true ⟨rfl, rfl⟩)) ?_
 refine aq (i := 59) rfl ae (aF rfl rfl) (aJ 5) aD rfl (ai ar) (by as_aux_lemma => kernel_rfl) rfl ?_
 refine aq (i := 60) rfl ae (ak rfl) (aJ 5) aD rfl (ai ar) (by as_aux_lemma => kernel_rfl) rfl ?_
 refine aq (i := 61) rfl (ay rfl rfl) (bj 4 bd rfl rfl rfl rfl) (aJ 5) aD rfl (ai ar) (by as_aux_lemma => kernel_rfl) rfl ?_
 refine aq (i := 62) rfl (ay rfl rfl) (bj 2 bd rfl rfl rfl rfl) (aJ 5) aD rfl (ai ar) (by as_aux_lemma => kernel_rfl) rfl ?_
 refine aQ (i := 63) rfl rfl rfl (aB rfl cU) (by as_aux_lemma => kernel_rfl) rfl ?_
 refine av rfl rfl ?_
 refine aS rfl cU rfl (dO 3 ta _ _ 4 tb _ _ htaok (by omega) (by omega)) (fun w hw => (ao (aP 11 rfl hw) (ao (cz 10 rfl hw) (ao (aP 6 rfl hw) (ao (cz 5 rfl hw) aM))))) ?_
 refine aa ?_
 refine ax (aJ 5) ?_
 refine bO (t := 179) (.bool false) rfl (congrArg Value.bool (decide_eq_false (fun h => absurd h.1 (by decide)))) ?_
 refine aq (i := 64) rfl (ay rfl rfl) (cC rfl) (aJ 5) aD rfl (ai ar) (by as_aux_lemma => kernel_rfl) rfl ?_
 refine aq (i := 65) rfl ae (aF rfl rfl) (aJ 5) aD rfl (ai ar) (by as_aux_lemma => kernel_rfl) rfl ?_
 refine aq (i := 66) rfl ae (ak rfl) (aJ 5) aD rfl (ai ar) (by as_aux_lemma => kernel_rfl) rfl ?_
 refine aq (i := 67) rfl (ay rfl rfl) (bj 4 bd rfl rfl rfl rfl) (aJ 5) aD rfl (ai ar) (by as_aux_lemma => kernel_rfl) rfl ?_
 refine aQ (i := 68) rfl rfl rfl (aB rfl dn) (by as_aux_lemma => kernel_rfl) rfl ?_
 refine av rfl rfl ?_
 refine aS rfl dn rfl (cD 3 ta _ _ htaok (by omega)) (fun w hw => (ao (aP 11 rfl hw) (ao (cz 10 rfl hw) aM))) ?_
 refine aa ?_
 refine ax (aJ 5) ?_
 refine aq (i := 69) rfl (ay rfl rfl) (bW rfl rfl) (aJ 5) aD rfl (ai ar) (by as_aux_lemma => kernel_rfl) rfl ?_
 refine cH (t := 185) rfl htm ?_
 refine aq (i := 70) rfl ae (aF rfl rfl) (aJ 5) aD rfl (ai ar) (by as_aux_lemma => kernel_rfl) rfl ?_
 refine aq (i := 71) rfl ae (ak rfl) (aJ 5) aD rfl (ai ar) (by as_aux_lemma => kernel_rfl) rfl ?_
 refine bn (listed' := #[true, true, true, true, true, true, true, true, true, true, true, true, true, true, true, true, true, true, true, true, true, true, true, true, true, true, true, true, true, true, true, true, true, true, true, true, true, true, true, true, true, true, true, true, true, true, true, true, true, true, true, true, true, true, true, true, true, true, true, true, true, true, true, true, true, true, true, true, true, true, true, true, false, false, false, false, false, false, false, false, false, false]) (by as_aux_lemma => kernel_rfl) ?_
 exact K17_5 As19 A19 c19 As24 As25 As26 _ bx
 exact br
 intro As19 As21
 refine bI (js := [33, 36]) (by as_aux_lemma => kernel_rfl) rfl ?_
 refine aH (i := 33) rfl rfl rfl (aB rfl fd) rfl ?_ ?_
 refine av rfl rfl ?_
 refine cY rfl fd rfl (fX 3 ta _ _ htaok (by omega)) (fun w hw => (ao (aP 8 rfl hw) (ao (cz 7 rfl hw) aM))) (fun ⟨A26, c26⟩ => ?_)
 refine aa ?_
 refine ax (aJ 3) ?_
 refine cA (fun w h => h.f2.f1.f2) ?_
 refine bn (listed' := #[true, true, true, true, true, true, true, true, true, true, true, true, true, true, true, true, true, true, true, true, true, true, true, true, true, true, true, true, true, true, true, true, true, true, true, false, false, false, false, false, false, false, false, false, false, false, false, false, false, false, false, false, false, false, false, false, false, false, false, false, false, false, false, false, false, false, false, false, false, false, false, false, false, false, false, false, false, false, false, false, false, false]) (by as_aux_lemma => kernel_rfl) ?_
 exact K17_4 As19 A26 c26 As21 _ (by repeat (first | exact trivial | refine ⟨rfl, ?_⟩))
 refine aH (i := 36) rfl rfl rfl (fun _ _ _ => az (by as_aux_lemma => kernel_rfl)) rfl ?_ ?_
 refine av rfl rfl ?_
 refine bh (vs := [_]) ([[98]] : List (aW)) bm Try.underlying105 bK rfl rfl rfl rfl rfl rfl (fun As28 => ?_)
 refine aa ?_
 refine ax (aJ 3) ?_
 refine aQ (i := 33) rfl rfl rfl (aB rfl fd) (by as_aux_lemma => kernel_rfl) rfl ?_
 refine av rfl rfl ?_
 refine cY rfl fd rfl (fX 3 ta _ _ htaok (by omega)) (fun w hw => (ao (aP 9 rfl hw) (ao (cz 8 rfl hw) aM))) (fun ⟨A28, c28⟩ => ?_)
 refine aa ?_
 refine ax (aJ 4) ?_
 refine aQ (i := 35) rfl rfl rfl (aB rfl bp) (by as_aux_lemma => kernel_rfl) rfl ?_
 refine av rfl rfl ?_
 refine aS rfl bp rfl (bH _ _ _ (by decide)) (fun w hw => (ao (aP 2 rfl hw) aM)) ?_
 refine aa ?_
 refine ax (aJ 4) ?_
 refine aQ (i := 37) rfl rfl rfl (aB rfl bp) (by as_aux_lemma => kernel_rfl) rfl ?_
 refine av rfl rfl ?_
 refine aS rfl bp rfl (bH _ _ _ (by decide)) (fun w hw => (ao (aP 1 rfl hw) aM)) ?_
 refine aa ?_
 refine ax (aJ 4) ?_
 refine aQ (i := 38) rfl rfl rfl (fun _ _ _ => az (by as_aux_lemma => kernel_rfl)) (by as_aux_lemma => kernel_rfl) rfl ?_
 refine av rfl rfl ?_
 refine bh (vs := [_, _]) ([cQ 97, cQ 98] : List (aW)) bm Try.underlying25 bN rfl rfl rfl rfl rfl rfl (fun As30 => ?_)
 refine aa ?_
 refine ax (aJ 5) ?_
 refine aQ (i := 39) rfl rfl rfl (aB rfl ez) (by as_aux_lemma => kernel_rfl) rfl ?_
 refine av rfl rfl ?_
 refine aS rfl ez rfl (dG (auL ta) [cQ 97, cQ 98] _ _ _ _ (by have := gM ta; omega)) (fun w hw => (ao (aP 1 rfl hw) (ao (aP 0 rfl hw) aM))) ?_
 refine aa ?_
 refine ax (aJ 5) ?_
 refine bO (t := 155) (.bool true) rfl (congrArg Value.bool (decide_eq_true ((auL_e hta2).trans auN17))) ?_
 refine aq (i := 40) rfl ae (aF rfl rfl) (aJ 5) aD rfl (ai ar) (by as_aux_lemma => kernel_rfl) rfl ?_
 refine aq (i := 41) rfl ae (ak rfl) (aJ 5) aD rfl (ai ar) (by as_aux_lemma => kernel_rfl) rfl ?_
 refine aq (i := 42) rfl (ay rfl rfl) (ak rfl) (aJ 5) aD rfl (ai ar) (by as_aux_lemma => kernel_rfl) rfl ?_
 refine aq (i := 43) rfl (ay rfl rfl) (bW rfl rfl) (aJ 5) aD rfl (ai ar) (by as_aux_lemma => kernel_rfl) rfl ?_
 refine cH (t := 159) rfl rfl ?_
 refine aq (i := 44) rfl ae (aF rfl rfl) (aJ 5) aD rfl (ai ar) (by as_aux_lemma => kernel_rfl) rfl ?_
 refine aq (i := 45) rfl ae (ak rfl) (aJ 5) aD rfl (ai ar) (by as_aux_lemma => kernel_rfl) rfl ?_
 refine aq (i := 46) rfl (ay rfl rfl) (ak rfl) (aJ 5) aD rfl (ai ar) (by as_aux_lemma => kernel_rfl) rfl ?_
 refine aq (i := 47) rfl (ay rfl rfl) (bW rfl rfl) (aJ 5) aD rfl (ai ar) (by as_aux_lemma => kernel_rfl) rfl ?_
 refine cH (t := 163) rfl rfl ?_
 refine aq (i := 48) rfl ae (aF rfl rfl) (aJ 5) aD rfl (ai ar) (by as_aux_lemma => kernel_rfl) rfl ?_
 refine aq (i := 49) rfl ae (ak rfl) (aJ 5) aD rfl (ai ar) (by as_aux_lemma => kernel_rfl) rfl ?_
 refine aq (i := 50) rfl (ay rfl rfl) (aR cS rfl) (aJ 5) aD rfl (ai ar) (by as_aux_lemma => kernel_rfl) rfl ?_
 refine aq (i := 51) rfl (ay rfl rfl) (aN 2 bX rfl rfl rfl) (aJ 5) aD rfl (ai ar) (by as_aux_lemma => kernel_rfl) rfl ?_
 refine aq (i := 52) rfl (ay rfl rfl) (bu Try.underlying22 rfl) (aJ 5) aD rfl (ai ar) (by as_aux_lemma => kernel_rfl) rfl ?_
 refine aq (i := 53) rfl (ay rfl rfl) (bW rfl rfl) (aJ 5) aD rfl (ai ar) (by as_aux_lemma => kernel_rfl) rfl ?_
 refine cH (t := 169) rfl (by rw [htb8]; rfl) ?_
 refine aq (i := 54) rfl ae (aF rfl rfl) (aJ 5) aD rfl (ai ar) (by as_aux_lemma => kernel_rfl) rfl ?_
 refine aq (i := 55) rfl ae (ak rfl) (aJ 5) aD rfl (ai ar) (by as_aux_lemma => kernel_rfl) rfl ?_
 refine aq (i := 56) rfl (ay rfl rfl) (bj 4 bd rfl rfl rfl rfl) (aJ 5) aD rfl (ai ar) (by as_aux_lemma => kernel_rfl) rfl ?_
 refine aq (i := 57) rfl (ay rfl rfl) (bj 4 bd rfl rfl rfl rfl) (aJ 5) aD rfl (ai ar) (by as_aux_lemma => kernel_rfl) rfl ?_
 refine aQ (i := 58) rfl rfl rfl (aB rfl cU) (by as_aux_lemma => kernel_rfl) rfl ?_
 refine av rfl rfl ?_
 refine aS rfl cU rfl (dO 3 ta _ _ 3 ta _ _ htaok (by omega) (by omega)) (fun w hw => (ao (aP 11 rfl hw) (ao (cz 10 rfl hw) (ao (aP 11 rfl hw) (ao (cz 10 rfl hw) aM))))) ?_
 refine aa ?_
 refine ax (aJ 5) ?_
 refine bO (t := 174) (.bool true) rfl (congrArg Value.bool (decide_eq_true ⟨rfl, rfl⟩)) ?_
 refine aq (i := 59) rfl ae (aF rfl rfl) (aJ 5) aD rfl (ai ar) (by as_aux_lemma => kernel_rfl) rfl ?_
 refine aq (i := 60) rfl ae (ak rfl) (aJ 5) aD rfl (ai ar) (by as_aux_lemma => kernel_rfl) rfl ?_
 refine aq (i := 61) rfl (ay rfl rfl) (bj 4 bd rfl rfl rfl rfl) (aJ 5) aD rfl (ai ar) (by as_aux_lemma => kernel_rfl) rfl ?_
 refine aq (i := 62) rfl (ay rfl rfl) (bj 2 bd rfl rfl rfl rfl) (aJ 5) aD rfl (ai ar) (by as_aux_lemma => kernel_rfl) rfl ?_
 refine aQ (i := 63) rfl rfl rfl (aB rfl cU) (by as_aux_lemma => kernel_rfl) rfl ?_
 refine av rfl rfl ?_
 refine aS rfl cU rfl (dO 3 ta _ _ 4 tb _ _ htaok (by omega) (by omega)) (fun w hw => (ao (aP 11 rfl hw) (ao (cz 10 rfl hw) (ao (aP 6 rfl hw) (ao (cz 5 rfl hw) aM))))) ?_
 refine aa ?_
 refine ax (aJ 5) ?_
 refine bO (t := 179) (.bool false) rfl (congrArg Value.bool (decide_eq_false (fun h => absurd h.1 (by decide)))) ?_
 refine aq (i := 64) rfl (ay rfl rfl) (cC rfl) (aJ 5) aD rfl (ai ar) (by as_aux_lemma => kernel_rfl) rfl ?_
 refine aq (i := 65) rfl ae (aF rfl rfl) (aJ 5) aD rfl (ai ar) (by as_aux_lemma => kernel_rfl) rfl ?_
 refine aq (i := 66) rfl ae (ak rfl) (aJ 5) aD rfl (ai ar) (by as_aux_lemma => kernel_rfl) rfl ?_
 refine aq (i := 67) rfl (ay rfl rfl) (bj 4 bd rfl rfl rfl rfl) (aJ 5) aD rfl (ai ar) (by as_aux_lemma => kernel_rfl) rfl ?_
 refine aQ (i := 68) rfl rfl rfl (aB rfl dn) (by as_aux_lemma => kernel_rfl) rfl ?_
 refine av rfl rfl ?_
 refine aS rfl dn rfl (cD 3 ta _ _ htaok (by omega)) (fun w hw => (ao (aP 11 rfl hw) (ao (cz 10 rfl hw) aM))) ?_
 refine aa ?_
 refine ax (aJ 5) ?_
 refine aq (i := 69) rfl (ay rfl rfl) (bW rfl rfl) (aJ 5) aD rfl (ai ar) (by as_aux_lemma => kernel_rfl) rfl ?_
 refine cH (t := 185) rfl htm ?_
 refine aq (i := 70) rfl ae (aF rfl rfl) (aJ 5) aD rfl (ai ar) (by as_aux_lemma => kernel_rfl) rfl ?_
 refine aq (i := 71) rfl ae (ak rfl) (aJ 5) aD rfl (ai ar) (by as_aux_lemma => kernel_rfl) rfl ?_
 refine cA (fun w h => h.f4.f2.f3.f4.f4) ?_
 refine bn (listed' := #[true, true, true, true, true, true, true, true, true, true, true, true, true, true, true, true, true, true, true, true, true, true, true, true, true, true, true, true, true, true, true, true, true, true, true, true, true, true, true, true, true, true, true, true, true, true, true, true, true, true, true, true, true, true, true, true, true, true, true, true, true, true, true, true, true, true, true, true, true, true, true, true, false, false, false, false, false, false, false, false, false, false]) (by as_aux_lemma => kernel_rfl) ?_
 exact K17_5 As19 A28 c28 As28 As21 As30 _ (by repeat (first | exact trivial | refine ⟨rfl, ?_⟩))
 exact br
 intro As19 As22
 refine bI (js := [33, 34]) (by as_aux_lemma => kernel_rfl) rfl ?_
 refine aH (i := 33) rfl rfl rfl (aB rfl fd) rfl ?_ ?_
 refine av rfl rfl ?_
 refine cY rfl fd rfl (fX 3 ta _ _ htaok (by omega)) (fun w hw => (ao (aP 8 rfl hw) (ao (cz 7 rfl hw) aM))) (fun ⟨A30, c30⟩ => ?_)
 refine aa ?_
 refine ax (aJ 3) ?_
 refine aQ (i := 34) rfl rfl rfl (fun _ _ _ => az (by as_aux_lemma => kernel_rfl)) (by as_aux_lemma => kernel_rfl) rfl ?_
 refine av rfl rfl ?_
 refine bh (vs := [_]) ([[97]] : List (aW)) bm Try.underlying105 bK rfl rfl rfl rfl rfl rfl (fun As32 => ?_)
 refine aa ?_
 refine ax (aJ 4) ?_
 refine aQ (i := 35) rfl rfl rfl (aB rfl bp) (by as_aux_lemma => kernel_rfl) rfl ?_
 refine av rfl rfl ?_
 refine aS rfl bp rfl (bH _ _ _ (by decide)) (fun w hw => (ao (aP 0 rfl hw) aM)) ?_
 refine aa ?_
 refine ax (aJ 4) ?_
 refine aQ (i := 37) rfl rfl rfl (aB rfl bp) (by as_aux_lemma => kernel_rfl) rfl ?_
 refine av rfl rfl ?_
 refine aS rfl bp rfl (bH _ _ _ (by decide)) (fun w hw => (ao (aP 2 rfl hw) aM)) ?_
 refine aa ?_
 refine ax (aJ 4) ?_
 refine aQ (i := 38) rfl rfl rfl (fun _ _ _ => az (by as_aux_lemma => kernel_rfl)) (by as_aux_lemma => kernel_rfl) rfl ?_
 refine av rfl rfl ?_
 refine bh (vs := [_, _]) ([cQ 97, cQ 98] : List (aW)) bm Try.underlying25 bN rfl rfl rfl rfl rfl rfl (fun As33 => ?_)
 refine aa ?_
 refine ax (aJ 5) ?_
 refine aQ (i := 39) rfl rfl rfl (aB rfl ez) (by as_aux_lemma => kernel_rfl) rfl ?_
 refine av rfl rfl ?_
 refine aS rfl ez rfl (dG (auL ta) [cQ 97, cQ 98] _ _ _ _ (by have := gM ta; omega)) (fun w hw => (ao (aP 2 rfl hw) (ao (aP 0 rfl hw) aM))) ?_
 refine aa ?_
 refine ax (aJ 5) ?_
 refine bO (t := 155) (.bool true) rfl (congrArg Value.bool (decide_eq_true ((auL_e hta2).trans auN17))) ?_
 refine aq (i := 40) rfl ae (aF rfl rfl) (aJ 5) aD rfl (ai ar) (by as_aux_lemma => kernel_rfl) rfl ?_
 refine aq (i := 41) rfl ae (ak rfl) (aJ 5) aD rfl (ai ar) (by as_aux_lemma => kernel_rfl) rfl ?_
 refine aq (i := 42) rfl (ay rfl rfl) (ak rfl) (aJ 5) aD rfl (ai ar) (by as_aux_lemma => kernel_rfl) rfl ?_
 refine aq (i := 43) rfl (ay rfl rfl) (bW rfl rfl) (aJ 5) aD rfl (ai ar) (by as_aux_lemma => kernel_rfl) rfl ?_
 refine cH (t := 159) rfl rfl ?_
 refine aq (i := 44) rfl ae (aF rfl rfl) (aJ 5) aD rfl (ai ar) (by as_aux_lemma => kernel_rfl) rfl ?_
 refine aq (i := 45) rfl ae (ak rfl) (aJ 5) aD rfl (ai ar) (by as_aux_lemma => kernel_rfl) rfl ?_
 refine aq (i := 46) rfl (ay rfl rfl) (ak rfl) (aJ 5) aD rfl (ai ar) (by as_aux_lemma => kernel_rfl) rfl ?_
 refine aq (i := 47) rfl (ay rfl rfl) (bW rfl rfl) (aJ 5) aD rfl (ai ar) (by as_aux_lemma => kernel_rfl) rfl ?_
 refine cH (t := 163) rfl rfl ?_
 refine aq (i := 48) rfl ae (aF rfl rfl) (aJ 5) aD rfl (ai ar) (by as_aux_lemma => kernel_rfl) rfl ?_
 refine aq (i := 49) rfl ae (ak rfl) (aJ 5) aD rfl (ai ar) (by as_aux_lemma => kernel_rfl) rfl ?_
 refine aq (i := 50) rfl (ay rfl rfl) (aR cS rfl) (aJ 5) aD rfl (ai ar) (by as_aux_lemma => kernel_rfl) rfl ?_
 refine aq (i := 51) rfl (ay rfl rfl) (aN 2 bX rfl rfl rfl) (aJ 5) aD rfl (ai ar) (by as_aux_lemma => kernel_rfl) rfl ?_
 refine aq (i := 52) rfl (ay rfl rfl) (bu Try.underlying22 rfl) (aJ 5) aD rfl (ai ar) (by as_aux_lemma => kernel_rfl) rfl ?_
 refine aq (i := 53) rfl (ay rfl rfl) (bW rfl rfl) (aJ 5) aD rfl (ai ar) (by as_aux_lemma => kernel_rfl) rfl ?_
 refine cH (t := 169) rfl (by rw [htb8]; rfl) ?_
 refine aq (i := 54) rfl ae (aF rfl rfl) (aJ 5) aD rfl (ai ar) (by as_aux_lemma => kernel_rfl) rfl ?_
 refine aq (i := 55) rfl ae (ak rfl) (aJ 5) aD rfl (ai ar) (by as_aux_lemma => kernel_rfl) rfl ?_
 refine aq (i := 56) rfl (ay rfl rfl) (bj 4 bd rfl rfl rfl rfl) (aJ 5) aD rfl (ai ar) (by as_aux_lemma => kernel_rfl) rfl ?_
 refine aq (i := 57) rfl (ay rfl rfl) (bj 4 bd rfl rfl rfl rfl) (aJ 5) aD rfl (ai ar) (by as_aux_lemma => kernel_rfl) rfl ?_
 refine aQ (i := 58) rfl rfl rfl (aB rfl cU) (by as_aux_lemma => kernel_rfl) rfl ?_
 refine av rfl rfl ?_
 refine aS rfl cU rfl (dO 3 ta _ _ 3 ta _ _ htaok (by omega) (by omega)) (fun w hw => (ao (aP 11 rfl hw) (ao (cz 10 rfl hw) (ao (aP 11 rfl hw) (ao (cz 10 rfl hw) aM))))) ?_
 refine aa ?_
 refine ax (aJ 5) ?_
 refine bO (t := 174) (.bool true) rfl (congrArg Value.bool (decide_eq_true ⟨rfl, rfl⟩)) ?_
 refine aq (i := 59) rfl ae (aF rfl rfl) (aJ 5) aD rfl (ai ar) (by as_aux_lemma => kernel_rfl) rfl ?_
 refine aq (i := 60) rfl ae (ak rfl) (aJ 5) aD rfl (ai ar) (by as_aux_lemma => kernel_rfl) rfl ?_
 refine aq (i := 61) rfl (ay rfl rfl) (bj 4 bd rfl rfl rfl rfl) (aJ 5) aD rfl (ai ar) (by as_aux_lemma => kernel_rfl) rfl ?_
 refine aq (i := 62) rfl (ay rfl rfl) (bj 2 bd rfl rfl rfl rfl) (aJ 5) aD rfl (ai ar) (by as_aux_lemma => kernel_rfl) rfl ?_
 refine aQ (i := 63) rfl rfl rfl (aB rfl cU) (by as_aux_lemma => kernel_rfl) rfl ?_
 refine av rfl rfl ?_
 refine aS rfl cU rfl (dO 3 ta _ _ 4 tb _ _ htaok (by omega) (by omega)) (fun w hw => (ao (aP 11 rfl hw) (ao (cz 10 rfl hw) (ao (aP 6 rfl hw) (ao (cz 5 rfl hw) aM))))) ?_
 refine aa ?_
 refine ax (aJ 5) ?_
 refine bO (t := 179) (.bool false) rfl (congrArg Value.bool (decide_eq_false (fun h => absurd h.1 (by decide)))) ?_
 refine aq (i := 64) rfl (ay rfl rfl) (cC rfl) (aJ 5) aD rfl (ai ar) (by as_aux_lemma => kernel_rfl) rfl ?_
 refine aq (i := 65) rfl ae (aF rfl rfl) (aJ 5) aD rfl (ai ar) (by as_aux_lemma => kernel_rfl) rfl ?_
 refine aq (i := 66) rfl ae (ak rfl) (aJ 5) aD rfl (ai ar) (by as_aux_lemma => kernel_rfl) rfl ?_
 refine aq (i := 67) rfl (ay rfl rfl) (bj 4 bd rfl rfl rfl rfl) (aJ 5) aD rfl (ai ar) (by as_aux_lemma => kernel_rfl) rfl ?_
 refine aQ (i := 68) rfl rfl rfl (aB rfl dn) (by as_aux_lemma => kernel_rfl) rfl ?_
 refine av rfl rfl ?_
 refine aS rfl dn rfl (cD 3 ta _ _ htaok (by omega)) (fun w hw => (ao (aP 11 rfl hw) (ao (cz 10 rfl hw) aM))) ?_
 refine aa ?_
 refine ax (aJ 5) ?_
 refine aq (i := 69) rfl (ay rfl rfl) (bW rfl rfl) (aJ 5) aD rfl (ai ar) (by as_aux_lemma => kernel_rfl) rfl ?_
 refine cH (t := 185) rfl htm ?_
 refine aq (i := 70) rfl ae (aF rfl rfl) (aJ 5) aD rfl (ai ar) (by as_aux_lemma => kernel_rfl) rfl ?_
 refine aq (i := 71) rfl ae (ak rfl) (aJ 5) aD rfl (ai ar) (by as_aux_lemma => kernel_rfl) rfl ?_
 refine cA (fun w h => h.f4.f3.f4.f4.f4) ?_
 refine bn (listed' := #[true, true, true, true, true, true, true, true, true, true, true, true, true, true, true, true, true, true, true, true, true, true, true, true, true, true, true, true, true, true, true, true, true, true, true, true, true, true, true, true, true, true, true, true, true, true, true, true, true, true, true, true, true, true, true, true, true, true, true, true, true, true, true, true, true, true, true, true, true, true, true, true, false, false, false, false, false, false, false, false, false, false]) (by as_aux_lemma => kernel_rfl) ?_
 exact K17_5 As19 A30 c30 As22 As32 As33 _ (by repeat (first | exact trivial | refine ⟨rfl, ?_⟩))
 refine aH (i := 34) rfl rfl rfl (fun _ _ _ => az (by as_aux_lemma => kernel_rfl)) rfl ?_ ?_
 refine av rfl rfl ?_
 refine bh (vs := [_]) ([[97]] : List (aW)) bm Try.underlying105 bK rfl rfl rfl rfl rfl rfl (fun As34 => ?_)
 refine aa ?_
 refine ax (aJ 3) ?_
 refine aQ (i := 33) rfl rfl rfl (aB rfl fd) (by as_aux_lemma => kernel_rfl) rfl ?_
 refine av rfl rfl ?_
 refine cY rfl fd rfl (fX 3 ta _ _ htaok (by omega)) (fun w hw => (ao (aP 9 rfl hw) (ao (cz 8 rfl hw) aM))) (fun ⟨A34, c34⟩ => ?_)
 refine aa ?_
 refine ax (aJ 4) ?_
 refine aQ (i := 35) rfl rfl rfl (aB rfl bp) (by as_aux_lemma => kernel_rfl) rfl ?_
 refine av rfl rfl ?_
 refine aS rfl bp rfl (bH _ _ _ (by decide)) (fun w hw => (ao (aP 1 rfl hw) aM)) ?_
 refine aa ?_
 refine ax (aJ 4) ?_
 refine aQ (i := 37) rfl rfl rfl (aB rfl bp) (by as_aux_lemma => kernel_rfl) rfl ?_
 refine av rfl rfl ?_
 refine aS rfl bp rfl (bH _ _ _ (by decide)) (fun w hw => (ao (aP 2 rfl hw) aM)) ?_
 refine aa ?_
 refine ax (aJ 4) ?_
 refine aQ (i := 38) rfl rfl rfl (fun _ _ _ => az (by as_aux_lemma => kernel_rfl)) (by as_aux_lemma => kernel_rfl) rfl ?_
 refine av rfl rfl ?_
 refine bh (vs := [_, _]) ([cQ 97, cQ 98] : List (aW)) bm Try.underlying25 bN rfl rfl rfl rfl rfl rfl (fun As36 => ?_)
 refine aa ?_
 refine ax (aJ 5) ?_
 refine aQ (i := 39) rfl rfl rfl (aB rfl ez) (by as_aux_lemma => kernel_rfl) rfl ?_
 refine av rfl rfl ?_
 refine aS rfl ez rfl (dG (auL ta) [cQ 97, cQ 98] _ _ _ _ (by have := gM ta; omega)) (fun w hw => (ao (aP 1 rfl hw) (ao (aP 0 rfl hw) aM))) ?_
 refine aa ?_
 refine ax (aJ 5) ?_
 refine bO (t := 155) (.bool true) rfl (congrArg Value.bool (decide_eq_true ((auL_e hta2).trans auN17))) ?_
 refine aq (i := 40) rfl ae (aF rfl rfl) (aJ 5) aD rfl (ai ar) (by as_aux_lemma => kernel_rfl) rfl ?_
 refine aq (i := 41) rfl ae (ak rfl) (aJ 5) aD rfl (ai ar) (by as_aux_lemma => kernel_rfl) rfl ?_
 refine aq (i := 42) rfl (ay rfl rfl) (ak rfl) (aJ 5) aD rfl (ai ar) (by as_aux_lemma => kernel_rfl) rfl ?_
 refine aq (i := 43) rfl (ay rfl rfl) (bW rfl rfl) (aJ 5) aD rfl (ai ar) (by as_aux_lemma => kernel_rfl) rfl ?_
 refine cH (t := 159) rfl rfl ?_
 refine aq (i := 44) rfl ae (aF rfl rfl) (aJ 5) aD rfl (ai ar) (by as_aux_lemma => kernel_rfl) rfl ?_
 refine aq (i := 45) rfl ae (ak rfl) (aJ 5) aD rfl (ai ar) (by as_aux_lemma => kernel_rfl) rfl ?_
 refine aq (i := 46) rfl (ay rfl rfl) (ak rfl) (aJ 5) aD rfl (ai ar) (by as_aux_lemma => kernel_rfl) rfl ?_
 refine aq (i := 47) rfl (ay rfl rfl) (bW rfl rfl) (aJ 5) aD rfl (ai ar) (by as_aux_lemma => kernel_rfl) rfl ?_
 refine cH (t := 163) rfl rfl ?_
 refine aq (i := 48) rfl ae (aF rfl rfl) (aJ 5) aD rfl (ai ar) (by as_aux_lemma => kernel_rfl) rfl ?_
 refine aq (i := 49) rfl ae (ak rfl) (aJ 5) aD rfl (ai ar) (by as_aux_lemma => kernel_rfl) rfl ?_
 refine aq (i := 50) rfl (ay rfl rfl) (aR cS rfl) (aJ 5) aD rfl (ai ar) (by as_aux_lemma => kernel_rfl) rfl ?_
 refine aq (i := 51) rfl (ay rfl rfl) (aN 2 bX rfl rfl rfl) (aJ 5) aD rfl (ai ar) (by as_aux_lemma => kernel_rfl) rfl ?_
 refine aq (i := 52) rfl (ay rfl rfl) (bu Try.underlying22 rfl) (aJ 5) aD rfl (ai ar) (by as_aux_lemma => kernel_rfl) rfl ?_
 refine aq (i := 53) rfl (ay rfl rfl) (bW rfl rfl) (aJ 5) aD rfl (ai ar) (by as_aux_lemma => kernel_rfl) rfl ?_
 refine cH (t := 169) rfl (by rw [htb8]; rfl) ?_
 refine aq (i := 54) rfl ae (aF rfl rfl) (aJ 5) aD rfl (ai ar) (by as_aux_lemma => kernel_rfl) rfl ?_
 refine aq (i := 55) rfl ae (ak rfl) (aJ 5) aD rfl (ai ar) (by as_aux_lemma => kernel_rfl) rfl ?_
 refine aq (i := 56) rfl (ay rfl rfl) (bj 4 bd rfl rfl rfl rfl) (aJ 5) aD rfl (ai ar) (by as_aux_lemma => kernel_rfl) rfl ?_
 refine aq (i := 57) rfl (ay rfl rfl) (bj 4 bd rfl rfl rfl rfl) (aJ 5) aD rfl (ai ar) (by as_aux_lemma => kernel_rfl) rfl ?_
 refine aQ (i := 58) rfl rfl rfl (aB rfl cU) (by as_aux_lemma => kernel_rfl) rfl ?_
 refine av rfl rfl ?_
 refine aS rfl cU rfl (dO 3 ta _ _ 3 ta _ _ htaok (by omega) (by omega)) (fun w hw => (ao (aP 11 rfl hw) (ao (cz 10 rfl hw) (ao (aP 11 rfl hw) (ao (cz 10 rfl hw) aM))))) ?_
 refine aa ?_
 refine ax (aJ 5) ?_
 refine bO (t := 174) (.bool true) rfl (congrArg Value.bool (decide_eq_true ⟨rfl, rfl⟩)) ?_
 refine aq (i := 59) rfl ae (aF rfl rfl) (aJ 5) aD rfl (ai ar) (by as_aux_lemma => kernel_rfl) rfl ?_
 refine aq (i := 60) rfl ae (ak rfl) (aJ 5) aD rfl (ai ar) (by as_aux_lemma => kernel_rfl) rfl ?_
 refine aq (i := 61) rfl (ay rfl rfl) (bj 4 bd rfl rfl rfl rfl) (aJ 5) aD rfl (ai ar) (by as_aux_lemma => kernel_rfl) rfl ?_
 refine aq (i := 62) rfl (ay rfl rfl) (bj 2 bd rfl rfl rfl rfl) (aJ 5) aD rfl (ai ar) (by as_aux_lemma => kernel_rfl) rfl ?_
 refine aQ (i := 63) rfl rfl rfl (aB rfl cU) (by as_aux_lemma => kernel_rfl) rfl ?_
 refine av rfl rfl ?_
 refine aS rfl cU rfl (dO 3 ta _ _ 4 tb _ _ htaok (by omega) (by omega)) (fun w hw => (ao (aP 11 rfl hw) (ao (cz 10 rfl hw) (ao (aP 6 rfl hw) (ao (cz 5 rfl hw) aM))))) ?_
 refine aa ?_
 refine ax (aJ 5) ?_
 refine bO (t := 179) (.bool false) rfl (congrArg Value.bool (decide_eq_false (fun h => absurd h.1 (by decide)))) ?_
 refine aq (i := 64) rfl (ay rfl rfl) (cC rfl) (aJ 5) aD rfl (ai ar) (by as_aux_lemma => kernel_rfl) rfl ?_
 refine aq (i := 65) rfl ae (aF rfl rfl) (aJ 5) aD rfl (ai ar) (by as_aux_lemma => kernel_rfl) rfl ?_
 refine aq (i := 66) rfl ae (ak rfl) (aJ 5) aD rfl (ai ar) (by as_aux_lemma => kernel_rfl) rfl ?_
 refine aq (i := 67) rfl (ay rfl rfl) (bj 4 bd rfl rfl rfl rfl) (aJ 5) aD rfl (ai ar) (by as_aux_lemma => kernel_rfl) rfl ?_
 refine aQ (i := 68) rfl rfl rfl (aB rfl dn) (by as_aux_lemma => kernel_rfl) rfl ?_
 refine av rfl rfl ?_
 refine aS rfl dn rfl (cD 3 ta _ _ htaok (by omega)) (fun w hw => (ao (aP 11 rfl hw) (ao (cz 10 rfl hw) aM))) ?_
 refine aa ?_
 refine ax (aJ 5) ?_
 refine aq (i := 69) rfl (ay rfl rfl) (bW rfl rfl) (aJ 5) aD rfl (ai ar) (by as_aux_lemma => kernel_rfl) rfl ?_
 refine cH (t := 185) rfl htm ?_
 refine aq (i := 70) rfl ae (aF rfl rfl) (aJ 5) aD rfl (ai ar) (by as_aux_lemma => kernel_rfl) rfl ?_
 refine aq (i := 71) rfl ae (ak rfl) (aJ 5) aD rfl (ai ar) (by as_aux_lemma => kernel_rfl) rfl ?_
 refine cA (fun w h => h.f4.f2.f4.f4.f4) ?_
 refine bn (listed' := #[true, true, true, true, true, true, true, true, true, true, true, true, true, true, true, true, true, true, true, true, true, true, true, true, true, true, true, true, true, true, true, true, true, true, true, true, true, true, true, true, true, true, true, true, true, true, true, true, true, true, true, true, true, true, true, true, true, true, true, true, true, true, true, true, true, true, true, true, true, true, true, true, false, false, false, false, false, false, false, false, false, false]) (by as_aux_lemma => kernel_rfl) ?_
 exact K17_5 As19 A34 c34 As22 As34 As36 _ (by repeat (first | exact trivial | refine ⟨rfl, ?_⟩))
 exact br
 intro As19 A19 c19 As23
 refine bI (js := [35, 36]) (by as_aux_lemma => kernel_rfl) rfl ?_
 refine aH (i := 35) rfl rfl rfl (aB rfl bp) rfl ?_ ?_
 refine av rfl rfl ?_
 refine aS rfl bp rfl (bH _ _ _ (by decide)) (fun w hw => (ao (aP 0 rfl hw) aM)) ?_
 refine aa ?_
 refine ax (aJ 3) ?_
 refine aQ (i := 36) rfl rfl rfl (fun _ _ _ => az (by as_aux_lemma => kernel_rfl)) (by as_aux_lemma => kernel_rfl) rfl ?_
 refine av rfl rfl ?_
 refine bh (vs := [_]) ([[98]] : List (aW)) bm Try.underlying105 bK rfl rfl rfl rfl rfl rfl (fun As37 => ?_)
 refine aa ?_
 refine ax (aJ 4) ?_
 refine aQ (i := 37) rfl rfl rfl (aB rfl bp) (by as_aux_lemma => kernel_rfl) rfl ?_
 refine av rfl rfl ?_
 refine aS rfl bp rfl (bH _ _ _ (by decide)) (fun w hw => (ao (aP 0 rfl hw) aM)) ?_
 refine aa ?_
 refine ax (aJ 4) ?_
 refine aQ (i := 38) rfl rfl rfl (fun _ _ _ => az (by as_aux_lemma => kernel_rfl)) (by as_aux_lemma => kernel_rfl) rfl ?_
 refine av rfl rfl ?_
 refine bh (vs := [_, _]) ([cQ 97, cQ 98] : List (aW)) bm Try.underlying25 bN rfl rfl rfl rfl rfl rfl (fun As38 => ?_)
 refine aa ?_
 refine ax (aJ 5) ?_
 refine aQ (i := 39) rfl rfl rfl (aB rfl ez) (by as_aux_lemma => kernel_rfl) rfl ?_
 refine av rfl rfl ?_
 refine aS rfl ez rfl (dG (auL ta) [cQ 97, cQ 98] _ _ _ _ (by have := gM ta; omega)) (fun w hw => (ao (aP 3 rfl hw) (ao (aP 0 rfl hw) aM))) ?_
 refine aa ?_
 refine ax (aJ 5) ?_
 refine bO (t := 155) (.bool true) rfl (congrArg Value.bool (decide_eq_true ((auL_e hta2).trans auN17))) ?_
 refine aq (i := 40) rfl ae (aF rfl rfl) (aJ 5) aD rfl (ai ar) (by as_aux_lemma => kernel_rfl) rfl ?_
 refine aq (i := 41) rfl ae (ak rfl) (aJ 5) aD rfl (ai ar) (by as_aux_lemma => kernel_rfl) rfl ?_
 refine aq (i := 42) rfl (ay rfl rfl) (ak rfl) (aJ 5) aD rfl (ai ar) (by as_aux_lemma => kernel_rfl) rfl ?_
 refine aq (i := 43) rfl (ay rfl rfl) (bW rfl rfl) (aJ 5) aD rfl (ai ar) (by as_aux_lemma => kernel_rfl) rfl ?_
 refine cH (t := 159) rfl rfl ?_
 refine aq (i := 44) rfl ae (aF rfl rfl) (aJ 5) aD rfl (ai ar) (by as_aux_lemma => kernel_rfl) rfl ?_
 refine aq (i := 45) rfl ae (ak rfl) (aJ 5) aD rfl (ai ar) (by as_aux_lemma => kernel_rfl) rfl ?_
 refine aq (i := 46) rfl (ay rfl rfl) (ak rfl) (aJ 5) aD rfl (ai ar) (by as_aux_lemma => kernel_rfl) rfl ?_
 refine aq (i := 47) rfl (ay rfl rfl) (bW rfl rfl) (aJ 5) aD rfl (ai ar) (by as_aux_lemma => kernel_rfl) rfl ?_
 refine cH (t := 163) rfl rfl ?_
 refine aq (i := 48) rfl ae (aF rfl rfl) (aJ 5) aD rfl (ai ar) (by as_aux_lemma => kernel_rfl) rfl ?_
 refine aq (i := 49) rfl ae (ak rfl) (aJ 5) aD rfl (ai ar) (by as_aux_lemma => kernel_rfl) rfl ?_
 refine aq (i := 50) rfl (ay rfl rfl) (aR cS rfl) (aJ 5) aD rfl (ai ar) (by as_aux_lemma => kernel_rfl) rfl ?_
 refine aq (i := 51) rfl (ay rfl rfl) (aN 2 bX rfl rfl rfl) (aJ 5) aD rfl (ai ar) (by as_aux_lemma => kernel_rfl) rfl ?_
 refine aq (i := 52) rfl (ay rfl rfl) (bu Try.underlying22 rfl) (aJ 5) aD rfl (ai ar) (by as_aux_lemma => kernel_rfl) rfl ?_
 refine aq (i := 53) rfl (ay rfl rfl) (bW rfl rfl) (aJ 5) aD rfl (ai ar) (by as_aux_lemma => kernel_rfl) rfl ?_
 refine cH (t := 169) rfl (by rw [htb8]; rfl) ?_
 refine aq (i := 54) rfl ae (aF rfl rfl) (aJ 5) aD rfl (ai ar) (by as_aux_lemma => kernel_rfl) rfl ?_
 refine aq (i := 55) rfl ae (ak rfl) (aJ 5) aD rfl (ai ar) (by as_aux_lemma => kernel_rfl) rfl ?_
 refine aq (i := 56) rfl (ay rfl rfl) (bj 4 bd rfl rfl rfl rfl) (aJ 5) aD rfl (ai ar) (by as_aux_lemma => kernel_rfl) rfl ?_
 refine aq (i := 57) rfl (ay rfl rfl) (bj 4 bd rfl rfl rfl rfl) (aJ 5) aD rfl (ai ar) (by as_aux_lemma => kernel_rfl) rfl ?_
 refine aQ (i := 58) rfl rfl rfl (aB rfl cU) (by as_aux_lemma => kernel_rfl) rfl ?_
 refine av rfl rfl ?_
 refine aS rfl cU rfl (dO 3 ta _ _ 3 ta _ _ htaok (by omega) (by omega)) (fun w hw => (ao (aP 11 rfl hw) (ao (cz 10 rfl hw) (ao (aP 11 rfl hw) (ao (cz 10 rfl hw) aM))))) ?_
 refine aa ?_
 refine ax (aJ 5) ?_
 refine bO (t := 174) (.bool true) rfl (congrArg Value.bool (decide_eq_true ⟨rfl, rfl⟩)) ?_
 refine aq (i := 59) rfl ae (aF rfl rfl) (aJ 5) aD rfl (ai ar) (by as_aux_lemma => kernel_rfl) rfl ?_
 refine aq (i := 60) rfl ae (ak rfl) (aJ 5) aD rfl (ai ar) (by as_aux_lemma => kernel_rfl) rfl ?_
 refine aq (i := 61) rfl (ay rfl rfl) (bj 4 bd rfl rfl rfl rfl) (aJ 5) aD rfl (ai ar) (by as_aux_lemma => kernel_rfl) rfl ?_
 refine aq (i := 62) rfl (ay rfl rfl) (bj 2 bd rfl rfl rfl rfl) (aJ 5) aD rfl (ai ar) (by as_aux_lemma => kernel_rfl) rfl ?_
 refine aQ (i := 63) rfl rfl rfl (aB rfl cU) (by as_aux_lemma => kernel_rfl) rfl ?_
 refine av rfl rfl ?_
 refine aS rfl cU rfl (dO 3 ta _ _ 4 tb _ _ htaok (by omega) (by omega)) (fun w hw => (ao (aP 11 rfl hw) (ao (cz 10 rfl hw) (ao (aP 6 rfl hw) (ao (cz 5 rfl hw) aM))))) ?_
 refine aa ?_
 refine ax (aJ 5) ?_
 refine bO (t := 179) (.bool false) rfl (congrArg Value.bool (decide_eq_false (fun h => absurd h.1 (by decide)))) ?_
 refine aq (i := 64) rfl (ay rfl rfl) (cC rfl) (aJ 5) aD rfl (ai ar) (by as_aux_lemma => kernel_rfl) rfl ?_
 refine aq (i := 65) rfl ae (aF rfl rfl) (aJ 5) aD rfl (ai ar) (by as_aux_lemma => kernel_rfl) rfl ?_
 refine aq (i := 66) rfl ae (ak rfl) (aJ 5) aD rfl (ai ar) (by as_aux_lemma => kernel_rfl) rfl ?_
 refine aq (i := 67) rfl (ay rfl rfl) (bj 4 bd rfl rfl rfl rfl) (aJ 5) aD rfl (ai ar) (by as_aux_lemma => kernel_rfl) rfl ?_
 refine aQ (i := 68) rfl rfl rfl (aB rfl dn) (by as_aux_lemma => kernel_rfl) rfl ?_
 refine av rfl rfl ?_
 refine aS rfl dn rfl (cD 3 ta _ _ htaok (by omega)) (fun w hw => (ao (aP 11 rfl hw) (ao (cz 10 rfl hw) aM))) ?_
 refine aa ?_
 refine ax (aJ 5) ?_
 refine aq (i := 69) rfl (ay rfl rfl) (bW rfl rfl) (aJ 5) aD rfl (ai ar) (by as_aux_lemma => kernel_rfl) rfl ?_
 refine cH (t := 185) rfl htm ?_
 refine aq (i := 70) rfl ae (aF rfl rfl) (aJ 5) aD rfl (ai ar) (by as_aux_lemma => kernel_rfl) rfl ?_
 refine aq (i := 71) rfl ae (ak rfl) (aJ 5) aD rfl (ai ar) (by as_aux_lemma => kernel_rfl) rfl ?_
 refine cA (fun w h => h.f4.f4.f3.f4.f4) ?_
 refine bn (listed' := #[true, true, true, true, true, true, true, true, true, true, true, true, true, true, true, true, true, true, true, true, true, true, true, true, true, true, true, true, true, true, true, true, true, true, true, true, true, true, true, true, true, true, true, true, true, true, true, true, true, true, true, true, true, true, true, true, true, true, true, true, true, true, true, true, true, true, true, true, true, true, true, true, false, false, false, false, false, false, false, false, false, false]) (by as_aux_lemma => kernel_rfl) ?_
 exact K17_5 As19 A19 c19 As37 As23 As38 _ (by repeat (first | exact trivial | refine ⟨rfl, ?_⟩))
 refine aH (i := 36) rfl rfl rfl (fun _ _ _ => az (by as_aux_lemma => kernel_rfl)) rfl ?_ ?_
 refine av rfl rfl ?_
 refine bh (vs := [_]) ([[98]] : List (aW)) bm Try.underlying105 bK rfl rfl rfl rfl rfl rfl (fun As39 => ?_)
 refine aa ?_
 refine ax (aJ 4) ?_
 refine aQ (i := 35) rfl rfl rfl (aB rfl bp) (by as_aux_lemma => kernel_rfl) rfl ?_
 refine av rfl rfl ?_
 refine aS rfl bp rfl (bH _ _ _ (by decide)) (fun w hw => (ao (aP 1 rfl hw) aM)) ?_
 refine aa ?_
 refine ax (aJ 4) ?_
 refine aQ (i := 37) rfl rfl rfl (aB rfl bp) (by as_aux_lemma => kernel_rfl) rfl ?_
 refine av rfl rfl ?_
 refine aS rfl bp rfl (bH _ _ _ (by decide)) (fun w hw => (ao (aP 0 rfl hw) aM)) ?_
 refine aa ?_
 refine ax (aJ 4) ?_
 refine aQ (i := 38) rfl rfl rfl (fun _ _ _ => az (by as_aux_lemma => kernel_rfl)) (by as_aux_lemma => kernel_rfl) rfl ?_
 refine av rfl rfl ?_
 refine bh (vs := [_, _]) ([cQ 97, cQ 98] : List (aW)) bm Try.underlying25 bN rfl rfl rfl rfl rfl rfl (fun As40 => ?_)
 refine aa ?_
 refine ax (aJ 5) ?_
 refine aQ (i := 39) rfl rfl rfl (aB rfl ez) (by as_aux_lemma => kernel_rfl) rfl ?_
 refine av rfl rfl ?_
 refine aS rfl ez rfl (dG (auL ta) [cQ 97, cQ 98] _ _ _ _ (by have := gM ta; omega)) (fun w hw => (ao (aP 3 rfl hw) (ao (aP 0 rfl hw) aM))) ?_
 refine aa ?_
 refine ax (aJ 5) ?_
 refine bO (t := 155) (.bool true) rfl (congrArg Value.bool (decide_eq_true ((auL_e hta2).trans auN17))) ?_
 refine aq (i := 40) rfl ae (aF rfl rfl) (aJ 5) aD rfl (ai ar) (by as_aux_lemma => kernel_rfl) rfl ?_
 refine aq (i := 41) rfl ae (ak rfl) (aJ 5) aD rfl (ai ar) (by as_aux_lemma => kernel_rfl) rfl ?_
 refine aq (i := 42) rfl (ay rfl rfl) (ak rfl) (aJ 5) aD rfl (ai ar) (by as_aux_lemma => kernel_rfl) rfl ?_
 refine aq (i := 43) rfl (ay rfl rfl) (bW rfl rfl) (aJ 5) aD rfl (ai ar) (by as_aux_lemma => kernel_rfl) rfl ?_
 refine cH (t := 159) rfl rfl ?_
 refine aq (i := 44) rfl ae (aF rfl rfl) (aJ 5) aD rfl (ai ar) (by as_aux_lemma => kernel_rfl) rfl ?_
 refine aq (i := 45) rfl ae (ak rfl) (aJ 5) aD rfl (ai ar) (by as_aux_lemma => kernel_rfl) rfl ?_
 refine aq (i := 46) rfl (ay rfl rfl) (ak rfl) (aJ 5) aD rfl (ai ar) (by as_aux_lemma => kernel_rfl) rfl ?_
 refine aq (i := 47) rfl (ay rfl rfl) (bW rfl rfl) (aJ 5) aD rfl (ai ar) (by as_aux_lemma => kernel_rfl) rfl ?_
 refine cH (t := 163) rfl rfl ?_
 refine aq (i := 48) rfl ae (aF rfl rfl) (aJ 5) aD rfl (ai ar) (by as_aux_lemma => kernel_rfl) rfl ?_
 refine aq (i := 49) rfl ae (ak rfl) (aJ 5) aD rfl (ai ar) (by as_aux_lemma => kernel_rfl) rfl ?_
 refine aq (i := 50) rfl (ay rfl rfl) (aR cS rfl) (aJ 5) aD rfl (ai ar) (by as_aux_lemma => kernel_rfl) rfl ?_
 refine aq (i := 51) rfl (ay rfl rfl) (aN 2 bX rfl rfl rfl) (aJ 5) aD rfl (ai ar) (by as_aux_lemma => kernel_rfl) rfl ?_
 refine aq (i := 52) rfl (ay rfl rfl) (bu Try.underlying22 rfl) (aJ 5) aD rfl (ai ar) (by as_aux_lemma => kernel_rfl) rfl ?_
 refine aq (i := 53) rfl (ay rfl rfl) (bW rfl rfl) (aJ 5) aD rfl (ai ar) (by as_aux_lemma => kernel_rfl) rfl ?_
 refine cH (t := 169) rfl (by rw [htb8]; rfl) ?_
 refine aq (i := 54) rfl ae (aF rfl rfl) (aJ 5) aD rfl (ai ar) (by as_aux_lemma => kernel_rfl) rfl ?_
 refine aq (i := 55) rfl ae (ak rfl) (aJ 5) aD rfl (ai ar) (by as_aux_lemma => kernel_rfl) rfl ?_
 refine aq (i := 56) rfl (ay rfl rfl) (bj 4 bd rfl rfl rfl rfl) (aJ 5) aD rfl (ai ar) (by as_aux_lemma => kernel_rfl) rfl ?_
 refine aq (i := 57) rfl (ay rfl rfl) (bj 4 bd rfl rfl rfl rfl) (aJ 5) aD rfl (ai ar) (by as_aux_lemma => kernel_rfl) rfl ?_
 refine aQ (i := 58) rfl rfl rfl (aB rfl cU) (by as_aux_lemma => kernel_rfl) rfl ?_
 refine av rfl rfl ?_
 refine aS rfl cU rfl (dO 3 ta _ _ 3 ta _ _ htaok (by omega) (by omega)) (fun w hw => (ao (aP 11 rfl hw) (ao (cz 10 rfl hw) (ao (aP 11 rfl hw) (ao (cz 10 rfl hw) aM))))) ?_
 refine aa ?_
 refine ax (aJ 5) ?_
 refine bO (t := 174) (.bool true) rfl (congrArg Value.bool (decide_eq_true ⟨rfl, rfl⟩)) ?_
 refine aq (i := 59) rfl ae (aF rfl rfl) (aJ 5) aD rfl (ai ar) (by as_aux_lemma => kernel_rfl) rfl ?_
 refine aq (i := 60) rfl ae (ak rfl) (aJ 5) aD rfl (ai ar) (by as_aux_lemma => kernel_rfl) rfl ?_
 refine aq (i := 61) rfl (ay rfl rfl) (bj 4 bd rfl rfl rfl rfl) (aJ 5) aD rfl (ai ar) (by as_aux_lemma => kernel_rfl) rfl ?_
 refine aq (i := 62) rfl (ay rfl rfl) (bj 2 bd rfl rfl rfl rfl) (aJ 5) aD rfl (ai ar) (by as_aux_lemma => kernel_rfl) rfl ?_
 refine aQ (i := 63) rfl rfl rfl (aB rfl cU) (by as_aux_lemma => kernel_rfl) rfl ?_
 refine av rfl rfl ?_
 refine aS rfl cU rfl (dO 3 ta _ _ 4 tb _ _ htaok (by omega) (by omega)) (fun w hw => (ao (aP 11 rfl hw) (ao (cz 10 rfl hw) (ao (aP 6 rfl hw) (ao (cz 5 rfl hw) aM))))) ?_
 refine aa ?_
 refine ax (aJ 5) ?_
 refine bO (t := 179) (.bool false) rfl (congrArg Value.bool (decide_eq_false (fun h => absurd h.1 (by decide)))) ?_
 refine aq (i := 64) rfl (ay rfl rfl) (cC rfl) (aJ 5) aD rfl (ai ar) (by as_aux_lemma => kernel_rfl) rfl ?_
 refine aq (i := 65) rfl ae (aF rfl rfl) (aJ 5) aD rfl (ai ar) (by as_aux_lemma => kernel_rfl) rfl ?_
 refine aq (i := 66) rfl ae (ak rfl) (aJ 5) aD rfl (ai ar) (by as_aux_lemma => kernel_rfl) rfl ?_
 refine aq (i := 67) rfl (ay rfl rfl) (bj 4 bd rfl rfl rfl rfl) (aJ 5) aD rfl (ai ar) (by as_aux_lemma => kernel_rfl) rfl ?_
 refine aQ (i := 68) rfl rfl rfl (aB rfl dn) (by as_aux_lemma => kernel_rfl) rfl ?_
 refine av rfl rfl ?_
 refine aS rfl dn rfl (cD 3 ta _ _ htaok (by omega)) (fun w hw => (ao (aP 11 rfl hw) (ao (cz 10 rfl hw) aM))) ?_
 refine aa ?_
 refine ax (aJ 5) ?_
 refine aq (i := 69) rfl (ay rfl rfl) (bW rfl rfl) (aJ 5) aD rfl (ai ar) (by as_aux_lemma => kernel_rfl) rfl ?_
 refine cH (t := 185) rfl htm ?_
 refine aq (i := 70) rfl ae (aF rfl rfl) (aJ 5) aD rfl (ai ar) (by as_aux_lemma => kernel_rfl) rfl ?_
 refine aq (i := 71) rfl ae (ak rfl) (aJ 5) aD rfl (ai ar) (by as_aux_lemma => kernel_rfl) rfl ?_
 refine cA (fun w h => h.f4.f4.f3.f4.f4) ?_
 refine bn (listed' := #[true, true, true, true, true, true, true, true, true, true, true, true, true, true, true, true, true, true, true, true, true, true, true, true, true, true, true, true, true, true, true, true, true, true, true, true, true, true, true, true, true, true, true, true, true, true, true, true, true, true, true, true, true, true, true, true, true, true, true, true, true, true, true, true, true, true, true, true, true, true, true, true, false, false, false, false, false, false, false, false, false, false]) (by as_aux_lemma => kernel_rfl) ?_
 exact K17_5 As19 A19 c19 As39 As23 As40 _ (by repeat (first | exact trivial | refine ⟨rfl, ?_⟩))
 exact br
 intro As19 A19 c19 As24 As25 As26
 refine bI (js := [72, 74]) (by as_aux_lemma => kernel_rfl) rfl ?_
 refine aH (i := 72) rfl rfl rfl (fun _ _ _ => az (by as_aux_lemma => kernel_rfl)) rfl ?_ ?_
 refine av rfl rfl ?_
 refine bh (vs := [_]) ([[98]] : List (aW)) bm Try.underlying105 bK rfl rfl rfl rfl rfl rfl (fun As41 => ?_)
 refine aa ?_
 refine ax (aJ 6) ?_
 refine bn (listed' := #[true, true, true, true, true, true, true, true, true, true, true, true, true, true, true, true, true, true, true, true, true, true, true, true, true, true, true, true, true, true, true, true, true, true, true, true, true, true, true, true, true, true, true, true, true, true, true, true, true, true, true, true, true, true, true, true, true, true, true, true, true, true, true, true, true, true, true, true, true, true, true, true, true, false, false, false, false, false, false, false, false, false]) (by as_aux_lemma => kernel_rfl) ?_
 exact K17_6 As19 A19 c19 As24 As25 As26 As41 _ bx
 refine aH (i := 74) rfl rfl rfl (fun _ _ _ => az (by as_aux_lemma => kernel_rfl)) rfl ?_ ?_
 refine av rfl rfl ?_
 refine bh (vs := [_]) ([[66]] : List (aW)) bm Try.underlying105 bK rfl rfl rfl rfl rfl rfl (fun As42 => ?_)
 refine aa ?_
 refine ax (aJ 6) ?_
 refine aQ (i := 72) rfl rfl rfl (fun _ _ _ => az (by as_aux_lemma => kernel_rfl)) (by as_aux_lemma => kernel_rfl) rfl ?_
 refine av rfl rfl ?_
 refine bh (vs := [_]) ([[98]] : List (aW)) bm Try.underlying105 bK rfl rfl rfl rfl rfl rfl (fun As43 => ?_)
 refine aa ?_
 refine ax (aJ 7) ?_
 refine aQ (i := 73) rfl rfl rfl (aB rfl bU) (by as_aux_lemma => kernel_rfl) rfl ?_
 refine av rfl rfl ?_
 refine aS rfl bU rfl (ct _ _ _ (by decide)) (fun w hw => (ao (aP 0 rfl hw) aM)) ?_
 refine aa ?_
 refine ax (aJ 7) ?_
 refine aQ (i := 75) rfl rfl rfl (aB rfl bU) (by as_aux_lemma => kernel_rfl) rfl ?_
 refine av rfl rfl ?_
 refine aS rfl bU rfl (ct _ _ _ (by decide)) (fun w hw => (ao (aP 1 rfl hw) aM)) ?_
 refine aa ?_
 refine ax (aJ 7) ?_
 refine aQ (i := 76) rfl rfl rfl (fun _ _ _ => az (by as_aux_lemma => kernel_rfl)) (by as_aux_lemma => kernel_rfl) rfl ?_
 refine av rfl rfl ?_
 refine bh (vs := [_, _]) ([cF [[98]], cF [[66]]] : List (Le)) bw Try.underlying22 a7 rfl rfl rfl rfl rfl rfl (fun As44 => ?_)
 refine aa ?_
 refine ax (aJ 8) ?_
 refine aq (i := 77) rfl (ay rfl rfl) (bB rfl (bu_24_1 _ _ _)) (aJ 8) aD rfl (ai ar) (by as_aux_lemma => kernel_rfl) rfl ?_
 refine aQ (i := 78) rfl rfl rfl (aB rfl dn) (by as_aux_lemma => kernel_rfl) rfl ?_
 refine av rfl rfl ?_
 refine aS rfl dn rfl (cD 0 [cF [[98]], cF [[66]]] _ _ bN17_tb (by decide)) (fun w hw => (ao (aP 0 rfl hw) (ao (bM bN17_rd) aM))) ?_
 refine aa ?_
 refine ax (aJ 8) ?_
 refine aq (i := 79) rfl (ay rfl rfl) (bW rfl rfl) (aJ 8) aD rfl (ai ar) (by as_aux_lemma => kernel_rfl) rfl ?_
 refine cH (t := 195) rfl tabN17b ?_
 refine aq (i := 80) rfl ae (aF rfl rfl) (aJ 8) aD rfl (ai ar) (by as_aux_lemma => kernel_rfl) rfl ?_
 refine aq (i := 81) rfl ae (aj rfl) (aJ 8) aD rfl (ai ar) (by as_aux_lemma => kernel_rfl) rfl ?_
 refine b0 (by as_aux_lemma => kernel_rfl) ?_
 refine am ?_
 refine aU ?_
 refine aX (ts := [0]) rfl rfl rfl (fun w hw => ?_)
 exact ⟨rfl, hw.base⟩
 exact br
 intro As19 A19 c19 As24 As25 As26 As41
 refine bI (js := [73, 74]) (by as_aux_lemma => kernel_rfl) rfl ?_
 refine aH (i := 73) rfl rfl rfl (aB rfl bU) rfl ?_ ?_
 refine av rfl rfl ?_
 refine aS rfl bU rfl (ct _ _ _ (by decide)) (fun w hw => (ao (aP 0 rfl hw) aM)) ?_
 refine aa ?_
 refine ax (aJ 6) ?_
 refine aQ (i := 74) rfl rfl rfl (fun _ _ _ => az (by as_aux_lemma => kernel_rfl)) (by as_aux_lemma => kernel_rfl) rfl ?_
 refine av rfl rfl ?_
 refine bh (vs := [_]) ([[66]] : List (aW)) bm Try.underlying105 bK rfl rfl rfl rfl rfl rfl (fun As45 => ?_)
 refine aa ?_
 refine ax (aJ 7) ?_
 refine aQ (i := 75) rfl rfl rfl (aB rfl bU) (by as_aux_lemma => kernel_rfl) rfl ?_
 refine av rfl rfl ?_
 refine aS rfl bU rfl (ct _ _ _ (by decide)) (fun w hw => (ao (aP 0 rfl hw) aM)) ?_
 refine aa ?_
 refine ax (aJ 7) ?_
 refine aQ (i := 76) rfl rfl rfl (fun _ _ _ => az (by as_aux_lemma => kernel_rfl)) (by as_aux_lemma => kernel_rfl) rfl ?_
 refine av rfl rfl ?_
 refine bh (vs := [_, _]) ([cF [[98]], cF [[66]]] : List (Le)) bw Try.underlying22 a7 rfl rfl rfl rfl rfl rfl (fun As46 => ?_)
 refine aa ?_
 refine ax (aJ 8) ?_
 refine aq (i := 77) rfl (ay rfl rfl) (bB rfl (bu_24_1 _ _ _)) (aJ 8) aD rfl (ai ar) (by as_aux_lemma => kernel_rfl) rfl ?_
 refine aQ (i := 78) rfl rfl rfl (aB rfl dn) (by as_aux_lemma => kernel_rfl) rfl ?_
 refine av rfl rfl ?_
 refine aS rfl dn rfl (cD 0 [cF [[98]], cF [[66]]] _ _ bN17_tb (by decide)) (fun w hw => (ao (aP 0 rfl hw) (ao (bM bN17_rd) aM))) ?_
 refine aa ?_
 refine ax (aJ 8) ?_
 refine aq (i := 79) rfl (ay rfl rfl) (bW rfl rfl) (aJ 8) aD rfl (ai ar) (by as_aux_lemma => kernel_rfl) rfl ?_
 refine cH (t := 195) rfl tabN17b ?_
 refine aq (i := 80) rfl ae (aF rfl rfl) (aJ 8) aD rfl (ai ar) (by as_aux_lemma => kernel_rfl) rfl ?_
 refine aq (i := 81) rfl ae (aj rfl) (aJ 8) aD rfl (ai ar) (by as_aux_lemma => kernel_rfl) rfl ?_
 refine b0 (by as_aux_lemma => kernel_rfl) ?_
 refine am ?_
 refine aU ?_
 refine aX (ts := [0]) rfl rfl rfl (fun w hw => ?_)
 exact ⟨rfl, hw.base⟩
 refine aH (i := 74) rfl rfl rfl (fun _ _ _ => az (by as_aux_lemma => kernel_rfl)) rfl ?_ ?_
 refine av rfl rfl ?_
 refine bh (vs := [_]) ([[66]] : List (aW)) bm Try.underlying105 bK rfl rfl rfl rfl rfl rfl (fun As47 => ?_)
 refine aa ?_
 refine ax (aJ 7) ?_
 refine aQ (i := 73) rfl rfl rfl (aB rfl bU) (by as_aux_lemma => kernel_rfl) rfl ?_
 refine av rfl rfl ?_
 refine aS rfl bU rfl (ct _ _ _ (by decide)) (fun w hw => (ao (aP 1 rfl hw) aM)) ?_
 refine aa ?_
 refine ax (aJ 7) ?_
 refine aQ (i := 75) rfl rfl rfl (aB rfl bU) (by as_aux_lemma => kernel_rfl) rfl ?_
 refine av rfl rfl ?_
 refine aS rfl bU rfl (ct _ _ _ (by decide)) (fun w hw => (ao (aP 0 rfl hw) aM)) ?_
 refine aa ?_
 refine ax (aJ 7) ?_
 refine aQ (i := 76) rfl rfl rfl (fun _ _ _ => az (by as_aux_lemma => kernel_rfl)) (by as_aux_lemma => kernel_rfl) rfl ?_
 refine av rfl rfl ?_
 refine bh (vs := [_, _]) ([cF [[98]], cF [[66]]] : List (Le)) bw Try.underlying22 a7 rfl rfl rfl rfl rfl rfl (fun As48 => ?_)
 refine aa ?_
 refine ax (aJ 8) ?_
 refine aq (i := 77) rfl (ay rfl rfl) (bB rfl (bu_24_1 _ _ _)) (aJ 8) aD rfl (ai ar) (by as_aux_lemma => kernel_rfl) rfl ?_
 refine aQ (i := 78) rfl rfl rfl (aB rfl dn) (by as_aux_lemma => kernel_rfl) rfl ?_
 refine av rfl rfl ?_
 refine aS rfl dn rfl (cD 0 [cF [[98]], cF [[66]]] _ _ bN17_tb (by decide)) (fun w hw => (ao (aP 0 rfl hw) (ao (bM bN17_rd) aM))) ?_
 refine aa ?_
 refine ax (aJ 8) ?_
 refine aq (i := 79) rfl (ay rfl rfl) (bW rfl rfl) (aJ 8) aD rfl (ai ar) (by as_aux_lemma => kernel_rfl) rfl ?_
 refine cH (t := 195) rfl tabN17b ?_
 refine aq (i := 80) rfl ae (aF rfl rfl) (aJ 8) aD rfl (ai ar) (by as_aux_lemma => kernel_rfl) rfl ?_
 refine aq (i := 81) rfl ae (aj rfl) (aJ 8) aD rfl (ai ar) (by as_aux_lemma => kernel_rfl) rfl ?_
 refine b0 (by as_aux_lemma => kernel_rfl) ?_
 refine am ?_
 refine aU ?_
 refine aX (ts := [0]) rfl rfl rfl (fun w hw => ?_)
 exact ⟨rfl, hw.base⟩
 exact br
 refine ap ?_
 refine eG 11 rfl mixed ?_
 apply wu_k0 #[true, true, true, true, false, false, false, false, false, false, false] 7
 intro K16_0
 refine aq (i := 0) rfl ae (bj 5 bd rfl rfl rfl rfl) aD aD rfl (ai ar) (by as_aux_lemma => kernel_rfl) rfl ?_
 refine aq (i := 1) rfl ae (ak rfl) aD aD rfl (ai ar) (by as_aux_lemma => kernel_rfl) rfl ?_
 refine aq (i := 2) rfl ae (y_takes (m := 256) Try.underlying22 a7 rfl rfl rfl (by rw [eL]; decide) (cap_L 3 rfl)) aD aD rfl (ai ar) (by as_aux_lemma => kernel_rfl) rfl ?_
 refine aq (i := 3) rfl ae (bB rfl (ek _ _ _ _ _)) aD aD rfl (ai ar) (by as_aux_lemma => kernel_rfl) rfl ?_
 refine bn (listed' := #[true, true, true, true, false, false, false, false, false, false, false]) (by as_aux_lemma => kernel_rfl) ?_
 exact K16_0 _ bx
 refine bI (js := [4, 8]) (by as_aux_lemma => kernel_rfl) rfl ?_
 refine aH (i := 4) rfl rfl rfl (aB rfl bz) rfl ?_ ?_
 refine bC rfl bz rfl (bJ 3 ta _ _ true 0 4 ((c8 257).take 256) _ _ [] none _ htaok many_tbt htal (by rw [List.length_take]; omega) (by decide) nofun) (fun w hw => (ao (aP 7 rfl hw) (ao (cz 6 rfl hw) (ao (rd_takeL bw 3 rfl (by rw [eL]; decide) hw) (ao (bM many_rdt) (ao (cT) aM)))))) (fun ⟨⟨tb, Ab, cb⟩, htb⟩ => ?_)
 refine aa ?_
 refine ax (aJ 2) ?_
 have hb9 := ap_many_ok htm
 have htb8 : tb.length = 256 := (eh htb).trans hb9.2
 refine bO (t := 113) (.tuple #[.agg (dU 4 Ab tb.length cb).toArray, .int .i64 0]) rfl (by rw [hb9.1]; rfl) ?_
 refine aq (i := 5) rfl ae (ak rfl) (aJ 2) aD rfl (ai ar) (by as_aux_lemma => kernel_rfl) rfl ?_
 refine aq (i := 6) rfl ae (aL rfl rfl) (aJ 2) aD rfl (ai ar) (by as_aux_lemma => kernel_rfl) rfl ?_
 refine aq (i := 7) rfl ae (aL rfl rfl) (aJ 2) aD rfl (ai ar) (by as_aux_lemma => kernel_rfl) rfl ?_
 refine aQ (i := 8) rfl rfl rfl (fun _ _ _ => az (by as_aux_lemma => kernel_rfl)) (by as_aux_lemma => kernel_rfl) rfl ?_
 refine bo bd rfl rfl (fun b50 => ?_)
 refine aa ?_
 refine ax (aJ 3) ?_
 refine aQ (i := 9) rfl rfl rfl (fun _ _ _ => az (by as_aux_lemma => kernel_rfl)) (by as_aux_lemma => kernel_rfl) rfl ?_
 refine bf bd rfl rfl rfl .z rfl rfl rfl rfl ?_
 refine aa ?_
 refine ax (aJ 3) ?_
 refine aq (i := 10) rfl ae (aj rfl) (aJ 3) aD rfl (ai ar) (by as_aux_lemma => kernel_rfl) rfl ?_
 refine b0 (by as_aux_lemma => kernel_rfl) ?_
 refine am ?_
 refine cu (fun w h => (h.weak (.cons_cons _ (.cons_cons _ (.cons_cons _ (.cons _ (.cons _ (.cons _ (.cons _ (.cons_cons _ (.cons_cons _ (.cons_cons _ (.cons_cons _ .slnil))))))))))) (fun s hs => hs)).f6.f6.f6.f6.f4.f6.f6) ?_
 exact J16 (⟨(tb, Ab, cb), htb8⟩, b50) _ (by repeat (first | exact trivial | refine ⟨rfl, ?_⟩))
 refine aH (i := 8) rfl rfl rfl (fun _ _ _ => az (by as_aux_lemma => kernel_rfl)) rfl ?_ ?_
 refine bo bd rfl rfl (fun b51 => ?_)
 refine aa ?_
 refine ax (aJ 1) ?_
 refine aQ (i := 4) rfl rfl rfl (aB rfl bz) (by as_aux_lemma => kernel_rfl) rfl ?_
 refine bC rfl bz rfl (bJ 3 ta _ _ true 0 4 ((c8 257).take 256) _ _ [] none _ htaok many_tbt htal (by rw [List.length_take]; omega) (by decide) nofun) (fun w hw => (ao (aP 8 rfl hw) (ao (cz 7 rfl hw) (ao (rd_takeL bw 4 rfl (by rw [eL]; decide) hw) (ao (bM many_rdt) (ao (cT) aM)))))) (fun ⟨⟨tb, Ab, cb⟩, htb⟩ => ?_)
 refine aa ?_
 refine ax (aJ 3) ?_
 have hb9 := ap_many_ok htm
 have htb8 : tb.length = 256 := (eh htb).trans hb9.2
 refine bO (t := 113) (.tuple #[.agg (dU 4 Ab tb.length cb).toArray, .int .i64 0]) rfl (by rw [hb9.1]; rfl) ?_
 refine aq (i := 5) rfl ae (ak rfl) (aJ 3) aD rfl (ai ar) (by as_aux_lemma => kernel_rfl) rfl ?_
 refine aq (i := 6) rfl ae (aL rfl rfl) (aJ 3) aD rfl (ai ar) (by as_aux_lemma => kernel_rfl) rfl ?_
 refine aq (i := 7) rfl ae (aL rfl rfl) (aJ 3) aD rfl (ai ar) (by as_aux_lemma => kernel_rfl) rfl ?_
 refine aQ (i := 9) rfl rfl rfl (fun _ _ _ => az (by as_aux_lemma => kernel_rfl)) (by as_aux_lemma => kernel_rfl) rfl ?_
 refine bf bd rfl rfl rfl (.s (.s (.z))) rfl rfl rfl rfl ?_
 refine aa ?_
 refine ax (aJ 3) ?_
 refine aq (i := 10) rfl ae (aj rfl) (aJ 3) aD rfl (ai ar) (by as_aux_lemma => kernel_rfl) rfl ?_
 refine b0 (by as_aux_lemma => kernel_rfl) ?_
 refine am ?_
 refine cu (fun w h => (h.weak (.cons_cons _ (.cons_cons _ (.cons_cons _ (.cons _ (.cons _ (.cons _ (.cons _ (.cons_cons _ (.cons_cons _ (.cons_cons _ (.cons_cons _ .slnil))))))))))) (fun s hs => hs)).f6.f6.f6.f6.f6.f6.f6) ?_
 exact J16 (⟨(tb, Ab, cb), htb8⟩, b51) _ (by repeat (first | exact trivial | refine ⟨rfl, ?_⟩))
 exact br
 refine ap ?_
 refine eG 10 rfl mixed ?_
 apply ft #[true, true, true, false, false, false, false, false, false, false] 7
 intro K9_2
 apply ft #[true, true, false, false, false, false, false, false, false, false] 8
 intro K9_1
 apply wu_k0 #[true, false, false, false, false, false, false, false, false, false] 9
 intro K9_0
 refine aq (i := 0) rfl ae (bj 7 bd rfl rfl rfl rfl) aD aD rfl (ai ar) (by as_aux_lemma => kernel_rfl) rfl ?_
 refine bn (listed' := #[true, false, false, false, false, false, false, false, false, false]) (by as_aux_lemma => kernel_rfl) ?_
 exact K9_0 _ bx
 refine bI (js := [1, 7]) (by as_aux_lemma => kernel_rfl) rfl ?_
 refine aH (i := 1) rfl rfl rfl (fun _ _ _ => az (by as_aux_lemma => kernel_rfl)) rfl ?_ ?_
 refine bh (vs := [_]) ([[65]] : List (aW)) bm Try.underlying105 bK rfl rfl rfl rfl rfl rfl (fun As53 => ?_)
 refine aa ?_
 refine ax (aJ 1) ?_
 refine bn (listed' := #[true, true, false, false, false, false, false, false, false, false]) (by as_aux_lemma => kernel_rfl) ?_
 exact K9_1 As53 _ bx
 refine aH (i := 7) rfl rfl rfl (fun _ _ _ => az (by as_aux_lemma => kernel_rfl)) rfl ?_ ?_
 refine bo a7 rfl rfl (fun b54 => ?_)
 refine aa ?_
 refine ax (aJ 1) ?_
 refine aQ (i := 1) rfl rfl rfl (fun _ _ _ => az (by as_aux_lemma => kernel_rfl)) (by as_aux_lemma => kernel_rfl) rfl ?_
 refine bh (vs := [_]) ([[65]] : List (aW)) bm Try.underlying105 bK rfl rfl rfl rfl rfl rfl (fun As55 => ?_)
 refine aa ?_
 refine ax (aJ 2) ?_
 refine aQ (i := 2) rfl rfl rfl (aB rfl bp) (by as_aux_lemma => kernel_rfl) rfl ?_
 refine aS rfl bp rfl (bH _ _ _ (by decide)) (fun w hw => (ao (aP 0 rfl hw) aM)) ?_
 refine aa ?_
 refine ax (aJ 2) ?_
 refine aQ (i := 3) rfl rfl rfl (aB rfl fS) (by as_aux_lemma => kernel_rfl) rfl ?_
 refine eP rfl fS rfl (c_tFind 3 ta _ _ (cQ 65) htaok (by omega) (by decide)) (fun w hw => (ao (aP 11 rfl hw) (ao (cz 10 rfl hw) aM))) (fun ⟨x9, hx9⟩ => ?_)
 refine aa ?_
 refine ax (aJ 2) ?_
 have hx8 : x9.map (·.e) = some (auE17 [[97]]) := hx9.1.trans (by rw [g3, f7 3 hta2, hta2]; exact fdN17)
 refine bO (t := 79) (.tuple #[.agg (dT (x9.getD bQ)).toArray, .bool true]) rfl (by rw [(eT hx8).1]) ?_
 refine aq (i := 4) rfl ae (ak rfl) (aJ 2) aD rfl (ai ar) (by as_aux_lemma => kernel_rfl) rfl ?_
 refine aq (i := 5) rfl ae (aL rfl rfl) (aJ 2) aD rfl (ai ar) (by as_aux_lemma => kernel_rfl) rfl ?_
 refine aq (i := 6) rfl ae (aL rfl rfl) (aJ 2) aD rfl (ai ar) (by as_aux_lemma => kernel_rfl) rfl ?_
 refine bO (t := 81) (.bool true) rfl (congrArg Value.bool rfl) ?_
 refine aQ (i := 8) rfl rfl rfl (fun _ _ _ => az (by as_aux_lemma => kernel_rfl)) (by as_aux_lemma => kernel_rfl) rfl ?_
 refine bf a7 rfl rfl rfl (.s (.z)) rfl rfl rfl rfl ?_
 refine aa ?_
 refine ax (aJ 2) ?_
 refine aq (i := 9) rfl ae (aj rfl) (aJ 2) aD rfl (ai ar) (by as_aux_lemma => kernel_rfl) rfl ?_
 refine b0 (by as_aux_lemma => kernel_rfl) ?_
 refine am ?_
 refine cu (fun w h => (h.weak (.cons _ (.cons_cons _ (.cons _ (.cons _ (.cons _ (.cons _ (.cons _ (.cons _ (.cons _ (.cons_cons _ (.cons_cons _ (.cons_cons _ .slnil)))))))))))) (fun s hs => hs)).f3.f3.f3.f3) ?_
 exact J9 (⟨x9, hx8⟩, b54) _ (by repeat (first | exact trivial | refine ⟨rfl, ?_⟩))
 exact br
 intro As53
 refine bI (js := [2, 7]) (by as_aux_lemma => kernel_rfl) rfl ?_
 refine aH (i := 2) rfl rfl rfl (aB rfl bp) rfl ?_ ?_
 refine aS rfl bp rfl (bH _ _ _ (by decide)) (fun w hw => (ao (aP 0 rfl hw) aM)) ?_
 refine aa ?_
 refine ax (aJ 1) ?_
 refine bn (listed' := #[true, true, true, false, false, false, false, false, false, false]) (by as_aux_lemma => kernel_rfl) ?_
 exact K9_2 As53 _ bx
 refine aH (i := 7) rfl rfl rfl (fun _ _ _ => az (by as_aux_lemma => kernel_rfl)) rfl ?_ ?_
 refine bo a7 rfl rfl (fun b57 => ?_)
 refine aa ?_
 refine ax (aJ 2) ?_
 refine aQ (i := 2) rfl rfl rfl (aB rfl bp) (by as_aux_lemma => kernel_rfl) rfl ?_
 refine aS rfl bp rfl (bH _ _ _ (by decide)) (fun w hw => (ao (aP 1 rfl hw) aM)) ?_
 refine aa ?_
 refine ax (aJ 2) ?_
 refine aQ (i := 3) rfl rfl rfl (aB rfl fS) (by as_aux_lemma => kernel_rfl) rfl ?_
 refine eP rfl fS rfl (c_tFind 3 ta _ _ (cQ 65) htaok (by omega) (by decide)) (fun w hw => (ao (aP 11 rfl hw) (ao (cz 10 rfl hw) aM))) (fun ⟨x9, hx9⟩ => ?_)
 refine aa ?_
 refine ax (aJ 2) ?_
 have hx8 : x9.map (·.e) = some (auE17 [[97]]) := hx9.1.trans (by rw [g3, f7 3 hta2, hta2]; exact fdN17)
 refine bO (t := 79) (.tuple #[.agg (dT (x9.getD bQ)).toArray, .bool true]) rfl (by rw [(eT hx8).1]) ?_
 refine aq (i := 4) rfl ae (ak rfl) (aJ 2) aD rfl (ai ar) (by as_aux_lemma => kernel_rfl) rfl ?_
 refine aq (i := 5) rfl ae (aL rfl rfl) (aJ 2) aD rfl (ai ar) (by as_aux_lemma => kernel_rfl) rfl ?_
 refine aq (i := 6) rfl ae (aL rfl rfl) (aJ 2) aD rfl (ai ar) (by as_aux_lemma => kernel_rfl) rfl ?_
 refine bO (t := 81) (.bool true) rfl (congrArg Value.bool rfl) ?_
 refine aQ (i := 8) rfl rfl rfl (fun _ _ _ => az (by as_aux_lemma => kernel_rfl)) (by as_aux_lemma => kernel_rfl) rfl ?_
 refine bf a7 rfl rfl rfl .z rfl rfl rfl rfl ?_
 refine aa ?_
 refine ax (aJ 2) ?_
 refine aq (i := 9) rfl ae (aj rfl) (aJ 2) aD rfl (ai ar) (by as_aux_lemma => kernel_rfl) rfl ?_
 refine b0 (by as_aux_lemma => kernel_rfl) ?_
 refine am ?_
 refine cu (fun w h => (h.weak (.cons_cons _ (.cons _ (.cons _ (.cons _ (.cons _ (.cons _ (.cons _ (.cons _ (.cons _ (.cons_cons _ (.cons_cons _ (.cons_cons _ .slnil)))))))))))) (fun s hs => hs)).f3.f3.f3.f3) ?_
 exact J9 (⟨x9, hx8⟩, b57) _ (by repeat (first | exact trivial | refine ⟨rfl, ?_⟩))
 exact br
 intro As53
 refine bI (js := [3, 7]) (by as_aux_lemma => kernel_rfl) rfl ?_
 refine aH (i := 3) rfl rfl rfl (aB rfl fS) rfl ?_ ?_
 refine eP rfl fS rfl (c_tFind 3 ta _ _ (cQ 65) htaok (by omega) (by decide)) (fun w hw => (ao (aP 10 rfl hw) (ao (cz 9 rfl hw) aM))) (fun ⟨x9, hx9⟩ => ?_)
 refine aa ?_
 refine ax (aJ 1) ?_
 have hx8 : x9.map (·.e) = some (auE17 [[97]]) := hx9.1.trans (by rw [g3, f7 3 hta2, hta2]; exact fdN17)
 refine bO (t := 79) (.tuple #[.agg (dT (x9.getD bQ)).toArray, .bool true]) rfl (by rw [(eT hx8).1]) ?_
 refine aq (i := 4) rfl ae (ak rfl) (aJ 1) aD rfl (ai ar) (by as_aux_lemma => kernel_rfl) rfl ?_
 refine aq (i := 5) rfl ae (aL rfl rfl) (aJ 1) aD rfl (ai ar) (by as_aux_lemma => kernel_rfl) rfl ?_
 refine aq (i := 6) rfl ae (aL rfl rfl) (aJ 1) aD rfl (ai ar) (by as_aux_lemma => kernel_rfl) rfl ?_
 refine bO (t := 81) (.bool true) rfl (congrArg Value.bool rfl) ?_
 refine aQ (i := 7) rfl rfl rfl (fun _ _ _ => az (by as_aux_lemma => kernel_rfl)) (by as_aux_lemma => kernel_rfl) rfl ?_
 refine bo a7 rfl rfl (fun b60 => ?_)
 refine aa ?_
 refine ax (aJ 2) ?_
 refine aQ (i := 8) rfl rfl rfl (fun _ _ _ => az (by as_aux_lemma => kernel_rfl)) (by as_aux_lemma => kernel_rfl) rfl ?_
 refine bf a7 rfl rfl rfl .z rfl rfl rfl rfl ?_
 refine aa ?_
 refine ax (aJ 2) ?_
 refine aq (i := 9) rfl ae (aj rfl) (aJ 2) aD rfl (ai ar) (by as_aux_lemma => kernel_rfl) rfl ?_
 refine b0 (by as_aux_lemma => kernel_rfl) ?_
 refine am ?_
 refine cu (fun w h => (h.weak (.cons_cons _ (.cons _ (.cons _ (.cons _ (.cons _ (.cons _ (.cons _ (.cons _ (.cons _ (.cons_cons _ (.cons_cons _ (.cons_cons _ .slnil)))))))))))) (fun s hs => hs)).f3.f3.f3.f3) ?_
 exact J9 (⟨x9, hx8⟩, b60) _ (by repeat (first | exact trivial | refine ⟨rfl, ?_⟩))
 refine aH (i := 7) rfl rfl rfl (fun _ _ _ => az (by as_aux_lemma => kernel_rfl)) rfl ?_ ?_
 refine bo a7 rfl rfl (fun b61 => ?_)
 refine aa ?_
 refine ax (aJ 2) ?_
 refine aQ (i := 3) rfl rfl rfl (aB rfl fS) (by as_aux_lemma => kernel_rfl) rfl ?_
 refine eP rfl fS rfl (c_tFind 3 ta _ _ (cQ 65) htaok (by omega) (by decide)) (fun w hw => (ao (aP 11 rfl hw) (ao (cz 10 rfl hw) aM))) (fun ⟨x9, hx9⟩ => ?_)
 refine aa ?_
 refine ax (aJ 2) ?_
 have hx8 : x9.map (·.e) = some (auE17 [[97]]) := hx9.1.trans (by rw [g3, f7 3 hta2, hta2]; exact fdN17)
 refine bO (t := 79) (.tuple #[.agg (dT (x9.getD bQ)).toArray, .bool true]) rfl (by rw [(eT hx8).1]) ?_
 refine aq (i := 4) rfl ae (ak rfl) (aJ 2) aD rfl (ai ar) (by as_aux_lemma => kernel_rfl) rfl ?_
 refine aq (i := 5) rfl ae (aL rfl rfl) (aJ 2) aD rfl (ai ar) (by as_aux_lemma => kernel_rfl) rfl ?_
 refine aq (i := 6) rfl ae (aL rfl rfl) (aJ 2) aD rfl (ai ar) (by as_aux_lemma => kernel_rfl) rfl ?_
 refine bO (t := 81) (.bool true) rfl (congrArg Value.bool rfl) ?_
 refine aQ (i := 8) rfl rfl rfl (fun _ _ _ => az (by as_aux_lemma => kernel_rfl)) (by as_aux_lemma => kernel_rfl) rfl ?_
 refine bf a7 rfl rfl rfl .z rfl rfl rfl rfl ?_
 refine aa ?_
 refine ax (aJ 2) ?_
 refine aq (i := 9) rfl ae (aj rfl) (aJ 2) aD rfl (ai ar) (by as_aux_lemma => kernel_rfl) rfl ?_
 refine b0 (by as_aux_lemma => kernel_rfl) ?_
 refine am ?_
 refine cu (fun w h => (h.weak (.cons_cons _ (.cons _ (.cons _ (.cons _ (.cons _ (.cons _ (.cons _ (.cons _ (.cons _ (.cons_cons _ (.cons_cons _ (.cons_cons _ .slnil)))))))))))) (fun s hs => hs)).f3.f3.f3.f3) ?_
 exact J9 (⟨x9, hx8⟩, b61) _ (by repeat (first | exact trivial | refine ⟨rfl, ?_⟩))
 exact br
 refine ap ?_
 refine eG 15 rfl mixed ?_
 apply wu_k4 #[true, true, true, true, true, true, true, true, false, false, false, false, false, false, false] 7
 intro K6_16
 apply fP #[true, true, true, false, true, true, true, false, false, false, false, false, false, false, false] 9
 intro K6_15
 apply fP #[true, true, true, true, true, true, false, false, false, false, false, false, false, false, false] 9
 intro K6_14
 apply fP #[true, true, true, false, true, true, false, false, false, false, false, false, true, false, false] 9
 intro K6_13
 apply eO #[true, true, true, false, true, true, false, false, false, false, false, false, false, false, false] 10
 intro K6_12
 apply fP #[true, true, true, true, true, false, false, false, false, false, false, false, false, false, false] 10
 intro K6_11
 apply fP #[true, true, true, false, true, false, false, false, false, false, false, false, true, false, false] 10
 intro K6_7
 apply eO #[true, true, true, false, false, false, false, false, false, false, false, false, true, false, false] 11
 intro K6_10
 apply eO #[true, true, true, false, true, false, false, false, false, false, false, false, false, false, false] 11
 intro K6_9
 apply eO #[true, true, true, true, false, false, false, false, false, false, false, false, false, false, false] 11
 intro K6_8
 apply eO #[true, true, false, false, false, false, false, false, false, false, false, false, true, false, false] 12
 intro K6_6
 apply eO #[true, true, false, false, true, false, false, false, false, false, false, false, false, false, false] 12
 intro K6_5
 apply ft #[true, true, true, false, false, false, false, false, false, false, false, false, false, false, false] 12
 intro K6_4
 apply ft #[true, false, false, false, false, false, false, false, false, false, false, false, true, false, false] 13
 intro K6_3
 apply ft #[true, false, false, false, true, false, false, false, false, false, false, false, false, false, false] 13
 intro K6_2
 apply ft #[true, true, false, false, false, false, false, false, false, false, false, false, false, false, false] 13
 intro K6_1
 apply wu_k0 #[true, false, false, false, false, false, false, false, false, false, false, false, false, false, false] 14
 intro K6_0
 refine aq (i := 0) rfl ae (bj 0 bd rfl rfl rfl rfl) aD aD rfl (ai ar) (by as_aux_lemma => kernel_rfl) rfl ?_
 refine bn (listed' := #[true, false, false, false, false, false, false, false, false, false, false, false, false, false, false]) (by as_aux_lemma => kernel_rfl) ?_
 exact K6_0 _ bx
 refine bI (js := [1, 4, 12]) (by as_aux_lemma => kernel_rfl) rfl ?_
 refine aH (i := 1) rfl rfl rfl (fun _ _ _ => az (by as_aux_lemma => kernel_rfl)) rfl ?_ ?_
 refine bh (vs := [_]) ([[65]] : List (aW)) bm Try.underlying105 bK rfl rfl rfl rfl rfl rfl (fun As63 => ?_)
 refine aa ?_
 refine ax (aJ 1) ?_
 refine bn (listed' := #[true, true, false, false, false, false, false, false, false, false, false, false, false, false, false]) (by as_aux_lemma => kernel_rfl) ?_
 exact K6_1 As63 _ bx
 refine aH (i := 4) rfl rfl rfl (fun _ _ _ => az (by as_aux_lemma => kernel_rfl)) rfl ?_ ?_
 refine bh (vs := [_]) ([[97]] : List (aW)) bm Try.underlying105 bK rfl rfl rfl rfl rfl rfl (fun As64 => ?_)
 refine aa ?_
 refine ax (aJ 1) ?_
 refine bn (listed' := #[true, false, false, false, true, false, false, false, false, false, false, false, false, false, false]) (by as_aux_lemma => kernel_rfl) ?_
 exact K6_2 As64 _ bx
 refine aH (i := 12) rfl rfl rfl (fun _ _ _ => az (by as_aux_lemma => kernel_rfl)) rfl ?_ ?_
 refine bo bd rfl rfl (fun b65 => ?_)
 refine aa ?_
 refine ax (aJ 1) ?_
 refine bn (listed' := #[true, false, false, false, false, false, false, false, false, false, false, false, true, false, false]) (by as_aux_lemma => kernel_rfl) ?_
 exact K6_3 b65 _ bx
 exact br
 intro As63
 refine bI (js := [2, 4, 12]) (by as_aux_lemma => kernel_rfl) rfl ?_
 refine aH (i := 2) rfl rfl rfl (aB rfl bU) rfl ?_ ?_
 refine aS rfl bU rfl (ct _ _ _ (by decide)) (fun w hw => (ao (aP 0 rfl hw) aM)) ?_
 refine aa ?_
 refine ax (aJ 1) ?_
 refine bn (listed' := #[true, true, true, false, false, false, false, false, false, false, false, false, false, false, false]) (by as_aux_lemma => kernel_rfl) ?_
 exact K6_4 As63 _ bx
 refine aH (i := 4) rfl rfl rfl (fun _ _ _ => az (by as_aux_lemma => kernel_rfl)) rfl ?_ ?_
 refine bh (vs := [_]) ([[97]] : List (aW)) bm Try.underlying105 bK rfl rfl rfl rfl rfl rfl (fun As66 => ?_)
 refine aa ?_
 refine ax (aJ 2) ?_
 refine bn (listed' := #[true, true, false, false, true, false, false, false, false, false, false, false, false, false, false]) (by as_aux_lemma => kernel_rfl) ?_
 exact K6_5 As63 As66 _ bx
 refine aH (i := 12) rfl rfl rfl (fun _ _ _ => az (by as_aux_lemma => kernel_rfl)) rfl ?_ ?_
 refine bo bd rfl rfl (fun b67 => ?_)
 refine aa ?_
 refine ax (aJ 2) ?_
 refine bn (listed' := #[true, true, false, false, false, false, false, false, false, false, false, false, true, false, false]) (by as_aux_lemma => kernel_rfl) ?_
 exact K6_6 As63 b67 _ bx
 exact br
 intro As64
 refine bI (js := [1, 12]) (by as_aux_lemma => kernel_rfl) rfl ?_
 refine aH (i := 1) rfl rfl rfl (fun _ _ _ => az (by as_aux_lemma => kernel_rfl)) rfl ?_ ?_
 refine bh (vs := [_]) ([[65]] : List (aW)) bm Try.underlying105 bK rfl rfl rfl rfl rfl rfl (fun As68 => ?_)
 refine aa ?_
 refine ax (aJ 2) ?_
 refine cA (fun w h => h.f1) ?_
 refine bn (listed' := #[true, true, false, false, true, false, false, false, false, false, false, false, false, false, false]) (by as_aux_lemma => kernel_rfl) ?_
 exact K6_5 As68 As64 _ (by repeat (first | exact trivial | refine ⟨rfl, ?_⟩))
 refine aH (i := 12) rfl rfl rfl (fun _ _ _ => az (by as_aux_lemma => kernel_rfl)) rfl ?_ ?_
 refine bo bd rfl rfl (fun b69 => ?_)
 refine aa ?_
 refine ax (aJ 2) ?_
 refine aQ (i := 1) rfl rfl rfl (fun _ _ _ => az (by as_aux_lemma => kernel_rfl)) (by as_aux_lemma => kernel_rfl) rfl ?_
 refine bh (vs := [_]) ([[65]] : List (aW)) bm Try.underlying105 bK rfl rfl rfl rfl rfl rfl (fun As70 => ?_)
 refine aa ?_
 refine ax (aJ 3) ?_
 refine aQ (i := 2) rfl rfl rfl (aB rfl bU) (by as_aux_lemma => kernel_rfl) rfl ?_
 refine aS rfl bU rfl (ct _ _ _ (by decide)) (fun w hw => (ao (aP 0 rfl hw) aM)) ?_
 refine aa ?_
 refine ax (aJ 3) ?_
 refine bn (listed' := #[true, true, true, false, true, false, false, false, false, false, false, false, true, false, false]) (by as_aux_lemma => kernel_rfl) ?_
 exact K6_7 As64 b69 As70 _ bx
 exact br
 intro b65
 refine bI (js := [1, 4]) (by as_aux_lemma => kernel_rfl) rfl ?_
 refine aH (i := 1) rfl rfl rfl (fun _ _ _ => az (by as_aux_lemma => kernel_rfl)) rfl ?_ ?_
 refine bh (vs := [_]) ([[65]] : List (aW)) bm Try.underlying105 bK rfl rfl rfl rfl rfl rfl (fun As71 => ?_)
 refine aa ?_
 refine ax (aJ 2) ?_
 refine cA (fun w h => h.f1) ?_
 refine bn (listed' := #[true, true, false, false, false, false, false, false, false, false, false, false, true, false, false]) (by as_aux_lemma => kernel_rfl) ?_
 exact K6_6 As71 b65 _ (by repeat (first | exact trivial | refine ⟨rfl, ?_⟩))
 refine aH (i := 4) rfl rfl rfl (fun _ _ _ => az (by as_aux_lemma => kernel_rfl)) rfl ?_ ?_
 refine bh (vs := [_]) ([[97]] : List (aW)) bm Try.underlying105 bK rfl rfl rfl rfl rfl rfl (fun As72 => ?_)
 refine aa ?_
 refine ax (aJ 2) ?_
 refine aQ (i := 1) rfl rfl rfl (fun _ _ _ => az (by as_aux_lemma => kernel_rfl)) (by as_aux_lemma => kernel_rfl) rfl ?_
 refine bh (vs := [_]) ([[65]] : List (aW)) bm Try.underlying105 bK rfl rfl rfl rfl rfl rfl (fun As73 => ?_)
 refine aa ?_
 refine ax (aJ 3) ?_
 refine aQ (i := 2) rfl rfl rfl (aB rfl bU) (by as_aux_lemma => kernel_rfl) rfl ?_
 refine aS rfl bU rfl (ct _ _ _ (by decide)) (fun w hw => (ao (aP 0 rfl hw) aM)) ?_
 refine aa ?_
 refine ax (aJ 3) ?_
 refine cA (fun w h => h.f1.f2.f2) ?_
 refine bn (listed' := #[true, true, true, false, true, false, false, false, false, false, false, false, true, false, false]) (by as_aux_lemma => kernel_rfl) ?_
 exact K6_7 As72 b65 As73 _ (by repeat (first | exact trivial | refine ⟨rfl, ?_⟩))
 exact br
 intro As63
 refine bI (js := [3, 4, 12]) (by as_aux_lemma => kernel_rfl) rfl ?_
 refine aH (i := 3) rfl rfl rfl (fun _ _ _ => az (by as_aux_lemma => kernel_rfl)) rfl ?_ ?_
 refine bh (vs := [_]) ([cF [[65]]] : List (Le)) bw Try.underlying22 a7 rfl rfl rfl rfl rfl rfl (fun As74 => ?_)
 refine aa ?_
 refine ax (aJ 2) ?_
 refine bn (listed' := #[true, true, true, true, false, false, false, false, false, false, false, false, false, false, false]) (by as_aux_lemma => kernel_rfl) ?_
 exact K6_8 As63 As74 _ bx
 refine aH (i := 4) rfl rfl rfl (fun _ _ _ => az (by as_aux_lemma => kernel_rfl)) rfl ?_ ?_
 refine bh (vs := [_]) ([[97]] : List (aW)) bm Try.underlying105 bK rfl rfl rfl rfl rfl rfl (fun As75 => ?_)
 refine aa ?_
 refine ax (aJ 2) ?_
 refine bn (listed' := #[true, true, true, false, true, false, false, false, false, false, false, false, false, false, false]) (by as_aux_lemma => kernel_rfl) ?_
 exact K6_9 As63 As75 _ bx
 refine aH (i := 12) rfl rfl rfl (fun _ _ _ => az (by as_aux_lemma => kernel_rfl)) rfl ?_ ?_
 refine bo bd rfl rfl (fun b76 => ?_)
 refine aa ?_
 refine ax (aJ 2) ?_
 refine bn (listed' := #[true, true, true, false, false, false, false, false, false, false, false, false, true, false, false]) (by as_aux_lemma => kernel_rfl) ?_
 exact K6_10 As63 b76 _ bx
 exact br
 intro As63 As66
 refine bI (js := [2, 12]) (by as_aux_lemma => kernel_rfl) rfl ?_
 refine aH (i := 2) rfl rfl rfl (aB rfl bU) rfl ?_ ?_
 refine aS rfl bU rfl (ct _ _ _ (by decide)) (fun w hw => (ao (aP 1 rfl hw) aM)) ?_
 refine aa ?_
 refine ax (aJ 2) ?_
 refine bn (listed' := #[true, true, true, false, true, false, false, false, false, false, false, false, false, false, false]) (by as_aux_lemma => kernel_rfl) ?_
 exact K6_9 As63 As66 _ (by repeat (first | exact trivial | refine ⟨rfl, ?_⟩))
 refine aH (i := 12) rfl rfl rfl (fun _ _ _ => az (by as_aux_lemma => kernel_rfl)) rfl ?_ ?_
 refine bo bd rfl rfl (fun b77 => ?_)
 refine aa ?_
 refine ax (aJ 3) ?_
 refine aQ (i := 2) rfl rfl rfl (aB rfl bU) (by as_aux_lemma => kernel_rfl) rfl ?_
 refine aS rfl bU rfl (ct _ _ _ (by decide)) (fun w hw => (ao (aP 2 rfl hw) aM)) ?_
 refine aa ?_
 refine ax (aJ 3) ?_
 refine cA (fun w h => h.f1.f1.f2) ?_
 refine bn (listed' := #[true, true, true, false, true, false, false, false, false, false, false, false, true, false, false]) (by as_aux_lemma => kernel_rfl) ?_
 exact K6_7 As66 b77 As63 _ (by repeat (first | exact trivial | refine ⟨rfl, ?_⟩))
 exact br
 intro As63 b67
 refine bI (js := [2, 4]) (by as_aux_lemma => kernel_rfl) rfl ?_
 refine aH (i := 2) rfl rfl rfl (aB rfl bU) rfl ?_ ?_
 refine aS rfl bU rfl (ct _ _ _ (by decide)) (fun w hw => (ao (aP 1 rfl hw) aM)) ?_
 refine aa ?_
 refine ax (aJ 2) ?_
 refine bn (listed' := #[true, true, true, false, false, false, false, false, false, false, false, false, true, false, false]) (by as_aux_lemma => kernel_rfl) ?_
 exact K6_10 As63 b67 _ (by repeat (first | exact trivial | refine ⟨rfl, ?_⟩))
 refine aH (i := 4) rfl rfl rfl (fun _ _ _ => az (by as_aux_lemma => kernel_rfl)) rfl ?_ ?_
 refine bh (vs := [_]) ([[97]] : List (aW)) bm Try.underlying105 bK rfl rfl rfl rfl rfl rfl (fun As78 => ?_)
 refine aa ?_
 refine ax (aJ 3) ?_
 refine aQ (i := 2) rfl rfl rfl (aB rfl bU) (by as_aux_lemma => kernel_rfl) rfl ?_
 refine aS rfl bU rfl (ct _ _ _ (by decide)) (fun w hw => (ao (aP 2 rfl hw) aM)) ?_
 refine aa ?_
 refine ax (aJ 3) ?_
 refine cA (fun w h => h.f1.f2) ?_
 refine bn (listed' := #[true, true, true, false, true, false, false, false, false, false, false, false, true, false, false]) (by as_aux_lemma => kernel_rfl) ?_
 exact K6_7 As78 b67 As63 _ (by repeat (first | exact trivial | refine ⟨rfl, ?_⟩))
 exact br
 intro As63 As74
 refine bI (js := [4, 12]) (by as_aux_lemma => kernel_rfl) rfl ?_
 refine aH (i := 4) rfl rfl rfl (fun _ _ _ => az (by as_aux_lemma => kernel_rfl)) rfl ?_ ?_
 refine bh (vs := [_]) ([[97]] : List (aW)) bm Try.underlying105 bK rfl rfl rfl rfl rfl rfl (fun As79 => ?_)
 refine aa ?_
 refine ax (aJ 3) ?_
 refine bn (listed' := #[true, true, true, true, true, false, false, false, false, false, false, false, false, false, false]) (by as_aux_lemma => kernel_rfl) ?_
 exact K6_11 As63 As74 As79 _ bx
 refine aH (i := 12) rfl rfl rfl (fun _ _ _ => az (by as_aux_lemma => kernel_rfl)) rfl ?_ ?_
 refine bo bd rfl rfl (fun b80 => ?_)
 refine aa ?_
 refine ax (aJ 3) ?_
 refine aQ (i := 4) rfl rfl rfl (fun _ _ _ => az (by as_aux_lemma => kernel_rfl)) (by as_aux_lemma => kernel_rfl) rfl ?_
 refine bh (vs := [_]) ([[97]] : List (aW)) bm Try.underlying105 bK rfl rfl rfl rfl rfl rfl (fun As81 => ?_)
 refine aa ?_
 refine ax (aJ 4) ?_
 refine aQ (i := 5) rfl rfl rfl (aB rfl bp) (by as_aux_lemma => kernel_rfl) rfl ?_
 refine aS rfl bp rfl (bH _ _ _ (by decide)) (fun w hw => (ao (aP 0 rfl hw) aM)) ?_
 refine aa ?_
 refine ax (aJ 4) ?_
 refine aQ (i := 6) rfl rfl rfl (fun _ _ _ => az (by as_aux_lemma => kernel_rfl)) (by as_aux_lemma => kernel_rfl) rfl ?_
 refine bh (vs := [_]) ([cQ 97] : List (aW)) bm Try.underlying25 bN rfl rfl rfl rfl rfl rfl (fun As82 => ?_)
 refine aa ?_
 refine ax (aJ 5) ?_
 refine aq (i := 7) rfl ae (bB rfl (bF _ _ _ _ _ _ _ _)) (aJ 5) aD rfl (ai ar) (by as_aux_lemma => kernel_rfl) rfl ?_
 refine aQ (i := 8) rfl rfl rfl (aB rfl bz) (by as_aux_lemma => kernel_rfl) rfl ?_
 refine bC rfl bz rfl (bJ 3 ta _ _ false 3 4 [cF [[65]]] _ _ [cQ 97] _ _ htaok ef htal (by decide) (by decide) dy) (fun w hw => (ao (aP 7 rfl hw) (ao (cz 6 rfl hw) (ao (aP 3 rfl hw) (ao (bM ec) (ao (aP 0 rfl hw) aM)))))) (fun ⟨⟨tg, Ag, cg⟩, htg⟩ => ?_)
 refine aa ?_
 refine ax (aJ 7) ?_
 have hg9 : (bv 3 ta false 3 4 [cF [[65]]] [cQ 97]).1 = 6 := ((cN hta2 rfl).1).trans gy
 refine bO (t := 58) (.tuple #[.agg (dU 0 Ag tg.length cg).toArray, .int .i64 6]) rfl (by rw [hg9]; rfl) ?_
 refine aq (i := 9) rfl ae (ak rfl) (aJ 7) aD rfl (ai ar) (by as_aux_lemma => kernel_rfl) rfl ?_
 refine aq (i := 10) rfl ae (aL rfl rfl) (aJ 7) aD rfl (ai ar) (by as_aux_lemma => kernel_rfl) rfl ?_
 refine aq (i := 11) rfl ae (aL rfl rfl) (aJ 7) aD rfl (ai ar) (by as_aux_lemma => kernel_rfl) rfl ?_
 refine aQ (i := 13) rfl rfl rfl (fun _ _ _ => az (by as_aux_lemma => kernel_rfl)) (by as_aux_lemma => kernel_rfl) rfl ?_
 refine bf bd rfl rfl rfl (.s (.s (.s (.s (.z))))) rfl rfl rfl rfl ?_
 refine aa ?_
 refine ax (aJ 7) ?_
 refine aq (i := 14) rfl ae (aj rfl) (aJ 7) aD rfl (ai ar) (by as_aux_lemma => kernel_rfl) rfl ?_
 refine b0 (by as_aux_lemma => kernel_rfl) ?_
 refine am ?_
 refine cu (fun w h => (h.weak (.cons _ (.cons _ (.cons _ (.cons _ (.cons _ (.cons _ (.cons _ (.cons_cons _ (.cons_cons _ (.cons_cons _ .slnil)))))))))) (fun s hs => hs)).f2.f2.f2) ?_
 exact J6 () _ (by repeat (first | exact trivial | refine ⟨rfl, ?_⟩))
 exact br
 intro As63 As75
 refine bI (js := [3, 5, 12]) (by as_aux_lemma => kernel_rfl) rfl ?_
 refine aH (i := 3) rfl rfl rfl (fun _ _ _ => az (by as_aux_lemma => kernel_rfl)) rfl ?_ ?_
 refine bh (vs := [_]) ([cF [[65]]] : List (Le)) bw Try.underlying22 a7 rfl rfl rfl rfl rfl rfl (fun As84 => ?_)
 refine aa ?_
 refine ax (aJ 3) ?_
 refine cA (fun w h => h.f2.f1.f2) ?_
 refine bn (listed' := #[true, true, true, true, true, false, false, false, false, false, false, false, false, false, false]) (by as_aux_lemma => kernel_rfl) ?_
 exact K6_11 As63 As84 As75 _ (by repeat (first | exact trivial | refine ⟨rfl, ?_⟩))
 refine aH (i := 5) rfl rfl rfl (aB rfl bp) rfl ?_ ?_
 refine aS rfl bp rfl (bH _ _ _ (by decide)) (fun w hw => (ao (aP 0 rfl hw) aM)) ?_
 refine aa ?_
 refine ax (aJ 2) ?_
 refine bn (listed' := #[true, true, true, false, true, true, false, false, false, false, false, false, false, false, false]) (by as_aux_lemma => kernel_rfl) ?_
 exact K6_12 As63 As75 _ bx
 refine aH (i := 12) rfl rfl rfl (fun _ _ _ => az (by as_aux_lemma => kernel_rfl)) rfl ?_ ?_
 refine bo bd rfl rfl (fun b85 => ?_)
 refine aa ?_
 refine ax (aJ 3) ?_
 refine cA (fun w h => h.f1.f1.f2) ?_
 refine bn (listed' := #[true, true, true, false, true, false, false, false, false, false, false, false, true, false, false]) (by as_aux_lemma => kernel_rfl) ?_
 exact K6_7 As75 b85 As63 _ (by repeat (first | exact trivial | refine ⟨rfl, ?_⟩))
 exact br
 intro As63 b76
 refine bI (js := [3, 4]) (by as_aux_lemma => kernel_rfl) rfl ?_
 refine aH (i := 3) rfl rfl rfl (fun _ _ _ => az (by as_aux_lemma => kernel_rfl)) rfl ?_ ?_
 refine bh (vs := [_]) ([cF [[65]]] : List (Le)) bw Try.underlying22 a7 rfl rfl rfl rfl rfl rfl (fun As86 => ?_)
 refine aa ?_
 refine ax (aJ 3) ?_
 refine aQ (i := 4) rfl rfl rfl (fun _ _ _ => az (by as_aux_lemma => kernel_rfl)) (by as_aux_lemma => kernel_rfl) rfl ?_
 refine bh (vs := [_]) ([[97]] : List (aW)) bm Try.underlying105 bK rfl rfl rfl rfl rfl rfl (fun As87 => ?_)
 refine aa ?_
 refine ax (aJ 4) ?_
 refine aQ (i := 5) rfl rfl rfl (aB rfl bp) (by as_aux_lemma => kernel_rfl) rfl ?_
 refine aS rfl bp rfl (bH _ _ _ (by decide)) (fun w hw => (ao (aP 0 rfl hw) aM)) ?_
 refine aa ?_
 refine ax (aJ 4) ?_
 refine aQ (i := 6) rfl rfl rfl (fun _ _ _ => az (by as_aux_lemma => kernel_rfl)) (by as_aux_lemma => kernel_rfl) rfl ?_
 refine bh (vs := [_]) ([cQ 97] : List (aW)) bm Try.underlying25 bN rfl rfl rfl rfl rfl rfl (fun As88 => ?_)
 refine aa ?_
 refine ax (aJ 5) ?_
 refine aq (i := 7) rfl ae (bB rfl (bF _ _ _ _ _ _ _ _)) (aJ 5) aD rfl (ai ar) (by as_aux_lemma => kernel_rfl) rfl ?_
 refine aQ (i := 8) rfl rfl rfl (aB rfl bz) (by as_aux_lemma => kernel_rfl) rfl ?_
 refine bC rfl bz rfl (bJ 3 ta _ _ false 3 4 [cF [[65]]] _ _ [cQ 97] _ _ htaok ef htal (by decide) (by decide) dy) (fun w hw => (ao (aP 7 rfl hw) (ao (cz 6 rfl hw) (ao (aP 2 rfl hw) (ao (bM ec) (ao (aP 0 rfl hw) aM)))))) (fun ⟨⟨tg, Ag, cg⟩, htg⟩ => ?_)
 refine aa ?_
 refine ax (aJ 7) ?_
 have hg9 : (bv 3 ta false 3 4 [cF [[65]]] [cQ 97]).1 = 6 := ((cN hta2 rfl).1).trans gy
 refine bO (t := 58) (.tuple #[.agg (dU 0 Ag tg.length cg).toArray, .int .i64 6]) rfl (by rw [hg9]; rfl) ?_
 refine aq (i := 9) rfl ae (ak rfl) (aJ 7) aD rfl (ai ar) (by as_aux_lemma => kernel_rfl) rfl ?_
 refine aq (i := 10) rfl ae (aL rfl rfl) (aJ 7) aD rfl (ai ar) (by as_aux_lemma => kernel_rfl) rfl ?_
 refine aq (i := 11) rfl ae (aL rfl rfl) (aJ 7) aD rfl (ai ar) (by as_aux_lemma => kernel_rfl) rfl ?_
 refine aQ (i := 13) rfl rfl rfl (fun _ _ _ => az (by as_aux_lemma => kernel_rfl)) (by as_aux_lemma => kernel_rfl) rfl ?_
 refine bf bd rfl rfl rfl (.s (.s (.s (.s (.s (.z)))))) rfl rfl rfl rfl ?_
 refine aa ?_
 refine ax (aJ 7) ?_
 refine aq (i := 14) rfl ae (aj rfl) (aJ 7) aD rfl (ai ar) (by as_aux_lemma => kernel_rfl) rfl ?_
 refine b0 (by as_aux_lemma => kernel_rfl) ?_
 refine am ?_
 refine cu (fun w h => (h.weak (.cons _ (.cons _ (.cons _ (.cons _ (.cons _ (.cons _ (.cons _ (.cons_cons _ (.cons_cons _ (.cons_cons _ .slnil)))))))))) (fun s hs => hs)).f2.f2.f2) ?_
 exact J6 () _ (by repeat (first | exact trivial | refine ⟨rfl, ?_⟩))
 refine aH (i := 4) rfl rfl rfl (fun _ _ _ => az (by as_aux_lemma => kernel_rfl)) rfl ?_ ?_
 refine bh (vs := [_]) ([[97]] : List (aW)) bm Try.underlying105 bK rfl rfl rfl rfl rfl rfl (fun As90 => ?_)
 refine aa ?_
 refine ax (aJ 3) ?_
 refine cA (fun w h => h.f1.f2) ?_
 refine bn (listed' := #[true, true, true, false, true, false, false, false, false, false, false, false, true, false, false]) (by as_aux_lemma => kernel_rfl) ?_
 exact K6_7 As90 b76 As63 _ (by repeat (first | exact trivial | refine ⟨rfl, ?_⟩))
 exact br
 intro As64 b69 As70
 refine bI (js := [3, 5]) (by as_aux_lemma => kernel_rfl) rfl ?_
 refine aH (i := 3) rfl rfl rfl (fun _ _ _ => az (by as_aux_lemma => kernel_rfl)) rfl ?_ ?_
 refine bh (vs := [_]) ([cF [[65]]] : List (Le)) bw Try.underlying22 a7 rfl rfl rfl rfl rfl rfl (fun As91 => ?_)
 refine aa ?_
 refine ax (aJ 4) ?_
 refine aQ (i := 5) rfl rfl rfl (aB rfl bp) (by as_aux_lemma => kernel_rfl) rfl ?_
 refine aS rfl bp rfl (bH _ _ _ (by decide)) (fun w hw => (ao (aP 3 rfl hw) aM)) ?_
 refine aa ?_
 refine ax (aJ 4) ?_
 refine aQ (i := 6) rfl rfl rfl (fun _ _ _ => az (by as_aux_lemma => kernel_rfl)) (by as_aux_lemma => kernel_rfl) rfl ?_
 refine bh (vs := [_]) ([cQ 97] : List (aW)) bm Try.underlying25 bN rfl rfl rfl rfl rfl rfl (fun As92 => ?_)
 refine aa ?_
 refine ax (aJ 5) ?_
 refine aq (i := 7) rfl ae (bB rfl (bF _ _ _ _ _ _ _ _)) (aJ 5) aD rfl (ai ar) (by as_aux_lemma => kernel_rfl) rfl ?_
 refine aQ (i := 8) rfl rfl rfl (aB rfl bz) (by as_aux_lemma => kernel_rfl) rfl ?_
 refine bC rfl bz rfl (bJ 3 ta _ _ false 3 4 [cF [[65]]] _ _ [cQ 97] _ _ htaok ef htal (by decide) (by decide) dy) (fun w hw => (ao (aP 7 rfl hw) (ao (cz 6 rfl hw) (ao (aP 1 rfl hw) (ao (bM ec) (ao (aP 0 rfl hw) aM)))))) (fun ⟨⟨tg, Ag, cg⟩, htg⟩ => ?_)
 refine aa ?_
 refine ax (aJ 7) ?_
 have hg9 : (bv 3 ta false 3 4 [cF [[65]]] [cQ 97]).1 = 6 := ((cN hta2 rfl).1).trans gy
 refine bO (t := 58) (.tuple #[.agg (dU 0 Ag tg.length cg).toArray, .int .i64 6]) rfl (by rw [hg9]; rfl) ?_
 refine aq (i := 9) rfl ae (ak rfl) (aJ 7) aD rfl (ai ar) (by as_aux_lemma => kernel_rfl) rfl ?_
 refine aq (i := 10) rfl ae (aL rfl rfl) (aJ 7) aD rfl (ai ar) (by as_aux_lemma => kernel_rfl) rfl ?_
 refine aq (i := 11) rfl ae (aL rfl rfl) (aJ 7) aD rfl (ai ar) (by as_aux_lemma => kernel_rfl) rfl ?_
 refine aQ (i := 13) rfl rfl rfl (fun _ _ _ => az (by as_aux_lemma => kernel_rfl)) (by as_aux_lemma => kernel_rfl) rfl ?_
 refine bf bd rfl rfl rfl (.s (.s (.s (.s (.s (.z)))))) rfl rfl rfl rfl ?_
 refine aa ?_
 refine ax (aJ 7) ?_
 refine aq (i := 14) rfl ae (aj rfl) (aJ 7) aD rfl (ai ar) (by as_aux_lemma => kernel_rfl) rfl ?_
 refine b0 (by as_aux_lemma => kernel_rfl) ?_
 refine am ?_
 refine cu (fun w h => (h.weak (.cons _ (.cons _ (.cons _ (.cons _ (.cons _ (.cons _ (.cons _ (.cons_cons _ (.cons_cons _ (.cons_cons _ .slnil)))))))))) (fun s hs => hs)).f2.f2.f2) ?_
 exact J6 () _ (by repeat (first | exact trivial | refine ⟨rfl, ?_⟩))
 refine aH (i := 5) rfl rfl rfl (aB rfl bp) rfl ?_ ?_
 refine aS rfl bp rfl (bH _ _ _ (by decide)) (fun w hw => (ao (aP 2 rfl hw) aM)) ?_
 refine aa ?_
 refine ax (aJ 3) ?_
 refine bn (listed' := #[true, true, true, false, true, true, false, false, false, false, false, false, true, false, false]) (by as_aux_lemma => kernel_rfl) ?_
 exact K6_13 As64 b69 As70 _ bx
 exact br
 intro As63 As74 As79
 refine bI (js := [5, 12]) (by as_aux_lemma => kernel_rfl) rfl ?_
 refine aH (i := 5) rfl rfl rfl (aB rfl bp) rfl ?_ ?_
 refine aS rfl bp rfl (bH _ _ _ (by decide)) (fun w hw => (ao (aP 0 rfl hw) aM)) ?_
 refine aa ?_
 refine ax (aJ 3) ?_
 refine bn (listed' := #[true, true, true, true, true, true, false, false, false, false, false, false, false, false, false]) (by as_aux_lemma => kernel_rfl) ?_
 exact K6_14 As63 As74 As79 _ bx
 refine aH (i := 12) rfl rfl rfl (fun _ _ _ => az (by as_aux_lemma => kernel_rfl)) rfl ?_ ?_
 refine bo bd rfl rfl (fun b94 => ?_)
 refine aa ?_
 refine ax (aJ 4) ?_
 refine aQ (i := 5) rfl rfl rfl (aB rfl bp) (by as_aux_lemma => kernel_rfl) rfl ?_
 refine aS rfl bp rfl (bH _ _ _ (by decide)) (fun w hw => (ao (aP 1 rfl hw) aM)) ?_
 refine aa ?_
 refine ax (aJ 4) ?_
 refine aQ (i := 6) rfl rfl rfl (fun _ _ _ => az (by as_aux_lemma => kernel_rfl)) (by as_aux_lemma => kernel_rfl) rfl ?_
 refine bh (vs := [_]) ([cQ 97] : List (aW)) bm Try.underlying25 bN rfl rfl rfl rfl rfl rfl (fun As95 => ?_)
 refine aa ?_
 refine ax (aJ 5) ?_
 refine aq (i := 7) rfl ae (bB rfl (bF _ _ _ _ _ _ _ _)) (aJ 5) aD rfl (ai ar) (by as_aux_lemma => kernel_rfl) rfl ?_
 refine aQ (i := 8) rfl rfl rfl (aB rfl bz) (by as_aux_lemma => kernel_rfl) rfl ?_
 refine bC rfl bz rfl (bJ 3 ta _ _ false 3 4 [cF [[65]]] _ _ [cQ 97] _ _ htaok ef htal (by decide) (by decide) dy) (fun w hw => (ao (aP 7 rfl hw) (ao (cz 6 rfl hw) (ao (aP 3 rfl hw) (ao (bM ec) (ao (aP 0 rfl hw) aM)))))) (fun ⟨⟨tg, Ag, cg⟩, htg⟩ => ?_)
 refine aa ?_
 refine ax (aJ 7) ?_
 have hg9 : (bv 3 ta false 3 4 [cF [[65]]] [cQ 97]).1 = 6 := ((cN hta2 rfl).1).trans gy
 refine bO (t := 58) (.tuple #[.agg (dU 0 Ag tg.length cg).toArray, .int .i64 6]) rfl (by rw [hg9]; rfl) ?_
 refine aq (i := 9) rfl ae (ak rfl) (aJ 7) aD rfl (ai ar) (by as_aux_lemma => kernel_rfl) rfl ?_
 refine aq (i := 10) rfl ae (aL rfl rfl) (aJ 7) aD rfl (ai ar) (by as_aux_lemma => kernel_rfl) rfl ?_
 refine aq (i := 11) rfl ae (aL rfl rfl) (aJ 7) aD rfl (ai ar) (by as_aux_lemma => kernel_rfl) rfl ?_
 refine aQ (i := 13) rfl rfl rfl (fun _ _ _ => az (by as_aux_lemma => kernel_rfl)) (by as_aux_lemma => kernel_rfl) rfl ?_
 refine bf bd rfl rfl rfl (.s (.s (.s (.z)))) rfl rfl rfl rfl ?_
 refine aa ?_
 refine ax (aJ 7) ?_
 refine aq (i := 14) rfl ae (aj rfl) (aJ 7) aD rfl (ai ar) (by as_aux_lemma => kernel_rfl) rfl ?_
 refine b0 (by as_aux_lemma => kernel_rfl) ?_
 refine am ?_
 refine cu (fun w h => (h.weak (.cons _ (.cons _ (.cons _ (.cons _ (.cons _ (.cons _ (.cons _ (.cons_cons _ (.cons_cons _ (.cons_cons _ .slnil)))))))))) (fun s hs => hs)).f2.f2.f2) ?_
 exact J6 () _ (by repeat (first | exact trivial | refine ⟨rfl, ?_⟩))
 exact br
 intro As63 As75
 refine bI (js := [3, 6, 12]) (by as_aux_lemma => kernel_rfl) rfl ?_
 refine aH (i := 3) rfl rfl rfl (fun _ _ _ => az (by as_aux_lemma => kernel_rfl)) rfl ?_ ?_
 refine bh (vs := [_]) ([cF [[65]]] : List (Le)) bw Try.underlying22 a7 rfl rfl rfl rfl rfl rfl (fun As97 => ?_)
 refine aa ?_
 refine ax (aJ 3) ?_
 refine cA (fun w h => h.f2.f1.f2) ?_
 refine bn (listed' := #[true, true, true, true, true, true, false, false, false, false, false, false, false, false, false]) (by as_aux_lemma => kernel_rfl) ?_
 exact K6_14 As63 As97 As75 _ (by repeat (first | exact trivial | refine ⟨rfl, ?_⟩))
 refine aH (i := 6) rfl rfl rfl (fun _ _ _ => az (by as_aux_lemma => kernel_rfl)) rfl ?_ ?_
 refine bh (vs := [_]) ([cQ 97] : List (aW)) bm Try.underlying25 bN rfl rfl rfl rfl rfl rfl (fun As98 => ?_)
 refine aa ?_
 refine ax (aJ 3) ?_
 refine bn (listed' := #[true, true, true, false, true, true, true, false, false, false, false, false, false, false, false]) (by as_aux_lemma => kernel_rfl) ?_
 exact K6_15 As63 As75 As98 _ bx
 refine aH (i := 12) rfl rfl rfl (fun _ _ _ => az (by as_aux_lemma => kernel_rfl)) rfl ?_ ?_
 refine bo bd rfl rfl (fun b99 => ?_)
 refine aa ?_
 refine ax (aJ 3) ?_
 refine cA (fun w h => h.f1.f1.f2) ?_
 refine bn (listed' := #[true, true, true, false, true, true, false, false, false, false, false, false, true, false, false]) (by as_aux_lemma => kernel_rfl) ?_
 exact K6_13 As75 b99 As63 _ (by repeat (first | exact trivial | refine ⟨rfl, ?_⟩))
 exact br
 intro As64 b69 As70
 refine bI (js := [3, 6]) (by as_aux_lemma => kernel_rfl) rfl ?_
 refine aH (i := 3) rfl rfl rfl (fun _ _ _ => az (by as_aux_lemma => kernel_rfl)) rfl ?_ ?_
 refine bh (vs := [_]) ([cF [[65]]] : List (Le)) bw Try.underlying22 a7 rfl rfl rfl rfl rfl rfl (fun As100 => ?_)
 refine aa ?_
 refine ax (aJ 4) ?_
 refine aQ (i := 6) rfl rfl rfl (fun _ _ _ => az (by as_aux_lemma => kernel_rfl)) (by as_aux_lemma => kernel_rfl) rfl ?_
 refine bh (vs := [_]) ([cQ 97] : List (aW)) bm Try.underlying25 bN rfl rfl rfl rfl rfl rfl (fun As101 => ?_)
 refine aa ?_
 refine ax (aJ 5) ?_
 refine aq (i := 7) rfl ae (bB rfl (bF _ _ _ _ _ _ _ _)) (aJ 5) aD rfl (ai ar) (by as_aux_lemma => kernel_rfl) rfl ?_
 refine aQ (i := 8) rfl rfl rfl (aB rfl bz) (by as_aux_lemma => kernel_rfl) rfl ?_
 refine bC rfl bz rfl (bJ 3 ta _ _ false 3 4 [cF [[65]]] _ _ [cQ 97] _ _ htaok ef htal (by decide) (by decide) dy) (fun w hw => (ao (aP 7 rfl hw) (ao (cz 6 rfl hw) (ao (aP 1 rfl hw) (ao (bM ec) (ao (aP 0 rfl hw) aM)))))) (fun ⟨⟨tg, Ag, cg⟩, htg⟩ => ?_)
 refine aa ?_
 refine ax (aJ 7) ?_
 have hg9 : (bv 3 ta false 3 4 [cF [[65]]] [cQ 97]).1 = 6 := ((cN hta2 rfl).1).trans gy
 refine bO (t := 58) (.tuple #[.agg (dU 0 Ag tg.length cg).toArray, .int .i64 6]) rfl (by rw [hg9]; rfl) ?_
 refine aq (i := 9) rfl ae (ak rfl) (aJ 7) aD rfl (ai ar) (by as_aux_lemma => kernel_rfl) rfl ?_
 refine aq (i := 10) rfl ae (aL rfl rfl) (aJ 7) aD rfl (ai ar) (by as_aux_lemma => kernel_rfl) rfl ?_
 refine aq (i := 11) rfl ae (aL rfl rfl) (aJ 7) aD rfl (ai ar) (by as_aux_lemma => kernel_rfl) rfl ?_
 refine aQ (i := 13) rfl rfl rfl (fun _ _ _ => az (by as_aux_lemma => kernel_rfl)) (by as_aux_lemma => kernel_rfl) rfl ?_
 refine bf bd rfl rfl rfl (.s (.s (.s (.s (.s (.z)))))) rfl rfl rfl rfl ?_
 refine aa ?_
 refine ax (aJ 7) ?_
 refine aq (i := 14) rfl ae (aj rfl) (aJ 7) aD rfl (ai ar) (by as_aux_lemma => kernel_rfl) rfl ?_
 refine b0 (by as_aux_lemma => kernel_rfl) ?_
 refine am ?_
 refine cu (fun w h => (h.weak (.cons _ (.cons _ (.cons _ (.cons _ (.cons _ (.cons _ (.cons _ (.cons_cons _ (.cons_cons _ (.cons_cons _ .slnil)))))))))) (fun s hs => hs)).f2.f2.f2) ?_
 exact J6 () _ (by repeat (first | exact trivial | refine ⟨rfl, ?_⟩))
 refine aH (i := 6) rfl rfl rfl (fun _ _ _ => az (by as_aux_lemma => kernel_rfl)) rfl ?_ ?_
 refine bh (vs := [_]) ([cQ 97] : List (aW)) bm Try.underlying25 bN rfl rfl rfl rfl rfl rfl (fun As103 => ?_)
 refine aa ?_
 refine ax (aJ 4) ?_
 refine aQ (i := 3) rfl rfl rfl (fun _ _ _ => az (by as_aux_lemma => kernel_rfl)) (by as_aux_lemma => kernel_rfl) rfl ?_
 refine bh (vs := [_]) ([cF [[65]]] : List (Le)) bw Try.underlying22 a7 rfl rfl rfl rfl rfl rfl (fun As104 => ?_)
 refine aa ?_
 refine ax (aJ 5) ?_
 refine aq (i := 7) rfl ae (bB rfl (bF _ _ _ _ _ _ _ _)) (aJ 5) aD rfl (ai ar) (by as_aux_lemma => kernel_rfl) rfl ?_
 refine aQ (i := 8) rfl rfl rfl (aB rfl bz) (by as_aux_lemma => kernel_rfl) rfl ?_
 refine bC rfl bz rfl (bJ 3 ta _ _ false 3 4 [cF [[65]]] _ _ [cQ 97] _ _ htaok ef htal (by decide) (by decide) dy) (fun w hw => (ao (aP 7 rfl hw) (ao (cz 6 rfl hw) (ao (aP 0 rfl hw) (ao (bM ec) (ao (aP 1 rfl hw) aM)))))) (fun ⟨⟨tg, Ag, cg⟩, htg⟩ => ?_)
 refine aa ?_
 refine ax (aJ 7) ?_
 have hg9 : (bv 3 ta false 3 4 [cF [[65]]] [cQ 97]).1 = 6 := ((cN hta2 rfl).1).trans gy
 refine bO (t := 58) (.tuple #[.agg (dU 0 Ag tg.length cg).toArray, .int .i64 6]) rfl (by rw [hg9]; rfl) ?_
 refine aq (i := 9) rfl ae (ak rfl) (aJ 7) aD rfl (ai ar) (by as_aux_lemma => kernel_rfl) rfl ?_
 refine aq (i := 10) rfl ae (aL rfl rfl) (aJ 7) aD rfl (ai ar) (by as_aux_lemma => kernel_rfl) rfl ?_
 refine aq (i := 11) rfl ae (aL rfl rfl) (aJ 7) aD rfl (ai ar) (by as_aux_lemma => kernel_rfl) rfl ?_
 refine aQ (i := 13) rfl rfl rfl (fun _ _ _ => az (by as_aux_lemma => kernel_rfl)) (by as_aux_lemma => kernel_rfl) rfl ?_
 refine bf bd rfl rfl rfl (.s (.s (.s (.s (.s (.z)))))) rfl rfl rfl rfl ?_
 refine aa ?_
 refine ax (aJ 7) ?_
 refine aq (i := 14) rfl ae (aj rfl) (aJ 7) aD rfl (ai ar) (by as_aux_lemma => kernel_rfl) rfl ?_
 refine b0 (by as_aux_lemma => kernel_rfl) ?_
 refine am ?_
 refine cu (fun w h => (h.weak (.cons _ (.cons _ (.cons _ (.cons _ (.cons _ (.cons _ (.cons _ (.cons_cons _ (.cons_cons _ (.cons_cons _ .slnil)))))))))) (fun s hs => hs)).f2.f2.f2) ?_
 exact J6 () _ (by repeat (first | exact trivial | refine ⟨rfl, ?_⟩))
 exact br
 intro As63 As74 As79
 refine bI (js := [6, 12]) (by as_aux_lemma => kernel_rfl) rfl ?_
 refine aH (i := 6) rfl rfl rfl (fun _ _ _ => az (by as_aux_lemma => kernel_rfl)) rfl ?_ ?_
 refine bh (vs := [_]) ([cQ 97] : List (aW)) bm Try.underlying25 bN rfl rfl rfl rfl rfl rfl (fun As106 => ?_)
 refine aa ?_
 refine ax (aJ 4) ?_
 refine aq (i := 7) rfl ae (bB rfl (bF _ _ _ _ _ _ _ _)) (aJ 4) aD rfl (ai ar) (by as_aux_lemma => kernel_rfl) rfl ?_
 refine bn (listed' := #[true, true, true, true, true, true, true, true, false, false, false, false, false, false, false]) (by as_aux_lemma => kernel_rfl) ?_
 exact K6_16 As63 As74 As79 As106 _ bx
 refine aH (i := 12) rfl rfl rfl (fun _ _ _ => az (by as_aux_lemma => kernel_rfl)) rfl ?_ ?_
 refine bo bd rfl rfl (fun b107 => ?_)
 refine aa ?_
 refine ax (aJ 4) ?_
 refine aQ (i := 6) rfl rfl rfl (fun _ _ _ => az (by as_aux_lemma => kernel_rfl)) (by as_aux_lemma => kernel_rfl) rfl ?_
 refine bh (vs := [_]) ([cQ 97] : List (aW)) bm Try.underlying25 bN rfl rfl rfl rfl rfl rfl (fun As108 => ?_)
 refine aa ?_
 refine ax (aJ 5) ?_
 refine aq (i := 7) rfl ae (bB rfl (bF _ _ _ _ _ _ _ _)) (aJ 5) aD rfl (ai ar) (by as_aux_lemma => kernel_rfl) rfl ?_
 refine aQ (i := 8) rfl rfl rfl (aB rfl bz) (by as_aux_lemma => kernel_rfl) rfl ?_
 refine bC rfl bz rfl (bJ 3 ta _ _ false 3 4 [cF [[65]]] _ _ [cQ 97] _ _ htaok ef htal (by decide) (by decide) dy) (fun w hw => (ao (aP 7 rfl hw) (ao (cz 6 rfl hw) (ao (aP 3 rfl hw) (ao (bM ec) (ao (aP 0 rfl hw) aM)))))) (fun ⟨⟨tg, Ag, cg⟩, htg⟩ => ?_)
 refine aa ?_
 refine ax (aJ 7) ?_
 have hg9 : (bv 3 ta false 3 4 [cF [[65]]] [cQ 97]).1 = 6 := ((cN hta2 rfl).1).trans gy
 refine bO (t := 58) (.tuple #[.agg (dU 0 Ag tg.length cg).toArray, .int .i64 6]) rfl (by rw [hg9]; rfl) ?_
 refine aq (i := 9) rfl ae (ak rfl) (aJ 7) aD rfl (ai ar) (by as_aux_lemma => kernel_rfl) rfl ?_
 refine aq (i := 10) rfl ae (aL rfl rfl) (aJ 7) aD rfl (ai ar) (by as_aux_lemma => kernel_rfl) rfl ?_
 refine aq (i := 11) rfl ae (aL rfl rfl) (aJ 7) aD rfl (ai ar) (by as_aux_lemma => kernel_rfl) rfl ?_
 refine aQ (i := 13) rfl rfl rfl (fun _ _ _ => az (by as_aux_lemma => kernel_rfl)) (by as_aux_lemma => kernel_rfl) rfl ?_
 refine bf bd rfl rfl rfl (.s (.s (.s (.z)))) rfl rfl rfl rfl ?_
 refine aa ?_
 refine ax (aJ 7) ?_
 refine aq (i := 14) rfl ae (aj rfl) (aJ 7) aD rfl (ai ar) (by as_aux_lemma => kernel_rfl) rfl ?_
 refine b0 (by as_aux_lemma => kernel_rfl) ?_
 refine am ?_
 refine cu (fun w h => (h.weak (.cons _ (.cons _ (.cons _ (.cons _ (.cons _ (.cons _ (.cons _ (.cons_cons _ (.cons_cons _ (.cons_cons _ .slnil)))))))))) (fun s hs => hs)).f2.f2.f2) ?_
 exact J6 () _ (by repeat (first | exact trivial | refine ⟨rfl, ?_⟩))
 exact br
 intro As63 As75 As98
 refine bI (js := [3, 12]) (by as_aux_lemma => kernel_rfl) rfl ?_
 refine aH (i := 3) rfl rfl rfl (fun _ _ _ => az (by as_aux_lemma => kernel_rfl)) rfl ?_ ?_
 refine bh (vs := [_]) ([cF [[65]]] : List (Le)) bw Try.underlying22 a7 rfl rfl rfl rfl rfl rfl (fun As110 => ?_)
 refine aa ?_
 refine ax (aJ 4) ?_
 refine aq (i := 7) rfl ae (bB rfl (bF _ _ _ _ _ _ _ _)) (aJ 4) aD rfl (ai ar) (by as_aux_lemma => kernel_rfl) rfl ?_
 refine cA (fun w h => h.f3.f1.f3.f3) ?_
 refine bn (listed' := #[true, true, true, true, true, true, true, true, false, false, false, false, false, false, false]) (by as_aux_lemma => kernel_rfl) ?_
 exact K6_16 As63 As110 As75 As98 _ (by repeat (first | exact trivial | refine ⟨rfl, ?_⟩))
 refine aH (i := 12) rfl rfl rfl (fun _ _ _ => az (by as_aux_lemma => kernel_rfl)) rfl ?_ ?_
 refine bo bd rfl rfl (fun b111 => ?_)
 refine aa ?_
 refine ax (aJ 4) ?_
 refine aQ (i := 3) rfl rfl rfl (fun _ _ _ => az (by as_aux_lemma => kernel_rfl)) (by as_aux_lemma => kernel_rfl) rfl ?_
 refine bh (vs := [_]) ([cF [[65]]] : List (Le)) bw Try.underlying22 a7 rfl rfl rfl rfl rfl rfl (fun As112 => ?_)
 refine aa ?_
 refine ax (aJ 5) ?_
 refine aq (i := 7) rfl ae (bB rfl (bF _ _ _ _ _ _ _ _)) (aJ 5) aD rfl (ai ar) (by as_aux_lemma => kernel_rfl) rfl ?_
 refine aQ (i := 8) rfl rfl rfl (aB rfl bz) (by as_aux_lemma => kernel_rfl) rfl ?_
 refine bC rfl bz rfl (bJ 3 ta _ _ false 3 4 [cF [[65]]] _ _ [cQ 97] _ _ htaok ef htal (by decide) (by decide) dy) (fun w hw => (ao (aP 7 rfl hw) (ao (cz 6 rfl hw) (ao (aP 0 rfl hw) (ao (bM ec) (ao (aP 2 rfl hw) aM)))))) (fun ⟨⟨tg, Ag, cg⟩, htg⟩ => ?_)
 refine aa ?_
 refine ax (aJ 7) ?_
 have hg9 : (bv 3 ta false 3 4 [cF [[65]]] [cQ 97]).1 = 6 := ((cN hta2 rfl).1).trans gy
 refine bO (t := 58) (.tuple #[.agg (dU 0 Ag tg.length cg).toArray, .int .i64 6]) rfl (by rw [hg9]; rfl) ?_
 refine aq (i := 9) rfl ae (ak rfl) (aJ 7) aD rfl (ai ar) (by as_aux_lemma => kernel_rfl) rfl ?_
 refine aq (i := 10) rfl ae (aL rfl rfl) (aJ 7) aD rfl (ai ar) (by as_aux_lemma => kernel_rfl) rfl ?_
 refine aq (i := 11) rfl ae (aL rfl rfl) (aJ 7) aD rfl (ai ar) (by as_aux_lemma => kernel_rfl) rfl ?_
 refine aQ (i := 13) rfl rfl rfl (fun _ _ _ => az (by as_aux_lemma => kernel_rfl)) (by as_aux_lemma => kernel_rfl) rfl ?_
 refine bf bd rfl rfl rfl (.s (.s (.s (.z)))) rfl rfl rfl rfl ?_
 refine aa ?_
 refine ax (aJ 7) ?_
 refine aq (i := 14) rfl ae (aj rfl) (aJ 7) aD rfl (ai ar) (by as_aux_lemma => kernel_rfl) rfl ?_
 refine b0 (by as_aux_lemma => kernel_rfl) ?_
 refine am ?_
 refine cu (fun w h => (h.weak (.cons _ (.cons _ (.cons _ (.cons _ (.cons _ (.cons _ (.cons _ (.cons_cons _ (.cons_cons _ (.cons_cons _ .slnil)))))))))) (fun s hs => hs)).f2.f2.f2) ?_
 exact J6 () _ (by repeat (first | exact trivial | refine ⟨rfl, ?_⟩))
 exact br
 intro As63 As74 As79 As106
 refine bI (js := [8, 12]) (by as_aux_lemma => kernel_rfl) rfl ?_
 refine aH (i := 8) rfl rfl rfl (aB rfl bz) rfl ?_ ?_
 refine bC rfl bz rfl (bJ 3 ta _ _ false 3 4 [cF [[65]]] _ _ [cQ 97] _ _ htaok ef htal (by decide) (by decide) dy) (fun w hw => (ao (aP 6 rfl hw) (ao (cz 5 rfl hw) (ao (aP 2 rfl hw) (ao (bM ec) (ao (aP 0 rfl hw) aM)))))) (fun ⟨⟨tg, Ag, cg⟩, htg⟩ => ?_)
 refine aa ?_
 refine ax (aJ 6) ?_
 have hg9 : (bv 3 ta false 3 4 [cF [[65]]] [cQ 97]).1 = 6 := ((cN hta2 rfl).1).trans gy
 refine bO (t := 58) (.tuple #[.agg (dU 0 Ag tg.length cg).toArray, .int .i64 6]) rfl (by rw [hg9]; rfl) ?_
 refine aq (i := 9) rfl ae (ak rfl) (aJ 6) aD rfl (ai ar) (by as_aux_lemma => kernel_rfl) rfl ?_
 refine aq (i := 10) rfl ae (aL rfl rfl) (aJ 6) aD rfl (ai ar) (by as_aux_lemma => kernel_rfl) rfl ?_
 refine aq (i := 11) rfl ae (aL rfl rfl) (aJ 6) aD rfl (ai ar) (by as_aux_lemma => kernel_rfl) rfl ?_
 refine aQ (i := 12) rfl rfl rfl (fun _ _ _ => az (by as_aux_lemma => kernel_rfl)) (by as_aux_lemma => kernel_rfl) rfl ?_
 refine bo bd rfl rfl (fun b115 => ?_)
 refine aa ?_
 refine ax (aJ 7) ?_
 refine aQ (i := 13) rfl rfl rfl (fun _ _ _ => az (by as_aux_lemma => kernel_rfl)) (by as_aux_lemma => kernel_rfl) rfl ?_
 refine bf bd rfl rfl rfl .z rfl rfl rfl rfl ?_
 refine aa ?_
 refine ax (aJ 7) ?_
 refine aq (i := 14) rfl ae (aj rfl) (aJ 7) aD rfl (ai ar) (by as_aux_lemma => kernel_rfl) rfl ?_
 refine b0 (by as_aux_lemma => kernel_rfl) ?_
 refine am ?_
 refine cu (fun w h => (h.weak (.cons _ (.cons _ (.cons _ (.cons _ (.cons _ (.cons _ (.cons _ (.cons_cons _ (.cons_cons _ (.cons_cons _ .slnil)))))))))) (fun s hs => hs)).f2.f2.f2) ?_
 exact J6 () _ (by repeat (first | exact trivial | refine ⟨rfl, ?_⟩))
 refine aH (i := 12) rfl rfl rfl (fun _ _ _ => az (by as_aux_lemma => kernel_rfl)) rfl ?_ ?_
 refine bo bd rfl rfl (fun b116 => ?_)
 refine aa ?_
 refine ax (aJ 5) ?_
 refine aQ (i := 8) rfl rfl rfl (aB rfl bz) (by as_aux_lemma => kernel_rfl) rfl ?_
 refine bC rfl bz rfl (bJ 3 ta _ _ false 3 4 [cF [[65]]] _ _ [cQ 97] _ _ htaok ef htal (by decide) (by decide) dy) (fun w hw => (ao (aP 7 rfl hw) (ao (cz 6 rfl hw) (ao (aP 3 rfl hw) (ao (bM ec) (ao (aP 1 rfl hw) aM)))))) (fun ⟨⟨tg, Ag, cg⟩, htg⟩ => ?_)
 refine aa ?_
 refine ax (aJ 7) ?_
 have hg9 : (bv 3 ta false 3 4 [cF [[65]]] [cQ 97]).1 = 6 := ((cN hta2 rfl).1).trans gy
 refine bO (t := 58) (.tuple #[.agg (dU 0 Ag tg.length cg).toArray, .int .i64 6]) rfl (by rw [hg9]; rfl) ?_
 refine aq (i := 9) rfl ae (ak rfl) (aJ 7) aD rfl (ai ar) (by as_aux_lemma => kernel_rfl) rfl ?_
 refine aq (i := 10) rfl ae (aL rfl rfl) (aJ 7) aD rfl (ai ar) (by as_aux_lemma => kernel_rfl) rfl ?_
 refine aq (i := 11) rfl ae (aL rfl rfl) (aJ 7) aD rfl (ai ar) (by as_aux_lemma => kernel_rfl) rfl ?_
 refine aQ (i := 13) rfl rfl rfl (fun _ _ _ => az (by as_aux_lemma => kernel_rfl)) (by as_aux_lemma => kernel_rfl) rfl ?_
 refine bf bd rfl rfl rfl (.s (.s (.z))) rfl rfl rfl rfl ?_
 refine aa ?_
 refine ax (aJ 7) ?_
 refine aq (i := 14) rfl ae (aj rfl) (aJ 7) aD rfl (ai ar) (by as_aux_lemma => kernel_rfl) rfl ?_
 refine b0 (by as_aux_lemma => kernel_rfl) ?_
 refine am ?_
 refine cu (fun w h => (h.weak (.cons _ (.cons _ (.cons _ (.cons _ (.cons _ (.cons _ (.cons _ (.cons_cons _ (.cons_cons _ (.cons_cons _ .slnil)))))))))) (fun s hs => hs)).f2.f2.f2) ?_
 exact J6 () _ (by repeat (first | exact trivial | refine ⟨rfl, ?_⟩))
 exact br
 refine ap ?_
 refine eG 12 rfl mixed ?_
 apply eO #[true, true, true, true, true, false, false, false, false, false, false, false] 7
 intro K5_3
 apply ft #[true, true, true, false, false, false, false, false, false, false, false, false] 9
 intro K5_2
 apply ft #[true, true, false, false, false, false, false, false, false, false, false, false] 10
 intro K5_1
 apply wu_k0 #[true, false, false, false, false, false, false, false, false, false, false, false] 11
 intro K5_0
 refine aq (i := 0) rfl ae (bj 3 bd rfl rfl rfl rfl) aD aD rfl (ai ar) (by as_aux_lemma => kernel_rfl) rfl ?_
 refine bn (listed' := #[true, false, false, false, false, false, false, false, false, false, false, false]) (by as_aux_lemma => kernel_rfl) ?_
 exact K5_0 _ bx
 refine bI (js := [1, 9]) (by as_aux_lemma => kernel_rfl) rfl ?_
 refine aH (i := 1) rfl rfl rfl (fun _ _ _ => az (by as_aux_lemma => kernel_rfl)) rfl ?_ ?_
 refine bh (vs := [_]) ([[99]] : List (aW)) bm Try.underlying105 bK rfl rfl rfl rfl rfl rfl (fun As118 => ?_)
 refine aa ?_
 refine ax (aJ 1) ?_
 refine bn (listed' := #[true, true, false, false, false, false, false, false, false, false, false, false]) (by as_aux_lemma => kernel_rfl) ?_
 exact K5_1 As118 _ bx
 refine aH (i := 9) rfl rfl rfl (fun _ _ _ => az (by as_aux_lemma => kernel_rfl)) rfl ?_ ?_
 refine bo bd rfl rfl (fun b119 => ?_)
 refine aa ?_
 refine ax (aJ 1) ?_
 refine aQ (i := 1) rfl rfl rfl (fun _ _ _ => az (by as_aux_lemma => kernel_rfl)) (by as_aux_lemma => kernel_rfl) rfl ?_
 refine bh (vs := [_]) ([[99]] : List (aW)) bm Try.underlying105 bK rfl rfl rfl rfl rfl rfl (fun As120 => ?_)
 refine aa ?_
 refine ax (aJ 2) ?_
 refine aQ (i := 2) rfl rfl rfl (aB rfl bp) (by as_aux_lemma => kernel_rfl) rfl ?_
 refine aS rfl bp rfl (bH _ _ _ (by decide)) (fun w hw => (ao (aP 0 rfl hw) aM)) ?_
 refine aa ?_
 refine ax (aJ 2) ?_
 refine aQ (i := 3) rfl rfl rfl (fun _ _ _ => az (by as_aux_lemma => kernel_rfl)) (by as_aux_lemma => kernel_rfl) rfl ?_
 refine bh (vs := [_]) ([cQ 99] : List (aW)) bm Try.underlying25 bN rfl rfl rfl rfl rfl rfl (fun As121 => ?_)
 refine aa ?_
 refine ax (aJ 3) ?_
 refine aq (i := 4) rfl ae (bB rfl (eW _ _ _ _ _)) (aJ 3) aD rfl (ai ar) (by as_aux_lemma => kernel_rfl) rfl ?_
 refine aQ (i := 5) rfl rfl rfl (aB rfl bz) (by as_aux_lemma => kernel_rfl) rfl ?_
 refine bC rfl bz rfl (bJ 3 ta _ _ false 3 4 [] none _ [cQ 99] _ _ htaok nofun htal (by decide) (by decide) fV) (fun w hw => (ao (aP 8 rfl hw) (ao (cz 7 rfl hw) (ao (cT) (ao (bM nofun) (ao (aP 0 rfl hw) aM)))))) (fun ⟨⟨tf, Af, cf⟩, htf⟩ => ?_)
 refine aa ?_
 refine ax (aJ 5) ?_
 have hf9 : (bv 3 ta false 3 4 [] [cQ 99]).1 = 5 := ((cN hta2 rfl).1).trans apN_2
 refine bO (t := 46) (.tuple #[.agg (dU 0 Af tf.length cf).toArray, .int .i64 5]) rfl (by rw [hf9]; rfl) ?_
 refine aq (i := 6) rfl ae (ak rfl) (aJ 5) aD rfl (ai ar) (by as_aux_lemma => kernel_rfl) rfl ?_
 refine aq (i := 7) rfl ae (aL rfl rfl) (aJ 5) aD rfl (ai ar) (by as_aux_lemma => kernel_rfl) rfl ?_
 refine aq (i := 8) rfl ae (aL rfl rfl) (aJ 5) aD rfl (ai ar) (by as_aux_lemma => kernel_rfl) rfl ?_
 refine aQ (i := 10) rfl rfl rfl (fun _ _ _ => az (by as_aux_lemma => kernel_rfl)) (by as_aux_lemma => kernel_rfl) rfl ?_
 refine bf bd rfl rfl rfl (.s (.s (.s (.s (.z))))) rfl rfl rfl rfl ?_
 refine aa ?_
 refine ax (aJ 5) ?_
 refine aq (i := 11) rfl ae (aj rfl) (aJ 5) aD rfl (ai ar) (by as_aux_lemma => kernel_rfl) rfl ?_
 refine b0 (by as_aux_lemma => kernel_rfl) ?_
 refine am ?_
 refine cu (fun w h => (h.weak (.cons _ (.cons _ (.cons _ (.cons _ (.cons _ (.cons _ (.cons _ (.cons _ (.cons_cons _ (.cons_cons _ (.cons_cons _ (.cons _ (.cons _ (.cons _ .slnil)))))))))))))) (fun s hs => hs)).f2.f2.f2) ?_
 exact J5 () _ (by repeat (first | exact trivial | refine ⟨rfl, ?_⟩))
 exact br
 intro As118
 refine bI (js := [2, 9]) (by as_aux_lemma => kernel_rfl) rfl ?_
 refine aH (i := 2) rfl rfl rfl (aB rfl bp) rfl ?_ ?_
 refine aS rfl bp rfl (bH _ _ _ (by decide)) (fun w hw => (ao (aP 0 rfl hw) aM)) ?_
 refine aa ?_
 refine ax (aJ 1) ?_
 refine bn (listed' := #[true, true, true, false, false, false, false, false, false, false, false, false]) (by as_aux_lemma => kernel_rfl) ?_
 exact K5_2 As118 _ bx
 refine aH (i := 9) rfl rfl rfl (fun _ _ _ => az (by as_aux_lemma => kernel_rfl)) rfl ?_ ?_
 refine bo bd rfl rfl (fun b123 => ?_)
 refine aa ?_
 refine ax (aJ 2) ?_
 refine aQ (i := 2) rfl rfl rfl (aB rfl bp) (by as_aux_lemma => kernel_rfl) rfl ?_
 refine aS rfl bp rfl (bH _ _ _ (by decide)) (fun w hw => (ao (aP 1 rfl hw) aM)) ?_
 refine aa ?_
 refine ax (aJ 2) ?_
 refine aQ (i := 3) rfl rfl rfl (fun _ _ _ => az (by as_aux_lemma => kernel_rfl)) (by as_aux_lemma => kernel_rfl) rfl ?_
 refine bh (vs := [_]) ([cQ 99] : List (aW)) bm Try.underlying25 bN rfl rfl rfl rfl rfl rfl (fun As124 => ?_)
 refine aa ?_
 refine ax (aJ 3) ?_
 refine aq (i := 4) rfl ae (bB rfl (eW _ _ _ _ _)) (aJ 3) aD rfl (ai ar) (by as_aux_lemma => kernel_rfl) rfl ?_
 refine aQ (i := 5) rfl rfl rfl (aB rfl bz) (by as_aux_lemma => kernel_rfl) rfl ?_
 refine bC rfl bz rfl (bJ 3 ta _ _ false 3 4 [] none _ [cQ 99] _ _ htaok nofun htal (by decide) (by decide) fV) (fun w hw => (ao (aP 8 rfl hw) (ao (cz 7 rfl hw) (ao (cT) (ao (bM nofun) (ao (aP 0 rfl hw) aM)))))) (fun ⟨⟨tf, Af, cf⟩, htf⟩ => ?_)
 refine aa ?_
 refine ax (aJ 5) ?_
 have hf9 : (bv 3 ta false 3 4 [] [cQ 99]).1 = 5 := ((cN hta2 rfl).1).trans apN_2
 refine bO (t := 46) (.tuple #[.agg (dU 0 Af tf.length cf).toArray, .int .i64 5]) rfl (by rw [hf9]; rfl) ?_
 refine aq (i := 6) rfl ae (ak rfl) (aJ 5) aD rfl (ai ar) (by as_aux_lemma => kernel_rfl) rfl ?_
 refine aq (i := 7) rfl ae (aL rfl rfl) (aJ 5) aD rfl (ai ar) (by as_aux_lemma => kernel_rfl) rfl ?_
 refine aq (i := 8) rfl ae (aL rfl rfl) (aJ 5) aD rfl (ai ar) (by as_aux_lemma => kernel_rfl) rfl ?_
 refine aQ (i := 10) rfl rfl rfl (fun _ _ _ => az (by as_aux_lemma => kernel_rfl)) (by as_aux_lemma => kernel_rfl) rfl ?_
 refine bf bd rfl rfl rfl (.s (.s (.s (.z)))) rfl rfl rfl rfl ?_
 refine aa ?_
 refine ax (aJ 5) ?_
 refine aq (i := 11) rfl ae (aj rfl) (aJ 5) aD rfl (ai ar) (by as_aux_lemma => kernel_rfl) rfl ?_
 refine b0 (by as_aux_lemma => kernel_rfl) ?_
 refine am ?_
 refine cu (fun w h => (h.weak (.cons _ (.cons _ (.cons _ (.cons _ (.cons _ (.cons _ (.cons _ (.cons _ (.cons_cons _ (.cons_cons _ (.cons_cons _ (.cons _ (.cons _ (.cons _ .slnil)))))))))))))) (fun s hs => hs)).f2.f2.f2) ?_
 exact J5 () _ (by repeat (first | exact trivial | refine ⟨rfl, ?_⟩))
 exact br
 intro As118
 refine bI (js := [3, 9]) (by as_aux_lemma => kernel_rfl) rfl ?_
 refine aH (i := 3) rfl rfl rfl (fun _ _ _ => az (by as_aux_lemma => kernel_rfl)) rfl ?_ ?_
 refine bh (vs := [_]) ([cQ 99] : List (aW)) bm Try.underlying25 bN rfl rfl rfl rfl rfl rfl (fun As126 => ?_)
 refine aa ?_
 refine ax (aJ 2) ?_
 refine aq (i := 4) rfl ae (bB rfl (eW _ _ _ _ _)) (aJ 2) aD rfl (ai ar) (by as_aux_lemma => kernel_rfl) rfl ?_
 refine bn (listed' := #[true, true, true, true, true, false, false, false, false, false, false, false]) (by as_aux_lemma => kernel_rfl) ?_
 exact K5_3 As118 As126 _ bx
 refine aH (i := 9) rfl rfl rfl (fun _ _ _ => az (by as_aux_lemma => kernel_rfl)) rfl ?_ ?_
 refine bo bd rfl rfl (fun b127 => ?_)
 refine aa ?_
 refine ax (aJ 2) ?_
 refine aQ (i := 3) rfl rfl rfl (fun _ _ _ => az (by as_aux_lemma => kernel_rfl)) (by as_aux_lemma => kernel_rfl) rfl ?_
 refine bh (vs := [_]) ([cQ 99] : List (aW)) bm Try.underlying25 bN rfl rfl rfl rfl rfl rfl (fun As128 => ?_)
 refine aa ?_
 refine ax (aJ 3) ?_
 refine aq (i := 4) rfl ae (bB rfl (eW _ _ _ _ _)) (aJ 3) aD rfl (ai ar) (by as_aux_lemma => kernel_rfl) rfl ?_
 refine aQ (i := 5) rfl rfl rfl (aB rfl bz) (by as_aux_lemma => kernel_rfl) rfl ?_
 refine bC rfl bz rfl (bJ 3 ta _ _ false 3 4 [] none _ [cQ 99] _ _ htaok nofun htal (by decide) (by decide) fV) (fun w hw => (ao (aP 8 rfl hw) (ao (cz 7 rfl hw) (ao (cT) (ao (bM nofun) (ao (aP 0 rfl hw) aM)))))) (fun ⟨⟨tf, Af, cf⟩, htf⟩ => ?_)
 refine aa ?_
 refine ax (aJ 5) ?_
 have hf9 : (bv 3 ta false 3 4 [] [cQ 99]).1 = 5 := ((cN hta2 rfl).1).trans apN_2
 refine bO (t := 46) (.tuple #[.agg (dU 0 Af tf.length cf).toArray, .int .i64 5]) rfl (by rw [hf9]; rfl) ?_
 refine aq (i := 6) rfl ae (ak rfl) (aJ 5) aD rfl (ai ar) (by as_aux_lemma => kernel_rfl) rfl ?_
 refine aq (i := 7) rfl ae (aL rfl rfl) (aJ 5) aD rfl (ai ar) (by as_aux_lemma => kernel_rfl) rfl ?_
 refine aq (i := 8) rfl ae (aL rfl rfl) (aJ 5) aD rfl (ai ar) (by as_aux_lemma => kernel_rfl) rfl ?_
 refine aQ (i := 10) rfl rfl rfl (fun _ _ _ => az (by as_aux_lemma => kernel_rfl)) (by as_aux_lemma => kernel_rfl) rfl ?_
 refine bf bd rfl rfl rfl (.s (.s (.s (.z)))) rfl rfl rfl rfl ?_
 refine aa ?_
 refine ax (aJ 5) ?_
 refine aq (i := 11) rfl ae (aj rfl) (aJ 5) aD rfl (ai ar) (by as_aux_lemma => kernel_rfl) rfl ?_
 refine b0 (by as_aux_lemma => kernel_rfl) ?_
 refine am ?_
 refine cu (fun w h => (h.weak (.cons _ (.cons _ (.cons _ (.cons _ (.cons _ (.cons _ (.cons _ (.cons _ (.cons_cons _ (.cons_cons _ (.cons_cons _ (.cons _ (.cons _ (.cons _ .slnil)))))))))))))) (fun s hs => hs)).f2.f2.f2) ?_
 exact J5 () _ (by repeat (first | exact trivial | refine ⟨rfl, ?_⟩))
 exact br
 intro As118 As126
 refine bI (js := [5, 9]) (by as_aux_lemma => kernel_rfl) rfl ?_
 refine aH (i := 5) rfl rfl rfl (aB rfl bz) rfl ?_ ?_
 refine bC rfl bz rfl (bJ 3 ta _ _ false 3 4 [] none _ [cQ 99] _ _ htaok nofun htal (by decide) (by decide) fV) (fun w hw => (ao (aP 7 rfl hw) (ao (cz 6 rfl hw) (ao (cT) (ao (bM nofun) (ao (aP 0 rfl hw) aM)))))) (fun ⟨⟨tf, Af, cf⟩, htf⟩ => ?_)
 refine aa ?_
 refine ax (aJ 4) ?_
 have hf9 : (bv 3 ta false 3 4 [] [cQ 99]).1 = 5 := ((cN hta2 rfl).1).trans apN_2
 refine bO (t := 46) (.tuple #[.agg (dU 0 Af tf.length cf).toArray, .int .i64 5]) rfl (by rw [hf9]; rfl) ?_
 refine aq (i := 6) rfl ae (ak rfl) (aJ 4) aD rfl (ai ar) (by as_aux_lemma => kernel_rfl) rfl ?_
 refine aq (i := 7) rfl ae (aL rfl rfl) (aJ 4) aD rfl (ai ar) (by as_aux_lemma => kernel_rfl) rfl ?_
 refine aq (i := 8) rfl ae (aL rfl rfl) (aJ 4) aD rfl (ai ar) (by as_aux_lemma => kernel_rfl) rfl ?_
 refine aQ (i := 9) rfl rfl rfl (fun _ _ _ => az (by as_aux_lemma => kernel_rfl)) (by as_aux_lemma => kernel_rfl) rfl ?_
 refine bo bd rfl rfl (fun b131 => ?_)
 refine aa ?_
 refine ax (aJ 5) ?_
 refine aQ (i := 10) rfl rfl rfl (fun _ _ _ => az (by as_aux_lemma => kernel_rfl)) (by as_aux_lemma => kernel_rfl) rfl ?_
 refine bf bd rfl rfl rfl .z rfl rfl rfl rfl ?_
 refine aa ?_
 refine ax (aJ 5) ?_
 refine aq (i := 11) rfl ae (aj rfl) (aJ 5) aD rfl (ai ar) (by as_aux_lemma => kernel_rfl) rfl ?_
 refine b0 (by as_aux_lemma => kernel_rfl) ?_
 refine am ?_
 refine cu (fun w h => (h.weak (.cons _ (.cons _ (.cons _ (.cons _ (.cons _ (.cons _ (.cons _ (.cons _ (.cons_cons _ (.cons_cons _ (.cons_cons _ (.cons _ (.cons _ (.cons _ .slnil)))))))))))))) (fun s hs => hs)).f2.f2.f2) ?_
 exact J5 () _ (by repeat (first | exact trivial | refine ⟨rfl, ?_⟩))
 refine aH (i := 9) rfl rfl rfl (fun _ _ _ => az (by as_aux_lemma => kernel_rfl)) rfl ?_ ?_
 refine bo bd rfl rfl (fun b132 => ?_)
 refine aa ?_
 refine ax (aJ 3) ?_
 refine aQ (i := 5) rfl rfl rfl (aB rfl bz) (by as_aux_lemma => kernel_rfl) rfl ?_
 refine bC rfl bz rfl (bJ 3 ta _ _ false 3 4 [] none _ [cQ 99] _ _ htaok nofun htal (by decide) (by decide) fV) (fun w hw => (ao (aP 8 rfl hw) (ao (cz 7 rfl hw) (ao (cT) (ao (bM nofun) (ao (aP 1 rfl hw) aM)))))) (fun ⟨⟨tf, Af, cf⟩, htf⟩ => ?_)
 refine aa ?_
 refine ax (aJ 5) ?_
 have hf9 : (bv 3 ta false 3 4 [] [cQ 99]).1 = 5 := ((cN hta2 rfl).1).trans apN_2
 refine bO (t := 46) (.tuple #[.agg (dU 0 Af tf.length cf).toArray, .int .i64 5]) rfl (by rw [hf9]; rfl) ?_
 refine aq (i := 6) rfl ae (ak rfl) (aJ 5) aD rfl (ai ar) (by as_aux_lemma => kernel_rfl) rfl ?_
 refine aq (i := 7) rfl ae (aL rfl rfl) (aJ 5) aD rfl (ai ar) (by as_aux_lemma => kernel_rfl) rfl ?_
 refine aq (i := 8) rfl ae (aL rfl rfl) (aJ 5) aD rfl (ai ar) (by as_aux_lemma => kernel_rfl) rfl ?_
 refine aQ (i := 10) rfl rfl rfl (fun _ _ _ => az (by as_aux_lemma => kernel_rfl)) (by as_aux_lemma => kernel_rfl) rfl ?_
 refine bf bd rfl rfl rfl (.s (.s (.z))) rfl rfl rfl rfl ?_
 refine aa ?_
 refine ax (aJ 5) ?_
 refine aq (i := 11) rfl ae (aj rfl) (aJ 5) aD rfl (ai ar) (by as_aux_lemma => kernel_rfl) rfl ?_
 refine b0 (by as_aux_lemma => kernel_rfl) ?_
 refine am ?_
 refine cu (fun w h => (h.weak (.cons _ (.cons _ (.cons _ (.cons _ (.cons _ (.cons _ (.cons _ (.cons _ (.cons_cons _ (.cons_cons _ (.cons_cons _ (.cons _ (.cons _ (.cons _ .slnil)))))))))))))) (fun s hs => hs)).f2.f2.f2) ?_
 exact J5 () _ (by repeat (first | exact trivial | refine ⟨rfl, ?_⟩))
 exact br
end Go.Proofs.Ytnpdgmoeoidppaa
