import Derived.Test.YtnpdgmoeoidppaaGreatUxQx
import Derived.Test.YtnpdgmoeoidppaaGreatLvQx
import Derived.Test.YtnpdgmoeoidppaaGreatUgQx
/- law 17: tables are what the document says -/
namespace Go.Proofs.YtnpdgmoeoidppaaGreat
open Go.RowKit Go.Shelf
set_option linter.unusedVariables false
set_option linter.unusedSimpArgs false

theorem bu_24_1 (x0 : Option Addr) (x1 : Nat) (x2 : Nat) : Tryz.prog.built 24 [(1, .slice x0 x1 x2)] = some [.int .i64 0, .slice x0 x1 x2].toArray := by kernel_rfl
theorem ent_14 : Enters Tryz.prog 14 := enters_of Tryz.func14 (by kernel_rfl) rfl
theorem ent_26 : Enters Tryz.prog 26 := enters_of Tryz.func26 (by kernel_rfl) rfl
theorem ent_29 : Enters Tryz.prog 29 := enters_of Tryz.func29 (by kernel_rfl) rfl
theorem ent_52 : Enters Tryz.prog 52 := enters_of Tryz.func52 (by kernel_rfl) rfl
theorem ent_53 : Enters Tryz.prog 53 := enters_of Tryz.func53 (by kernel_rfl) rfl
theorem ent_54 : Enters Tryz.prog 54 := enters_of Tryz.func54 (by kernel_rfl) rfl
theorem ent_56 : Enters Tryz.prog 56 := enters_of Tryz.func56 (by kernel_rfl) rfl
theorem ent_57 : Enters Tryz.prog 57 := enters_of Tryz.func57 (by kernel_rfl) rfl
theorem ent_58 : Enters Tryz.prog 58 := enters_of Tryz.func58 (by kernel_rfl) rfl
theorem gN : Enters Tryz.prog 59 := enters_of Tryz.func59 (by kernel_rfl) rfl
theorem d8 : Enters Tryz.prog 60 := enters_of Tryz.func60 (by kernel_rfl) rfl
theorem ent_63 : Enters Tryz.prog 63 := enters_of Tryz.func63 (by kernel_rfl) rfl
theorem ent_64 : Enters Tryz.prog 64 := enters_of Tryz.func64 (by kernel_rfl) rfl
theorem ent_65 : Enters Tryz.prog 65 := enters_of Tryz.func65 (by kernel_rfl) rfl

theorem rd_sub17 {w : World} {M M' : List Ch} (h : (Ch.rall M).P w ∧ ∀ b, (Ch.rall M).ok b → b < w.heap.size) (hs : ∀ c ∈ M', c ∈ M) : (Ch.rall M').P w ∧ ∀ b, (Ch.rall M').ok b → b < w.heap.size := ⟨fun c hc => h.1 c (hs c hc), fun b ⟨c, hc, hb⟩ => h.2 b ⟨c, hs c hc, hb⟩⟩

theorem dfP_sub {v v2 : Int} {l l2 : List Le} : ∀ x ∈ dfP v l v2 l2, x ∈ l2 := fun x hx => by
  unfold dfP at hx; split at hx
  · exact (List.mem_filter.1 hx).1
  · cases hx
theorem flat_sub {l l2 : List Le} (h : ∀ x ∈ l, x ∈ l2) : ∀ c ∈ l.flatMap fm, c ∈ l2.flatMap fm := fun c hc => by
  obtain ⟨x, hx, hc⟩ := List.mem_flatMap.1 hc
  exact List.mem_flatMap.2 ⟨x, h x hx, hc⟩

theorem rd_both {w : World} {M1 M2 M : List Ch} (h1 : (Ch.rall M1).P w ∧ ∀ b, (Ch.rall M1).ok b → b < w.heap.size) (h2 : (Ch.rall M2).P w ∧ ∀ b, (Ch.rall M2).ok b → b < w.heap.size) (hs : ∀ c ∈ M, c ∈ M1 ∨ c ∈ M2) : (Ch.rall M).P w ∧ ∀ b, (Ch.rall M).ok b → b < w.heap.size :=
  ek fun c hc => (hs c hc).elim (fun h => cJ h1 h) (fun h => cJ h2 h)
theorem ap_flat {v : Int} {l : List Le} {full : Bool} {bs ver : Int} {put : List Le} {drop : List a6} : ∀ c ∈ (bx v l full bs ver put drop).2.flatMap fm, c ∈ l.flatMap fm ∨ c ∈ put.flatMap fm := fun c hc => by
  obtain ⟨x, hx, hc⟩ := List.mem_flatMap.1 hc
  by_cases h : (bx v l full bs ver put drop).1 = 0
  · exact ((apply_ok.1 (prod_eta h)).mem hx).imp (fun q => List.mem_flatMap.2 ⟨x, q, hc⟩) (fun q => List.mem_flatMap.2 ⟨x, q, hc⟩)
  · rw [apply_bad h] at hx; cases hx

set_option maxRecDepth 100000 in
set_option maxHeartbeats 4000000 in
theorem c_TableCalls (v : Int) (l : List Le) (A : Option Addr) (c : Nat) (v2 : Int) (l2 : List Le) (A2 : Option Addr) (c2 : Nat) (full : Bool) (bs ver : Int) (put : List Le) (P : Option Addr) (pc : Nat) (drop : List a6) (D : Option Addr) (dc : Nat) (n : a6) (hnl : n.length ≤ 9223372036854775807) (hen : ∀ x ∈ l, EnOk x.e) (hll : l.length ≤ 9223372036854775807) (hen2 : ∀ x ∈ l2, EnOk x.e) (hll2 : l2.length ≤ 9223372036854775807) (hpen : ∀ x ∈ put, EnOk x.e) (hpll : put.length ≤ 9223372036854775807) (hdll : drop.length ≤ 9223372036854775807) (hlc : l.length ≤ c) (hlc2 : l2.length ≤ c2) : RC Tryz.prog 8 #[.agg (eE v A l.length c).toArray, .agg (eE v2 A2 l2.length c2).toArray, .agg (er full bs ver P put.length pc D drop.length dc).toArray, .string (ba n)] [Ch.rd A 7 dF l, Ch.rall (l.flatMap fm), Ch.rd A2 7 dF l2, Ch.rall (l2.flatMap fm), Ch.rd P 7 dF put, Ch.rall (put.flatMap fm), Ch.rd D 1 dD drop] (α := Unit) (fun _ => .bool true) (fun _ => []) := by
 refine bK (args := [.agg (eE v A l.length c).toArray, .agg (eE v2 A2 l2.length c2).toArray, .agg (er full bs ver P put.length pc D drop.length dc).toArray, .string (ba n)]) 148 Tryz.func8 rfl rfl rfl (fun w0 => ?_)
 refine ap ?_
 refine ae ?_
 refine cL rfl rfl rfl (fun b1 => ?_)
 refine cL rfl rfl rfl (fun b2 => ?_)
 refine cL rfl rfl rfl (fun b3 => ?_)
 refine aq (ai rfl) rfl rfl ?_
 refine aa ?_
 refine aj ?_
 refine ap ?_
 refine ap ?_
 refine ae ?_
 refine bD rfl ent_52 c_lives17 rfl ?_
 refine eo (t := 19) (.bool true) rfl (congrArg Value.bool rfl) ?_
 refine aq (bS rfl) rfl rfl ?_
 refine aa ?_
 refine aj ?_
 refine aD rfl ?_
 refine aQ ?_
 refine aj ?_
 refine ap ?_
 refine ap ?_
 refine ae ?_
 refine aq (bu 2 bw rfl rfl rfl rfl) rfl rfl ?_
 refine bA rfl ent_53 rfl (c_light17 v l _ _ (by omega)) (fun w hw => (az (bo 0 rfl hw) aY)) ?_
 refine bN (t := 22) rfl (fun h3_1 => ?_) (fun h3_1 => ?_)
 have hle9 := jh h3_1
 have hok : TbOk l := fun x hx => ⟨hen x hx, hle9.1 x hx⟩
 have hl9 := hle9.2
 refine aq (bS rfl) rfl rfl ?_
 refine aq (am rfl) rfl rfl ?_
 refine au rfl rfl ?_
 refine aq (bu 1 bw rfl rfl rfl rfl) rfl rfl ?_
 refine au rfl rfl ?_
 refine bA rfl ent_53 rfl (c_light17 v2 l2 _ _ (by omega)) (fun w hw => (az (bo 2 rfl hw) aY)) ?_
 refine bN (t := 26) rfl (fun h3_5 => ?_) (fun h3_5 => ?_)
 have hle8 := jh h3_5
 have hok2 : TbOk l2 := fun x hx => ⟨hen2 x hx, hle8.1 x hx⟩
 have hl8 := hle8.2
 have hdpl := dfP_len v l v2 l2
 have hddl := dfD_len v l v2 l2
 have haul := au_len l
 refine au rfl rfl ?_
 refine aq (bS rfl) rfl rfl ?_
 refine aq (aF rfl rfl) rfl rfl ?_
 refine aq (am rfl) rfl rfl ?_
 refine au rfl rfl ?_
 refine aq (bu 0 bL rfl rfl rfl rfl) rfl rfl ?_
 refine au rfl rfl ?_
 refine bA rfl ent_54 rfl (c_LightPush full bs ver put P pc drop D dc 40 hpll hdll) (fun w hw => (az (bo 4 rfl hw) (az (bo 6 rfl hw) aY))) ?_
 refine bN (t := 31) rfl (fun h3_10 => ?_) (fun h3_10 => ?_)
 have hlp := (Bool.and_eq_true _ _).mp h3_10
 have hlp1 := jh hlp.1
 have hlp2 := lightN_le hlp.2
 have hpok : TbOk put := fun x hx => ⟨hpen x hx, hlp1.1 x hx⟩
 have hlp3 := hlp1.2
 have hlp4 := hlp2.2
 have hdb9 : ∀ n ∈ drop, n.length ≤ 1000 := fun n hn => Nat.le_trans (hlp2.1 n hn) (by decide)
 refine au rfl rfl ?_
 refine aq (bS rfl) rfl rfl ?_
 refine aq (aF rfl rfl) rfl rfl ?_
 refine aq (am rfl) rfl rfl ?_
 refine au rfl rfl ?_
 refine aq (am rfl) rfl rfl ?_
 refine au rfl rfl ?_
 refine aq (dp Tryz.underlying26 rfl) rfl rfl ?_
 refine au rfl rfl ?_
 refine aq (dB rfl rfl) rfl rfl ?_
 refine ay (t := 37) rfl (fun h3_16 => ?_) (fun h3_16 => ?_)
 refine aq (aF rfl rfl) rfl rfl ?_
 refine aa ?_
 refine aj ?_
 refine aA rfl ?_
 refine ap ?_
 refine ae ?_
 refine aq (ai rfl) rfl rfl ?_
 refine aa ?_
 refine aj ?_
 refine aN ?_
 refine ax ?_
 refine aR (ts := [8]) rfl rfl rfl (fun w hw => ?_)
 exact ⟨(), rfl, hw.base, (hw.weak (List.nil_sublist _) (fun s hs => hs)).toNews⟩
 refine aq (aF rfl rfl) rfl rfl ?_
 refine aa ?_
 refine aj ?_
 refine aD rfl ?_
 refine aQ ?_
 refine aj ?_
 refine w_joinL (σ := {z : List Le × Option Addr × Nat // z.1.map (·.e) = (bx v l full bs ver put drop).2.map (·.e)} × Nat) (fun g => [(9, .pointer (some ⟨g.2, 0, none⟩)), (10, .int .i64 (bx v l full bs ver put drop).1)]) (fun g => [Ch.row g.2 (eE (apV (bx v l full bs ver put drop).1 ver) g.1.1.2.1 g.1.1.1.length g.1.1.2.2) 24, Ch.rall (g.1.1.1.flatMap fm), Ch.ls g.1.1.2.1 g.1.1.2.2 34 7 dF g.1.1.1, Ch.row b3 (er full bs ver P put.length pc D drop.length dc) 103, Ch.row b2 (eE v2 A2 l2.length c2) 24, Ch.row b1 (eE v A l.length c) 24]) (fun g => ?_) (fun J5 => ?_)
 obtain ⟨⟨⟨ta, Aa, ca⟩, hta⟩, q9⟩ := g
 dsimp only at hta ⊢
 have htaok : TbOk ta := ap_tb hok hpok hta
 have htal : ta.length ≤ 256 := ap_len hta
 refine ap ?_
 refine ae ?_
 refine aq (bu 5 bw rfl rfl rfl rfl) rfl rfl ?_
 refine aq (bu 3 bL rfl rfl rfl rfl) rfl rfl ?_
 refine dE rfl ent_56 rfl (c_r17Apply v l _ _ full bs ver put _ _ drop _ _ hok hpok (by omega) (by omega) (by omega) hdb9) (fun w hw => (az (bo 0 rfl hw) (az (bo 1 rfl hw) (az (bo 4 rfl hw) (az (bo 5 rfl hw) (az (bo 6 rfl hw) aY)))))) (fun ⟨Ar, cr⟩ => ?_)
 refine aq (am rfl) rfl rfl ?_
 refine aq (bn rfl rfl) rfl rfl ?_
 refine aq (bn rfl rfl) rfl rfl ?_
 refine bH bw rfl rfl (fun b5 => ?_)
 refine aW bw rfl rfl rfl .z rfl rfl rfl rfl ?_
 refine aq (ai rfl) rfl rfl ?_
 refine aa ?_
 refine aj ?_
 refine ap ?_
 refine ae ?_
 refine aq (bu 7 bw rfl rfl rfl rfl) rfl rfl ?_
 refine aq (am rfl) rfl rfl ?_
 refine eT rfl ent_57 rfl (c_tFind v l _ _ n hok (by omega) (by omega)) (fun w hw => (az (bo 0 rfl hw) (az (bo 1 rfl hw) aY))) (fun ⟨x9, hx9⟩ => ?_)
 refine aq (am rfl) rfl rfl ?_
 refine aq (bn rfl rfl) rfl rfl ?_
 refine aq (bn rfl rfl) rfl rfl ?_
 refine bH aU rfl rfl (fun b7 => ?_)
 refine aW aU rfl rfl rfl .z rfl rfl rfl rfl ?_
 refine aq (ai rfl) rfl rfl ?_
 refine aa ?_
 refine aj ?_
 refine ap ?_
 refine ae ?_
 refine aq (bu 8 bw rfl rfl rfl rfl) rfl rfl ?_
 refine aq (am rfl) rfl rfl ?_
 refine eT rfl ent_58 rfl (c_r17Find v l _ _ n hok (by omega) (by omega)) (fun w hw => (az (bo 0 rfl hw) (az (bo 1 rfl hw) aY))) (fun ⟨y9, hy9⟩ => ?_)
 have hxb := fe_bnd17 hok hx9.2
 have hxy := opt_e17 (hx9.1.trans hy9.1.symm)
 refine aq (am rfl) rfl rfl ?_
 refine aq (bn rfl rfl) rfl rfl ?_
 refine aq (bn rfl rfl) rfl rfl ?_
 refine bH aU rfl rfl (fun b9 => ?_)
 refine aW aU rfl rfl rfl .z rfl rfl rfl rfl ?_
 refine aq (ai rfl) rfl rfl ?_
 refine aa ?_
 refine aj ?_
 refine w_joinL (σ := ((Option Addr × Nat) × Option Addr × Nat) × ((Option Addr × Nat) × Option Addr × Nat) × Nat × Nat) (fun g => [(17, .pointer (some ⟨g.2.2.1, 0, none⟩)), (18, .pointer (some ⟨g.2.2.2, 0, none⟩))]) (fun g => [Ch.row g.2.2.1 (er false (dfV v l v2 l2 v) (dfV v l v2 l2 v2) g.1.1.1 (dfP v l v2 l2).length g.1.1.2 g.1.2.1 (dfD v l v2 l2).length g.1.2.2) 103, Ch.row g.2.2.2 (er false (dfV v l v2 l2 v) (dfV v l v2 l2 v2) g.2.1.1.1 (dfP v l v2 l2).length g.2.1.1.2 g.2.1.2.1 (dfD v l v2 l2).length g.2.1.2.2) 103, Ch.ls g.1.2.1 g.1.2.2 26 1 dD (dfD v l v2 l2), Ch.ls g.1.1.1 g.1.1.2 34 7 dF (dfP v l v2 l2), Ch.ls g.2.1.2.1 g.2.1.2.2 26 1 dD (dfD v l v2 l2), Ch.ls g.2.1.1.1 g.2.1.1.2 34 7 dF (dfP v l v2 l2), Ch.row b9 (dF (y9.getD bm)) 34, Ch.row b7 (dF (x9.getD bm)) 34, Ch.row b5 (eE (apV (bx v l full bs ver put drop).1 ver) Ar (bx v l full bs ver put drop).2.length cr) 24, Ch.ls Ar cr 34 7 dF (bx v l full bs ver put drop).2, Ch.row q9 (eE (apV (bx v l full bs ver put drop).1 ver) Aa ta.length ca) 24, Ch.rall (ta.flatMap fm), Ch.ls Aa ca 34 7 dF ta, Ch.row b3 (er full bs ver P put.length pc D drop.length dc) 103, Ch.row b2 (eE v2 A2 l2.length c2) 24, Ch.row b1 (eE v A l.length c) 24]) (fun g => ?_) (fun J9 => ?_)
 obtain ⟨⟨⟨Axp, cxp⟩, Axd, cxd⟩, ⟨⟨Ayp, cyp⟩, Ayd, cyd⟩, q17, q18⟩ := g
 dsimp only
 refine ap ?_
 refine e7 79 rfl mixed ?_
 refine aI (i := 0) rfl ak (bu 10 bw rfl rfl rfl rfl) aG aG rfl (ah aw) (by as_aux_lemma => kernel_rfl) rfl ?_
 refine aI (i := 1) rfl ak (bu 8 bw rfl rfl rfl rfl) aG aG rfl (ah aw) (by as_aux_lemma => kernel_rfl) rfl ?_
 refine bl (i := 2) rfl rfl rfl (bf rfl ent_29) (by as_aux_lemma => kernel_rfl) rfl ?_
 refine bA rfl ent_29 rfl (g6 (apV (bx v l full bs ver put drop).1 ver) ta _ _ (apV (bx v l full bs ver put drop).1 ver) (bx v l full bs ver put drop).2 _ _ htaok (by omega) (by rw [← eG hta]; omega)) (fun w hw => (az (ci 12 rfl hw) (az (ja 11 rfl hw) (az (ci 9 rfl hw) (az (rd_both (bo 1 rfl hw) (bo 5 rfl hw) ap_flat) aY))))) ?_
 refine aa ?_
 refine aT aG ?_
 refine dT (t := 72) (.bool true) rfl (congrArg Value.bool (decide_eq_true ⟨rfl, hta⟩)) ?_
 refine aI (i := 3) rfl ak (am rfl) aG aG rfl (ah aw) (by as_aux_lemma => kernel_rfl) rfl ?_
 refine aI (i := 4) rfl (aL rfl rfl) (am rfl) aG aG rfl (ah aw) (by as_aux_lemma => kernel_rfl) rfl ?_
 refine aI (i := 5) rfl (aL rfl rfl) (am rfl) aG aG rfl (ah aw) (by as_aux_lemma => kernel_rfl) rfl ?_
 refine aI (i := 6) rfl (aL rfl rfl) (cY rfl rfl) aG aG rfl (ah aw) (by as_aux_lemma => kernel_rfl) rfl ?_
 refine fV (t := 76) rfl rfl ?_
 refine aI (i := 7) rfl ak (aH rfl rfl) aG aG rfl (ah aw) (by as_aux_lemma => kernel_rfl) rfl ?_
 refine aI (i := 8) rfl ak (am rfl) aG aG rfl (ah aw) (by as_aux_lemma => kernel_rfl) rfl ?_
 refine aI (i := 9) rfl (aL rfl rfl) (bu 7 aU rfl rfl rfl rfl) aG aG rfl (ah aw) (by as_aux_lemma => kernel_rfl) rfl ?_
 refine aI (i := 10) rfl (aL rfl rfl) (bu 6 aU rfl rfl rfl rfl) aG aG rfl (ah aw) (by as_aux_lemma => kernel_rfl) rfl ?_
 refine bl (i := 11) rfl rfl rfl (bf rfl ent_22) (by as_aux_lemma => kernel_rfl) rfl ?_
 refine au rfl rfl ?_
 refine bA rfl ent_22 rfl (hZ (x9.getD bm).e (x9.getD bm).A (x9.getD bm).B (x9.getD bm).c (x9.getD bm).d (y9.getD bm).e (y9.getD bm).A (y9.getD bm).B (y9.getD bm).c (y9.getD bm).d (by have := hxb.la; omega) (by have := hxb.lp; omega)) (fun w hw => (az ((rd_fe (bo 1 rfl hw) hx9.2).1) (az ((rd_fe (bo 1 rfl hw) hx9.2).2) (az ((rd_fe (bo 1 rfl hw) hy9.2).1) (az ((rd_fe (bo 1 rfl hw) hy9.2).2) aY))))) ?_
 refine aa ?_
 refine aT aG ?_
 refine dT (t := 81) (.bool true) rfl (congrArg Value.bool (decide_eq_true hxy.2)) ?_
 refine aI (i := 12) rfl ak (aH rfl rfl) aG aG rfl (ah aw) (by as_aux_lemma => kernel_rfl) rfl ?_
 refine aI (i := 13) rfl ak (am rfl) aG aG rfl (ah aw) (by as_aux_lemma => kernel_rfl) rfl ?_
 refine aI (i := 14) rfl (aL rfl rfl) (am rfl) aG aG rfl (ah aw) (by as_aux_lemma => kernel_rfl) rfl ?_
 refine aI (i := 15) rfl (aL rfl rfl) (am rfl) aG aG rfl (ah aw) (by as_aux_lemma => kernel_rfl) rfl ?_
 refine aI (i := 16) rfl (aL rfl rfl) (y_eqlb Tryz.underlying4 rfl rfl) aG aG rfl (ah aw) (by as_aux_lemma => kernel_rfl) rfl ?_
 refine fV (t := 86) rfl hxy.1 ?_
 refine aI (i := 17) rfl ak (aH rfl rfl) aG aG rfl (ah aw) (by as_aux_lemma => kernel_rfl) rfl ?_
 refine aI (i := 18) rfl ak (am rfl) aG aG rfl (ah aw) (by as_aux_lemma => kernel_rfl) rfl ?_
 refine aI (i := 19) rfl (aL rfl rfl) (bu 15 bw rfl rfl rfl rfl) aG aG rfl (ah aw) (by as_aux_lemma => kernel_rfl) rfl ?_
 refine aI (i := 21) rfl (aL rfl rfl) (bu 15 bw rfl rfl rfl rfl) aG aG rfl (ah aw) (by as_aux_lemma => kernel_rfl) rfl ?_
 refine bl (i := 20) rfl rfl rfl (bf rfl ent_61) (by as_aux_lemma => kernel_rfl) rfl ?_
 refine au rfl rfl ?_
 refine bA rfl ent_61 rfl (e6 _ _ _ _ hok (by omega)) (fun w hw => (az (bo 0 rfl hw) (az (bo 1 rfl hw) aY))) ?_
 refine aa ?_
 refine aT aG ?_
 refine bl (i := 22) rfl rfl rfl (bf rfl ent_62) (by as_aux_lemma => kernel_rfl) rfl ?_
 refine au rfl rfl ?_
 refine bA rfl ent_62 rfl (eV _ _ _ _ hok (by omega)) (fun w hw => (az (bo 0 rfl hw) (az (bo 1 rfl hw) aY))) ?_
 refine aa ?_
 refine aT aG ?_
 refine aI (i := 23) rfl (aL rfl rfl) (cY rfl rfl) aG aG rfl (ah aw) (by as_aux_lemma => kernel_rfl) rfl ?_
 refine fV (t := 93) rfl rfl ?_
 refine aI (i := 24) rfl ak (aH rfl rfl) aG aG rfl (ah aw) (by as_aux_lemma => kernel_rfl) rfl ?_
 refine aI (i := 25) rfl ak (am rfl) aG aG rfl (ah aw) (by as_aux_lemma => kernel_rfl) rfl ?_
 refine aI (i := 26) rfl (aL rfl rfl) (bu 15 bw rfl rfl rfl rfl) aG aG rfl (ah aw) (by as_aux_lemma => kernel_rfl) rfl ?_
 refine aI (i := 28) rfl (aL rfl rfl) (bu 15 bw rfl rfl rfl rfl) aG aG rfl (ah aw) (by as_aux_lemma => kernel_rfl) rfl ?_
 refine bl (i := 27) rfl rfl rfl (bf rfl ent_63) (by as_aux_lemma => kernel_rfl) rfl ?_
 refine au rfl rfl ?_
 refine dE rfl ent_63 rfl (c_tAutos v l _ _ hok (by omega)) (fun w hw => (az (bo 0 rfl hw) (az (bo 1 rfl hw) aY))) (fun ⟨A9, c9⟩ => ?_)
 refine aa ?_
 refine aT (bq 1) ?_
 refine bl (i := 29) rfl rfl rfl (bf rfl ent_64) (by as_aux_lemma => kernel_rfl) rfl ?_
 refine au rfl rfl ?_
 refine dE rfl ent_64 rfl (c_r17Autos v l _ _ hok (by omega)) (fun w hw => (az (bo 0 rfl hw) (az (bo 1 rfl hw) aY))) (fun ⟨A10, c10⟩ => ?_)
 refine aa ?_
 refine aT (bq 2) ?_
 refine bl (i := 30) rfl rfl rfl (bf rfl ent_26) (by as_aux_lemma => kernel_rfl) rfl ?_
 refine au rfl rfl ?_
 refine bA rfl ent_26 rfl (j0 (auL l) (auL l) _ _ _ _ (by omega)) (fun w hw => (az (ci 1 rfl hw) (az (ci 0 rfl hw) aY))) ?_
 refine aa ?_
 refine aT (bq 2) ?_
 refine dT (t := 100) (.bool true) rfl (congrArg Value.bool (decide_eq_true rfl)) ?_
 refine aI (i := 31) rfl ak (aH rfl rfl) (bq 2) aG rfl (ah aw) (by as_aux_lemma => kernel_rfl) rfl ?_
 refine aI (i := 32) rfl ak (am rfl) (bq 2) aG rfl (ah aw) (by as_aux_lemma => kernel_rfl) rfl ?_
 refine aI (i := 33) rfl (aL rfl rfl) (bu 15 bw rfl rfl rfl rfl) (bq 2) aG rfl (ah aw) (by as_aux_lemma => kernel_rfl) rfl ?_
 refine aI (i := 34) rfl (aL rfl rfl) (bu 14 bw rfl rfl rfl rfl) (bq 2) aG rfl (ah aw) (by as_aux_lemma => kernel_rfl) rfl ?_
 refine aI (i := 36) rfl (aL rfl rfl) (bu 15 bw rfl rfl rfl rfl) (bq 2) aG rfl (ah aw) (by as_aux_lemma => kernel_rfl) rfl ?_
 refine aI (i := 37) rfl (aL rfl rfl) (bu 14 bw rfl rfl rfl rfl) (bq 2) aG rfl (ah aw) (by as_aux_lemma => kernel_rfl) rfl ?_
 refine bl (i := 35) rfl rfl rfl (bf rfl ent_65) (by as_aux_lemma => kernel_rfl) rfl ?_
 refine au rfl rfl ?_
 refine bA rfl ent_65 rfl (c_tSame v l _ _ v2 l2 _ _ hok (by omega) (by omega)) (fun w hw => (az (bo 0 rfl hw) (az (bo 1 rfl hw) (az (bo 2 rfl hw) (az (bo 3 rfl hw) aY))))) ?_
 refine aa ?_
 refine aT (bq 2) ?_
 refine bl (i := 38) rfl rfl rfl (bf rfl ent_29) (by as_aux_lemma => kernel_rfl) rfl ?_
 refine au rfl rfl ?_
 refine bA rfl ent_29 rfl (g6 v l _ _ v2 l2 _ _ hok (by omega) (by omega)) (fun w hw => (az (bo 0 rfl hw) (az (bo 1 rfl hw) (az (bo 2 rfl hw) (az (bo 3 rfl hw) aY))))) ?_
 refine aa ?_
 refine aT (bq 2) ?_
 refine aI (i := 39) rfl (aL rfl rfl) (y_eqlb Tryz.underlying4 rfl rfl) (bq 2) aG rfl (ah aw) (by as_aux_lemma => kernel_rfl) rfl ?_
 refine fV (t := 109) rfl rfl ?_
 refine aI (i := 40) rfl ak (aH rfl rfl) (bq 2) aG rfl (ah aw) (by as_aux_lemma => kernel_rfl) rfl ?_
 refine aI (i := 41) rfl ak (am rfl) (bq 2) aG rfl (ah aw) (by as_aux_lemma => kernel_rfl) rfl ?_
 refine aI (i := 42) rfl (aL rfl rfl) (aB eH rfl) (bq 2) aG rfl (ah aw) (by as_aux_lemma => kernel_rfl) rfl ?_
 refine aI (i := 43) rfl (aL rfl rfl) (aC 0 iu rfl rfl rfl) (bq 2) aG rfl (ah aw) (by as_aux_lemma => kernel_rfl) rfl ?_
 refine aI (i := 44) rfl (aL rfl rfl) (aB eH rfl) (bq 2) aG rfl (ah aw) (by as_aux_lemma => kernel_rfl) rfl ?_
 refine aI (i := 45) rfl (aL rfl rfl) (aC 1 iu rfl rfl rfl) (bq 2) aG rfl (ah aw) (by as_aux_lemma => kernel_rfl) rfl ?_
 refine aI (i := 46) rfl (aL rfl rfl) (y_eqlb Tryz.underlying4 rfl rfl) (bq 2) aG rfl (ah aw) (by as_aux_lemma => kernel_rfl) rfl ?_
 refine fV (t := 116) rfl rfl ?_
 refine aI (i := 47) rfl ak (aH rfl rfl) (bq 2) aG rfl (ah aw) (by as_aux_lemma => kernel_rfl) rfl ?_
 refine aI (i := 48) rfl ak (am rfl) (bq 2) aG rfl (ah aw) (by as_aux_lemma => kernel_rfl) rfl ?_
 refine aI (i := 49) rfl (aL rfl rfl) (aB gm rfl) (bq 2) aG rfl (ah aw) (by as_aux_lemma => kernel_rfl) rfl ?_
 refine aI (i := 50) rfl (aL rfl rfl) (aC 0 cX rfl rfl rfl) (bq 2) aG rfl (ah aw) (by as_aux_lemma => kernel_rfl) rfl ?_
 refine aI (i := 51) rfl (aL rfl rfl) (aB gm rfl) (bq 2) aG rfl (ah aw) (by as_aux_lemma => kernel_rfl) rfl ?_
 refine aI (i := 52) rfl (aL rfl rfl) (aC 1 cX rfl rfl rfl) (bq 2) aG rfl (ah aw) (by as_aux_lemma => kernel_rfl) rfl ?_
 refine aI (i := 53) rfl (aL rfl rfl) (cY rfl rfl) (bq 2) aG rfl (ah aw) (by as_aux_lemma => kernel_rfl) rfl ?_
 refine fV (t := 123) rfl rfl ?_
 refine aI (i := 54) rfl ak (aH rfl rfl) (bq 2) aG rfl (ah aw) (by as_aux_lemma => kernel_rfl) rfl ?_
 refine aI (i := 55) rfl ak (am rfl) (bq 2) aG rfl (ah aw) (by as_aux_lemma => kernel_rfl) rfl ?_
 refine aI (i := 56) rfl (aL rfl rfl) (aB fC rfl) (bq 2) aG rfl (ah aw) (by as_aux_lemma => kernel_rfl) rfl ?_
 refine aI (i := 57) rfl (aL rfl rfl) (aC 0 cX rfl rfl rfl) (bq 2) aG rfl (ah aw) (by as_aux_lemma => kernel_rfl) rfl ?_
 refine aI (i := 58) rfl (aL rfl rfl) (aB fC rfl) (bq 2) aG rfl (ah aw) (by as_aux_lemma => kernel_rfl) rfl ?_
 refine aI (i := 59) rfl (aL rfl rfl) (aC 1 cX rfl rfl rfl) (bq 2) aG rfl (ah aw) (by as_aux_lemma => kernel_rfl) rfl ?_
 refine aI (i := 60) rfl (aL rfl rfl) (cY rfl rfl) (bq 2) aG rfl (ah aw) (by as_aux_lemma => kernel_rfl) rfl ?_
 refine fV (t := 130) rfl rfl ?_
 refine aI (i := 61) rfl ak (aH rfl rfl) (bq 2) aG rfl (ah aw) (by as_aux_lemma => kernel_rfl) rfl ?_
 refine aI (i := 62) rfl ak (am rfl) (bq 2) aG rfl (ah aw) (by as_aux_lemma => kernel_rfl) rfl ?_
 refine aI (i := 63) rfl (aL rfl rfl) (aB cP rfl) (bq 2) aG rfl (ah aw) (by as_aux_lemma => kernel_rfl) rfl ?_
 refine aI (i := 64) rfl (aL rfl rfl) (aC 0 ew rfl rfl rfl) (bq 2) aG rfl (ah aw) (by as_aux_lemma => kernel_rfl) rfl ?_
 refine aI (i := 65) rfl (aL rfl rfl) (aB cP rfl) (bq 2) aG rfl (ah aw) (by as_aux_lemma => kernel_rfl) rfl ?_
 refine aI (i := 66) rfl (aL rfl rfl) (aC 1 ew rfl rfl rfl) (bq 2) aG rfl (ah aw) (by as_aux_lemma => kernel_rfl) rfl ?_
 refine bl (i := 67) rfl rfl rfl (bf rfl ent_26) (by as_aux_lemma => kernel_rfl) rfl ?_
 refine au rfl rfl ?_
 refine bA rfl ent_26 rfl (j0 (dfD v l v2 l2) (dfD v l v2 l2) _ _ _ _ (by omega)) (fun w hw => (az (ci 4 rfl hw) (az (ci 6 rfl hw) aY))) ?_
 refine aa ?_
 refine aT (bq 2) ?_
 refine dT (t := 137) (.bool true) rfl (congrArg Value.bool (decide_eq_true rfl)) ?_
 refine aI (i := 68) rfl ak (aH rfl rfl) (bq 2) aG rfl (ah aw) (by as_aux_lemma => kernel_rfl) rfl ?_
 refine aI (i := 69) rfl ak (am rfl) (bq 2) aG rfl (ah aw) (by as_aux_lemma => kernel_rfl) rfl ?_
 refine aI (i := 70) rfl (aL rfl rfl) (aB cE rfl) (bq 2) aG rfl (ah aw) (by as_aux_lemma => kernel_rfl) rfl ?_
 refine aI (i := 71) rfl (aL rfl rfl) (aC 0 bz rfl rfl rfl) (bq 2) aG rfl (ah aw) (by as_aux_lemma => kernel_rfl) rfl ?_
 refine aI (i := 72) rfl (aL rfl rfl) (bP rfl (bu_24_1 _ _ _)) (bq 2) aG rfl (ah aw) (by as_aux_lemma => kernel_rfl) rfl ?_
 refine aI (i := 73) rfl (aL rfl rfl) (aB cE rfl) (bq 2) aG rfl (ah aw) (by as_aux_lemma => kernel_rfl) rfl ?_
 refine aI (i := 74) rfl (aL rfl rfl) (aC 1 bz rfl rfl rfl) (bq 2) aG rfl (ah aw) (by as_aux_lemma => kernel_rfl) rfl ?_
 refine aI (i := 75) rfl (aL rfl rfl) (bP rfl (bu_24_1 _ _ _)) (bq 2) aG rfl (ah aw) (by as_aux_lemma => kernel_rfl) rfl ?_
 refine bl (i := 76) rfl rfl rfl (bf rfl ent_29) (by as_aux_lemma => kernel_rfl) rfl ?_
 refine au rfl rfl ?_
 refine bA rfl ent_29 rfl (g6 0 (dfP v l v2 l2) _ _ 0 (dfP v l v2 l2) _ _ (fun x hx => hok2 x (dfP_sub x hx)) (by omega) (by omega)) (fun w hw => (az (ci 5 rfl hw) (az (rd_sub17 (bo 3 rfl hw) (flat_sub dfP_sub)) (az (ci 7 rfl hw) (az (rd_sub17 (bo 3 rfl hw) (flat_sub dfP_sub)) aY))))) ?_
 refine aa ?_
 refine aT (bq 2) ?_
 refine dT (t := 146) (.bool true) rfl (congrArg Value.bool (decide_eq_true ⟨rfl, rfl⟩)) ?_
 refine aI (i := 77) rfl ak (aH rfl rfl) (bq 2) aG rfl (ah aw) (by as_aux_lemma => kernel_rfl) rfl ?_
 refine aI (i := 78) rfl ak (ai rfl) (bq 2) aG rfl (ah aw) (by as_aux_lemma => kernel_rfl) rfl ?_
 refine cw (by as_aux_lemma => kernel_rfl) ?_
 refine aj ?_
 refine aN ?_
 refine aR (ts := [8]) rfl rfl rfl (fun w hw => ?_)
 exact ⟨(), rfl, hw.base, (hw.weak (List.nil_sublist _) (fun s hs => hs)).toNews⟩
 refine ap ?_
 refine e7 10 rfl mixed ?_
 refine aI (i := 0) rfl ak (bu 9 bw rfl rfl rfl rfl) aG aG rfl (ah aw) (by as_aux_lemma => kernel_rfl) rfl ?_
 refine aI (i := 1) rfl ak (bu 8 bw rfl rfl rfl rfl) aG aG rfl (ah aw) (by as_aux_lemma => kernel_rfl) rfl ?_
 refine aI (i := 3) rfl ak (bu 9 bw rfl rfl rfl rfl) aG aG rfl (ah aw) (by as_aux_lemma => kernel_rfl) rfl ?_
 refine aI (i := 4) rfl ak (bu 8 bw rfl rfl rfl rfl) aG aG rfl (ah aw) (by as_aux_lemma => kernel_rfl) rfl ?_
 refine de (js := [2, 6, 7]) (by as_aux_lemma => kernel_rfl) rfl ?_
 refine bi (i := 2) rfl rfl rfl (bf rfl gN) rfl ?_ ?_
 refine bU rfl gN rfl (jY v l _ _ v2 l2 _ _ hok hok2 (by omega) (by omega) hlc hlc2) (fun w hw => (az (bo 0 rfl hw) (az (bo 1 rfl hw) (az (bo 2 rfl hw) (az (bo 3 rfl hw) aY))))) (fun ⟨⟨Axp, cxp⟩, Axd, cxd⟩ => ?_)
 refine aa ?_
 refine aT (bq 2) ?_
 refine de (js := [5, 6, 7]) (by as_aux_lemma => kernel_rfl) rfl ?_
 refine bi (i := 5) rfl rfl rfl (bf rfl d8) rfl ?_ ?_
 refine bU rfl d8 rfl (eu v l _ _ v2 l2 _ _ hok hok2 (by omega) (by omega)) (fun w hw => (az (bo 0 rfl hw) (az (bo 1 rfl hw) (az (bo 2 rfl hw) (az (bo 3 rfl hw) aY))))) (fun ⟨⟨Ayp, cyp⟩, Ayd, cyd⟩ => ?_)
 refine aa ?_
 refine aT (bq 4) ?_
 refine de (js := [6, 7]) (by as_aux_lemma => kernel_rfl) rfl ?_
 refine bi (i := 6) rfl rfl rfl (fun _ _ _ => aM (by as_aux_lemma => kernel_rfl)) rfl ?_ ?_
 refine bH bL rfl rfl (fun b14 => ?_)
 refine aa ?_
 refine aT (bq 5) ?_
 refine bl (i := 7) rfl rfl rfl (fun _ _ _ => aM (by as_aux_lemma => kernel_rfl)) (by as_aux_lemma => kernel_rfl) rfl ?_
 refine bH bL rfl rfl (fun b15 => ?_)
 refine aa ?_
 refine aT (bq 6) ?_
 refine bl (i := 8) rfl rfl rfl (fun _ _ _ => aM (by as_aux_lemma => kernel_rfl)) (by as_aux_lemma => kernel_rfl) rfl ?_
 refine aW bL rfl rfl rfl (.s (.z)) rfl rfl rfl rfl ?_
 refine aa ?_
 refine aT (bq 6) ?_
 refine bl (i := 9) rfl rfl rfl (fun _ _ _ => aM (by as_aux_lemma => kernel_rfl)) (by as_aux_lemma => kernel_rfl) rfl ?_
 refine aW bL rfl rfl rfl .z rfl rfl rfl rfl ?_
 refine aa ?_
 refine aT (bq 6) ?_
 refine cw (by as_aux_lemma => kernel_rfl) ?_
 refine aj ?_
 refine cz (fun w h => (h.weak (.cons_cons _ (.cons_cons _ (.cons_cons _ (.cons_cons _ (.cons_cons _ (.cons_cons _ (.cons_cons _ (.cons_cons _ (.cons_cons _ (.cons_cons _ (.cons_cons _ (.cons_cons _ (.cons_cons _ (.cons_cons _ (.cons_cons _ (.cons_cons _ .slnil)))))))))))))))) (fun s hs => hs)).f3.f3.f5.f5.f4.f5) ?_
 exact J9 (((Axp, cxp), Axd, cxd), ((Ayp, cyp), Ayd, cyd), b14, b15) _ (by repeat (first | exact trivial | refine ⟨rfl, ?_⟩))
 refine bi (i := 7) rfl rfl rfl (fun _ _ _ => aM (by as_aux_lemma => kernel_rfl)) rfl ?_ ?_
 refine bH bL rfl rfl (fun b16 => ?_)
 refine aa ?_
 refine aT (bq 5) ?_
 refine bl (i := 6) rfl rfl rfl (fun _ _ _ => aM (by as_aux_lemma => kernel_rfl)) (by as_aux_lemma => kernel_rfl) rfl ?_
 refine bH bL rfl rfl (fun b17 => ?_)
 refine aa ?_
 refine aT (bq 6) ?_
 refine bl (i := 8) rfl rfl rfl (fun _ _ _ => aM (by as_aux_lemma => kernel_rfl)) (by as_aux_lemma => kernel_rfl) rfl ?_
 refine aW bL rfl rfl rfl .z rfl rfl rfl rfl ?_
 refine aa ?_
 refine aT (bq 6) ?_
 refine bl (i := 9) rfl rfl rfl (fun _ _ _ => aM (by as_aux_lemma => kernel_rfl)) (by as_aux_lemma => kernel_rfl) rfl ?_
 refine aW bL rfl rfl rfl (.s (.z)) rfl rfl rfl rfl ?_
 refine aa ?_
 refine aT (bq 6) ?_
 refine cw (by as_aux_lemma => kernel_rfl) ?_
 refine aj ?_
 refine cz (fun w h => (h.weak (.cons_cons _ (.cons_cons _ (.cons_cons _ (.cons_cons _ (.cons_cons _ (.cons_cons _ (.cons_cons _ (.cons_cons _ (.cons_cons _ (.cons_cons _ (.cons_cons _ (.cons_cons _ (.cons_cons _ (.cons_cons _ (.cons_cons _ (.cons_cons _ .slnil)))))))))))))))) (fun s hs => hs)).f3.f3.f5.f5.f5.f5) ?_
 exact J9 (((Axp, cxp), Axd, cxd), ((Ayp, cyp), Ayd, cyd), b17, b16) _ (by repeat (first | exact trivial | refine ⟨rfl, ?_⟩))
 exact cH
 refine bi (i := 6) rfl rfl rfl (fun _ _ _ => aM (by as_aux_lemma => kernel_rfl)) rfl ?_ ?_
 refine bH bL rfl rfl (fun b18 => ?_)
 refine aa ?_
 refine aT (bq 3) ?_
 refine de (js := [5, 7]) (by as_aux_lemma => kernel_rfl) rfl ?_
 refine bi (i := 5) rfl rfl rfl (bf rfl d8) rfl ?_ ?_
 refine bU rfl d8 rfl (eu v l _ _ v2 l2 _ _ hok hok2 (by omega) (by omega)) (fun w hw => (az (bo 0 rfl hw) (az (bo 1 rfl hw) (az (bo 2 rfl hw) (az (bo 3 rfl hw) aY))))) (fun ⟨⟨Ayp, cyp⟩, Ayd, cyd⟩ => ?_)
 refine aa ?_
 refine aT (bq 5) ?_
 refine bl (i := 7) rfl rfl rfl (fun _ _ _ => aM (by as_aux_lemma => kernel_rfl)) (by as_aux_lemma => kernel_rfl) rfl ?_
 refine bH bL rfl rfl (fun b20 => ?_)
 refine aa ?_
 refine aT (bq 6) ?_
 refine bl (i := 8) rfl rfl rfl (fun _ _ _ => aM (by as_aux_lemma => kernel_rfl)) (by as_aux_lemma => kernel_rfl) rfl ?_
 refine aW bL rfl rfl rfl (.s (.s (.s (.z)))) rfl rfl rfl rfl ?_
 refine aa ?_
 refine aT (bq 6) ?_
 refine bl (i := 9) rfl rfl rfl (fun _ _ _ => aM (by as_aux_lemma => kernel_rfl)) (by as_aux_lemma => kernel_rfl) rfl ?_
 refine aW bL rfl rfl rfl .z rfl rfl rfl rfl ?_
 refine aa ?_
 refine aT (bq 6) ?_
 refine cw (by as_aux_lemma => kernel_rfl) ?_
 refine aj ?_
 refine cz (fun w h => (h.weak (.cons_cons _ (.cons_cons _ (.cons_cons _ (.cons_cons _ (.cons_cons _ (.cons_cons _ (.cons_cons _ (.cons_cons _ (.cons_cons _ (.cons_cons _ (.cons_cons _ (.cons_cons _ (.cons_cons _ (.cons_cons _ (.cons_cons _ (.cons_cons _ .slnil)))))))))))))))) (fun s hs => hs)).f2.f2.f5.f5.f4.f5) ?_
 exact J9 (((Axp, cxp), Axd, cxd), ((Ayp, cyp), Ayd, cyd), b18, b20) _ (by repeat (first | exact trivial | refine ⟨rfl, ?_⟩))
 refine bi (i := 7) rfl rfl rfl (fun _ _ _ => aM (by as_aux_lemma => kernel_rfl)) rfl ?_ ?_
 refine bH bL rfl rfl (fun b21 => ?_)
 refine aa ?_
 refine aT (bq 4) ?_
 refine bl (i := 5) rfl rfl rfl (bf rfl d8) (by as_aux_lemma => kernel_rfl) rfl ?_
 refine bU rfl d8 rfl (eu v l _ _ v2 l2 _ _ hok hok2 (by omega) (by omega)) (fun w hw => (az (bo 0 rfl hw) (az (bo 1 rfl hw) (az (bo 2 rfl hw) (az (bo 3 rfl hw) aY))))) (fun ⟨⟨Ayp, cyp⟩, Ayd, cyd⟩ => ?_)
 refine aa ?_
 refine aT (bq 6) ?_
 refine bl (i := 8) rfl rfl rfl (fun _ _ _ => aM (by as_aux_lemma => kernel_rfl)) (by as_aux_lemma => kernel_rfl) rfl ?_
 refine aW bL rfl rfl rfl (.s (.s (.s (.z)))) rfl rfl rfl rfl ?_
 refine aa ?_
 refine aT (bq 6) ?_
 refine bl (i := 9) rfl rfl rfl (fun _ _ _ => aM (by as_aux_lemma => kernel_rfl)) (by as_aux_lemma => kernel_rfl) rfl ?_
 refine aW bL rfl rfl rfl (.s (.s (.z))) rfl rfl rfl rfl ?_
 refine aa ?_
 refine aT (bq 6) ?_
 refine cw (by as_aux_lemma => kernel_rfl) ?_
 refine aj ?_
 refine cz (fun w h => (h.weak (.cons_cons _ (.cons_cons _ (.cons_cons _ (.cons_cons _ (.cons_cons _ (.cons_cons _ (.cons_cons _ (.cons_cons _ (.cons_cons _ (.cons_cons _ (.cons_cons _ (.cons_cons _ (.cons_cons _ (.cons_cons _ (.cons_cons _ (.cons_cons _ .slnil)))))))))))))))) (fun s hs => hs)).f1.f1.f5.f5.f4.f5) ?_
 exact J9 (((Axp, cxp), Axd, cxd), ((Ayp, cyp), Ayd, cyd), b18, b21) _ (by repeat (first | exact trivial | refine ⟨rfl, ?_⟩))
 exact cH
 refine bi (i := 7) rfl rfl rfl (fun _ _ _ => aM (by as_aux_lemma => kernel_rfl)) rfl ?_ ?_
 refine bH bL rfl rfl (fun b23 => ?_)
 refine aa ?_
 refine aT (bq 3) ?_
 refine de (js := [5, 6]) (by as_aux_lemma => kernel_rfl) rfl ?_
 refine bi (i := 5) rfl rfl rfl (bf rfl d8) rfl ?_ ?_
 refine bU rfl d8 rfl (eu v l _ _ v2 l2 _ _ hok hok2 (by omega) (by omega)) (fun w hw => (az (bo 0 rfl hw) (az (bo 1 rfl hw) (az (bo 2 rfl hw) (az (bo 3 rfl hw) aY))))) (fun ⟨⟨Ayp, cyp⟩, Ayd, cyd⟩ => ?_)
 refine aa ?_
 refine aT (bq 5) ?_
 refine bl (i := 6) rfl rfl rfl (fun _ _ _ => aM (by as_aux_lemma => kernel_rfl)) (by as_aux_lemma => kernel_rfl) rfl ?_
 refine bH bL rfl rfl (fun b25 => ?_)
 refine aa ?_
 refine aT (bq 6) ?_
 refine bl (i := 8) rfl rfl rfl (fun _ _ _ => aM (by as_aux_lemma => kernel_rfl)) (by as_aux_lemma => kernel_rfl) rfl ?_
 refine aW bL rfl rfl rfl .z rfl rfl rfl rfl ?_
 refine aa ?_
 refine aT (bq 6) ?_
 refine bl (i := 9) rfl rfl rfl (fun _ _ _ => aM (by as_aux_lemma => kernel_rfl)) (by as_aux_lemma => kernel_rfl) rfl ?_
 refine aW bL rfl rfl rfl (.s (.s (.s (.z)))) rfl rfl rfl rfl ?_
 refine aa ?_
 refine aT (bq 6) ?_
 refine cw (by as_aux_lemma => kernel_rfl) ?_
 refine aj ?_
 refine cz (fun w h => (h.weak (.cons_cons _ (.cons_cons _ (.cons_cons _ (.cons_cons _ (.cons_cons _ (.cons_cons _ (.cons_cons _ (.cons_cons _ (.cons_cons _ (.cons_cons _ (.cons_cons _ (.cons_cons _ (.cons_cons _ (.cons_cons _ (.cons_cons _ (.cons_cons _ .slnil)))))))))))))))) (fun s hs => hs)).f2.f2.f5.f5.f5.f5) ?_
 exact J9 (((Axp, cxp), Axd, cxd), ((Ayp, cyp), Ayd, cyd), b25, b23) _ (by repeat (first | exact trivial | refine ⟨rfl, ?_⟩))
 refine bi (i := 6) rfl rfl rfl (fun _ _ _ => aM (by as_aux_lemma => kernel_rfl)) rfl ?_ ?_
 refine bH bL rfl rfl (fun b26 => ?_)
 refine aa ?_
 refine aT (bq 4) ?_
 refine bl (i := 5) rfl rfl rfl (bf rfl d8) (by as_aux_lemma => kernel_rfl) rfl ?_
 refine bU rfl d8 rfl (eu v l _ _ v2 l2 _ _ hok hok2 (by omega) (by omega)) (fun w hw => (az (bo 0 rfl hw) (az (bo 1 rfl hw) (az (bo 2 rfl hw) (az (bo 3 rfl hw) aY))))) (fun ⟨⟨Ayp, cyp⟩, Ayd, cyd⟩ => ?_)
 refine aa ?_
 refine aT (bq 6) ?_
 refine bl (i := 8) rfl rfl rfl (fun _ _ _ => aM (by as_aux_lemma => kernel_rfl)) (by as_aux_lemma => kernel_rfl) rfl ?_
 refine aW bL rfl rfl rfl (.s (.s (.z))) rfl rfl rfl rfl ?_
 refine aa ?_
 refine aT (bq 6) ?_
 refine bl (i := 9) rfl rfl rfl (fun _ _ _ => aM (by as_aux_lemma => kernel_rfl)) (by as_aux_lemma => kernel_rfl) rfl ?_
 refine aW bL rfl rfl rfl (.s (.s (.s (.z)))) rfl rfl rfl rfl ?_
 refine aa ?_
 refine aT (bq 6) ?_
 refine cw (by as_aux_lemma => kernel_rfl) ?_
 refine aj ?_
 refine cz (fun w h => (h.weak (.cons_cons _ (.cons_cons _ (.cons_cons _ (.cons_cons _ (.cons_cons _ (.cons_cons _ (.cons_cons _ (.cons_cons _ (.cons_cons _ (.cons_cons _ (.cons_cons _ (.cons_cons _ (.cons_cons _ (.cons_cons _ (.cons_cons _ (.cons_cons _ .slnil)))))))))))))))) (fun s hs => hs)).f1.f1.f5.f5.f5.f5) ?_
 exact J9 (((Axp, cxp), Axd, cxd), ((Ayp, cyp), Ayd, cyd), b26, b23) _ (by repeat (first | exact trivial | refine ⟨rfl, ?_⟩))
 exact cH
 exact cH
 refine bi (i := 6) rfl rfl rfl (fun _ _ _ => aM (by as_aux_lemma => kernel_rfl)) rfl ?_ ?_
 refine bH bL rfl rfl (fun b28 => ?_)
 refine aa ?_
 refine aT (bq 1) ?_
 refine de (js := [2, 7]) (by as_aux_lemma => kernel_rfl) rfl ?_
 refine bi (i := 2) rfl rfl rfl (bf rfl gN) rfl ?_ ?_
 refine bU rfl gN rfl (jY v l _ _ v2 l2 _ _ hok hok2 (by omega) (by omega) hlc hlc2) (fun w hw => (az (bo 0 rfl hw) (az (bo 1 rfl hw) (az (bo 2 rfl hw) (az (bo 3 rfl hw) aY))))) (fun ⟨⟨Axp, cxp⟩, Axd, cxd⟩ => ?_)
 refine aa ?_
 refine aT (bq 3) ?_
 refine de (js := [5, 7]) (by as_aux_lemma => kernel_rfl) rfl ?_
 refine bi (i := 5) rfl rfl rfl (bf rfl d8) rfl ?_ ?_
 refine bU rfl d8 rfl (eu v l _ _ v2 l2 _ _ hok hok2 (by omega) (by omega)) (fun w hw => (az (bo 0 rfl hw) (az (bo 1 rfl hw) (az (bo 2 rfl hw) (az (bo 3 rfl hw) aY))))) (fun ⟨⟨Ayp, cyp⟩, Ayd, cyd⟩ => ?_)
 refine aa ?_
 refine aT (bq 5) ?_
 refine bl (i := 7) rfl rfl rfl (fun _ _ _ => aM (by as_aux_lemma => kernel_rfl)) (by as_aux_lemma => kernel_rfl) rfl ?_
 refine bH bL rfl rfl (fun b31 => ?_)
 refine aa ?_
 refine aT (bq 6) ?_
 refine bl (i := 8) rfl rfl rfl (fun _ _ _ => aM (by as_aux_lemma => kernel_rfl)) (by as_aux_lemma => kernel_rfl) rfl ?_
 refine aW bL rfl rfl rfl (.s (.s (.s (.s (.s (.z)))))) rfl rfl rfl rfl ?_
 refine aa ?_
 refine aT (bq 6) ?_
 refine bl (i := 9) rfl rfl rfl (fun _ _ _ => aM (by as_aux_lemma => kernel_rfl)) (by as_aux_lemma => kernel_rfl) rfl ?_
 refine aW bL rfl rfl rfl .z rfl rfl rfl rfl ?_
 refine aa ?_
 refine aT (bq 6) ?_
 refine cw (by as_aux_lemma => kernel_rfl) ?_
 refine aj ?_
 refine cz (fun w h => (h.weak (.cons_cons _ (.cons_cons _ (.cons_cons _ (.cons_cons _ (.cons_cons _ (.cons_cons _ (.cons_cons _ (.cons_cons _ (.cons_cons _ (.cons_cons _ (.cons_cons _ (.cons_cons _ (.cons_cons _ (.cons_cons _ (.cons_cons _ (.cons_cons _ .slnil)))))))))))))))) (fun s hs => hs)).f2.f2.f4.f4.f4.f5) ?_
 exact J9 (((Axp, cxp), Axd, cxd), ((Ayp, cyp), Ayd, cyd), b28, b31) _ (by repeat (first | exact trivial | refine ⟨rfl, ?_⟩))
 refine bi (i := 7) rfl rfl rfl (fun _ _ _ => aM (by as_aux_lemma => kernel_rfl)) rfl ?_ ?_
 refine bH bL rfl rfl (fun b32 => ?_)
 refine aa ?_
 refine aT (bq 4) ?_
 refine bl (i := 5) rfl rfl rfl (bf rfl d8) (by as_aux_lemma => kernel_rfl) rfl ?_
 refine bU rfl d8 rfl (eu v l _ _ v2 l2 _ _ hok hok2 (by omega) (by omega)) (fun w hw => (az (bo 0 rfl hw) (az (bo 1 rfl hw) (az (bo 2 rfl hw) (az (bo 3 rfl hw) aY))))) (fun ⟨⟨Ayp, cyp⟩, Ayd, cyd⟩ => ?_)
 refine aa ?_
 refine aT (bq 6) ?_
 refine bl (i := 8) rfl rfl rfl (fun _ _ _ => aM (by as_aux_lemma => kernel_rfl)) (by as_aux_lemma => kernel_rfl) rfl ?_
 refine aW bL rfl rfl rfl (.s (.s (.s (.s (.s (.z)))))) rfl rfl rfl rfl ?_
 refine aa ?_
 refine aT (bq 6) ?_
 refine bl (i := 9) rfl rfl rfl (fun _ _ _ => aM (by as_aux_lemma => kernel_rfl)) (by as_aux_lemma => kernel_rfl) rfl ?_
 refine aW bL rfl rfl rfl (.s (.s (.z))) rfl rfl rfl rfl ?_
 refine aa ?_
 refine aT (bq 6) ?_
 refine cw (by as_aux_lemma => kernel_rfl) ?_
 refine aj ?_
 refine cz (fun w h => (h.weak (.cons_cons _ (.cons_cons _ (.cons_cons _ (.cons_cons _ (.cons_cons _ (.cons_cons _ (.cons_cons _ (.cons_cons _ (.cons_cons _ (.cons_cons _ (.cons_cons _ (.cons_cons _ (.cons_cons _ (.cons_cons _ (.cons_cons _ (.cons_cons _ .slnil)))))))))))))))) (fun s hs => hs)).f1.f1.f4.f4.f4.f5) ?_
 exact J9 (((Axp, cxp), Axd, cxd), ((Ayp, cyp), Ayd, cyd), b28, b32) _ (by repeat (first | exact trivial | refine ⟨rfl, ?_⟩))
 exact cH
 refine bi (i := 7) rfl rfl rfl (fun _ _ _ => aM (by as_aux_lemma => kernel_rfl)) rfl ?_ ?_
 refine bH bL rfl rfl (fun b34 => ?_)
 refine aa ?_
 refine aT (bq 2) ?_
 refine bl (i := 2) rfl rfl rfl (bf rfl gN) (by as_aux_lemma => kernel_rfl) rfl ?_
 refine bU rfl gN rfl (jY v l _ _ v2 l2 _ _ hok hok2 (by omega) (by omega) hlc hlc2) (fun w hw => (az (bo 0 rfl hw) (az (bo 1 rfl hw) (az (bo 2 rfl hw) (az (bo 3 rfl hw) aY))))) (fun ⟨⟨Axp, cxp⟩, Axd, cxd⟩ => ?_)
 refine aa ?_
 refine aT (bq 4) ?_
 refine bl (i := 5) rfl rfl rfl (bf rfl d8) (by as_aux_lemma => kernel_rfl) rfl ?_
 refine bU rfl d8 rfl (eu v l _ _ v2 l2 _ _ hok hok2 (by omega) (by omega)) (fun w hw => (az (bo 0 rfl hw) (az (bo 1 rfl hw) (az (bo 2 rfl hw) (az (bo 3 rfl hw) aY))))) (fun ⟨⟨Ayp, cyp⟩, Ayd, cyd⟩ => ?_)
 refine aa ?_
 refine aT (bq 6) ?_
 refine bl (i := 8) rfl rfl rfl (fun _ _ _ => aM (by as_aux_lemma => kernel_rfl)) (by as_aux_lemma => kernel_rfl) rfl ?_
 refine aW bL rfl rfl rfl (.s (.s (.s (.s (.s (.z)))))) rfl rfl rfl rfl ?_
 refine aa ?_
 refine aT (bq 6) ?_
 refine bl (i := 9) rfl rfl rfl (fun _ _ _ => aM (by as_aux_lemma => kernel_rfl)) (by as_aux_lemma => kernel_rfl) rfl ?_
 refine aW bL rfl rfl rfl (.s (.s (.s (.s (.z))))) rfl rfl rfl rfl ?_
 refine aa ?_
 refine aT (bq 6) ?_
 refine cw (by as_aux_lemma => kernel_rfl) ?_
 refine aj ?_
 refine cz (fun w h => (h.weak (.cons_cons _ (.cons_cons _ (.cons_cons _ (.cons_cons _ (.cons_cons _ (.cons_cons _ (.cons_cons _ (.cons_cons _ (.cons_cons _ (.cons_cons _ (.cons_cons _ (.cons_cons _ (.cons_cons _ (.cons_cons _ (.cons_cons _ (.cons_cons _ .slnil)))))))))))))))) (fun s hs => hs)).f1.f1.f3.f3.f4.f5) ?_
 exact J9 (((Axp, cxp), Axd, cxd), ((Ayp, cyp), Ayd, cyd), b28, b34) _ (by repeat (first | exact trivial | refine ⟨rfl, ?_⟩))
 exact cH
 refine bi (i := 7) rfl rfl rfl (fun _ _ _ => aM (by as_aux_lemma => kernel_rfl)) rfl ?_ ?_
 refine bH bL rfl rfl (fun b37 => ?_)
 refine aa ?_
 refine aT (bq 1) ?_
 refine de (js := [2, 6]) (by as_aux_lemma => kernel_rfl) rfl ?_
 refine bi (i := 2) rfl rfl rfl (bf rfl gN) rfl ?_ ?_
 refine bU rfl gN rfl (jY v l _ _ v2 l2 _ _ hok hok2 (by omega) (by omega) hlc hlc2) (fun w hw => (az (bo 0 rfl hw) (az (bo 1 rfl hw) (az (bo 2 rfl hw) (az (bo 3 rfl hw) aY))))) (fun ⟨⟨Axp, cxp⟩, Axd, cxd⟩ => ?_)
 refine aa ?_
 refine aT (bq 3) ?_
 refine de (js := [5, 6]) (by as_aux_lemma => kernel_rfl) rfl ?_
 refine bi (i := 5) rfl rfl rfl (bf rfl d8) rfl ?_ ?_
 refine bU rfl d8 rfl (eu v l _ _ v2 l2 _ _ hok hok2 (by omega) (by omega)) (fun w hw => (az (bo 0 rfl hw) (az (bo 1 rfl hw) (az (bo 2 rfl hw) (az (bo 3 rfl hw) aY))))) (fun ⟨⟨Ayp, cyp⟩, Ayd, cyd⟩ => ?_)
 refine aa ?_
 refine aT (bq 5) ?_
 refine bl (i := 6) rfl rfl rfl (fun _ _ _ => aM (by as_aux_lemma => kernel_rfl)) (by as_aux_lemma => kernel_rfl) rfl ?_
 refine bH bL rfl rfl (fun b40 => ?_)
 refine aa ?_
 refine aT (bq 6) ?_
 refine bl (i := 8) rfl rfl rfl (fun _ _ _ => aM (by as_aux_lemma => kernel_rfl)) (by as_aux_lemma => kernel_rfl) rfl ?_
 refine aW bL rfl rfl rfl .z rfl rfl rfl rfl ?_
 refine aa ?_
 refine aT (bq 6) ?_
 refine bl (i := 9) rfl rfl rfl (fun _ _ _ => aM (by as_aux_lemma => kernel_rfl)) (by as_aux_lemma => kernel_rfl) rfl ?_
 refine aW bL rfl rfl rfl (.s (.s (.s (.s (.s (.z)))))) rfl rfl rfl rfl ?_
 refine aa ?_
 refine aT (bq 6) ?_
 refine cw (by as_aux_lemma => kernel_rfl) ?_
 refine aj ?_
 refine cz (fun w h => (h.weak (.cons_cons _ (.cons_cons _ (.cons_cons _ (.cons_cons _ (.cons_cons _ (.cons_cons _ (.cons_cons _ (.cons_cons _ (.cons_cons _ (.cons_cons _ (.cons_cons _ (.cons_cons _ (.cons_cons _ (.cons_cons _ (.cons_cons _ (.cons_cons _ .slnil)))))))))))))))) (fun s hs => hs)).f2.f2.f4.f4.f5.f5) ?_
 exact J9 (((Axp, cxp), Axd, cxd), ((Ayp, cyp), Ayd, cyd), b40, b37) _ (by repeat (first | exact trivial | refine ⟨rfl, ?_⟩))
 refine bi (i := 6) rfl rfl rfl (fun _ _ _ => aM (by as_aux_lemma => kernel_rfl)) rfl ?_ ?_
 refine bH bL rfl rfl (fun b41 => ?_)
 refine aa ?_
 refine aT (bq 4) ?_
 refine bl (i := 5) rfl rfl rfl (bf rfl d8) (by as_aux_lemma => kernel_rfl) rfl ?_
 refine bU rfl d8 rfl (eu v l _ _ v2 l2 _ _ hok hok2 (by omega) (by omega)) (fun w hw => (az (bo 0 rfl hw) (az (bo 1 rfl hw) (az (bo 2 rfl hw) (az (bo 3 rfl hw) aY))))) (fun ⟨⟨Ayp, cyp⟩, Ayd, cyd⟩ => ?_)
 refine aa ?_
 refine aT (bq 6) ?_
 refine bl (i := 8) rfl rfl rfl (fun _ _ _ => aM (by as_aux_lemma => kernel_rfl)) (by as_aux_lemma => kernel_rfl) rfl ?_
 refine aW bL rfl rfl rfl (.s (.s (.z))) rfl rfl rfl rfl ?_
 refine aa ?_
 refine aT (bq 6) ?_
 refine bl (i := 9) rfl rfl rfl (fun _ _ _ => aM (by as_aux_lemma => kernel_rfl)) (by as_aux_lemma => kernel_rfl) rfl ?_
 refine aW bL rfl rfl rfl (.s (.s (.s (.s (.s (.z)))))) rfl rfl rfl rfl ?_
 refine aa ?_
 refine aT (bq 6) ?_
 refine cw (by as_aux_lemma => kernel_rfl) ?_
 refine aj ?_
 refine cz (fun w h => (h.weak (.cons_cons _ (.cons_cons _ (.cons_cons _ (.cons_cons _ (.cons_cons _ (.cons_cons _ (.cons_cons _ (.cons_cons _ (.cons_cons _ (.cons_cons _ (.cons_cons _ (.cons_cons _ (.cons_cons _ (.cons_cons _ (.cons_cons _ (.cons_cons _ .slnil)))))))))))))))) (fun s hs => hs)).f1.f1.f4.f4.f5.f5) ?_
 exact J9 (((Axp, cxp), Axd, cxd), ((Ayp, cyp), Ayd, cyd), b41, b37) _ (by repeat (first | exact trivial | refine ⟨rfl, ?_⟩))
 exact cH
 refine bi (i := 6) rfl rfl rfl (fun _ _ _ => aM (by as_aux_lemma => kernel_rfl)) rfl ?_ ?_
 refine bH bL rfl rfl (fun b43 => ?_)
 refine aa ?_
 refine aT (bq 2) ?_
 refine bl (i := 2) rfl rfl rfl (bf rfl gN) (by as_aux_lemma => kernel_rfl) rfl ?_
 refine bU rfl gN rfl (jY v l _ _ v2 l2 _ _ hok hok2 (by omega) (by omega) hlc hlc2) (fun w hw => (az (bo 0 rfl hw) (az (bo 1 rfl hw) (az (bo 2 rfl hw) (az (bo 3 rfl hw) aY))))) (fun ⟨⟨Axp, cxp⟩, Axd, cxd⟩ => ?_)
 refine aa ?_
 refine aT (bq 4) ?_
 refine bl (i := 5) rfl rfl rfl (bf rfl d8) (by as_aux_lemma => kernel_rfl) rfl ?_
 refine bU rfl d8 rfl (eu v l _ _ v2 l2 _ _ hok hok2 (by omega) (by omega)) (fun w hw => (az (bo 0 rfl hw) (az (bo 1 rfl hw) (az (bo 2 rfl hw) (az (bo 3 rfl hw) aY))))) (fun ⟨⟨Ayp, cyp⟩, Ayd, cyd⟩ => ?_)
 refine aa ?_
 refine aT (bq 6) ?_
 refine bl (i := 8) rfl rfl rfl (fun _ _ _ => aM (by as_aux_lemma => kernel_rfl)) (by as_aux_lemma => kernel_rfl) rfl ?_
 refine aW bL rfl rfl rfl (.s (.s (.s (.s (.z))))) rfl rfl rfl rfl ?_
 refine aa ?_
 refine aT (bq 6) ?_
 refine bl (i := 9) rfl rfl rfl (fun _ _ _ => aM (by as_aux_lemma => kernel_rfl)) (by as_aux_lemma => kernel_rfl) rfl ?_
 refine aW bL rfl rfl rfl (.s (.s (.s (.s (.s (.z)))))) rfl rfl rfl rfl ?_
 refine aa ?_
 refine aT (bq 6) ?_
 refine cw (by as_aux_lemma => kernel_rfl) ?_
 refine aj ?_
 refine cz (fun w h => (h.weak (.cons_cons _ (.cons_cons _ (.cons_cons _ (.cons_cons _ (.cons_cons _ (.cons_cons _ (.cons_cons _ (.cons_cons _ (.cons_cons _ (.cons_cons _ (.cons_cons _ (.cons_cons _ (.cons_cons _ (.cons_cons _ (.cons_cons _ (.cons_cons _ .slnil)))))))))))))))) (fun s hs => hs)).f1.f1.f3.f3.f5.f5) ?_
 exact J9 (((Axp, cxp), Axd, cxd), ((Ayp, cyp), Ayd, cyd), b43, b37) _ (by repeat (first | exact trivial | refine ⟨rfl, ?_⟩))
 exact cH
 exact cH
 refine ap ?_
 refine e7 10 rfl mixed ?_
 refine aI (i := 0) rfl ak (bu 2 bw rfl rfl rfl rfl) aG aG rfl (ah aw) (by as_aux_lemma => kernel_rfl) rfl ?_
 refine aI (i := 2) rfl ak (bu 0 bL rfl rfl rfl rfl) aG aG rfl (ah aw) (by as_aux_lemma => kernel_rfl) rfl ?_
 refine de (js := [1, 7]) (by as_aux_lemma => kernel_rfl) rfl ?_
 refine bi (i := 1) rfl rfl rfl (bf rfl ent_14) rfl ?_ ?_
 refine bU rfl ent_14 rfl (c_OwnTable v l _ _ hok (by omega)) (fun w hw => (az (bo 0 rfl hw) (az (bo 1 rfl hw) aY))) (fun ⟨⟨lo, Ao, co⟩, hlo⟩ => ?_)
 refine aa ?_
 refine aT (bq 2) ?_
 refine de (js := [3, 7]) (by as_aux_lemma => kernel_rfl) rfl ?_
 refine bi (i := 3) rfl rfl rfl (bf rfl dC) rfl ?_ ?_
 refine bU rfl dC rfl (dY v lo _ _ full bs ver put _ _ drop _ _ (hok.eqs hlo) hpok (by rw [eG hlo]; omega) (by omega) (by omega) hdb9) (fun w hw => (az (ci 1 rfl hw) (az (ja 0 rfl hw) (az (bo 4 rfl hw) (az (bo 5 rfl hw) (az (bo 6 rfl hw) aY)))))) (fun ⟨⟨ta, Aa, ca⟩, hta0⟩ => ?_)
 refine aa ?_
 refine aT (bq 4) ?_
 refine dT (t := 43) (.tuple #[.agg (eE (apV (bx v l full bs ver put drop).1 ver) Aa ta.length ca).toArray, .int .i64 (bx v l full bs ver put drop).1]) rfl (by rw [(fX hlo rfl).1]) ?_
 refine aI (i := 4) rfl ak (am rfl) (bq 4) aG rfl (ah aw) (by as_aux_lemma => kernel_rfl) rfl ?_
 refine aI (i := 5) rfl ak (bn rfl rfl) (bq 4) aG rfl (ah aw) (by as_aux_lemma => kernel_rfl) rfl ?_
 refine aI (i := 6) rfl ak (bn rfl rfl) (bq 4) aG rfl (ah aw) (by as_aux_lemma => kernel_rfl) rfl ?_
 refine bl (i := 7) rfl rfl rfl (fun _ _ _ => aM (by as_aux_lemma => kernel_rfl)) (by as_aux_lemma => kernel_rfl) rfl ?_
 refine bH bw rfl rfl (fun b48 => ?_)
 refine aa ?_
 refine aT (bq 5) ?_
 refine bl (i := 8) rfl rfl rfl (fun _ _ _ => aM (by as_aux_lemma => kernel_rfl)) (by as_aux_lemma => kernel_rfl) rfl ?_
 refine aW bw rfl rfl rfl .z rfl rfl rfl rfl ?_
 refine aa ?_
 refine aT (bq 5) ?_
 refine aI (i := 9) rfl ak (ai rfl) (bq 5) aG rfl (ah aw) (by as_aux_lemma => kernel_rfl) rfl ?_
 refine cw (by as_aux_lemma => kernel_rfl) ?_
 refine aj ?_
 refine cz (fun w h => (h.weak (.cons_cons _ (.cons_cons _ (.cons_cons _ (.cons _ (.cons _ (.cons_cons _ (.cons_cons _ (.cons_cons _ .slnil)))))))) (fun s hs => hs))) ?_
 exact J5 (⟨(ta, Aa, ca), hta0.trans (fX hlo rfl).2⟩, b48) _ (by repeat (first | exact trivial | refine ⟨rfl, ?_⟩))
 refine bi (i := 7) rfl rfl rfl (fun _ _ _ => aM (by as_aux_lemma => kernel_rfl)) rfl ?_ ?_
 refine bH bw rfl rfl (fun b49 => ?_)
 refine aa ?_
 refine aT (bq 3) ?_
 refine bl (i := 3) rfl rfl rfl (bf rfl dC) (by as_aux_lemma => kernel_rfl) rfl ?_
 refine bU rfl dC rfl (dY v lo _ _ full bs ver put _ _ drop _ _ (hok.eqs hlo) hpok (by rw [eG hlo]; omega) (by omega) (by omega) hdb9) (fun w hw => (az (ci 2 rfl hw) (az (ja 1 rfl hw) (az (bo 4 rfl hw) (az (bo 5 rfl hw) (az (bo 6 rfl hw) aY)))))) (fun ⟨⟨ta, Aa, ca⟩, hta0⟩ => ?_)
 refine aa ?_
 refine aT (bq 5) ?_
 refine dT (t := 43) (.tuple #[.agg (eE (apV (bx v l full bs ver put drop).1 ver) Aa ta.length ca).toArray, .int .i64 (bx v l full bs ver put drop).1]) rfl (by rw [(fX hlo rfl).1]) ?_
 refine aI (i := 4) rfl ak (am rfl) (bq 5) aG rfl (ah aw) (by as_aux_lemma => kernel_rfl) rfl ?_
 refine aI (i := 5) rfl ak (bn rfl rfl) (bq 5) aG rfl (ah aw) (by as_aux_lemma => kernel_rfl) rfl ?_
 refine aI (i := 6) rfl ak (bn rfl rfl) (bq 5) aG rfl (ah aw) (by as_aux_lemma => kernel_rfl) rfl ?_
 refine bl (i := 8) rfl rfl rfl (fun _ _ _ => aM (by as_aux_lemma => kernel_rfl)) (by as_aux_lemma => kernel_rfl) rfl ?_
 refine aW bw rfl rfl rfl (.s (.s (.z))) rfl rfl rfl rfl ?_
 refine aa ?_
 refine aT (bq 5) ?_
 refine aI (i := 9) rfl ak (ai rfl) (bq 5) aG rfl (ah aw) (by as_aux_lemma => kernel_rfl) rfl ?_
 refine cw (by as_aux_lemma => kernel_rfl) ?_
 refine aj ?_
 refine cz (fun w h => (h.weak (.cons_cons _ (.cons_cons _ (.cons_cons _ (.cons _ (.cons _ (.cons_cons _ (.cons_cons _ (.cons_cons _ .slnil)))))))) (fun s hs => hs)).f1.f1.f2) ?_
 exact J5 (⟨(ta, Aa, ca), hta0.trans (fX hlo rfl).2⟩, b49) _ (by repeat (first | exact trivial | refine ⟨rfl, ?_⟩))
 exact cH
 refine bi (i := 7) rfl rfl rfl (fun _ _ _ => aM (by as_aux_lemma => kernel_rfl)) rfl ?_ ?_
 refine bH bw rfl rfl (fun b51 => ?_)
 refine aa ?_
 refine aT (bq 1) ?_
 refine bl (i := 1) rfl rfl rfl (bf rfl ent_14) (by as_aux_lemma => kernel_rfl) rfl ?_
 refine bU rfl ent_14 rfl (c_OwnTable v l _ _ hok (by omega)) (fun w hw => (az (bo 0 rfl hw) (az (bo 1 rfl hw) aY))) (fun ⟨⟨lo, Ao, co⟩, hlo⟩ => ?_)
 refine aa ?_
 refine aT (bq 3) ?_
 refine bl (i := 3) rfl rfl rfl (bf rfl dC) (by as_aux_lemma => kernel_rfl) rfl ?_
 refine bU rfl dC rfl (dY v lo _ _ full bs ver put _ _ drop _ _ (hok.eqs hlo) hpok (by rw [eG hlo]; omega) (by omega) (by omega) hdb9) (fun w hw => (az (ci 1 rfl hw) (az (ja 0 rfl hw) (az (bo 4 rfl hw) (az (bo 5 rfl hw) (az (bo 6 rfl hw) aY)))))) (fun ⟨⟨ta, Aa, ca⟩, hta0⟩ => ?_)
 refine aa ?_
 refine aT (bq 5) ?_
 refine dT (t := 43) (.tuple #[.agg (eE (apV (bx v l full bs ver put drop).1 ver) Aa ta.length ca).toArray, .int .i64 (bx v l full bs ver put drop).1]) rfl (by rw [(fX hlo rfl).1]) ?_
 refine aI (i := 4) rfl ak (am rfl) (bq 5) aG rfl (ah aw) (by as_aux_lemma => kernel_rfl) rfl ?_
 refine aI (i := 5) rfl ak (bn rfl rfl) (bq 5) aG rfl (ah aw) (by as_aux_lemma => kernel_rfl) rfl ?_
 refine aI (i := 6) rfl ak (bn rfl rfl) (bq 5) aG rfl (ah aw) (by as_aux_lemma => kernel_rfl) rfl ?_
 refine bl (i := 8) rfl rfl rfl (fun _ _ _ => aM (by as_aux_lemma => kernel_rfl)) (by as_aux_lemma => kernel_rfl) rfl ?_
 refine aW bw rfl rfl rfl (.s (.s (.s (.s (.z))))) rfl rfl rfl rfl ?_
 refine aa ?_
 refine aT (bq 5) ?_
 refine aI (i := 9) rfl ak (ai rfl) (bq 5) aG rfl (ah aw) (by as_aux_lemma => kernel_rfl) rfl ?_
 refine cw (by as_aux_lemma => kernel_rfl) ?_
 refine aj ?_
 refine cz (fun w h => (h.weak (.cons_cons _ (.cons_cons _ (.cons _ (.cons _ (.cons_cons _ (.cons_cons _ (.cons_cons _ (.cons_cons _ .slnil)))))))) (fun s hs => hs)).f1.f1.f2) ?_
 exact J5 (⟨(ta, Aa, ca), hta0.trans (fX hlo rfl).2⟩, b51) _ (by repeat (first | exact trivial | refine ⟨rfl, ?_⟩))
 exact cH
 refine au rfl rfl ?_
 refine aq (bS rfl) rfl rfl ?_
 refine aq (aF rfl rfl) rfl rfl ?_
 refine aq (am rfl) rfl rfl ?_
 refine ar rfl rfl rfl rfl ?_
 refine ar rfl rfl rfl rfl ?_
 refine ar rfl rfl rfl rfl ?_
 refine aq (aH rfl rfl) rfl rfl ?_
 refine aa ?_
 refine aj ?_
 refine aA rfl ?_
 refine ap ?_
 refine ae ?_
 refine aq (ai rfl) rfl rfl ?_
 refine aa ?_
 refine aj ?_
 refine aN ?_
 refine ax ?_
 refine aR (ts := [8]) rfl rfl rfl (fun w hw => ?_)
 exact ⟨(), rfl, hw.base, (hw.weak (List.nil_sublist _) (fun s hs => hs)).toNews⟩
 refine au rfl rfl ?_
 refine aq (bS rfl) rfl rfl ?_
 refine aq (aF rfl rfl) rfl rfl ?_
 refine aq (am rfl) rfl rfl ?_
 refine ar rfl rfl rfl rfl ?_
 refine ar rfl rfl rfl rfl ?_
 refine ar rfl rfl rfl rfl ?_
 refine aq (aH rfl rfl) rfl rfl ?_
 refine aq (am rfl) rfl rfl ?_
 refine ar rfl rfl rfl rfl ?_
 refine ar rfl rfl rfl rfl ?_
 refine ar rfl rfl rfl rfl ?_
 refine aq (aH rfl rfl) rfl rfl ?_
 refine aa ?_
 refine aj ?_
 refine aA rfl ?_
 refine ap ?_
 refine ae ?_
 refine aq (ai rfl) rfl rfl ?_
 refine aa ?_
 refine aj ?_
 refine aN ?_
 refine ax ?_
 refine aR (ts := [8]) rfl rfl rfl (fun w hw => ?_)
 exact ⟨(), rfl, hw.base, (hw.weak (List.nil_sublist _) (fun s hs => hs)).toNews⟩
 refine aq (bS rfl) rfl rfl ?_
 refine aq (am rfl) rfl rfl ?_
 refine ar rfl rfl rfl rfl ?_
 refine ar rfl rfl rfl rfl ?_
 refine ar rfl rfl rfl rfl ?_
 refine aq (aH rfl rfl) rfl rfl ?_
 refine aq (am rfl) rfl rfl ?_
 refine ar rfl rfl rfl rfl ?_
 refine ar rfl rfl rfl rfl ?_
 refine ar rfl rfl rfl rfl ?_
 refine aq (aH rfl rfl) rfl rfl ?_
 refine aq (am rfl) rfl rfl ?_
 refine ar rfl rfl rfl rfl ?_
 refine ar rfl rfl rfl rfl ?_
 refine ar rfl rfl rfl rfl ?_
 refine aq (aH rfl rfl) rfl rfl ?_
 refine aa ?_
 refine aj ?_
 refine aA rfl ?_
 refine ap ?_
 refine ae ?_
 refine aq (ai rfl) rfl rfl ?_
 refine aa ?_
 refine aj ?_
 refine aN ?_
 refine ax ?_
 refine aR (ts := [8]) rfl rfl rfl (fun w hw => ?_)
 exact ⟨(), rfl, hw.base, (hw.weak (List.nil_sublist _) (fun s hs => hs)).toNews⟩
end Go.Proofs.YtnpdgmoeoidppaaGreat

/- The caps of slices that lie in structs. -/
namespace Go.Proofs.YtnpdgmoeoidppaaGreat
open Go.RowKit Go.Shelf
set_option linter.unusedVariables false
theorem cell_cap {P : Program} {W : World} {base : Nat} {t e : TypeId} {A : Option Addr} {n c : Nat} (ht : P.underlying t = some (.slice e)) (h : Cell.okWide P W .any base t (.slice A n c)) : n ≤ c := by
  unfold Cell.okWide at h
  rw [ht] at h
  have h : Cell.ok P W .any base t (.slice A n c) := h
  unfold Cell.ok at h
  rw [ht] at h
  cases A with
  | some a => exact h.1
  | none =>
    by_cases q : n = 0
    · omega
    · exfalso
      cases n with
      | zero => exact q rfl
      | succ n => exact h
theorem op_fcap {P : Program} {W : World} {base : Nat} {t u e : TypeId} {fs} {ts : List TypeId} {cs : Array Value} {A : Option Addr} {n c : Nat} (ht : P.underlying t = some (.struct fs)) (h : Value.okWide P W .any base t (.agg cs)) (i : Nat) (hts : P.cellTypes P.depth t = some ts) (hi : ts[i % ts.length]? = some u) (hu : P.underlying u = some (.slice e)) (hc : cs[i]? = some (.slice A n c)) : n ≤ c := by
  unfold Value.okWide at h
  rw [ht] at h
  obtain ⟨cs2, he, _, ts2, hts2, _, hall⟩ := h
  obtain rfl := Value.agg.inj he
  obtain rfl : ts = ts2 := Option.some.inj (hts.symm.trans hts2)
  obtain ⟨u2, hu2, hok⟩ := hall i _ hc
  obtain rfl : u = u2 := Option.some.inj (hi.symm.trans hu2)
  exact cell_cap hu hok
end Go.Proofs.YtnpdgmoeoidppaaGreat

/- law 17: a push that is handed in -/
namespace Go.Proofs.YtnpdgmoeoidppaaGreat
open Go.RowKit Go.Shelf
set_option linter.unusedVariables false
set_option linter.unusedSimpArgs false

theorem dc_nms {w : World} : Dc Tryz.prog w 59 (fun p : List a6 × Option Addr × Nat => [.slice p.2.1 p.1.length p.2.2]) (fun p => Ch.rd p.2.1 1 dD p.1 :: p.1.flatMap (fun _ => [])) (fun p => p.1.length ≤ 9223372036854775807 ∧ ∀ s ∈ p.1, s.length ≤ 9223372036854775807) := jy Tryz.underlying59 (by kernel_rfl) (by decide) bV (dc_str Tryz.underlying26)

theorem dc_push {w : World} : Dc Tryz.prog w 103 (α := Bool × Int × Int × (List Le × Option Addr × Nat) × List a6 × Option Addr × Nat) (fun q => er q.1 q.2.1 q.2.2.1 q.2.2.2.1.2.1 q.2.2.2.1.1.length q.2.2.2.1.2.2 q.2.2.2.2.2.1 q.2.2.2.2.1.length q.2.2.2.2.2.2) (fun q => [Ch.rd q.2.2.2.1.2.1 7 dF q.2.2.2.1.1, Ch.rall (q.2.2.2.1.1.flatMap fm), Ch.rd q.2.2.2.2.2.1 1 dD q.2.2.2.2.1]) (fun q => (q.2.2.2.1.1.length ≤ 9223372036854775807 ∧ ∀ x ∈ q.2.2.2.1.1, EnOk x.e) ∧ q.2.2.2.2.1.length ≤ 9223372036854775807) := fun H enc base sp hd fuel cs x h => by
  obtain ⟨xs, n, rfl, _, hcl, hxl, hf⟩ := DataW.trod_struct Tryz.underlying103 h
  have hcl2 : cs.length = 5 := hcl.trans (by kernel_rfl)
  obtain ⟨x0, c0, r0, o0⟩ := dH hxl hf 0 (ft := 4) (off := 0) (k := 1) (by kernel_rfl) (by kernel_rfl) (dc_bool Tryz.underlying4)
  obtain ⟨x1, c1, r1, o1⟩ := dH hxl hf 1 (ft := 3) (off := 1) (k := 1) (by kernel_rfl) (by kernel_rfl) (iw Tryz.underlying3)
  obtain ⟨x2, c2, r2, o2⟩ := dH hxl hf 2 (ft := 3) (off := 2) (k := 1) (by kernel_rfl) (by kernel_rfl) (iw Tryz.underlying3)
  obtain ⟨⟨x3, P, pc⟩, c3, r3, o3⟩ := dH hxl hf 3 (ft := 22) (off := 3) (k := 1) (by kernel_rfl) (by kernel_rfl) dc_ents
  obtain ⟨⟨x4, D, dc⟩, c4, r4, o4⟩ := dH hxl hf 4 (ft := 59) (off := 4) (k := 1) (by kernel_rfl) (by kernel_rfl) dc_nms
  have hcs := cut0 (iB c0 (iB c1 (iB c2 (iB c3 (iB c4 (cutn hcl2) rfl) rfl) rfl) rfl) rfl)
  exact ⟨(x0, x1, x2, (x3, P, pc), x4, D, dc), hcs, az (r3 _ List.mem_cons_self) (az (ek (fun s hs => r3 s (.tail _ hs))) (az (r4 _ List.mem_cons_self) nofun)), o3, o4.1⟩
end Go.Proofs.YtnpdgmoeoidppaaGreat
