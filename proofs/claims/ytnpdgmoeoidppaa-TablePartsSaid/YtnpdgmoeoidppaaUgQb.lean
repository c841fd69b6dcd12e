import Derived.Test.YtnpdgmoeoidppaaUfQb
/- law 17: its examples -/
namespace Go.Proofs.Ytnpdgmoeoidppaa
open Go.RowKit Go.Shelf
set_option linter.unusedVariables false
set_option linter.unusedSimpArgs false

theorem bu_27_0_2 (x0 : Bool) (x1 : Int) : Try.prog.built 27 [(0, .bool x0), (2, .int .i64 x1)] = some [.bool x0, .int .i64 0, .int .i64 x1, .slice none 0 0, .slice none 0 0].toArray := by kernel_rfl
theorem bu_27_0_2_3 (x0 : Bool) (x1 : Int) (x2 : Option Addr) (x3 : Nat) (x4 : Nat) : Try.prog.built 27 [(0, .bool x0), (2, .int .i64 x1), (3, .slice x2 x3 x4)] = some [.bool x0, .int .i64 0, .int .i64 x1, .slice x2 x3 x4, .slice none 0 0].toArray := by kernel_rfl
theorem aR (x0 : Int) (x1 : Int) (x2 : Option Addr) (x3 : Nat) (x4 : Nat) (x5 : Option Addr) (x6 : Nat) (x7 : Nat) : Try.prog.built 27 [(1, .int .i64 x0), (2, .int .i64 x1), (3, .slice x2 x3 x4), (4, .slice x5 x6 x7)] = some [.bool false, .int .i64 x0, .int .i64 x1, .slice x2 x3 x4, .slice x5 x6 x7].toArray := by kernel_rfl
theorem bu_44_0_1_2 (x0 : bg) (x1 : Int) (x2 : bg) : Try.prog.built 44 [(0, .string (ba x0)), (1, .int .i64 x1), (2, .string (ba x2))] = some [.string (ba x0), .int .i64 x1, .string (ba x2), .slice none 0 0, .string ⟨#[]⟩, .slice none 0 0, .int .u32 0].toArray := by kernel_rfl
theorem aU : Enters Try.prog 12 := enters_of Try.func12 (by kernel_rfl) rfl
theorem dB : Enters Try.prog 22 := enters_of Try.func22 (by kernel_rfl) rfl
theorem bH : Enters Try.prog 23 := enters_of Try.func23 (by kernel_rfl) rfl

/-- An entry of few octets. -/
def smE (e : En) : Bool := decide (e.host.length ≤ 300) && decide (e.alias.length ≤ 300) && decide (e.cluster.length ≤ 300) && decide (e.addrs.length ≤ 20) && decide (e.ports.length ≤ 20) && decide (0 ≤ e.kind ∧ e.kind ≤ 9) && decide (0 ≤ e.ttl ∧ e.ttl ≤ 1000) && (e.addrs.all fun a => decide (0 ≤ a.hi ∧ a.hi ≤ 1000000) && decide (0 ≤ a.lo ∧ a.lo ≤ 4294967295)) && (e.ports.all fun p => decide (0 ≤ p ∧ p ≤ 1000000))
theorem smE_ok {e : En} (h : smE e = true) : EnOk e ∧ ey e = true := by
  simp only [smE, Bool.and_eq_true, decide_eq_true_eq, List.all_eq_true] at h
  obtain ⟨⟨⟨⟨⟨⟨⟨⟨h1, h2⟩, h3⟩, h4⟩, h5⟩, h6⟩, h7⟩, h8⟩, h9⟩ := h
  refine ⟨⟨by omega, by omega, by omega, fun a ha => ?_, by omega, by omega, fun p hp => by have := h9 p hp; omega, by omega, h7.1, by omega⟩, ?_⟩
  · have := h8 a ha
    refine ⟨this.1.1, ?_, this.2.1, ?_⟩ <;> omega
  · simp only [ey, Bool.and_eq_true, decide_eq_true_eq]
    exact ⟨⟨⟨⟨h1, h2⟩, h3⟩, h4⟩, h5⟩
theorem sm_tb {l : List Le} (h : (l.map (·.e)).all smE = true) : TbOk l := fun x hx => smE_ok (List.all_eq_true.1 h _ (List.mem_map.2 ⟨x, hx, rfl⟩))

def auE17 (ls : List bg) : En := ⟨(e5 ls).1, 2, [120], [], [], [], 0⟩
def au17 (ls : List bg) : Le := ⟨auE17 ls, none, 0, none, 0⟩
def cI (c : UInt8) : bg := (e5 [[c]]).1
def p17a : List Le := [au17 [[66]], au17 [[97]]]
def r17a : List Le := [au17 [[97]], au17 [[66]]]
def p17b : List Le := [au17 [[99]]]
def r17b : List Le := [au17 [[97]], au17 [[99]]]
theorem bare17 {l : List Le} (h : (l.all fun x => decide (x.e.addrs = []) && decide (x.e.ports = [])) = true) : ∀ x ∈ l, x.e.addrs = [] ∧ x.e.ports = [] := fun x hx => by
  have := List.all_eq_true.1 h x hx
  simpa using this
theorem ap17_a : (bM 0 [] true 0 3 p17a []).1 = 0 ∧ (bM 0 [] true 0 3 p17a []).2.map (·.e) = r17a.map (·.e) := by decide +kernel
theorem ap17_b : (bM 3 r17a false 3 4 p17b [cI 98]).1 = 0 ∧ (bM 3 r17a false 3 4 p17b [cI 98]).2.map (·.e) = r17b.map (·.e) := by decide +kernel
theorem ap17_c : (bM 4 r17b true 0 4 [] []).1 = 9 := by decide +kernel
theorem to17 {v : Int} {l l' : List Le} {full : Bool} {bs ver : Int} {put : List Le} {drop : List bg} {x : Int} {r : List Le} (hl : l.map (·.e) = l'.map (·.e)) (h : (bM v l' full bs ver put drop).1 = x ∧ (bM v l' full bs ver put drop).2.map (·.e) = r.map (·.e)) : (bM v l full bs ver put drop).1 = x ∧ (bM v l full bs ver put drop).2.map (·.e) = r.map (·.e) :=
  ⟨((apply_e hl rfl).1).trans h.1, ((apply_e hl rfl).2).trans h.2⟩
theorem p17a_tb : TbOk p17a := sm_tb (by decide +kernel)
theorem bw : TbOk p17b := sm_tb (by decide +kernel)
theorem r17a_tb {l : List Le} (h : l.map (·.e) = r17a.map (·.e)) : TbOk l := sm_tb (by rw [h]; decide +kernel)
theorem r17b_tb {l : List Le} (h : l.map (·.e) = r17b.map (·.e)) : TbOk l := sm_tb (by rw [h]; decide +kernel)
theorem p17a_rd {w : World} : Rd (p17a.flatMap ff) w := rd_bare (bare17 (by decide))
theorem bv {w : World} : Rd (p17b.flatMap ff) w := rd_bare (bare17 (by decide))
theorem bk : ∀ n ∈ [cI 98], n.length ≤ 1000 := by decide +kernel
theorem at17 {l r : List Le} {n : bg} (h : l.map (·.e) = r.map (·.e)) {i : Nat} (hq : (r.getD i bO).e.host = n) : (l.getD i bO).e.host = n := by
  rw [dq, h, ← dq]; exact hq

theorem bT (ls : List bg) (A : Option Addr) (ca : Nat) (hl : ls.length ≤ 1000000000000) : RC Try.prog 23 #[.slice A ls.length ca] [Ch.rd A 1 ed ls] (α := Unit) (fun _ => .string (ba (e5 ls).1)) (fun _ => []) := by
 refine bZ (args := [.slice A ls.length ca]) 11 Try.func23 rfl rfl rfl (fun w0 => ?_)
 refine ar ?_
 refine ah ?_
 refine ap (ai rfl) rfl rfl ?_
 refine ae ?_
 refine ao ?_
 refine ar ?_
 refine ah ?_
 refine ap (am rfl) rfl rfl ?_
 refine bi rfl ent_59 rfl (iJ _ _ _ (by omega)) (fun w hw => (ak (bW 0 rfl hw) aO)) ?_
 refine ap (am rfl) rfl rfl ?_
 refine ap (az rfl rfl) rfl rfl ?_
 refine ap (az rfl rfl) rfl rfl ?_
 refine ap (ai rfl) rfl rfl ?_
 refine ap (ai rfl) rfl rfl ?_
 refine ae ?_
 refine ao ?_
 refine ar ?_
 refine ah ?_
 refine ap (am rfl) rfl rfl ?_
 refine ap (ai rfl) rfl rfl ?_
 refine ae ?_
 refine ao ?_
 refine aV ?_
 refine aY (ts := [2]) rfl rfl rfl (fun w hw => ?_)
 exact ⟨(), rfl, hw.base, (hw.weak (List.nil_sublist _) (fun s hs => hs)).toNews⟩

theorem dT (ls : List bg) (A : Option Addr) (ca : Nat) (hl : ls.length ≤ 1000000000000) : RC Try.prog 22 #[.slice A ls.length ca] [Ch.rd A 1 ed ls] (α := Unit) (fun _ => .agg (d4 (au17 ls)).toArray) (fun _ => []) := by
 refine bZ (args := [.slice A ls.length ca]) 6 Try.func22 rfl rfl rfl (fun w0 => ?_)
 refine ar ?_
 refine ah ?_
 refine bu a7 rfl rfl (fun b1 => ?_)
 refine ae ?_
 refine ao ?_
 refine ar ?_
 refine ah ?_
 refine ap (am rfl) rfl rfl ?_
 refine bi rfl bH rfl (bT _ _ _ hl) (fun w hw => (ak (bW 0 rfl hw) aO)) ?_
 refine ap (bm rfl (bu_44_0_1_2 _ _ _)) rfl rfl ?_
 refine aS a7 rfl rfl rfl .z rfl rfl rfl rfl ?_
 refine ae ?_
 refine ao ?_
 refine aV ?_
 refine ig (rs := [.cell 2 44]) rfl (dn 0 a7 rfl rfl rfl rfl d6) rfl (fun w hw => ?_)
 exact ⟨(), rfl, hw.base, (hw.weak (List.nil_sublist _) (fun s hs => hs)).toNews⟩

theorem g2 (v : Int) (l : List Le) (A : Option Addr) (c : Nat) (hl : l.length ≤ 9223372036854775807) : RC Try.prog 10 #[.agg (cU v A l.length c).toArray] [Ch.rd A 7 d4 l] (α := Unit) (fun _ => .bool (fu l 40)) (fun _ => []) := by
 refine bZ (args := [.agg (cU v A l.length c).toArray]) 6 Try.func10 rfl rfl rfl (fun w0 => ?_)
 refine ar ?_
 refine ah ?_
 refine cT rfl rfl rfl (fun b1 => ?_)
 refine ap (ai rfl) rfl rfl ?_
 refine ae ?_
 refine ao ?_
 refine ar ?_
 refine ah ?_
 refine ap (aF cL rfl) rfl rfl ?_
 refine ap (aG 0 bU rfl rfl rfl) rfl rfl ?_
 refine bi rfl ent_38 rfl (gO _ _ _ _ (by omega)) (fun w hw => (ak (bW 0 rfl hw) aO)) ?_
 refine ap (ai rfl) rfl rfl ?_
 refine ae ?_
 refine ao ?_
 refine aV ?_
 refine aY (ts := [2]) rfl rfl rfl (fun w hw => ?_)
 exact ⟨(), rfl, hw.base, (hw.weak (List.nil_sublist _) (fun s hs => hs)).toNews⟩

theorem Hp.f6 {ok0 : Nat → Prop} {w0 w : World} {a b c d e f g : Ch} {L S : List Ch} (h : Hp ok0 w0 (a :: b :: c :: d :: e :: f :: g :: L) S w) : Hp ok0 w0 (g :: a :: b :: c :: d :: e :: f :: L) S w := h.perm (List.perm_middle (l₁ := [a, b, c, d, e, f])).symm

set_option maxRecDepth 100000 in
set_option maxHeartbeats 4000000 in
theorem c_lives17  : em Try.prog 9 #[] (.bool true) := by
 intro w0
 refine ce (ok0 := no) (S := []) (args := []) 83 Try.func9 rfl rfl rfl (by simp) (by simp) ?_
 refine ar ?_
 refine ah ?_
 refine ap (ai rfl) rfl rfl ?_
 refine ae ?_
 refine ao ?_
 refine ar ?_
 refine ah ?_
 refine ap (bm rfl (bu_24)) rfl rfl ?_
 refine bf (vs := [_]) ([[66]] : List (bg)) bB Try.underlying105 cF rfl rfl rfl rfl rfl rfl (fun As1 => ?_)
 refine bi rfl dB rfl (dT _ _ _ (by decide)) (fun w hw => (ak (aK 0 rfl hw) aO)) ?_
 refine bf (vs := [_]) ([[97]] : List (bg)) bB Try.underlying105 cF rfl rfl rfl rfl rfl rfl (fun As2 => ?_)
 refine bi rfl dB rfl (dT _ _ _ (by decide)) (fun w hw => (ak (aK 0 rfl hw) aO)) ?_
 refine bf (vs := [_, _]) (p17a : List (Le)) bl Try.underlying22 a7 rfl rfl rfl rfl rfl rfl (fun As3 => ?_)
 refine ap (bm rfl (bu_27_0_2_3 _ _ _ _ _)) rfl rfl ?_
 refine a6 rfl aU rfl (a8 0 [] _ _ true 0 3 p17a _ _ [] none _ nofun p17a_tb (by decide) (by decide) (by decide) nofun) (fun w hw => (ak (eZ) (ak (bo nofun) (ak (aK 0 rfl hw) (ak (bo p17a_rd) (ak (eZ) aO)))))) (fun ⟨⟨ta, Aa, ca⟩, hta⟩ => ?_)
 refine dx (t := 15) (.tuple #[.agg (cU 3 Aa ta.length ca).toArray, .int .i64 0]) rfl (by rw [ap17_a.1]; rfl) ?_
 have hta2 : ta.map (·.e) = r17a.map (·.e) := hta.trans ap17_a.2
 refine ap (am rfl) rfl rfl ?_
 refine ap (az rfl rfl) rfl rfl ?_
 refine ap (az rfl rfl) rfl rfl ?_
 refine bu aZ rfl rfl (fun b5 => ?_)
 refine aS aZ rfl rfl rfl .z rfl rfl rfl rfl ?_
 refine ap (ai rfl) rfl rfl ?_
 refine ae ?_
 refine ao ?_
 refine w_joinL (σ := {q : List Le × Option Addr × Nat // q.1.map (·.e) = r17b.map (·.e)} × Nat) (fun g => [(3, .pointer (some ⟨g.2, 0, none⟩)), (4, .int .i64 0)]) (fun g => [Ch.rall (g.1.1.1.flatMap ff), Ch.ls g.1.1.2.1 g.1.1.2.2 44 7 d4 g.1.1.1, Ch.row g.2 (cU 4 g.1.1.2.1 g.1.1.1.length g.1.1.2.2) 24, Ch.row b5 (cU 3 Aa ta.length ca) 24, Ch.ls Aa ca 44 7 d4 ta]) (fun g => ?_) (fun J2 => ?_)
 obtain ⟨⟨⟨tb, Ab9, cb⟩, htb2⟩, q3⟩ := g
 dsimp only at htb2 ⊢
 refine ar ?_
 refine ah ?_
 refine ap (bp 2 aZ rfl rfl rfl rfl) rfl rfl ?_
 refine ap (bm rfl (bu_27_0_2 _ _)) rfl rfl ?_
 refine a6 rfl aU rfl (a8 4 tb _ _ true 0 4 [] none _ [] none _ (r17b_tb htb2) nofun (by rw [d7 htb2]; decide) (by decide) (by decide) nofun) (fun w hw => (ak (aK 1 rfl hw) (ak (ci 0 rfl hw) (ak (eZ) (ak (bo nofun) (ak (eZ) aO)))))) (fun ⟨⟨tc, Ac, cc⟩, htc⟩ => ?_)
 have hc9 : (bM 4 tb true 0 4 [] []).1 = 9 := ((apply_e htb2 rfl).1).trans ap17_c
 refine dx (t := 33) (.tuple #[.agg (cU 0 Ac tc.length cc).toArray, .int .i64 9]) rfl (by rw [hc9]; rfl) ?_
 refine ap (am rfl) rfl rfl ?_
 refine ap (az rfl rfl) rfl rfl ?_
 refine ap (az rfl rfl) rfl rfl ?_
 refine bu aZ rfl rfl (fun b7 => ?_)
 refine aS aZ rfl rfl rfl .z rfl rfl rfl rfl ?_
 refine ap (ai rfl) rfl rfl ?_
 refine ae ?_
 refine ao ?_
 refine ar ?_
 refine gB 48 rfl mixed ?_
 refine au (i := 0) rfl aa (am rfl) aD aD rfl (aj av) (by as_aux_lemma => kernel_rfl) rfl ?_
 refine au (i := 1) rfl aa (dg rfl rfl) aD aD rfl (aj av) (by as_aux_lemma => kernel_rfl) rfl ?_
 refine wu_at (t := 37) rfl rfl ?_
 refine au (i := 2) rfl aa (am rfl) aD aD rfl (aj av) (by as_aux_lemma => kernel_rfl) rfl ?_
 refine au (i := 3) rfl (bG rfl rfl) (aF cL rfl) aD aD rfl (aj av) (by as_aux_lemma => kernel_rfl) rfl ?_
 refine au (i := 4) rfl (bG rfl rfl) (aG 6 bU rfl rfl rfl) aD aD rfl (aj av) (by as_aux_lemma => kernel_rfl) rfl ?_
 refine au (i := 5) rfl (bG rfl rfl) (bI Try.underlying22 rfl) aD aD rfl (aj av) (by as_aux_lemma => kernel_rfl) rfl ?_
 refine au (i := 6) rfl (bG rfl rfl) (dg rfl rfl) aD aD rfl (aj av) (by as_aux_lemma => kernel_rfl) rfl ?_
 refine wu_at (t := 42) rfl (by rw [d7 hta2]; rfl) ?_
 refine au (i := 7) rfl aa (aM rfl rfl) aD aD rfl (aj av) (by as_aux_lemma => kernel_rfl) rfl ?_
 refine au (i := 8) rfl aa (am rfl) aD aD rfl (aj av) (by as_aux_lemma => kernel_rfl) rfl ?_
 refine au (i := 9) rfl (bG rfl rfl) (aF cL rfl) aD aD rfl (aj av) (by as_aux_lemma => kernel_rfl) rfl ?_
 refine au (i := 10) rfl (bG rfl rfl) (aG 6 bU rfl rfl rfl) aD aD rfl (aj av) (by as_aux_lemma => kernel_rfl) rfl ?_
 refine au (i := 11) rfl (bG rfl rfl) (cj (k := 1) Try.underlying22 a7 rfl rfl (dU 7 rfl) rfl (by rw [d7 hta2]; decide)) aD aD rfl (aj av) (by as_aux_lemma => kernel_rfl) rfl ?_
 refine au (i := 12) rfl (bG rfl rfl) (aF dA rfl) aD aD rfl (aj av) (by as_aux_lemma => kernel_rfl) rfl ?_
 refine au (i := 13) rfl (bG rfl rfl) (cR (k := 1) bl bO bF rfl (dU 7 rfl) (by rw [d7 hta2]; decide) rfl rfl) aD aD rfl (aj av) (by as_aux_lemma => kernel_rfl) rfl ?_
 refine aP (i := 14) rfl rfl rfl (fun _ _ _ => ax (by as_aux_lemma => kernel_rfl)) (by as_aux_lemma => kernel_rfl) rfl ?_
 refine aw rfl rfl ?_
 refine bf (vs := [_]) ([[66]] : List (bg)) bB Try.underlying105 cF rfl rfl rfl rfl rfl rfl (fun As8 => ?_)
 refine ae ?_
 refine ay (aL 1) ?_
 refine aP (i := 15) rfl rfl rfl (aH rfl bH) (by as_aux_lemma => kernel_rfl) rfl ?_
 refine aw rfl rfl ?_
 refine bi rfl bH rfl (bT _ _ _ (by decide)) (fun w hw => (ak (aK 0 rfl hw) aO)) ?_
 refine ae ?_
 refine ay (aL 1) ?_
 refine au (i := 16) rfl (bG rfl rfl) (eT rfl rfl) (aL 1) aD rfl (aj av) (by as_aux_lemma => kernel_rfl) rfl ?_
 refine wu_at (t := 52) rfl (at17 hta2 rfl) ?_
 refine au (i := 17) rfl aa (aM rfl rfl) (aL 1) aD rfl (aj av) (by as_aux_lemma => kernel_rfl) rfl ?_
 refine au (i := 18) rfl aa (am rfl) (aL 1) aD rfl (aj av) (by as_aux_lemma => kernel_rfl) rfl ?_
 refine au (i := 19) rfl (bG rfl rfl) (am rfl) (aL 1) aD rfl (aj av) (by as_aux_lemma => kernel_rfl) rfl ?_
 refine au (i := 20) rfl (bG rfl rfl) (dg rfl rfl) (aL 1) aD rfl (aj av) (by as_aux_lemma => kernel_rfl) rfl ?_
 refine wu_at (t := 56) rfl rfl ?_
 refine au (i := 21) rfl aa (aM rfl rfl) (aL 1) aD rfl (aj av) (by as_aux_lemma => kernel_rfl) rfl ?_
 refine au (i := 22) rfl aa (am rfl) (aL 1) aD rfl (aj av) (by as_aux_lemma => kernel_rfl) rfl ?_
 refine au (i := 23) rfl (bG rfl rfl) (aF cL rfl) (aL 1) aD rfl (aj av) (by as_aux_lemma => kernel_rfl) rfl ?_
 refine au (i := 24) rfl (bG rfl rfl) (aG 5 bU rfl rfl rfl) (aL 1) aD rfl (aj av) (by as_aux_lemma => kernel_rfl) rfl ?_
 refine au (i := 25) rfl (bG rfl rfl) (bI Try.underlying22 rfl) (aL 1) aD rfl (aj av) (by as_aux_lemma => kernel_rfl) rfl ?_
 refine au (i := 26) rfl (bG rfl rfl) (dg rfl rfl) (aL 1) aD rfl (aj av) (by as_aux_lemma => kernel_rfl) rfl ?_
 refine wu_at (t := 62) rfl (by rw [d7 htb2]; rfl) ?_
 refine au (i := 27) rfl aa (aM rfl rfl) (aL 1) aD rfl (aj av) (by as_aux_lemma => kernel_rfl) rfl ?_
 refine au (i := 28) rfl aa (am rfl) (aL 1) aD rfl (aj av) (by as_aux_lemma => kernel_rfl) rfl ?_
 refine au (i := 29) rfl (bG rfl rfl) (aF cL rfl) (aL 1) aD rfl (aj av) (by as_aux_lemma => kernel_rfl) rfl ?_
 refine au (i := 30) rfl (bG rfl rfl) (aG 5 bU rfl rfl rfl) (aL 1) aD rfl (aj av) (by as_aux_lemma => kernel_rfl) rfl ?_
 refine au (i := 31) rfl (bG rfl rfl) (cj (k := 1) Try.underlying22 a7 rfl rfl (dU 4 rfl) rfl (by rw [d7 htb2]; decide)) (aL 1) aD rfl (aj av) (by as_aux_lemma => kernel_rfl) rfl ?_
 refine au (i := 32) rfl (bG rfl rfl) (aF dA rfl) (aL 1) aD rfl (aj av) (by as_aux_lemma => kernel_rfl) rfl ?_
 refine au (i := 33) rfl (bG rfl rfl) (cR (k := 1) bl bO bF rfl (dU 4 rfl) (by rw [d7 htb2]; decide) rfl rfl) (aL 1) aD rfl (aj av) (by as_aux_lemma => kernel_rfl) rfl ?_
 refine aP (i := 34) rfl rfl rfl (fun _ _ _ => ax (by as_aux_lemma => kernel_rfl)) (by as_aux_lemma => kernel_rfl) rfl ?_
 refine aw rfl rfl ?_
 refine bf (vs := [_]) ([[99]] : List (bg)) bB Try.underlying105 cF rfl rfl rfl rfl rfl rfl (fun As9 => ?_)
 refine ae ?_
 refine ay (aL 2) ?_
 refine aP (i := 35) rfl rfl rfl (aH rfl bH) (by as_aux_lemma => kernel_rfl) rfl ?_
 refine aw rfl rfl ?_
 refine bi rfl bH rfl (bT _ _ _ (by decide)) (fun w hw => (ak (aK 0 rfl hw) aO)) ?_
 refine ae ?_
 refine ay (aL 2) ?_
 refine au (i := 36) rfl (bG rfl rfl) (eT rfl rfl) (aL 2) aD rfl (aj av) (by as_aux_lemma => kernel_rfl) rfl ?_
 refine wu_at (t := 72) rfl (at17 htb2 rfl) ?_
 refine au (i := 37) rfl aa (aM rfl rfl) (aL 2) aD rfl (aj av) (by as_aux_lemma => kernel_rfl) rfl ?_
 refine au (i := 38) rfl aa (am rfl) (aL 2) aD rfl (aj av) (by as_aux_lemma => kernel_rfl) rfl ?_
 refine au (i := 39) rfl (bG rfl rfl) (aF cX rfl) (aL 2) aD rfl (aj av) (by as_aux_lemma => kernel_rfl) rfl ?_
 refine au (i := 40) rfl (bG rfl rfl) (aG 5 cW rfl rfl rfl) (aL 2) aD rfl (aj av) (by as_aux_lemma => kernel_rfl) rfl ?_
 refine au (i := 41) rfl (bG rfl rfl) (dg rfl rfl) (aL 2) aD rfl (aj av) (by as_aux_lemma => kernel_rfl) rfl ?_
 refine wu_at (t := 77) rfl rfl ?_
 refine au (i := 42) rfl aa (aM rfl rfl) (aL 2) aD rfl (aj av) (by as_aux_lemma => kernel_rfl) rfl ?_
 refine au (i := 43) rfl aa (am rfl) (aL 2) aD rfl (aj av) (by as_aux_lemma => kernel_rfl) rfl ?_
 refine au (i := 44) rfl (bG rfl rfl) (am rfl) (aL 2) aD rfl (aj av) (by as_aux_lemma => kernel_rfl) rfl ?_
 refine au (i := 45) rfl (bG rfl rfl) (dg rfl rfl) (aL 2) aD rfl (aj av) (by as_aux_lemma => kernel_rfl) rfl ?_
 refine wu_at (t := 81) rfl rfl ?_
 refine au (i := 46) rfl aa (aM rfl rfl) (aL 2) aD rfl (aj av) (by as_aux_lemma => kernel_rfl) rfl ?_
 refine au (i := 47) rfl aa (ai rfl) (aL 2) aD rfl (aj av) (by as_aux_lemma => kernel_rfl) rfl ?_
 refine bA (by as_aux_lemma => kernel_rfl) ?_
 refine ao ?_
 refine aV ?_
 refine aY (ts := [0]) rfl rfl rfl (fun w hw => ?_)
 exact ⟨rfl, hw.base⟩
 refine ar ?_
 have htaok := r17a_tb hta2
 have htal : ta.length ≤ 1000 := by rw [d7 hta2]; decide
 have hb9 := to17 hta2 ap17_b
 refine gB 15 rfl mixed ?_
 refine au (i := 0) rfl aa (bp 0 aZ rfl rfl rfl rfl) aD aD rfl (aj av) (by as_aux_lemma => kernel_rfl) rfl ?_
 refine bJ (js := [1, 4, 12]) (by as_aux_lemma => kernel_rfl) rfl ?_
 refine aJ (i := 1) rfl rfl rfl (fun _ _ _ => ax (by as_aux_lemma => kernel_rfl)) rfl ?_ ?_
 refine bf (vs := [_]) ([[99]] : List (bg)) bB Try.underlying105 cF rfl rfl rfl rfl rfl rfl (fun As10 => ?_)
 refine ae ?_
 refine ay (aL 1) ?_
 refine bJ (js := [2, 4, 12]) (by as_aux_lemma => kernel_rfl) rfl ?_
 refine aJ (i := 2) rfl rfl rfl (aH rfl dB) rfl ?_ ?_
 refine bi rfl dB rfl (dT _ _ _ (by decide)) (fun w hw => (ak (aK 0 rfl hw) aO)) ?_
 refine ae ?_
 refine ay (aL 1) ?_
 refine bJ (js := [3, 4, 12]) (by as_aux_lemma => kernel_rfl) rfl ?_
 refine aJ (i := 3) rfl rfl rfl (fun _ _ _ => ax (by as_aux_lemma => kernel_rfl)) rfl ?_ ?_
 refine bf (vs := [_]) (p17b : List (Le)) bl Try.underlying22 a7 rfl rfl rfl rfl rfl rfl (fun As11 => ?_)
 refine ae ?_
 refine ay (aL 2) ?_
 refine bJ (js := [4, 12]) (by as_aux_lemma => kernel_rfl) rfl ?_
 refine aJ (i := 4) rfl rfl rfl (fun _ _ _ => ax (by as_aux_lemma => kernel_rfl)) rfl ?_ ?_
 refine bf (vs := [_]) ([[98]] : List (bg)) bB Try.underlying105 cF rfl rfl rfl rfl rfl rfl (fun As12 => ?_)
 refine ae ?_
 refine ay (aL 3) ?_
 refine bJ (js := [5, 12]) (by as_aux_lemma => kernel_rfl) rfl ?_
 refine aJ (i := 5) rfl rfl rfl (aH rfl bH) rfl ?_ ?_
 refine bi rfl bH rfl (bT _ _ _ (by decide)) (fun w hw => (ak (aK 0 rfl hw) aO)) ?_
 refine ae ?_
 refine ay (aL 3) ?_
 refine bJ (js := [6, 12]) (by as_aux_lemma => kernel_rfl) rfl ?_
 refine aJ (i := 6) rfl rfl rfl (fun _ _ _ => ax (by as_aux_lemma => kernel_rfl)) rfl ?_ ?_
 refine bf (vs := [_]) ([cI 98] : List (bg)) bB Try.underlying25 bF rfl rfl rfl rfl rfl rfl (fun As13 => ?_)
 refine ae ?_
 refine ay (aL 4) ?_
 refine au (i := 7) rfl aa (bm rfl (aR _ _ _ _ _ _ _ _)) (aL 4) aD rfl (aj av) (by as_aux_lemma => kernel_rfl) rfl ?_
 refine bJ (js := [8, 12]) (by as_aux_lemma => kernel_rfl) rfl ?_
 refine aJ (i := 8) rfl rfl rfl (aH rfl aU) rfl ?_ ?_
 refine a6 rfl aU rfl (a8 3 ta _ _ false 3 4 p17b _ _ [cI 98] _ _ htaok bw htal (by decide) (by decide) bk) (fun w hw => (ak (aK 6 rfl hw) (ak (ci 5 rfl hw) (ak (aK 2 rfl hw) (ak (bo bv) (ak (aK 0 rfl hw) aO)))))) (fun ⟨⟨tb, Ab, cb⟩, htb⟩ => ?_)
 refine ae ?_
 refine ay (aL 6) ?_
 refine bN (t := 27) (.tuple #[.agg (cU 4 Ab tb.length cb).toArray, .int .i64 0]) rfl (by rw [hb9.1]; rfl) ?_
 have htb2 : tb.map (·.e) = r17b.map (·.e) := htb.trans hb9.2
 refine au (i := 9) rfl aa (am rfl) (aL 6) aD rfl (aj av) (by as_aux_lemma => kernel_rfl) rfl ?_
 refine au (i := 10) rfl aa (az rfl rfl) (aL 6) aD rfl (aj av) (by as_aux_lemma => kernel_rfl) rfl ?_
 refine au (i := 11) rfl aa (az rfl rfl) (aL 6) aD rfl (aj av) (by as_aux_lemma => kernel_rfl) rfl ?_
 refine aP (i := 12) rfl rfl rfl (fun _ _ _ => ax (by as_aux_lemma => kernel_rfl)) (by as_aux_lemma => kernel_rfl) rfl ?_
 refine bu aZ rfl rfl (fun b15 => ?_)
 refine ae ?_
 refine ay (aL 7) ?_
 refine aP (i := 13) rfl rfl rfl (fun _ _ _ => ax (by as_aux_lemma => kernel_rfl)) (by as_aux_lemma => kernel_rfl) rfl ?_
 refine aS aZ rfl rfl rfl .z rfl rfl rfl rfl ?_
 refine ae ?_
 refine ay (aL 7) ?_
 refine au (i := 14) rfl aa (ai rfl) (aL 7) aD rfl (aj av) (by as_aux_lemma => kernel_rfl) rfl ?_
 refine bA (by as_aux_lemma => kernel_rfl) ?_
 refine ao ?_
 refine bD (fun w h => (h.weak (.cons_cons _ (.cons_cons _ (.cons_cons _ (.cons _ (.cons _ (.cons _ (.cons _ (.cons_cons _ (.cons _ (.cons_cons _ (.cons _ (.cons _ (.cons _ .slnil))))))))))))) (fun s hs => hs)).f4.f4.f2.f4.f4) ?_
 exact J2 (⟨(tb, Ab, cb), htb2⟩, b15) _ (by repeat (first | exact trivial | refine ⟨rfl, ?_⟩))
 refine aJ (i := 12) rfl rfl rfl (fun _ _ _ => ax (by as_aux_lemma => kernel_rfl)) rfl ?_ ?_
 refine bu aZ rfl rfl (fun b16 => ?_)
 refine ae ?_
 refine ay (aL 5) ?_
 refine aP (i := 8) rfl rfl rfl (aH rfl aU) (by as_aux_lemma => kernel_rfl) rfl ?_
 refine a6 rfl aU rfl (a8 3 ta _ _ false 3 4 p17b _ _ [cI 98] _ _ htaok bw htal (by decide) (by decide) bk) (fun w hw => (ak (aK 7 rfl hw) (ak (ci 6 rfl hw) (ak (aK 3 rfl hw) (ak (bo bv) (ak (aK 1 rfl hw) aO)))))) (fun ⟨⟨tb, Ab, cb⟩, htb⟩ => ?_)
 refine ae ?_
 refine ay (aL 7) ?_
 refine bN (t := 27) (.tuple #[.agg (cU 4 Ab tb.length cb).toArray, .int .i64 0]) rfl (by rw [hb9.1]; rfl) ?_
 have htb2 : tb.map (·.e) = r17b.map (·.e) := htb.trans hb9.2
 refine au (i := 9) rfl aa (am rfl) (aL 7) aD rfl (aj av) (by as_aux_lemma => kernel_rfl) rfl ?_
 refine au (i := 10) rfl aa (az rfl rfl) (aL 7) aD rfl (aj av) (by as_aux_lemma => kernel_rfl) rfl ?_
 refine au (i := 11) rfl aa (az rfl rfl) (aL 7) aD rfl (aj av) (by as_aux_lemma => kernel_rfl) rfl ?_
 refine aP (i := 13) rfl rfl rfl (fun _ _ _ => ax (by as_aux_lemma => kernel_rfl)) (by as_aux_lemma => kernel_rfl) rfl ?_
 refine aS aZ rfl rfl rfl (.s (.s (.z))) rfl rfl rfl rfl ?_
 refine ae ?_
 refine ay (aL 7) ?_
 refine au (i := 14) rfl aa (ai rfl) (aL 7) aD rfl (aj av) (by as_aux_lemma => kernel_rfl) rfl ?_
 refine bA (by as_aux_lemma => kernel_rfl) ?_
 refine ao ?_
 refine bD (fun w h => (h.weak (.cons_cons _ (.cons_cons _ (.cons_cons _ (.cons _ (.cons _ (.cons _ (.cons _ (.cons_cons _ (.cons _ (.cons_cons _ (.cons _ (.cons _ (.cons _ .slnil))))))))))))) (fun s hs => hs)).f4.f4.f4.f4.f4) ?_
 exact J2 (⟨(tb, Ab, cb), htb2⟩, b16) _ (by repeat (first | exact trivial | refine ⟨rfl, ?_⟩))
 exact bx
 refine aJ (i := 12) rfl rfl rfl (fun _ _ _ => ax (by as_aux_lemma => kernel_rfl)) rfl ?_ ?_
 refine bu aZ rfl rfl (fun b18 => ?_)
 refine ae ?_
 refine ay (aL 4) ?_
 refine aP (i := 6) rfl rfl rfl (fun _ _ _ => ax (by as_aux_lemma => kernel_rfl)) (by as_aux_lemma => kernel_rfl) rfl ?_
 refine bf (vs := [_]) ([cI 98] : List (bg)) bB Try.underlying25 bF rfl rfl rfl rfl rfl rfl (fun As19 => ?_)
 refine ae ?_
 refine ay (aL 5) ?_
 refine au (i := 7) rfl aa (bm rfl (aR _ _ _ _ _ _ _ _)) (aL 5) aD rfl (aj av) (by as_aux_lemma => kernel_rfl) rfl ?_
 refine aP (i := 8) rfl rfl rfl (aH rfl aU) (by as_aux_lemma => kernel_rfl) rfl ?_
 refine a6 rfl aU rfl (a8 3 ta _ _ false 3 4 p17b _ _ [cI 98] _ _ htaok bw htal (by decide) (by decide) bk) (fun w hw => (ak (aK 7 rfl hw) (ak (ci 6 rfl hw) (ak (aK 3 rfl hw) (ak (bo bv) (ak (aK 0 rfl hw) aO)))))) (fun ⟨⟨tb, Ab, cb⟩, htb⟩ => ?_)
 refine ae ?_
 refine ay (aL 7) ?_
 refine bN (t := 27) (.tuple #[.agg (cU 4 Ab tb.length cb).toArray, .int .i64 0]) rfl (by rw [hb9.1]; rfl) ?_
 have htb2 : tb.map (·.e) = r17b.map (·.e) := htb.trans hb9.2
 refine au (i := 9) rfl aa (am rfl) (aL 7) aD rfl (aj av) (by as_aux_lemma => kernel_rfl) rfl ?_
 refine au (i := 10) rfl aa (az rfl rfl) (aL 7) aD rfl (aj av) (by as_aux_lemma => kernel_rfl) rfl ?_
 refine au (i := 11) rfl aa (az rfl rfl) (aL 7) aD rfl (aj av) (by as_aux_lemma => kernel_rfl) rfl ?_
 refine aP (i := 13) rfl rfl rfl (fun _ _ _ => ax (by as_aux_lemma => kernel_rfl)) (by as_aux_lemma => kernel_rfl) rfl ?_
 refine aS aZ rfl rfl rfl (.s (.s (.s (.z)))) rfl rfl rfl rfl ?_
 refine ae ?_
 refine ay (aL 7) ?_
 refine au (i := 14) rfl aa (ai rfl) (aL 7) aD rfl (aj av) (by as_aux_lemma => kernel_rfl) rfl ?_
 refine bA (by as_aux_lemma => kernel_rfl) ?_
 refine ao ?_
 refine bD (fun w h => (h.weak (.cons_cons _ (.cons_cons _ (.cons _ (.cons_cons _ (.cons _ (.cons _ (.cons _ (.cons_cons _ (.cons _ (.cons_cons _ (.cons _ (.cons _ (.cons _ .slnil))))))))))))) (fun s hs => hs)).f4.f4.f4.f4.f4) ?_
 exact J2 (⟨(tb, Ab, cb), htb2⟩, b18) _ (by repeat (first | exact trivial | refine ⟨rfl, ?_⟩))
 exact bx
 refine aJ (i := 12) rfl rfl rfl (fun _ _ _ => ax (by as_aux_lemma => kernel_rfl)) rfl ?_ ?_
 refine bu aZ rfl rfl (fun b21 => ?_)
 refine ae ?_
 refine ay (aL 4) ?_
 refine aP (i := 5) rfl rfl rfl (aH rfl bH) (by as_aux_lemma => kernel_rfl) rfl ?_
 refine bi rfl bH rfl (bT _ _ _ (by decide)) (fun w hw => (ak (aK 1 rfl hw) aO)) ?_
 refine ae ?_
 refine ay (aL 4) ?_
 refine aP (i := 6) rfl rfl rfl (fun _ _ _ => ax (by as_aux_lemma => kernel_rfl)) (by as_aux_lemma => kernel_rfl) rfl ?_
 refine bf (vs := [_]) ([cI 98] : List (bg)) bB Try.underlying25 bF rfl rfl rfl rfl rfl rfl (fun As22 => ?_)
 refine ae ?_
 refine ay (aL 5) ?_
 refine au (i := 7) rfl aa (bm rfl (aR _ _ _ _ _ _ _ _)) (aL 5) aD rfl (aj av) (by as_aux_lemma => kernel_rfl) rfl ?_
 refine aP (i := 8) rfl rfl rfl (aH rfl aU) (by as_aux_lemma => kernel_rfl) rfl ?_
 refine a6 rfl aU rfl (a8 3 ta _ _ false 3 4 p17b _ _ [cI 98] _ _ htaok bw htal (by decide) (by decide) bk) (fun w hw => (ak (aK 7 rfl hw) (ak (ci 6 rfl hw) (ak (aK 3 rfl hw) (ak (bo bv) (ak (aK 0 rfl hw) aO)))))) (fun ⟨⟨tb, Ab, cb⟩, htb⟩ => ?_)
 refine ae ?_
 refine ay (aL 7) ?_
 refine bN (t := 27) (.tuple #[.agg (cU 4 Ab tb.length cb).toArray, .int .i64 0]) rfl (by rw [hb9.1]; rfl) ?_
 have htb2 : tb.map (·.e) = r17b.map (·.e) := htb.trans hb9.2
 refine au (i := 9) rfl aa (am rfl) (aL 7) aD rfl (aj av) (by as_aux_lemma => kernel_rfl) rfl ?_
 refine au (i := 10) rfl aa (az rfl rfl) (aL 7) aD rfl (aj av) (by as_aux_lemma => kernel_rfl) rfl ?_
 refine au (i := 11) rfl aa (az rfl rfl) (aL 7) aD rfl (aj av) (by as_aux_lemma => kernel_rfl) rfl ?_
 refine aP (i := 13) rfl rfl rfl (fun _ _ _ => ax (by as_aux_lemma => kernel_rfl)) (by as_aux_lemma => kernel_rfl) rfl ?_
 refine aS aZ rfl rfl rfl (.s (.s (.s (.z)))) rfl rfl rfl rfl ?_
 refine ae ?_
 refine ay (aL 7) ?_
 refine au (i := 14) rfl aa (ai rfl) (aL 7) aD rfl (aj av) (by as_aux_lemma => kernel_rfl) rfl ?_
 refine bA (by as_aux_lemma => kernel_rfl) ?_
 refine ao ?_
 refine bD (fun w h => (h.weak (.cons_cons _ (.cons_cons _ (.cons _ (.cons_cons _ (.cons _ (.cons _ (.cons _ (.cons_cons _ (.cons _ (.cons_cons _ (.cons _ (.cons _ (.cons _ .slnil))))))))))))) (fun s hs => hs)).f4.f4.f4.f4.f4) ?_
 exact J2 (⟨(tb, Ab, cb), htb2⟩, b21) _ (by repeat (first | exact trivial | refine ⟨rfl, ?_⟩))
 exact bx
 refine aJ (i := 12) rfl rfl rfl (fun _ _ _ => ax (by as_aux_lemma => kernel_rfl)) rfl ?_ ?_
 refine bu aZ rfl rfl (fun b24 => ?_)
 refine ae ?_
 refine ay (aL 3) ?_
 refine aP (i := 4) rfl rfl rfl (fun _ _ _ => ax (by as_aux_lemma => kernel_rfl)) (by as_aux_lemma => kernel_rfl) rfl ?_
 refine bf (vs := [_]) ([[98]] : List (bg)) bB Try.underlying105 cF rfl rfl rfl rfl rfl rfl (fun As25 => ?_)
 refine ae ?_
 refine ay (aL 4) ?_
 refine aP (i := 5) rfl rfl rfl (aH rfl bH) (by as_aux_lemma => kernel_rfl) rfl ?_
 refine bi rfl bH rfl (bT _ _ _ (by decide)) (fun w hw => (ak (aK 0 rfl hw) aO)) ?_
 refine ae ?_
 refine ay (aL 4) ?_
 refine aP (i := 6) rfl rfl rfl (fun _ _ _ => ax (by as_aux_lemma => kernel_rfl)) (by as_aux_lemma => kernel_rfl) rfl ?_
 refine bf (vs := [_]) ([cI 98] : List (bg)) bB Try.underlying25 bF rfl rfl rfl rfl rfl rfl (fun As26 => ?_)
 refine ae ?_
 refine ay (aL 5) ?_
 refine au (i := 7) rfl aa (bm rfl (aR _ _ _ _ _ _ _ _)) (aL 5) aD rfl (aj av) (by as_aux_lemma => kernel_rfl) rfl ?_
 refine aP (i := 8) rfl rfl rfl (aH rfl aU) (by as_aux_lemma => kernel_rfl) rfl ?_
 refine a6 rfl aU rfl (a8 3 ta _ _ false 3 4 p17b _ _ [cI 98] _ _ htaok bw htal (by decide) (by decide) bk) (fun w hw => (ak (aK 7 rfl hw) (ak (ci 6 rfl hw) (ak (aK 3 rfl hw) (ak (bo bv) (ak (aK 0 rfl hw) aO)))))) (fun ⟨⟨tb, Ab, cb⟩, htb⟩ => ?_)
 refine ae ?_
 refine ay (aL 7) ?_
 refine bN (t := 27) (.tuple #[.agg (cU 4 Ab tb.length cb).toArray, .int .i64 0]) rfl (by rw [hb9.1]; rfl) ?_
 have htb2 : tb.map (·.e) = r17b.map (·.e) := htb.trans hb9.2
 refine au (i := 9) rfl aa (am rfl) (aL 7) aD rfl (aj av) (by as_aux_lemma => kernel_rfl) rfl ?_
 refine au (i := 10) rfl aa (az rfl rfl) (aL 7) aD rfl (aj av) (by as_aux_lemma => kernel_rfl) rfl ?_
 refine au (i := 11) rfl aa (az rfl rfl) (aL 7) aD rfl (aj av) (by as_aux_lemma => kernel_rfl) rfl ?_
 refine aP (i := 13) rfl rfl rfl (fun _ _ _ => ax (by as_aux_lemma => kernel_rfl)) (by as_aux_lemma => kernel_rfl) rfl ?_
 refine aS aZ rfl rfl rfl (.s (.s (.s (.s (.z))))) rfl rfl rfl rfl ?_
 refine ae ?_
 refine ay (aL 7) ?_
 refine au (i := 14) rfl aa (ai rfl) (aL 7) aD rfl (aj av) (by as_aux_lemma => kernel_rfl) rfl ?_
 refine bA (by as_aux_lemma => kernel_rfl) ?_
 refine ao ?_
 refine bD (fun w h => (h.weak (.cons_cons _ (.cons_cons _ (.cons _ (.cons _ (.cons_cons _ (.cons _ (.cons _ (.cons_cons _ (.cons _ (.cons_cons _ (.cons _ (.cons _ (.cons _ .slnil))))))))))))) (fun s hs => hs)).f4.f4.f4.f4.f4) ?_
 exact J2 (⟨(tb, Ab, cb), htb2⟩, b24) _ (by repeat (first | exact trivial | refine ⟨rfl, ?_⟩))
 exact bx
 refine aJ (i := 4) rfl rfl rfl (fun _ _ _ => ax (by as_aux_lemma => kernel_rfl)) rfl ?_ ?_
 refine bf (vs := [_]) ([[98]] : List (bg)) bB Try.underlying105 cF rfl rfl rfl rfl rfl rfl (fun As28 => ?_)
 refine ae ?_
 refine ay (aL 2) ?_
 refine bJ (js := [3, 5, 12]) (by as_aux_lemma => kernel_rfl) rfl ?_
 refine aJ (i := 3) rfl rfl rfl (fun _ _ _ => ax (by as_aux_lemma => kernel_rfl)) rfl ?_ ?_
 refine bf (vs := [_]) (p17b : List (Le)) bl Try.underlying22 a7 rfl rfl rfl rfl rfl rfl (fun As29 => ?_)
 refine ae ?_
 refine ay (aL 3) ?_
 refine bJ (js := [5, 12]) (by as_aux_lemma => kernel_rfl) rfl ?_
 refine aJ (i := 5) rfl rfl rfl (aH rfl bH) rfl ?_ ?_
 refine bi rfl bH rfl (bT _ _ _ (by decide)) (fun w hw => (ak (aK 1 rfl hw) aO)) ?_
 refine ae ?_
 refine ay (aL 3) ?_
 refine bJ (js := [6, 12]) (by as_aux_lemma => kernel_rfl) rfl ?_
 refine aJ (i := 6) rfl rfl rfl (fun _ _ _ => ax (by as_aux_lemma => kernel_rfl)) rfl ?_ ?_
 refine bf (vs := [_]) ([cI 98] : List (bg)) bB Try.underlying25 bF rfl rfl rfl rfl rfl rfl (fun As30 => ?_)
 refine ae ?_
 refine ay (aL 4) ?_
 refine au (i := 7) rfl aa (bm rfl (aR _ _ _ _ _ _ _ _)) (aL 4) aD rfl (aj av) (by as_aux_lemma => kernel_rfl) rfl ?_
 refine bJ (js := [8, 12]) (by as_aux_lemma => kernel_rfl) rfl ?_
 refine aJ (i := 8) rfl rfl rfl (aH rfl aU) rfl ?_ ?_
 refine a6 rfl aU rfl (a8 3 ta _ _ false 3 4 p17b _ _ [cI 98] _ _ htaok bw htal (by decide) (by decide) bk) (fun w hw => (ak (aK 6 rfl hw) (ak (ci 5 rfl hw) (ak (aK 1 rfl hw) (ak (bo bv) (ak (aK 0 rfl hw) aO)))))) (fun ⟨⟨tb, Ab, cb⟩, htb⟩ => ?_)
 refine ae ?_
 refine ay (aL 6) ?_
 refine bN (t := 27) (.tuple #[.agg (cU 4 Ab tb.length cb).toArray, .int .i64 0]) rfl (by rw [hb9.1]; rfl) ?_
 have htb2 : tb.map (·.e) = r17b.map (·.e) := htb.trans hb9.2
 refine au (i := 9) rfl aa (am rfl) (aL 6) aD rfl (aj av) (by as_aux_lemma => kernel_rfl) rfl ?_
 refine au (i := 10) rfl aa (az rfl rfl) (aL 6) aD rfl (aj av) (by as_aux_lemma => kernel_rfl) rfl ?_
 refine au (i := 11) rfl aa (az rfl rfl) (aL 6) aD rfl (aj av) (by as_aux_lemma => kernel_rfl) rfl ?_
 refine aP (i := 12) rfl rfl rfl (fun _ _ _ => ax (by as_aux_lemma => kernel_rfl)) (by as_aux_lemma => kernel_rfl) rfl ?_
 refine bu aZ rfl rfl (fun b32 => ?_)
 refine ae ?_
 refine ay (aL 7) ?_
 refine aP (i := 13) rfl rfl rfl (fun _ _ _ => ax (by as_aux_lemma => kernel_rfl)) (by as_aux_lemma => kernel_rfl) rfl ?_
 refine aS aZ rfl rfl rfl .z rfl rfl rfl rfl ?_
 refine ae ?_
 refine ay (aL 7) ?_
 refine au (i := 14) rfl aa (ai rfl) (aL 7) aD rfl (aj av) (by as_aux_lemma => kernel_rfl) rfl ?_
 refine bA (by as_aux_lemma => kernel_rfl) ?_
 refine ao ?_
 refine bD (fun w h => (h.weak (.cons_cons _ (.cons_cons _ (.cons_cons _ (.cons _ (.cons _ (.cons _ (.cons _ (.cons_cons _ (.cons _ (.cons_cons _ (.cons _ (.cons _ (.cons _ .slnil))))))))))))) (fun s hs => hs)).f4.f4.f2.f4.f4) ?_
 exact J2 (⟨(tb, Ab, cb), htb2⟩, b32) _ (by repeat (first | exact trivial | refine ⟨rfl, ?_⟩))
 refine aJ (i := 12) rfl rfl rfl (fun _ _ _ => ax (by as_aux_lemma => kernel_rfl)) rfl ?_ ?_
 refine bu aZ rfl rfl (fun b33 => ?_)
 refine ae ?_
 refine ay (aL 5) ?_
 refine aP (i := 8) rfl rfl rfl (aH rfl aU) (by as_aux_lemma => kernel_rfl) rfl ?_
 refine a6 rfl aU rfl (a8 3 ta _ _ false 3 4 p17b _ _ [cI 98] _ _ htaok bw htal (by decide) (by decide) bk) (fun w hw => (ak (aK 7 rfl hw) (ak (ci 6 rfl hw) (ak (aK 2 rfl hw) (ak (bo bv) (ak (aK 1 rfl hw) aO)))))) (fun ⟨⟨tb, Ab, cb⟩, htb⟩ => ?_)
 refine ae ?_
 refine ay (aL 7) ?_
 refine bN (t := 27) (.tuple #[.agg (cU 4 Ab tb.length cb).toArray, .int .i64 0]) rfl (by rw [hb9.1]; rfl) ?_
 have htb2 : tb.map (·.e) = r17b.map (·.e) := htb.trans hb9.2
 refine au (i := 9) rfl aa (am rfl) (aL 7) aD rfl (aj av) (by as_aux_lemma => kernel_rfl) rfl ?_
 refine au (i := 10) rfl aa (az rfl rfl) (aL 7) aD rfl (aj av) (by as_aux_lemma => kernel_rfl) rfl ?_
 refine au (i := 11) rfl aa (az rfl rfl) (aL 7) aD rfl (aj av) (by as_aux_lemma => kernel_rfl) rfl ?_
 refine aP (i := 13) rfl rfl rfl (fun _ _ _ => ax (by as_aux_lemma => kernel_rfl)) (by as_aux_lemma => kernel_rfl) rfl ?_
 refine aS aZ rfl rfl rfl (.s (.s (.z))) rfl rfl rfl rfl ?_
 refine ae ?_
 refine ay (aL 7) ?_
 refine au (i := 14) rfl aa (ai rfl) (aL 7) aD rfl (aj av) (by as_aux_lemma => kernel_rfl) rfl ?_
 refine bA (by as_aux_lemma => kernel_rfl) ?_
 refine ao ?_
 refine bD (fun w h => (h.weak (.cons_cons _ (.cons_cons _ (.cons_cons _ (.cons _ (.cons _ (.cons _ (.cons _ (.cons_cons _ (.cons _ (.cons_cons _ (.cons _ (.cons _ (.cons _ .slnil))))))))))))) (fun s hs => hs)).f4.f4.f4.f4.f4) ?_
 exact J2 (⟨(tb, Ab, cb), htb2⟩, b33) _ (by repeat (first | exact trivial | refine ⟨rfl, ?_⟩))
 exact bx
 refine aJ (i := 12) rfl rfl rfl (fun _ _ _ => ax (by as_aux_lemma => kernel_rfl)) rfl ?_ ?_
 refine bu aZ rfl rfl (fun b35 => ?_)
 refine ae ?_
 refine ay (aL 4) ?_
 refine aP (i := 6) rfl rfl rfl (fun _ _ _ => ax (by as_aux_lemma => kernel_rfl)) (by as_aux_lemma => kernel_rfl) rfl ?_
 refine bf (vs := [_]) ([cI 98] : List (bg)) bB Try.underlying25 bF rfl rfl rfl rfl rfl rfl (fun As36 => ?_)
 refine ae ?_
 refine ay (aL 5) ?_
 refine au (i := 7) rfl aa (bm rfl (aR _ _ _ _ _ _ _ _)) (aL 5) aD rfl (aj av) (by as_aux_lemma => kernel_rfl) rfl ?_
 refine aP (i := 8) rfl rfl rfl (aH rfl aU) (by as_aux_lemma => kernel_rfl) rfl ?_
 refine a6 rfl aU rfl (a8 3 ta _ _ false 3 4 p17b _ _ [cI 98] _ _ htaok bw htal (by decide) (by decide) bk) (fun w hw => (ak (aK 7 rfl hw) (ak (ci 6 rfl hw) (ak (aK 2 rfl hw) (ak (bo bv) (ak (aK 0 rfl hw) aO)))))) (fun ⟨⟨tb, Ab, cb⟩, htb⟩ => ?_)
 refine ae ?_
 refine ay (aL 7) ?_
 refine bN (t := 27) (.tuple #[.agg (cU 4 Ab tb.length cb).toArray, .int .i64 0]) rfl (by rw [hb9.1]; rfl) ?_
 have htb2 : tb.map (·.e) = r17b.map (·.e) := htb.trans hb9.2
 refine au (i := 9) rfl aa (am rfl) (aL 7) aD rfl (aj av) (by as_aux_lemma => kernel_rfl) rfl ?_
 refine au (i := 10) rfl aa (az rfl rfl) (aL 7) aD rfl (aj av) (by as_aux_lemma => kernel_rfl) rfl ?_
 refine au (i := 11) rfl aa (az rfl rfl) (aL 7) aD rfl (aj av) (by as_aux_lemma => kernel_rfl) rfl ?_
 refine aP (i := 13) rfl rfl rfl (fun _ _ _ => ax (by as_aux_lemma => kernel_rfl)) (by as_aux_lemma => kernel_rfl) rfl ?_
 refine aS aZ rfl rfl rfl (.s (.s (.s (.z)))) rfl rfl rfl rfl ?_
 refine ae ?_
 refine ay (aL 7) ?_
 refine au (i := 14) rfl aa (ai rfl) (aL 7) aD rfl (aj av) (by as_aux_lemma => kernel_rfl) rfl ?_
 refine bA (by as_aux_lemma => kernel_rfl) ?_
 refine ao ?_
 refine bD (fun w h => (h.weak (.cons_cons _ (.cons_cons _ (.cons _ (.cons_cons _ (.cons _ (.cons _ (.cons _ (.cons_cons _ (.cons _ (.cons_cons _ (.cons _ (.cons _ (.cons _ .slnil))))))))))))) (fun s hs => hs)).f4.f4.f4.f4.f4) ?_
 exact J2 (⟨(tb, Ab, cb), htb2⟩, b35) _ (by repeat (first | exact trivial | refine ⟨rfl, ?_⟩))
 exact bx
 refine aJ (i := 12) rfl rfl rfl (fun _ _ _ => ax (by as_aux_lemma => kernel_rfl)) rfl ?_ ?_
 refine bu aZ rfl rfl (fun b38 => ?_)
 refine ae ?_
 refine ay (aL 4) ?_
 refine aP (i := 5) rfl rfl rfl (aH rfl bH) (by as_aux_lemma => kernel_rfl) rfl ?_
 refine bi rfl bH rfl (bT _ _ _ (by decide)) (fun w hw => (ak (aK 2 rfl hw) aO)) ?_
 refine ae ?_
 refine ay (aL 4) ?_
 refine aP (i := 6) rfl rfl rfl (fun _ _ _ => ax (by as_aux_lemma => kernel_rfl)) (by as_aux_lemma => kernel_rfl) rfl ?_
 refine bf (vs := [_]) ([cI 98] : List (bg)) bB Try.underlying25 bF rfl rfl rfl rfl rfl rfl (fun As39 => ?_)
 refine ae ?_
 refine ay (aL 5) ?_
 refine au (i := 7) rfl aa (bm rfl (aR _ _ _ _ _ _ _ _)) (aL 5) aD rfl (aj av) (by as_aux_lemma => kernel_rfl) rfl ?_
 refine aP (i := 8) rfl rfl rfl (aH rfl aU) (by as_aux_lemma => kernel_rfl) rfl ?_
 refine a6 rfl aU rfl (a8 3 ta _ _ false 3 4 p17b _ _ [cI 98] _ _ htaok bw htal (by decide) (by decide) bk) (fun w hw => (ak (aK 7 rfl hw) (ak (ci 6 rfl hw) (ak (aK 2 rfl hw) (ak (bo bv) (ak (aK 0 rfl hw) aO)))))) (fun ⟨⟨tb, Ab, cb⟩, htb⟩ => ?_)
 refine ae ?_
 refine ay (aL 7) ?_
 refine bN (t := 27) (.tuple #[.agg (cU 4 Ab tb.length cb).toArray, .int .i64 0]) rfl (by rw [hb9.1]; rfl) ?_
 have htb2 : tb.map (·.e) = r17b.map (·.e) := htb.trans hb9.2
 refine au (i := 9) rfl aa (am rfl) (aL 7) aD rfl (aj av) (by as_aux_lemma => kernel_rfl) rfl ?_
 refine au (i := 10) rfl aa (az rfl rfl) (aL 7) aD rfl (aj av) (by as_aux_lemma => kernel_rfl) rfl ?_
 refine au (i := 11) rfl aa (az rfl rfl) (aL 7) aD rfl (aj av) (by as_aux_lemma => kernel_rfl) rfl ?_
 refine aP (i := 13) rfl rfl rfl (fun _ _ _ => ax (by as_aux_lemma => kernel_rfl)) (by as_aux_lemma => kernel_rfl) rfl ?_
 refine aS aZ rfl rfl rfl (.s (.s (.s (.z)))) rfl rfl rfl rfl ?_
 refine ae ?_
 refine ay (aL 7) ?_
 refine au (i := 14) rfl aa (ai rfl) (aL 7) aD rfl (aj av) (by as_aux_lemma => kernel_rfl) rfl ?_
 refine bA (by as_aux_lemma => kernel_rfl) ?_
 refine ao ?_
 refine bD (fun w h => (h.weak (.cons_cons _ (.cons_cons _ (.cons _ (.cons_cons _ (.cons _ (.cons _ (.cons _ (.cons_cons _ (.cons _ (.cons_cons _ (.cons _ (.cons _ (.cons _ .slnil))))))))))))) (fun s hs => hs)).f4.f4.f4.f4.f4) ?_
 exact J2 (⟨(tb, Ab, cb), htb2⟩, b38) _ (by repeat (first | exact trivial | refine ⟨rfl, ?_⟩))
 exact bx
 refine aJ (i := 5) rfl rfl rfl (aH rfl bH) rfl ?_ ?_
 refine bi rfl bH rfl (bT _ _ _ (by decide)) (fun w hw => (ak (aK 0 rfl hw) aO)) ?_
 refine ae ?_
 refine ay (aL 2) ?_
 refine bJ (js := [3, 6, 12]) (by as_aux_lemma => kernel_rfl) rfl ?_
 refine aJ (i := 3) rfl rfl rfl (fun _ _ _ => ax (by as_aux_lemma => kernel_rfl)) rfl ?_ ?_
 refine bf (vs := [_]) (p17b : List (Le)) bl Try.underlying22 a7 rfl rfl rfl rfl rfl rfl (fun As41 => ?_)
 refine ae ?_
 refine ay (aL 3) ?_
 refine bJ (js := [6, 12]) (by as_aux_lemma => kernel_rfl) rfl ?_
 refine aJ (i := 6) rfl rfl rfl (fun _ _ _ => ax (by as_aux_lemma => kernel_rfl)) rfl ?_ ?_
 refine bf (vs := [_]) ([cI 98] : List (bg)) bB Try.underlying25 bF rfl rfl rfl rfl rfl rfl (fun As42 => ?_)
 refine ae ?_
 refine ay (aL 4) ?_
 refine au (i := 7) rfl aa (bm rfl (aR _ _ _ _ _ _ _ _)) (aL 4) aD rfl (aj av) (by as_aux_lemma => kernel_rfl) rfl ?_
 refine bJ (js := [8, 12]) (by as_aux_lemma => kernel_rfl) rfl ?_
 refine aJ (i := 8) rfl rfl rfl (aH rfl aU) rfl ?_ ?_
 refine a6 rfl aU rfl (a8 3 ta _ _ false 3 4 p17b _ _ [cI 98] _ _ htaok bw htal (by decide) (by decide) bk) (fun w hw => (ak (aK 6 rfl hw) (ak (ci 5 rfl hw) (ak (aK 1 rfl hw) (ak (bo bv) (ak (aK 0 rfl hw) aO)))))) (fun ⟨⟨tb, Ab, cb⟩, htb⟩ => ?_)
 refine ae ?_
 refine ay (aL 6) ?_
 refine bN (t := 27) (.tuple #[.agg (cU 4 Ab tb.length cb).toArray, .int .i64 0]) rfl (by rw [hb9.1]; rfl) ?_
 have htb2 : tb.map (·.e) = r17b.map (·.e) := htb.trans hb9.2
 refine au (i := 9) rfl aa (am rfl) (aL 6) aD rfl (aj av) (by as_aux_lemma => kernel_rfl) rfl ?_
 refine au (i := 10) rfl aa (az rfl rfl) (aL 6) aD rfl (aj av) (by as_aux_lemma => kernel_rfl) rfl ?_
 refine au (i := 11) rfl aa (az rfl rfl) (aL 6) aD rfl (aj av) (by as_aux_lemma => kernel_rfl) rfl ?_
 refine aP (i := 12) rfl rfl rfl (fun _ _ _ => ax (by as_aux_lemma => kernel_rfl)) (by as_aux_lemma => kernel_rfl) rfl ?_
 refine bu aZ rfl rfl (fun b44 => ?_)
 refine ae ?_
 refine ay (aL 7) ?_
 refine aP (i := 13) rfl rfl rfl (fun _ _ _ => ax (by as_aux_lemma => kernel_rfl)) (by as_aux_lemma => kernel_rfl) rfl ?_
 refine aS aZ rfl rfl rfl .z rfl rfl rfl rfl ?_
 refine ae ?_
 refine ay (aL 7) ?_
 refine au (i := 14) rfl aa (ai rfl) (aL 7) aD rfl (aj av) (by as_aux_lemma => kernel_rfl) rfl ?_
 refine bA (by as_aux_lemma => kernel_rfl) ?_
 refine ao ?_
 refine bD (fun w h => (h.weak (.cons_cons _ (.cons_cons _ (.cons_cons _ (.cons _ (.cons _ (.cons _ (.cons _ (.cons_cons _ (.cons _ (.cons_cons _ (.cons _ (.cons _ (.cons _ .slnil))))))))))))) (fun s hs => hs)).f4.f4.f2.f4.f4) ?_
 exact J2 (⟨(tb, Ab, cb), htb2⟩, b44) _ (by repeat (first | exact trivial | refine ⟨rfl, ?_⟩))
 refine aJ (i := 12) rfl rfl rfl (fun _ _ _ => ax (by as_aux_lemma => kernel_rfl)) rfl ?_ ?_
 refine bu aZ rfl rfl (fun b45 => ?_)
 refine ae ?_
 refine ay (aL 5) ?_
 refine aP (i := 8) rfl rfl rfl (aH rfl aU) (by as_aux_lemma => kernel_rfl) rfl ?_
 refine a6 rfl aU rfl (a8 3 ta _ _ false 3 4 p17b _ _ [cI 98] _ _ htaok bw htal (by decide) (by decide) bk) (fun w hw => (ak (aK 7 rfl hw) (ak (ci 6 rfl hw) (ak (aK 2 rfl hw) (ak (bo bv) (ak (aK 1 rfl hw) aO)))))) (fun ⟨⟨tb, Ab, cb⟩, htb⟩ => ?_)
 refine ae ?_
 refine ay (aL 7) ?_
 refine bN (t := 27) (.tuple #[.agg (cU 4 Ab tb.length cb).toArray, .int .i64 0]) rfl (by rw [hb9.1]; rfl) ?_
 have htb2 : tb.map (·.e) = r17b.map (·.e) := htb.trans hb9.2
 refine au (i := 9) rfl aa (am rfl) (aL 7) aD rfl (aj av) (by as_aux_lemma => kernel_rfl) rfl ?_
 refine au (i := 10) rfl aa (az rfl rfl) (aL 7) aD rfl (aj av) (by as_aux_lemma => kernel_rfl) rfl ?_
 refine au (i := 11) rfl aa (az rfl rfl) (aL 7) aD rfl (aj av) (by as_aux_lemma => kernel_rfl) rfl ?_
 refine aP (i := 13) rfl rfl rfl (fun _ _ _ => ax (by as_aux_lemma => kernel_rfl)) (by as_aux_lemma => kernel_rfl) rfl ?_
 refine aS aZ rfl rfl rfl (.s (.s (.z))) rfl rfl rfl rfl ?_
 refine ae ?_
 refine ay (aL 7) ?_
 refine au (i := 14) rfl aa (ai rfl) (aL 7) aD rfl (aj av) (by as_aux_lemma => kernel_rfl) rfl ?_
 refine bA (by as_aux_lemma => kernel_rfl) ?_
 refine ao ?_
 refine bD (fun w h => (h.weak (.cons_cons _ (.cons_cons _ (.cons_cons _ (.cons _ (.cons _ (.cons _ (.cons _ (.cons_cons _ (.cons _ (.cons_cons _ (.cons _ (.cons _ (.cons _ .slnil))))))))))))) (fun s hs => hs)).f4.f4.f4.f4.f4) ?_
 exact J2 (⟨(tb, Ab, cb), htb2⟩, b45) _ (by repeat (first | exact trivial | refine ⟨rfl, ?_⟩))
 exact bx
 refine aJ (i := 12) rfl rfl rfl (fun _ _ _ => ax (by as_aux_lemma => kernel_rfl)) rfl ?_ ?_
 refine bu aZ rfl rfl (fun b47 => ?_)
 refine ae ?_
 refine ay (aL 4) ?_
 refine aP (i := 6) rfl rfl rfl (fun _ _ _ => ax (by as_aux_lemma => kernel_rfl)) (by as_aux_lemma => kernel_rfl) rfl ?_
 refine bf (vs := [_]) ([cI 98] : List (bg)) bB Try.underlying25 bF rfl rfl rfl rfl rfl rfl (fun As48 => ?_)
 refine ae ?_
 refine ay (aL 5) ?_
 refine au (i := 7) rfl aa (bm rfl (aR _ _ _ _ _ _ _ _)) (aL 5) aD rfl (aj av) (by as_aux_lemma => kernel_rfl) rfl ?_
 refine aP (i := 8) rfl rfl rfl (aH rfl aU) (by as_aux_lemma => kernel_rfl) rfl ?_
 refine a6 rfl aU rfl (a8 3 ta _ _ false 3 4 p17b _ _ [cI 98] _ _ htaok bw htal (by decide) (by decide) bk) (fun w hw => (ak (aK 7 rfl hw) (ak (ci 6 rfl hw) (ak (aK 2 rfl hw) (ak (bo bv) (ak (aK 0 rfl hw) aO)))))) (fun ⟨⟨tb, Ab, cb⟩, htb⟩ => ?_)
 refine ae ?_
 refine ay (aL 7) ?_
 refine bN (t := 27) (.tuple #[.agg (cU 4 Ab tb.length cb).toArray, .int .i64 0]) rfl (by rw [hb9.1]; rfl) ?_
 have htb2 : tb.map (·.e) = r17b.map (·.e) := htb.trans hb9.2
 refine au (i := 9) rfl aa (am rfl) (aL 7) aD rfl (aj av) (by as_aux_lemma => kernel_rfl) rfl ?_
 refine au (i := 10) rfl aa (az rfl rfl) (aL 7) aD rfl (aj av) (by as_aux_lemma => kernel_rfl) rfl ?_
 refine au (i := 11) rfl aa (az rfl rfl) (aL 7) aD rfl (aj av) (by as_aux_lemma => kernel_rfl) rfl ?_
 refine aP (i := 13) rfl rfl rfl (fun _ _ _ => ax (by as_aux_lemma => kernel_rfl)) (by as_aux_lemma => kernel_rfl) rfl ?_
 refine aS aZ rfl rfl rfl (.s (.s (.s (.z)))) rfl rfl rfl rfl ?_
 refine ae ?_
 refine ay (aL 7) ?_
 refine au (i := 14) rfl aa (ai rfl) (aL 7) aD rfl (aj av) (by as_aux_lemma => kernel_rfl) rfl ?_
 refine bA (by as_aux_lemma => kernel_rfl) ?_
 refine ao ?_
 refine bD (fun w h => (h.weak (.cons_cons _ (.cons_cons _ (.cons _ (.cons_cons _ (.cons _ (.cons _ (.cons _ (.cons_cons _ (.cons _ (.cons_cons _ (.cons _ (.cons _ (.cons _ .slnil))))))))))))) (fun s hs => hs)).f4.f4.f4.f4.f4) ?_
 exact J2 (⟨(tb, Ab, cb), htb2⟩, b47) _ (by repeat (first | exact trivial | refine ⟨rfl, ?_⟩))
 exact bx
 refine aJ (i := 6) rfl rfl rfl (fun _ _ _ => ax (by as_aux_lemma => kernel_rfl)) rfl ?_ ?_
 refine bf (vs := [_]) ([cI 98] : List (bg)) bB Try.underlying25 bF rfl rfl rfl rfl rfl rfl (fun As50 => ?_)
 refine ae ?_
 refine ay (aL 3) ?_
 refine bJ (js := [3, 12]) (by as_aux_lemma => kernel_rfl) rfl ?_
 refine aJ (i := 3) rfl rfl rfl (fun _ _ _ => ax (by as_aux_lemma => kernel_rfl)) rfl ?_ ?_
 refine bf (vs := [_]) (p17b : List (Le)) bl Try.underlying22 a7 rfl rfl rfl rfl rfl rfl (fun As51 => ?_)
 refine ae ?_
 refine ay (aL 4) ?_
 refine au (i := 7) rfl aa (bm rfl (aR _ _ _ _ _ _ _ _)) (aL 4) aD rfl (aj av) (by as_aux_lemma => kernel_rfl) rfl ?_
 refine bJ (js := [8, 12]) (by as_aux_lemma => kernel_rfl) rfl ?_
 refine aJ (i := 8) rfl rfl rfl (aH rfl aU) rfl ?_ ?_
 refine a6 rfl aU rfl (a8 3 ta _ _ false 3 4 p17b _ _ [cI 98] _ _ htaok bw htal (by decide) (by decide) bk) (fun w hw => (ak (aK 6 rfl hw) (ak (ci 5 rfl hw) (ak (aK 0 rfl hw) (ak (bo bv) (ak (aK 1 rfl hw) aO)))))) (fun ⟨⟨tb, Ab, cb⟩, htb⟩ => ?_)
 refine ae ?_
 refine ay (aL 6) ?_
 refine bN (t := 27) (.tuple #[.agg (cU 4 Ab tb.length cb).toArray, .int .i64 0]) rfl (by rw [hb9.1]; rfl) ?_
 have htb2 : tb.map (·.e) = r17b.map (·.e) := htb.trans hb9.2
 refine au (i := 9) rfl aa (am rfl) (aL 6) aD rfl (aj av) (by as_aux_lemma => kernel_rfl) rfl ?_
 refine au (i := 10) rfl aa (az rfl rfl) (aL 6) aD rfl (aj av) (by as_aux_lemma => kernel_rfl) rfl ?_
 refine au (i := 11) rfl aa (az rfl rfl) (aL 6) aD rfl (aj av) (by as_aux_lemma => kernel_rfl) rfl ?_
 refine aP (i := 12) rfl rfl rfl (fun _ _ _ => ax (by as_aux_lemma => kernel_rfl)) (by as_aux_lemma => kernel_rfl) rfl ?_
 refine bu aZ rfl rfl (fun b53 => ?_)
 refine ae ?_
 refine ay (aL 7) ?_
 refine aP (i := 13) rfl rfl rfl (fun _ _ _ => ax (by as_aux_lemma => kernel_rfl)) (by as_aux_lemma => kernel_rfl) rfl ?_
 refine aS aZ rfl rfl rfl .z rfl rfl rfl rfl ?_
 refine ae ?_
 refine ay (aL 7) ?_
 refine au (i := 14) rfl aa (ai rfl) (aL 7) aD rfl (aj av) (by as_aux_lemma => kernel_rfl) rfl ?_
 refine bA (by as_aux_lemma => kernel_rfl) ?_
 refine ao ?_
 refine bD (fun w h => (h.weak (.cons_cons _ (.cons_cons _ (.cons_cons _ (.cons _ (.cons _ (.cons _ (.cons _ (.cons_cons _ (.cons _ (.cons_cons _ (.cons _ (.cons _ (.cons _ .slnil))))))))))))) (fun s hs => hs)).f4.f4.f2.f4.f4) ?_
 exact J2 (⟨(tb, Ab, cb), htb2⟩, b53) _ (by repeat (first | exact trivial | refine ⟨rfl, ?_⟩))
 refine aJ (i := 12) rfl rfl rfl (fun _ _ _ => ax (by as_aux_lemma => kernel_rfl)) rfl ?_ ?_
 refine bu aZ rfl rfl (fun b54 => ?_)
 refine ae ?_
 refine ay (aL 5) ?_
 refine aP (i := 8) rfl rfl rfl (aH rfl aU) (by as_aux_lemma => kernel_rfl) rfl ?_
 refine a6 rfl aU rfl (a8 3 ta _ _ false 3 4 p17b _ _ [cI 98] _ _ htaok bw htal (by decide) (by decide) bk) (fun w hw => (ak (aK 7 rfl hw) (ak (ci 6 rfl hw) (ak (aK 1 rfl hw) (ak (bo bv) (ak (aK 2 rfl hw) aO)))))) (fun ⟨⟨tb, Ab, cb⟩, htb⟩ => ?_)
 refine ae ?_
 refine ay (aL 7) ?_
 refine bN (t := 27) (.tuple #[.agg (cU 4 Ab tb.length cb).toArray, .int .i64 0]) rfl (by rw [hb9.1]; rfl) ?_
 have htb2 : tb.map (·.e) = r17b.map (·.e) := htb.trans hb9.2
 refine au (i := 9) rfl aa (am rfl) (aL 7) aD rfl (aj av) (by as_aux_lemma => kernel_rfl) rfl ?_
 refine au (i := 10) rfl aa (az rfl rfl) (aL 7) aD rfl (aj av) (by as_aux_lemma => kernel_rfl) rfl ?_
 refine au (i := 11) rfl aa (az rfl rfl) (aL 7) aD rfl (aj av) (by as_aux_lemma => kernel_rfl) rfl ?_
 refine aP (i := 13) rfl rfl rfl (fun _ _ _ => ax (by as_aux_lemma => kernel_rfl)) (by as_aux_lemma => kernel_rfl) rfl ?_
 refine aS aZ rfl rfl rfl (.s (.s (.z))) rfl rfl rfl rfl ?_
 refine ae ?_
 refine ay (aL 7) ?_
 refine au (i := 14) rfl aa (ai rfl) (aL 7) aD rfl (aj av) (by as_aux_lemma => kernel_rfl) rfl ?_
 refine bA (by as_aux_lemma => kernel_rfl) ?_
 refine ao ?_
 refine bD (fun w h => (h.weak (.cons_cons _ (.cons_cons _ (.cons_cons _ (.cons _ (.cons _ (.cons _ (.cons _ (.cons_cons _ (.cons _ (.cons_cons _ (.cons _ (.cons _ (.cons _ .slnil))))))))))))) (fun s hs => hs)).f4.f4.f4.f4.f4) ?_
 exact J2 (⟨(tb, Ab, cb), htb2⟩, b54) _ (by repeat (first | exact trivial | refine ⟨rfl, ?_⟩))
 exact bx
 refine aJ (i := 12) rfl rfl rfl (fun _ _ _ => ax (by as_aux_lemma => kernel_rfl)) rfl ?_ ?_
 refine bu aZ rfl rfl (fun b56 => ?_)
 refine ae ?_
 refine ay (aL 4) ?_
 refine aP (i := 3) rfl rfl rfl (fun _ _ _ => ax (by as_aux_lemma => kernel_rfl)) (by as_aux_lemma => kernel_rfl) rfl ?_
 refine bf (vs := [_]) (p17b : List (Le)) bl Try.underlying22 a7 rfl rfl rfl rfl rfl rfl (fun As57 => ?_)
 refine ae ?_
 refine ay (aL 5) ?_
 refine au (i := 7) rfl aa (bm rfl (aR _ _ _ _ _ _ _ _)) (aL 5) aD rfl (aj av) (by as_aux_lemma => kernel_rfl) rfl ?_
 refine aP (i := 8) rfl rfl rfl (aH rfl aU) (by as_aux_lemma => kernel_rfl) rfl ?_
 refine a6 rfl aU rfl (a8 3 ta _ _ false 3 4 p17b _ _ [cI 98] _ _ htaok bw htal (by decide) (by decide) bk) (fun w hw => (ak (aK 7 rfl hw) (ak (ci 6 rfl hw) (ak (aK 0 rfl hw) (ak (bo bv) (ak (aK 2 rfl hw) aO)))))) (fun ⟨⟨tb, Ab, cb⟩, htb⟩ => ?_)
 refine ae ?_
 refine ay (aL 7) ?_
 refine bN (t := 27) (.tuple #[.agg (cU 4 Ab tb.length cb).toArray, .int .i64 0]) rfl (by rw [hb9.1]; rfl) ?_
 have htb2 : tb.map (·.e) = r17b.map (·.e) := htb.trans hb9.2
 refine au (i := 9) rfl aa (am rfl) (aL 7) aD rfl (aj av) (by as_aux_lemma => kernel_rfl) rfl ?_
 refine au (i := 10) rfl aa (az rfl rfl) (aL 7) aD rfl (aj av) (by as_aux_lemma => kernel_rfl) rfl ?_
 refine au (i := 11) rfl aa (az rfl rfl) (aL 7) aD rfl (aj av) (by as_aux_lemma => kernel_rfl) rfl ?_
 refine aP (i := 13) rfl rfl rfl (fun _ _ _ => ax (by as_aux_lemma => kernel_rfl)) (by as_aux_lemma => kernel_rfl) rfl ?_
 refine aS aZ rfl rfl rfl (.s (.s (.s (.z)))) rfl rfl rfl rfl ?_
 refine ae ?_
 refine ay (aL 7) ?_
 refine au (i := 14) rfl aa (ai rfl) (aL 7) aD rfl (aj av) (by as_aux_lemma => kernel_rfl) rfl ?_
 refine bA (by as_aux_lemma => kernel_rfl) ?_
 refine ao ?_
 refine bD (fun w h => (h.weak (.cons_cons _ (.cons_cons _ (.cons _ (.cons_cons _ (.cons _ (.cons _ (.cons _ (.cons_cons _ (.cons _ (.cons_cons _ (.cons _ (.cons _ (.cons _ .slnil))))))))))))) (fun s hs => hs)).f4.f4.f4.f4.f4) ?_
 exact J2 (⟨(tb, Ab, cb), htb2⟩, b56) _ (by repeat (first | exact trivial | refine ⟨rfl, ?_⟩))
 exact bx
 refine aJ (i := 12) rfl rfl rfl (fun _ _ _ => ax (by as_aux_lemma => kernel_rfl)) rfl ?_ ?_
 refine bu aZ rfl rfl (fun b59 => ?_)
 refine ae ?_
 refine ay (aL 3) ?_
 refine bJ (js := [3, 6]) (by as_aux_lemma => kernel_rfl) rfl ?_
 refine aJ (i := 3) rfl rfl rfl (fun _ _ _ => ax (by as_aux_lemma => kernel_rfl)) rfl ?_ ?_
 refine bf (vs := [_]) (p17b : List (Le)) bl Try.underlying22 a7 rfl rfl rfl rfl rfl rfl (fun As60 => ?_)
 refine ae ?_
 refine ay (aL 4) ?_
 refine aP (i := 6) rfl rfl rfl (fun _ _ _ => ax (by as_aux_lemma => kernel_rfl)) (by as_aux_lemma => kernel_rfl) rfl ?_
 refine bf (vs := [_]) ([cI 98] : List (bg)) bB Try.underlying25 bF rfl rfl rfl rfl rfl rfl (fun As61 => ?_)
 refine ae ?_
 refine ay (aL 5) ?_
 refine au (i := 7) rfl aa (bm rfl (aR _ _ _ _ _ _ _ _)) (aL 5) aD rfl (aj av) (by as_aux_lemma => kernel_rfl) rfl ?_
 refine aP (i := 8) rfl rfl rfl (aH rfl aU) (by as_aux_lemma => kernel_rfl) rfl ?_
 refine a6 rfl aU rfl (a8 3 ta _ _ false 3 4 p17b _ _ [cI 98] _ _ htaok bw htal (by decide) (by decide) bk) (fun w hw => (ak (aK 7 rfl hw) (ak (ci 6 rfl hw) (ak (aK 1 rfl hw) (ak (bo bv) (ak (aK 0 rfl hw) aO)))))) (fun ⟨⟨tb, Ab, cb⟩, htb⟩ => ?_)
 refine ae ?_
 refine ay (aL 7) ?_
 refine bN (t := 27) (.tuple #[.agg (cU 4 Ab tb.length cb).toArray, .int .i64 0]) rfl (by rw [hb9.1]; rfl) ?_
 have htb2 : tb.map (·.e) = r17b.map (·.e) := htb.trans hb9.2
 refine au (i := 9) rfl aa (am rfl) (aL 7) aD rfl (aj av) (by as_aux_lemma => kernel_rfl) rfl ?_
 refine au (i := 10) rfl aa (az rfl rfl) (aL 7) aD rfl (aj av) (by as_aux_lemma => kernel_rfl) rfl ?_
 refine au (i := 11) rfl aa (az rfl rfl) (aL 7) aD rfl (aj av) (by as_aux_lemma => kernel_rfl) rfl ?_
 refine aP (i := 13) rfl rfl rfl (fun _ _ _ => ax (by as_aux_lemma => kernel_rfl)) (by as_aux_lemma => kernel_rfl) rfl ?_
 refine aS aZ rfl rfl rfl (.s (.s (.s (.s (.z))))) rfl rfl rfl rfl ?_
 refine ae ?_
 refine ay (aL 7) ?_
 refine au (i := 14) rfl aa (ai rfl) (aL 7) aD rfl (aj av) (by as_aux_lemma => kernel_rfl) rfl ?_
 refine bA (by as_aux_lemma => kernel_rfl) ?_
 refine ao ?_
 refine bD (fun w h => (h.weak (.cons_cons _ (.cons_cons _ (.cons _ (.cons _ (.cons_cons _ (.cons _ (.cons _ (.cons_cons _ (.cons _ (.cons_cons _ (.cons _ (.cons _ (.cons _ .slnil))))))))))))) (fun s hs => hs)).f4.f4.f4.f4.f4) ?_
 exact J2 (⟨(tb, Ab, cb), htb2⟩, b59) _ (by repeat (first | exact trivial | refine ⟨rfl, ?_⟩))
 refine aJ (i := 6) rfl rfl rfl (fun _ _ _ => ax (by as_aux_lemma => kernel_rfl)) rfl ?_ ?_
 refine bf (vs := [_]) ([cI 98] : List (bg)) bB Try.underlying25 bF rfl rfl rfl rfl rfl rfl (fun As63 => ?_)
 refine ae ?_
 refine ay (aL 4) ?_
 refine aP (i := 3) rfl rfl rfl (fun _ _ _ => ax (by as_aux_lemma => kernel_rfl)) (by as_aux_lemma => kernel_rfl) rfl ?_
 refine bf (vs := [_]) (p17b : List (Le)) bl Try.underlying22 a7 rfl rfl rfl rfl rfl rfl (fun As64 => ?_)
 refine ae ?_
 refine ay (aL 5) ?_
 refine au (i := 7) rfl aa (bm rfl (aR _ _ _ _ _ _ _ _)) (aL 5) aD rfl (aj av) (by as_aux_lemma => kernel_rfl) rfl ?_
 refine aP (i := 8) rfl rfl rfl (aH rfl aU) (by as_aux_lemma => kernel_rfl) rfl ?_
 refine a6 rfl aU rfl (a8 3 ta _ _ false 3 4 p17b _ _ [cI 98] _ _ htaok bw htal (by decide) (by decide) bk) (fun w hw => (ak (aK 7 rfl hw) (ak (ci 6 rfl hw) (ak (aK 0 rfl hw) (ak (bo bv) (ak (aK 1 rfl hw) aO)))))) (fun ⟨⟨tb, Ab, cb⟩, htb⟩ => ?_)
 refine ae ?_
 refine ay (aL 7) ?_
 refine bN (t := 27) (.tuple #[.agg (cU 4 Ab tb.length cb).toArray, .int .i64 0]) rfl (by rw [hb9.1]; rfl) ?_
 have htb2 : tb.map (·.e) = r17b.map (·.e) := htb.trans hb9.2
 refine au (i := 9) rfl aa (am rfl) (aL 7) aD rfl (aj av) (by as_aux_lemma => kernel_rfl) rfl ?_
 refine au (i := 10) rfl aa (az rfl rfl) (aL 7) aD rfl (aj av) (by as_aux_lemma => kernel_rfl) rfl ?_
 refine au (i := 11) rfl aa (az rfl rfl) (aL 7) aD rfl (aj av) (by as_aux_lemma => kernel_rfl) rfl ?_
 refine aP (i := 13) rfl rfl rfl (fun _ _ _ => ax (by as_aux_lemma => kernel_rfl)) (by as_aux_lemma => kernel_rfl) rfl ?_
 refine aS aZ rfl rfl rfl (.s (.s (.s (.s (.z))))) rfl rfl rfl rfl ?_
 refine ae ?_
 refine ay (aL 7) ?_
 refine au (i := 14) rfl aa (ai rfl) (aL 7) aD rfl (aj av) (by as_aux_lemma => kernel_rfl) rfl ?_
 refine bA (by as_aux_lemma => kernel_rfl) ?_
 refine ao ?_
 refine bD (fun w h => (h.weak (.cons_cons _ (.cons_cons _ (.cons _ (.cons _ (.cons_cons _ (.cons _ (.cons _ (.cons_cons _ (.cons _ (.cons_cons _ (.cons _ (.cons _ (.cons _ .slnil))))))))))))) (fun s hs => hs)).f4.f4.f4.f4.f4) ?_
 exact J2 (⟨(tb, Ab, cb), htb2⟩, b59) _ (by repeat (first | exact trivial | refine ⟨rfl, ?_⟩))
 exact bx
 exact bx
 refine aJ (i := 12) rfl rfl rfl (fun _ _ _ => ax (by as_aux_lemma => kernel_rfl)) rfl ?_ ?_
 refine bu aZ rfl rfl (fun b66 => ?_)
 refine ae ?_
 refine ay (aL 3) ?_
 refine bJ (js := [3, 5]) (by as_aux_lemma => kernel_rfl) rfl ?_
 refine aJ (i := 3) rfl rfl rfl (fun _ _ _ => ax (by as_aux_lemma => kernel_rfl)) rfl ?_ ?_
 refine bf (vs := [_]) (p17b : List (Le)) bl Try.underlying22 a7 rfl rfl rfl rfl rfl rfl (fun As67 => ?_)
 refine ae ?_
 refine ay (aL 4) ?_
 refine aP (i := 5) rfl rfl rfl (aH rfl bH) (by as_aux_lemma => kernel_rfl) rfl ?_
 refine bi rfl bH rfl (bT _ _ _ (by decide)) (fun w hw => (ak (aK 2 rfl hw) aO)) ?_
 refine ae ?_
 refine ay (aL 4) ?_
 refine aP (i := 6) rfl rfl rfl (fun _ _ _ => ax (by as_aux_lemma => kernel_rfl)) (by as_aux_lemma => kernel_rfl) rfl ?_
 refine bf (vs := [_]) ([cI 98] : List (bg)) bB Try.underlying25 bF rfl rfl rfl rfl rfl rfl (fun As68 => ?_)
 refine ae ?_
 refine ay (aL 5) ?_
 refine au (i := 7) rfl aa (bm rfl (aR _ _ _ _ _ _ _ _)) (aL 5) aD rfl (aj av) (by as_aux_lemma => kernel_rfl) rfl ?_
 refine aP (i := 8) rfl rfl rfl (aH rfl aU) (by as_aux_lemma => kernel_rfl) rfl ?_
 refine a6 rfl aU rfl (a8 3 ta _ _ false 3 4 p17b _ _ [cI 98] _ _ htaok bw htal (by decide) (by decide) bk) (fun w hw => (ak (aK 7 rfl hw) (ak (ci 6 rfl hw) (ak (aK 1 rfl hw) (ak (bo bv) (ak (aK 0 rfl hw) aO)))))) (fun ⟨⟨tb, Ab, cb⟩, htb⟩ => ?_)
 refine ae ?_
 refine ay (aL 7) ?_
 refine bN (t := 27) (.tuple #[.agg (cU 4 Ab tb.length cb).toArray, .int .i64 0]) rfl (by rw [hb9.1]; rfl) ?_
 have htb2 : tb.map (·.e) = r17b.map (·.e) := htb.trans hb9.2
 refine au (i := 9) rfl aa (am rfl) (aL 7) aD rfl (aj av) (by as_aux_lemma => kernel_rfl) rfl ?_
 refine au (i := 10) rfl aa (az rfl rfl) (aL 7) aD rfl (aj av) (by as_aux_lemma => kernel_rfl) rfl ?_
 refine au (i := 11) rfl aa (az rfl rfl) (aL 7) aD rfl (aj av) (by as_aux_lemma => kernel_rfl) rfl ?_
 refine aP (i := 13) rfl rfl rfl (fun _ _ _ => ax (by as_aux_lemma => kernel_rfl)) (by as_aux_lemma => kernel_rfl) rfl ?_
 refine aS aZ rfl rfl rfl (.s (.s (.s (.s (.z))))) rfl rfl rfl rfl ?_
 refine ae ?_
 refine ay (aL 7) ?_
 refine au (i := 14) rfl aa (ai rfl) (aL 7) aD rfl (aj av) (by as_aux_lemma => kernel_rfl) rfl ?_
 refine bA (by as_aux_lemma => kernel_rfl) ?_
 refine ao ?_
 refine bD (fun w h => (h.weak (.cons_cons _ (.cons_cons _ (.cons _ (.cons _ (.cons_cons _ (.cons _ (.cons _ (.cons_cons _ (.cons _ (.cons_cons _ (.cons _ (.cons _ (.cons _ .slnil))))))))))))) (fun s hs => hs)).f4.f4.f4.f4.f4) ?_
 exact J2 (⟨(tb, Ab, cb), htb2⟩, b66) _ (by repeat (first | exact trivial | refine ⟨rfl, ?_⟩))
 refine aJ (i := 5) rfl rfl rfl (aH rfl bH) rfl ?_ ?_
 refine bi rfl bH rfl (bT _ _ _ (by decide)) (fun w hw => (ak (aK 1 rfl hw) aO)) ?_
 refine ae ?_
 refine ay (aL 3) ?_
 refine bJ (js := [3, 6]) (by as_aux_lemma => kernel_rfl) rfl ?_
 refine aJ (i := 3) rfl rfl rfl (fun _ _ _ => ax (by as_aux_lemma => kernel_rfl)) rfl ?_ ?_
 refine bf (vs := [_]) (p17b : List (Le)) bl Try.underlying22 a7 rfl rfl rfl rfl rfl rfl (fun As70 => ?_)
 refine ae ?_
 refine ay (aL 4) ?_
 refine aP (i := 6) rfl rfl rfl (fun _ _ _ => ax (by as_aux_lemma => kernel_rfl)) (by as_aux_lemma => kernel_rfl) rfl ?_
 refine bf (vs := [_]) ([cI 98] : List (bg)) bB Try.underlying25 bF rfl rfl rfl rfl rfl rfl (fun As71 => ?_)
 refine ae ?_
 refine ay (aL 5) ?_
 refine au (i := 7) rfl aa (bm rfl (aR _ _ _ _ _ _ _ _)) (aL 5) aD rfl (aj av) (by as_aux_lemma => kernel_rfl) rfl ?_
 refine aP (i := 8) rfl rfl rfl (aH rfl aU) (by as_aux_lemma => kernel_rfl) rfl ?_
 refine a6 rfl aU rfl (a8 3 ta _ _ false 3 4 p17b _ _ [cI 98] _ _ htaok bw htal (by decide) (by decide) bk) (fun w hw => (ak (aK 7 rfl hw) (ak (ci 6 rfl hw) (ak (aK 1 rfl hw) (ak (bo bv) (ak (aK 0 rfl hw) aO)))))) (fun ⟨⟨tb, Ab, cb⟩, htb⟩ => ?_)
 refine ae ?_
 refine ay (aL 7) ?_
 refine bN (t := 27) (.tuple #[.agg (cU 4 Ab tb.length cb).toArray, .int .i64 0]) rfl (by rw [hb9.1]; rfl) ?_
 have htb2 : tb.map (·.e) = r17b.map (·.e) := htb.trans hb9.2
 refine au (i := 9) rfl aa (am rfl) (aL 7) aD rfl (aj av) (by as_aux_lemma => kernel_rfl) rfl ?_
 refine au (i := 10) rfl aa (az rfl rfl) (aL 7) aD rfl (aj av) (by as_aux_lemma => kernel_rfl) rfl ?_
 refine au (i := 11) rfl aa (az rfl rfl) (aL 7) aD rfl (aj av) (by as_aux_lemma => kernel_rfl) rfl ?_
 refine aP (i := 13) rfl rfl rfl (fun _ _ _ => ax (by as_aux_lemma => kernel_rfl)) (by as_aux_lemma => kernel_rfl) rfl ?_
 refine aS aZ rfl rfl rfl (.s (.s (.s (.s (.z))))) rfl rfl rfl rfl ?_
 refine ae ?_
 refine ay (aL 7) ?_
 refine au (i := 14) rfl aa (ai rfl) (aL 7) aD rfl (aj av) (by as_aux_lemma => kernel_rfl) rfl ?_
 refine bA (by as_aux_lemma => kernel_rfl) ?_
 refine ao ?_
 refine bD (fun w h => (h.weak (.cons_cons _ (.cons_cons _ (.cons _ (.cons _ (.cons_cons _ (.cons _ (.cons _ (.cons_cons _ (.cons _ (.cons_cons _ (.cons _ (.cons _ (.cons _ .slnil))))))))))))) (fun s hs => hs)).f4.f4.f4.f4.f4) ?_
 exact J2 (⟨(tb, Ab, cb), htb2⟩, b66) _ (by repeat (first | exact trivial | refine ⟨rfl, ?_⟩))
 refine aJ (i := 6) rfl rfl rfl (fun _ _ _ => ax (by as_aux_lemma => kernel_rfl)) rfl ?_ ?_
 refine bf (vs := [_]) ([cI 98] : List (bg)) bB Try.underlying25 bF rfl rfl rfl rfl rfl rfl (fun As73 => ?_)
 refine ae ?_
 refine ay (aL 4) ?_
 refine aP (i := 3) rfl rfl rfl (fun _ _ _ => ax (by as_aux_lemma => kernel_rfl)) (by as_aux_lemma => kernel_rfl) rfl ?_
 refine bf (vs := [_]) (p17b : List (Le)) bl Try.underlying22 a7 rfl rfl rfl rfl rfl rfl (fun As74 => ?_)
 refine ae ?_
 refine ay (aL 5) ?_
 refine au (i := 7) rfl aa (bm rfl (aR _ _ _ _ _ _ _ _)) (aL 5) aD rfl (aj av) (by as_aux_lemma => kernel_rfl) rfl ?_
 refine aP (i := 8) rfl rfl rfl (aH rfl aU) (by as_aux_lemma => kernel_rfl) rfl ?_
 refine a6 rfl aU rfl (a8 3 ta _ _ false 3 4 p17b _ _ [cI 98] _ _ htaok bw htal (by decide) (by decide) bk) (fun w hw => (ak (aK 7 rfl hw) (ak (ci 6 rfl hw) (ak (aK 0 rfl hw) (ak (bo bv) (ak (aK 1 rfl hw) aO)))))) (fun ⟨⟨tb, Ab, cb⟩, htb⟩ => ?_)
 refine ae ?_
 refine ay (aL 7) ?_
 refine bN (t := 27) (.tuple #[.agg (cU 4 Ab tb.length cb).toArray, .int .i64 0]) rfl (by rw [hb9.1]; rfl) ?_
 have htb2 : tb.map (·.e) = r17b.map (·.e) := htb.trans hb9.2
 refine au (i := 9) rfl aa (am rfl) (aL 7) aD rfl (aj av) (by as_aux_lemma => kernel_rfl) rfl ?_
 refine au (i := 10) rfl aa (az rfl rfl) (aL 7) aD rfl (aj av) (by as_aux_lemma => kernel_rfl) rfl ?_
 refine au (i := 11) rfl aa (az rfl rfl) (aL 7) aD rfl (aj av) (by as_aux_lemma => kernel_rfl) rfl ?_
 refine aP (i := 13) rfl rfl rfl (fun _ _ _ => ax (by as_aux_lemma => kernel_rfl)) (by as_aux_lemma => kernel_rfl) rfl ?_
 refine aS aZ rfl rfl rfl (.s (.s (.s (.s (.z))))) rfl rfl rfl rfl ?_
 refine ae ?_
 refine ay (aL 7) ?_
 refine au (i := 14) rfl aa (ai rfl) (aL 7) aD rfl (aj av) (by as_aux_lemma => kernel_rfl) rfl ?_
 refine bA (by as_aux_lemma => kernel_rfl) ?_
 refine ao ?_
 refine bD (fun w h => (h.weak (.cons_cons _ (.cons_cons _ (.cons _ (.cons _ (.cons_cons _ (.cons _ (.cons _ (.cons_cons _ (.cons _ (.cons_cons _ (.cons _ (.cons _ (.cons _ .slnil))))))))))))) (fun s hs => hs)).f4.f4.f4.f4.f4) ?_
 exact J2 (⟨(tb, Ab, cb), htb2⟩, b66) _ (by repeat (first | exact trivial | refine ⟨rfl, ?_⟩))
 exact bx
 exact bx
 exact bx
 refine aJ (i := 12) rfl rfl rfl (fun _ _ _ => ax (by as_aux_lemma => kernel_rfl)) rfl ?_ ?_
 refine bu aZ rfl rfl (fun b76 => ?_)
 refine ae ?_
 refine ay (aL 2) ?_
 refine bJ (js := [3, 4]) (by as_aux_lemma => kernel_rfl) rfl ?_
 refine aJ (i := 3) rfl rfl rfl (fun _ _ _ => ax (by as_aux_lemma => kernel_rfl)) rfl ?_ ?_
 refine bf (vs := [_]) (p17b : List (Le)) bl Try.underlying22 a7 rfl rfl rfl rfl rfl rfl (fun As77 => ?_)
 refine ae ?_
 refine ay (aL 3) ?_
 refine aP (i := 4) rfl rfl rfl (fun _ _ _ => ax (by as_aux_lemma => kernel_rfl)) (by as_aux_lemma => kernel_rfl) rfl ?_
 refine bf (vs := [_]) ([[98]] : List (bg)) bB Try.underlying105 cF rfl rfl rfl rfl rfl rfl (fun As78 => ?_)
 refine ae ?_
 refine ay (aL 4) ?_
 refine aP (i := 5) rfl rfl rfl (aH rfl bH) (by as_aux_lemma => kernel_rfl) rfl ?_
 refine bi rfl bH rfl (bT _ _ _ (by decide)) (fun w hw => (ak (aK 0 rfl hw) aO)) ?_
 refine ae ?_
 refine ay (aL 4) ?_
 refine aP (i := 6) rfl rfl rfl (fun _ _ _ => ax (by as_aux_lemma => kernel_rfl)) (by as_aux_lemma => kernel_rfl) rfl ?_
 refine bf (vs := [_]) ([cI 98] : List (bg)) bB Try.underlying25 bF rfl rfl rfl rfl rfl rfl (fun As79 => ?_)
 refine ae ?_
 refine ay (aL 5) ?_
 refine au (i := 7) rfl aa (bm rfl (aR _ _ _ _ _ _ _ _)) (aL 5) aD rfl (aj av) (by as_aux_lemma => kernel_rfl) rfl ?_
 refine aP (i := 8) rfl rfl rfl (aH rfl aU) (by as_aux_lemma => kernel_rfl) rfl ?_
 refine a6 rfl aU rfl (a8 3 ta _ _ false 3 4 p17b _ _ [cI 98] _ _ htaok bw htal (by decide) (by decide) bk) (fun w hw => (ak (aK 7 rfl hw) (ak (ci 6 rfl hw) (ak (aK 2 rfl hw) (ak (bo bv) (ak (aK 0 rfl hw) aO)))))) (fun ⟨⟨tb, Ab, cb⟩, htb⟩ => ?_)
 refine ae ?_
 refine ay (aL 7) ?_
 refine bN (t := 27) (.tuple #[.agg (cU 4 Ab tb.length cb).toArray, .int .i64 0]) rfl (by rw [hb9.1]; rfl) ?_
 have htb2 : tb.map (·.e) = r17b.map (·.e) := htb.trans hb9.2
 refine au (i := 9) rfl aa (am rfl) (aL 7) aD rfl (aj av) (by as_aux_lemma => kernel_rfl) rfl ?_
 refine au (i := 10) rfl aa (az rfl rfl) (aL 7) aD rfl (aj av) (by as_aux_lemma => kernel_rfl) rfl ?_
 refine au (i := 11) rfl aa (az rfl rfl) (aL 7) aD rfl (aj av) (by as_aux_lemma => kernel_rfl) rfl ?_
 refine aP (i := 13) rfl rfl rfl (fun _ _ _ => ax (by as_aux_lemma => kernel_rfl)) (by as_aux_lemma => kernel_rfl) rfl ?_
 refine aS aZ rfl rfl rfl (.s (.s (.s (.s (.s (.z)))))) rfl rfl rfl rfl ?_
 refine ae ?_
 refine ay (aL 7) ?_
 refine au (i := 14) rfl aa (ai rfl) (aL 7) aD rfl (aj av) (by as_aux_lemma => kernel_rfl) rfl ?_
 refine bA (by as_aux_lemma => kernel_rfl) ?_
 refine ao ?_
 refine bD (fun w h => (h.weak (.cons_cons _ (.cons_cons _ (.cons _ (.cons _ (.cons _ (.cons_cons _ (.cons _ (.cons_cons _ (.cons _ (.cons_cons _ (.cons _ (.cons _ (.cons _ .slnil))))))))))))) (fun s hs => hs)).f4.f4.f4.f4.f4) ?_
 exact J2 (⟨(tb, Ab, cb), htb2⟩, b76) _ (by repeat (first | exact trivial | refine ⟨rfl, ?_⟩))
 refine aJ (i := 4) rfl rfl rfl (fun _ _ _ => ax (by as_aux_lemma => kernel_rfl)) rfl ?_ ?_
 refine bf (vs := [_]) ([[98]] : List (bg)) bB Try.underlying105 cF rfl rfl rfl rfl rfl rfl (fun As81 => ?_)
 refine ae ?_
 refine ay (aL 3) ?_
 refine bJ (js := [3, 5]) (by as_aux_lemma => kernel_rfl) rfl ?_
 refine aJ (i := 3) rfl rfl rfl (fun _ _ _ => ax (by as_aux_lemma => kernel_rfl)) rfl ?_ ?_
 refine bf (vs := [_]) (p17b : List (Le)) bl Try.underlying22 a7 rfl rfl rfl rfl rfl rfl (fun As82 => ?_)
 refine ae ?_
 refine ay (aL 4) ?_
 refine aP (i := 5) rfl rfl rfl (aH rfl bH) (by as_aux_lemma => kernel_rfl) rfl ?_
 refine bi rfl bH rfl (bT _ _ _ (by decide)) (fun w hw => (ak (aK 1 rfl hw) aO)) ?_
 refine ae ?_
 refine ay (aL 4) ?_
 refine aP (i := 6) rfl rfl rfl (fun _ _ _ => ax (by as_aux_lemma => kernel_rfl)) (by as_aux_lemma => kernel_rfl) rfl ?_
 refine bf (vs := [_]) ([cI 98] : List (bg)) bB Try.underlying25 bF rfl rfl rfl rfl rfl rfl (fun As83 => ?_)
 refine ae ?_
 refine ay (aL 5) ?_
 refine au (i := 7) rfl aa (bm rfl (aR _ _ _ _ _ _ _ _)) (aL 5) aD rfl (aj av) (by as_aux_lemma => kernel_rfl) rfl ?_
 refine aP (i := 8) rfl rfl rfl (aH rfl aU) (by as_aux_lemma => kernel_rfl) rfl ?_
 refine a6 rfl aU rfl (a8 3 ta _ _ false 3 4 p17b _ _ [cI 98] _ _ htaok bw htal (by decide) (by decide) bk) (fun w hw => (ak (aK 7 rfl hw) (ak (ci 6 rfl hw) (ak (aK 1 rfl hw) (ak (bo bv) (ak (aK 0 rfl hw) aO)))))) (fun ⟨⟨tb, Ab, cb⟩, htb⟩ => ?_)
 refine ae ?_
 refine ay (aL 7) ?_
 refine bN (t := 27) (.tuple #[.agg (cU 4 Ab tb.length cb).toArray, .int .i64 0]) rfl (by rw [hb9.1]; rfl) ?_
 have htb2 : tb.map (·.e) = r17b.map (·.e) := htb.trans hb9.2
 refine au (i := 9) rfl aa (am rfl) (aL 7) aD rfl (aj av) (by as_aux_lemma => kernel_rfl) rfl ?_
 refine au (i := 10) rfl aa (az rfl rfl) (aL 7) aD rfl (aj av) (by as_aux_lemma => kernel_rfl) rfl ?_
 refine au (i := 11) rfl aa (az rfl rfl) (aL 7) aD rfl (aj av) (by as_aux_lemma => kernel_rfl) rfl ?_
 refine aP (i := 13) rfl rfl rfl (fun _ _ _ => ax (by as_aux_lemma => kernel_rfl)) (by as_aux_lemma => kernel_rfl) rfl ?_
 refine aS aZ rfl rfl rfl (.s (.s (.s (.s (.s (.z)))))) rfl rfl rfl rfl ?_
 refine ae ?_
 refine ay (aL 7) ?_
 refine au (i := 14) rfl aa (ai rfl) (aL 7) aD rfl (aj av) (by as_aux_lemma => kernel_rfl) rfl ?_
 refine bA (by as_aux_lemma => kernel_rfl) ?_
 refine ao ?_
 refine bD (fun w h => (h.weak (.cons_cons _ (.cons_cons _ (.cons _ (.cons _ (.cons _ (.cons_cons _ (.cons _ (.cons_cons _ (.cons _ (.cons_cons _ (.cons _ (.cons _ (.cons _ .slnil))))))))))))) (fun s hs => hs)).f4.f4.f4.f4.f4) ?_
 exact J2 (⟨(tb, Ab, cb), htb2⟩, b76) _ (by repeat (first | exact trivial | refine ⟨rfl, ?_⟩))
 refine aJ (i := 5) rfl rfl rfl (aH rfl bH) rfl ?_ ?_
 refine bi rfl bH rfl (bT _ _ _ (by decide)) (fun w hw => (ak (aK 0 rfl hw) aO)) ?_
 refine ae ?_
 refine ay (aL 3) ?_
 refine bJ (js := [3, 6]) (by as_aux_lemma => kernel_rfl) rfl ?_
 refine aJ (i := 3) rfl rfl rfl (fun _ _ _ => ax (by as_aux_lemma => kernel_rfl)) rfl ?_ ?_
 refine bf (vs := [_]) (p17b : List (Le)) bl Try.underlying22 a7 rfl rfl rfl rfl rfl rfl (fun As85 => ?_)
 refine ae ?_
 refine ay (aL 4) ?_
 refine aP (i := 6) rfl rfl rfl (fun _ _ _ => ax (by as_aux_lemma => kernel_rfl)) (by as_aux_lemma => kernel_rfl) rfl ?_
 refine bf (vs := [_]) ([cI 98] : List (bg)) bB Try.underlying25 bF rfl rfl rfl rfl rfl rfl (fun As86 => ?_)
 refine ae ?_
 refine ay (aL 5) ?_
 refine au (i := 7) rfl aa (bm rfl (aR _ _ _ _ _ _ _ _)) (aL 5) aD rfl (aj av) (by as_aux_lemma => kernel_rfl) rfl ?_
 refine aP (i := 8) rfl rfl rfl (aH rfl aU) (by as_aux_lemma => kernel_rfl) rfl ?_
 refine a6 rfl aU rfl (a8 3 ta _ _ false 3 4 p17b _ _ [cI 98] _ _ htaok bw htal (by decide) (by decide) bk) (fun w hw => (ak (aK 7 rfl hw) (ak (ci 6 rfl hw) (ak (aK 1 rfl hw) (ak (bo bv) (ak (aK 0 rfl hw) aO)))))) (fun ⟨⟨tb, Ab, cb⟩, htb⟩ => ?_)
 refine ae ?_
 refine ay (aL 7) ?_
 refine bN (t := 27) (.tuple #[.agg (cU 4 Ab tb.length cb).toArray, .int .i64 0]) rfl (by rw [hb9.1]; rfl) ?_
 have htb2 : tb.map (·.e) = r17b.map (·.e) := htb.trans hb9.2
 refine au (i := 9) rfl aa (am rfl) (aL 7) aD rfl (aj av) (by as_aux_lemma => kernel_rfl) rfl ?_
 refine au (i := 10) rfl aa (az rfl rfl) (aL 7) aD rfl (aj av) (by as_aux_lemma => kernel_rfl) rfl ?_
 refine au (i := 11) rfl aa (az rfl rfl) (aL 7) aD rfl (aj av) (by as_aux_lemma => kernel_rfl) rfl ?_
 refine aP (i := 13) rfl rfl rfl (fun _ _ _ => ax (by as_aux_lemma => kernel_rfl)) (by as_aux_lemma => kernel_rfl) rfl ?_
 refine aS aZ rfl rfl rfl (.s (.s (.s (.s (.s (.z)))))) rfl rfl rfl rfl ?_
 refine ae ?_
 refine ay (aL 7) ?_
 refine au (i := 14) rfl aa (ai rfl) (aL 7) aD rfl (aj av) (by as_aux_lemma => kernel_rfl) rfl ?_
 refine bA (by as_aux_lemma => kernel_rfl) ?_
 refine ao ?_
 refine bD (fun w h => (h.weak (.cons_cons _ (.cons_cons _ (.cons _ (.cons _ (.cons _ (.cons_cons _ (.cons _ (.cons_cons _ (.cons _ (.cons_cons _ (.cons _ (.cons _ (.cons _ .slnil))))))))))))) (fun s hs => hs)).f4.f4.f4.f4.f4) ?_
 exact J2 (⟨(tb, Ab, cb), htb2⟩, b76) _ (by repeat (first | exact trivial | refine ⟨rfl, ?_⟩))
 refine aJ (i := 6) rfl rfl rfl (fun _ _ _ => ax (by as_aux_lemma => kernel_rfl)) rfl ?_ ?_
 refine bf (vs := [_]) ([cI 98] : List (bg)) bB Try.underlying25 bF rfl rfl rfl rfl rfl rfl (fun As88 => ?_)
 refine ae ?_
 refine ay (aL 4) ?_
 refine aP (i := 3) rfl rfl rfl (fun _ _ _ => ax (by as_aux_lemma => kernel_rfl)) (by as_aux_lemma => kernel_rfl) rfl ?_
 refine bf (vs := [_]) (p17b : List (Le)) bl Try.underlying22 a7 rfl rfl rfl rfl rfl rfl (fun As89 => ?_)
 refine ae ?_
 refine ay (aL 5) ?_
 refine au (i := 7) rfl aa (bm rfl (aR _ _ _ _ _ _ _ _)) (aL 5) aD rfl (aj av) (by as_aux_lemma => kernel_rfl) rfl ?_
 refine aP (i := 8) rfl rfl rfl (aH rfl aU) (by as_aux_lemma => kernel_rfl) rfl ?_
 refine a6 rfl aU rfl (a8 3 ta _ _ false 3 4 p17b _ _ [cI 98] _ _ htaok bw htal (by decide) (by decide) bk) (fun w hw => (ak (aK 7 rfl hw) (ak (ci 6 rfl hw) (ak (aK 0 rfl hw) (ak (bo bv) (ak (aK 1 rfl hw) aO)))))) (fun ⟨⟨tb, Ab, cb⟩, htb⟩ => ?_)
 refine ae ?_
 refine ay (aL 7) ?_
 refine bN (t := 27) (.tuple #[.agg (cU 4 Ab tb.length cb).toArray, .int .i64 0]) rfl (by rw [hb9.1]; rfl) ?_
 have htb2 : tb.map (·.e) = r17b.map (·.e) := htb.trans hb9.2
 refine au (i := 9) rfl aa (am rfl) (aL 7) aD rfl (aj av) (by as_aux_lemma => kernel_rfl) rfl ?_
 refine au (i := 10) rfl aa (az rfl rfl) (aL 7) aD rfl (aj av) (by as_aux_lemma => kernel_rfl) rfl ?_
 refine au (i := 11) rfl aa (az rfl rfl) (aL 7) aD rfl (aj av) (by as_aux_lemma => kernel_rfl) rfl ?_
 refine aP (i := 13) rfl rfl rfl (fun _ _ _ => ax (by as_aux_lemma => kernel_rfl)) (by as_aux_lemma => kernel_rfl) rfl ?_
 refine aS aZ rfl rfl rfl (.s (.s (.s (.s (.s (.z)))))) rfl rfl rfl rfl ?_
 refine ae ?_
 refine ay (aL 7) ?_
 refine au (i := 14) rfl aa (ai rfl) (aL 7) aD rfl (aj av) (by as_aux_lemma => kernel_rfl) rfl ?_
 refine bA (by as_aux_lemma => kernel_rfl) ?_
 refine ao ?_
 refine bD (fun w h => (h.weak (.cons_cons _ (.cons_cons _ (.cons _ (.cons _ (.cons _ (.cons_cons _ (.cons _ (.cons_cons _ (.cons _ (.cons_cons _ (.cons _ (.cons _ (.cons _ .slnil))))))))))))) (fun s hs => hs)).f4.f4.f4.f4.f4) ?_
 exact J2 (⟨(tb, Ab, cb), htb2⟩, b76) _ (by repeat (first | exact trivial | refine ⟨rfl, ?_⟩))
 exact bx
 exact bx
 exact bx
 exact bx
 refine aJ (i := 4) rfl rfl rfl (fun _ _ _ => ax (by as_aux_lemma => kernel_rfl)) rfl ?_ ?_
 refine bf (vs := [_]) ([[98]] : List (bg)) bB Try.underlying105 cF rfl rfl rfl rfl rfl rfl (fun As91 => ?_)
 refine ae ?_
 refine ay (aL 2) ?_
 refine bJ (js := [2, 12]) (by as_aux_lemma => kernel_rfl) rfl ?_
 refine aJ (i := 2) rfl rfl rfl (aH rfl dB) rfl ?_ ?_
 refine bi rfl dB rfl (dT _ _ _ (by decide)) (fun w hw => (ak (aK 1 rfl hw) aO)) ?_
 refine ae ?_
 refine ay (aL 2) ?_
 refine bJ (js := [3, 5, 12]) (by as_aux_lemma => kernel_rfl) rfl ?_
 refine aJ (i := 3) rfl rfl rfl (fun _ _ _ => ax (by as_aux_lemma => kernel_rfl)) rfl ?_ ?_
 refine bf (vs := [_]) (p17b : List (Le)) bl Try.underlying22 a7 rfl rfl rfl rfl rfl rfl (fun As92 => ?_)
 refine ae ?_
 refine ay (aL 3) ?_
 refine bJ (js := [5, 12]) (by as_aux_lemma => kernel_rfl) rfl ?_
 refine aJ (i := 5) rfl rfl rfl (aH rfl bH) rfl ?_ ?_
 refine bi rfl bH rfl (bT _ _ _ (by decide)) (fun w hw => (ak (aK 1 rfl hw) aO)) ?_
 refine ae ?_
 refine ay (aL 3) ?_
 refine bJ (js := [6, 12]) (by as_aux_lemma => kernel_rfl) rfl ?_
 refine aJ (i := 6) rfl rfl rfl (fun _ _ _ => ax (by as_aux_lemma => kernel_rfl)) rfl ?_ ?_
 refine bf (vs := [_]) ([cI 98] : List (bg)) bB Try.underlying25 bF rfl rfl rfl rfl rfl rfl (fun As93 => ?_)
 refine ae ?_
 refine ay (aL 4) ?_
 refine au (i := 7) rfl aa (bm rfl (aR _ _ _ _ _ _ _ _)) (aL 4) aD rfl (aj av) (by as_aux_lemma => kernel_rfl) rfl ?_
 refine bJ (js := [8, 12]) (by as_aux_lemma => kernel_rfl) rfl ?_
 refine aJ (i := 8) rfl rfl rfl (aH rfl aU) rfl ?_ ?_
 refine a6 rfl aU rfl (a8 3 ta _ _ false 3 4 p17b _ _ [cI 98] _ _ htaok bw htal (by decide) (by decide) bk) (fun w hw => (ak (aK 6 rfl hw) (ak (ci 5 rfl hw) (ak (aK 1 rfl hw) (ak (bo bv) (ak (aK 0 rfl hw) aO)))))) (fun ⟨⟨tb, Ab, cb⟩, htb⟩ => ?_)
 refine ae ?_
 refine ay (aL 6) ?_
 refine bN (t := 27) (.tuple #[.agg (cU 4 Ab tb.length cb).toArray, .int .i64 0]) rfl (by rw [hb9.1]; rfl) ?_
 have htb2 : tb.map (·.e) = r17b.map (·.e) := htb.trans hb9.2
 refine au (i := 9) rfl aa (am rfl) (aL 6) aD rfl (aj av) (by as_aux_lemma => kernel_rfl) rfl ?_
 refine au (i := 10) rfl aa (az rfl rfl) (aL 6) aD rfl (aj av) (by as_aux_lemma => kernel_rfl) rfl ?_
 refine au (i := 11) rfl aa (az rfl rfl) (aL 6) aD rfl (aj av) (by as_aux_lemma => kernel_rfl) rfl ?_
 refine aP (i := 12) rfl rfl rfl (fun _ _ _ => ax (by as_aux_lemma => kernel_rfl)) (by as_aux_lemma => kernel_rfl) rfl ?_
 refine bu aZ rfl rfl (fun b95 => ?_)
 refine ae ?_
 refine ay (aL 7) ?_
 refine aP (i := 13) rfl rfl rfl (fun _ _ _ => ax (by as_aux_lemma => kernel_rfl)) (by as_aux_lemma => kernel_rfl) rfl ?_
 refine aS aZ rfl rfl rfl .z rfl rfl rfl rfl ?_
 refine ae ?_
 refine ay (aL 7) ?_
 refine au (i := 14) rfl aa (ai rfl) (aL 7) aD rfl (aj av) (by as_aux_lemma => kernel_rfl) rfl ?_
 refine bA (by as_aux_lemma => kernel_rfl) ?_
 refine ao ?_
 refine bD (fun w h => (h.weak (.cons_cons _ (.cons_cons _ (.cons_cons _ (.cons _ (.cons _ (.cons _ (.cons _ (.cons_cons _ (.cons _ (.cons_cons _ (.cons _ (.cons _ (.cons _ .slnil))))))))))))) (fun s hs => hs)).f4.f4.f2.f4.f4) ?_
 exact J2 (⟨(tb, Ab, cb), htb2⟩, b95) _ (by repeat (first | exact trivial | refine ⟨rfl, ?_⟩))
 refine aJ (i := 12) rfl rfl rfl (fun _ _ _ => ax (by as_aux_lemma => kernel_rfl)) rfl ?_ ?_
 refine bu aZ rfl rfl (fun b96 => ?_)
 refine ae ?_
 refine ay (aL 5) ?_
 refine aP (i := 8) rfl rfl rfl (aH rfl aU) (by as_aux_lemma => kernel_rfl) rfl ?_
 refine a6 rfl aU rfl (a8 3 ta _ _ false 3 4 p17b _ _ [cI 98] _ _ htaok bw htal (by decide) (by decide) bk) (fun w hw => (ak (aK 7 rfl hw) (ak (ci 6 rfl hw) (ak (aK 2 rfl hw) (ak (bo bv) (ak (aK 1 rfl hw) aO)))))) (fun ⟨⟨tb, Ab, cb⟩, htb⟩ => ?_)
 refine ae ?_
 refine ay (aL 7) ?_
 refine bN (t := 27) (.tuple #[.agg (cU 4 Ab tb.length cb).toArray, .int .i64 0]) rfl (by rw [hb9.1]; rfl) ?_
 have htb2 : tb.map (·.e) = r17b.map (·.e) := htb.trans hb9.2
 refine au (i := 9) rfl aa (am rfl) (aL 7) aD rfl (aj av) (by as_aux_lemma => kernel_rfl) rfl ?_
 refine au (i := 10) rfl aa (az rfl rfl) (aL 7) aD rfl (aj av) (by as_aux_lemma => kernel_rfl) rfl ?_
 refine au (i := 11) rfl aa (az rfl rfl) (aL 7) aD rfl (aj av) (by as_aux_lemma => kernel_rfl) rfl ?_
 refine aP (i := 13) rfl rfl rfl (fun _ _ _ => ax (by as_aux_lemma => kernel_rfl)) (by as_aux_lemma => kernel_rfl) rfl ?_
 refine aS aZ rfl rfl rfl (.s (.s (.z))) rfl rfl rfl rfl ?_
 refine ae ?_
 refine ay (aL 7) ?_
 refine au (i := 14) rfl aa (ai rfl) (aL 7) aD rfl (aj av) (by as_aux_lemma => kernel_rfl) rfl ?_
 refine bA (by as_aux_lemma => kernel_rfl) ?_
 refine ao ?_
 refine bD (fun w h => (h.weak (.cons_cons _ (.cons_cons _ (.cons_cons _ (.cons _ (.cons _ (.cons _ (.cons _ (.cons_cons _ (.cons _ (.cons_cons _ (.cons _ (.cons _ (.cons _ .slnil))))))))))))) (fun s hs => hs)).f4.f4.f4.f4.f4) ?_
 exact J2 (⟨(tb, Ab, cb), htb2⟩, b96) _ (by repeat (first | exact trivial | refine ⟨rfl, ?_⟩))
 exact bx
 refine aJ (i := 12) rfl rfl rfl (fun _ _ _ => ax (by as_aux_lemma => kernel_rfl)) rfl ?_ ?_
 refine bu aZ rfl rfl (fun b98 => ?_)
 refine ae ?_
 refine ay (aL 4) ?_
 refine aP (i := 6) rfl rfl rfl (fun _ _ _ => ax (by as_aux_lemma => kernel_rfl)) (by as_aux_lemma => kernel_rfl) rfl ?_
 refine bf (vs := [_]) ([cI 98] : List (bg)) bB Try.underlying25 bF rfl rfl rfl rfl rfl rfl (fun As99 => ?_)
 refine ae ?_
 refine ay (aL 5) ?_
 refine au (i := 7) rfl aa (bm rfl (aR _ _ _ _ _ _ _ _)) (aL 5) aD rfl (aj av) (by as_aux_lemma => kernel_rfl) rfl ?_
 refine aP (i := 8) rfl rfl rfl (aH rfl aU) (by as_aux_lemma => kernel_rfl) rfl ?_
 refine a6 rfl aU rfl (a8 3 ta _ _ false 3 4 p17b _ _ [cI 98] _ _ htaok bw htal (by decide) (by decide) bk) (fun w hw => (ak (aK 7 rfl hw) (ak (ci 6 rfl hw) (ak (aK 2 rfl hw) (ak (bo bv) (ak (aK 0 rfl hw) aO)))))) (fun ⟨⟨tb, Ab, cb⟩, htb⟩ => ?_)
 refine ae ?_
 refine ay (aL 7) ?_
 refine bN (t := 27) (.tuple #[.agg (cU 4 Ab tb.length cb).toArray, .int .i64 0]) rfl (by rw [hb9.1]; rfl) ?_
 have htb2 : tb.map (·.e) = r17b.map (·.e) := htb.trans hb9.2
 refine au (i := 9) rfl aa (am rfl) (aL 7) aD rfl (aj av) (by as_aux_lemma => kernel_rfl) rfl ?_
 refine au (i := 10) rfl aa (az rfl rfl) (aL 7) aD rfl (aj av) (by as_aux_lemma => kernel_rfl) rfl ?_
 refine au (i := 11) rfl aa (az rfl rfl) (aL 7) aD rfl (aj av) (by as_aux_lemma => kernel_rfl) rfl ?_
 refine aP (i := 13) rfl rfl rfl (fun _ _ _ => ax (by as_aux_lemma => kernel_rfl)) (by as_aux_lemma => kernel_rfl) rfl ?_
 refine aS aZ rfl rfl rfl (.s (.s (.s (.z)))) rfl rfl rfl rfl ?_
 refine ae ?_
 refine ay (aL 7) ?_
 refine au (i := 14) rfl aa (ai rfl) (aL 7) aD rfl (aj av) (by as_aux_lemma => kernel_rfl) rfl ?_
 refine bA (by as_aux_lemma => kernel_rfl) ?_
 refine ao ?_
 refine bD (fun w h => (h.weak (.cons_cons _ (.cons_cons _ (.cons _ (.cons_cons _ (.cons _ (.cons _ (.cons _ (.cons_cons _ (.cons _ (.cons_cons _ (.cons _ (.cons _ (.cons _ .slnil))))))))))))) (fun s hs => hs)).f4.f4.f4.f4.f4) ?_
 exact J2 (⟨(tb, Ab, cb), htb2⟩, b98) _ (by repeat (first | exact trivial | refine ⟨rfl, ?_⟩))
 exact bx
 refine aJ (i := 12) rfl rfl rfl (fun _ _ _ => ax (by as_aux_lemma => kernel_rfl)) rfl ?_ ?_
 refine bu aZ rfl rfl (fun b101 => ?_)
 refine ae ?_
 refine ay (aL 4) ?_
 refine aP (i := 5) rfl rfl rfl (aH rfl bH) (by as_aux_lemma => kernel_rfl) rfl ?_
 refine bi rfl bH rfl (bT _ _ _ (by decide)) (fun w hw => (ak (aK 2 rfl hw) aO)) ?_
 refine ae ?_
 refine ay (aL 4) ?_
 refine aP (i := 6) rfl rfl rfl (fun _ _ _ => ax (by as_aux_lemma => kernel_rfl)) (by as_aux_lemma => kernel_rfl) rfl ?_
 refine bf (vs := [_]) ([cI 98] : List (bg)) bB Try.underlying25 bF rfl rfl rfl rfl rfl rfl (fun As102 => ?_)
 refine ae ?_
 refine ay (aL 5) ?_
 refine au (i := 7) rfl aa (bm rfl (aR _ _ _ _ _ _ _ _)) (aL 5) aD rfl (aj av) (by as_aux_lemma => kernel_rfl) rfl ?_
 refine aP (i := 8) rfl rfl rfl (aH rfl aU) (by as_aux_lemma => kernel_rfl) rfl ?_
 refine a6 rfl aU rfl (a8 3 ta _ _ false 3 4 p17b _ _ [cI 98] _ _ htaok bw htal (by decide) (by decide) bk) (fun w hw => (ak (aK 7 rfl hw) (ak (ci 6 rfl hw) (ak (aK 2 rfl hw) (ak (bo bv) (ak (aK 0 rfl hw) aO)))))) (fun ⟨⟨tb, Ab, cb⟩, htb⟩ => ?_)
 refine ae ?_
 refine ay (aL 7) ?_
 refine bN (t := 27) (.tuple #[.agg (cU 4 Ab tb.length cb).toArray, .int .i64 0]) rfl (by rw [hb9.1]; rfl) ?_
 have htb2 : tb.map (·.e) = r17b.map (·.e) := htb.trans hb9.2
 refine au (i := 9) rfl aa (am rfl) (aL 7) aD rfl (aj av) (by as_aux_lemma => kernel_rfl) rfl ?_
 refine au (i := 10) rfl aa (az rfl rfl) (aL 7) aD rfl (aj av) (by as_aux_lemma => kernel_rfl) rfl ?_
 refine au (i := 11) rfl aa (az rfl rfl) (aL 7) aD rfl (aj av) (by as_aux_lemma => kernel_rfl) rfl ?_
 refine aP (i := 13) rfl rfl rfl (fun _ _ _ => ax (by as_aux_lemma => kernel_rfl)) (by as_aux_lemma => kernel_rfl) rfl ?_
 refine aS aZ rfl rfl rfl (.s (.s (.s (.z)))) rfl rfl rfl rfl ?_
 refine ae ?_
 refine ay (aL 7) ?_
 refine au (i := 14) rfl aa (ai rfl) (aL 7) aD rfl (aj av) (by as_aux_lemma => kernel_rfl) rfl ?_
 refine bA (by as_aux_lemma => kernel_rfl) ?_
 refine ao ?_
 refine bD (fun w h => (h.weak (.cons_cons _ (.cons_cons _ (.cons _ (.cons_cons _ (.cons _ (.cons _ (.cons _ (.cons_cons _ (.cons _ (.cons_cons _ (.cons _ (.cons _ (.cons _ .slnil))))))))))))) (fun s hs => hs)).f4.f4.f4.f4.f4) ?_
 exact J2 (⟨(tb, Ab, cb), htb2⟩, b101) _ (by repeat (first | exact trivial | refine ⟨rfl, ?_⟩))
 exact bx
 refine aJ (i := 5) rfl rfl rfl (aH rfl bH) rfl ?_ ?_
 refine bi rfl bH rfl (bT _ _ _ (by decide)) (fun w hw => (ak (aK 0 rfl hw) aO)) ?_
 refine ae ?_
 refine ay (aL 2) ?_
 refine bJ (js := [3, 6, 12]) (by as_aux_lemma => kernel_rfl) rfl ?_
 refine aJ (i := 3) rfl rfl rfl (fun _ _ _ => ax (by as_aux_lemma => kernel_rfl)) rfl ?_ ?_
 refine bf (vs := [_]) (p17b : List (Le)) bl Try.underlying22 a7 rfl rfl rfl rfl rfl rfl (fun As104 => ?_)
 refine ae ?_
 refine ay (aL 3) ?_
 refine bJ (js := [6, 12]) (by as_aux_lemma => kernel_rfl) rfl ?_
 refine aJ (i := 6) rfl rfl rfl (fun _ _ _ => ax (by as_aux_lemma => kernel_rfl)) rfl ?_ ?_
 refine bf (vs := [_]) ([cI 98] : List (bg)) bB Try.underlying25 bF rfl rfl rfl rfl rfl rfl (fun As105 => ?_)
 refine ae ?_
 refine ay (aL 4) ?_
 refine au (i := 7) rfl aa (bm rfl (aR _ _ _ _ _ _ _ _)) (aL 4) aD rfl (aj av) (by as_aux_lemma => kernel_rfl) rfl ?_
 refine bJ (js := [8, 12]) (by as_aux_lemma => kernel_rfl) rfl ?_
 refine aJ (i := 8) rfl rfl rfl (aH rfl aU) rfl ?_ ?_
 refine a6 rfl aU rfl (a8 3 ta _ _ false 3 4 p17b _ _ [cI 98] _ _ htaok bw htal (by decide) (by decide) bk) (fun w hw => (ak (aK 6 rfl hw) (ak (ci 5 rfl hw) (ak (aK 1 rfl hw) (ak (bo bv) (ak (aK 0 rfl hw) aO)))))) (fun ⟨⟨tb, Ab, cb⟩, htb⟩ => ?_)
 refine ae ?_
 refine ay (aL 6) ?_
 refine bN (t := 27) (.tuple #[.agg (cU 4 Ab tb.length cb).toArray, .int .i64 0]) rfl (by rw [hb9.1]; rfl) ?_
 have htb2 : tb.map (·.e) = r17b.map (·.e) := htb.trans hb9.2
 refine au (i := 9) rfl aa (am rfl) (aL 6) aD rfl (aj av) (by as_aux_lemma => kernel_rfl) rfl ?_
 refine au (i := 10) rfl aa (az rfl rfl) (aL 6) aD rfl (aj av) (by as_aux_lemma => kernel_rfl) rfl ?_
 refine au (i := 11) rfl aa (az rfl rfl) (aL 6) aD rfl (aj av) (by as_aux_lemma => kernel_rfl) rfl ?_
 refine aP (i := 12) rfl rfl rfl (fun _ _ _ => ax (by as_aux_lemma => kernel_rfl)) (by as_aux_lemma => kernel_rfl) rfl ?_
 refine bu aZ rfl rfl (fun b107 => ?_)
 refine ae ?_
 refine ay (aL 7) ?_
 refine aP (i := 13) rfl rfl rfl (fun _ _ _ => ax (by as_aux_lemma => kernel_rfl)) (by as_aux_lemma => kernel_rfl) rfl ?_
 refine aS aZ rfl rfl rfl .z rfl rfl rfl rfl ?_
 refine ae ?_
 refine ay (aL 7) ?_
 refine au (i := 14) rfl aa (ai rfl) (aL 7) aD rfl (aj av) (by as_aux_lemma => kernel_rfl) rfl ?_
 refine bA (by as_aux_lemma => kernel_rfl) ?_
 refine ao ?_
 refine bD (fun w h => (h.weak (.cons_cons _ (.cons_cons _ (.cons_cons _ (.cons _ (.cons _ (.cons _ (.cons _ (.cons_cons _ (.cons _ (.cons_cons _ (.cons _ (.cons _ (.cons _ .slnil))))))))))))) (fun s hs => hs)).f4.f4.f2.f4.f4) ?_
 exact J2 (⟨(tb, Ab, cb), htb2⟩, b107) _ (by repeat (first | exact trivial | refine ⟨rfl, ?_⟩))
 refine aJ (i := 12) rfl rfl rfl (fun _ _ _ => ax (by as_aux_lemma => kernel_rfl)) rfl ?_ ?_
 refine bu aZ rfl rfl (fun b108 => ?_)
 refine ae ?_
 refine ay (aL 5) ?_
 refine aP (i := 8) rfl rfl rfl (aH rfl aU) (by as_aux_lemma => kernel_rfl) rfl ?_
 refine a6 rfl aU rfl (a8 3 ta _ _ false 3 4 p17b _ _ [cI 98] _ _ htaok bw htal (by decide) (by decide) bk) (fun w hw => (ak (aK 7 rfl hw) (ak (ci 6 rfl hw) (ak (aK 2 rfl hw) (ak (bo bv) (ak (aK 1 rfl hw) aO)))))) (fun ⟨⟨tb, Ab, cb⟩, htb⟩ => ?_)
 refine ae ?_
 refine ay (aL 7) ?_
 refine bN (t := 27) (.tuple #[.agg (cU 4 Ab tb.length cb).toArray, .int .i64 0]) rfl (by rw [hb9.1]; rfl) ?_
 have htb2 : tb.map (·.e) = r17b.map (·.e) := htb.trans hb9.2
 refine au (i := 9) rfl aa (am rfl) (aL 7) aD rfl (aj av) (by as_aux_lemma => kernel_rfl) rfl ?_
 refine au (i := 10) rfl aa (az rfl rfl) (aL 7) aD rfl (aj av) (by as_aux_lemma => kernel_rfl) rfl ?_
 refine au (i := 11) rfl aa (az rfl rfl) (aL 7) aD rfl (aj av) (by as_aux_lemma => kernel_rfl) rfl ?_
 refine aP (i := 13) rfl rfl rfl (fun _ _ _ => ax (by as_aux_lemma => kernel_rfl)) (by as_aux_lemma => kernel_rfl) rfl ?_
 refine aS aZ rfl rfl rfl (.s (.s (.z))) rfl rfl rfl rfl ?_
 refine ae ?_
 refine ay (aL 7) ?_
 refine au (i := 14) rfl aa (ai rfl) (aL 7) aD rfl (aj av) (by as_aux_lemma => kernel_rfl) rfl ?_
 refine bA (by as_aux_lemma => kernel_rfl) ?_
 refine ao ?_
 refine bD (fun w h => (h.weak (.cons_cons _ (.cons_cons _ (.cons_cons _ (.cons _ (.cons _ (.cons _ (.cons _ (.cons_cons _ (.cons _ (.cons_cons _ (.cons _ (.cons _ (.cons _ .slnil))))))))))))) (fun s hs => hs)).f4.f4.f4.f4.f4) ?_
 exact J2 (⟨(tb, Ab, cb), htb2⟩, b108) _ (by repeat (first | exact trivial | refine ⟨rfl, ?_⟩))
 exact bx
 refine aJ (i := 12) rfl rfl rfl (fun _ _ _ => ax (by as_aux_lemma => kernel_rfl)) rfl ?_ ?_
 refine bu aZ rfl rfl (fun b110 => ?_)
 refine ae ?_
 refine ay (aL 4) ?_
 refine aP (i := 6) rfl rfl rfl (fun _ _ _ => ax (by as_aux_lemma => kernel_rfl)) (by as_aux_lemma => kernel_rfl) rfl ?_
 refine bf (vs := [_]) ([cI 98] : List (bg)) bB Try.underlying25 bF rfl rfl rfl rfl rfl rfl (fun As111 => ?_)
 refine ae ?_
 refine ay (aL 5) ?_
 refine au (i := 7) rfl aa (bm rfl (aR _ _ _ _ _ _ _ _)) (aL 5) aD rfl (aj av) (by as_aux_lemma => kernel_rfl) rfl ?_
 refine aP (i := 8) rfl rfl rfl (aH rfl aU) (by as_aux_lemma => kernel_rfl) rfl ?_
 refine a6 rfl aU rfl (a8 3 ta _ _ false 3 4 p17b _ _ [cI 98] _ _ htaok bw htal (by decide) (by decide) bk) (fun w hw => (ak (aK 7 rfl hw) (ak (ci 6 rfl hw) (ak (aK 2 rfl hw) (ak (bo bv) (ak (aK 0 rfl hw) aO)))))) (fun ⟨⟨tb, Ab, cb⟩, htb⟩ => ?_)
 refine ae ?_
 refine ay (aL 7) ?_
 refine bN (t := 27) (.tuple #[.agg (cU 4 Ab tb.length cb).toArray, .int .i64 0]) rfl (by rw [hb9.1]; rfl) ?_
 have htb2 : tb.map (·.e) = r17b.map (·.e) := htb.trans hb9.2
 refine au (i := 9) rfl aa (am rfl) (aL 7) aD rfl (aj av) (by as_aux_lemma => kernel_rfl) rfl ?_
 refine au (i := 10) rfl aa (az rfl rfl) (aL 7) aD rfl (aj av) (by as_aux_lemma => kernel_rfl) rfl ?_
 refine au (i := 11) rfl aa (az rfl rfl) (aL 7) aD rfl (aj av) (by as_aux_lemma => kernel_rfl) rfl ?_
 refine aP (i := 13) rfl rfl rfl (fun _ _ _ => ax (by as_aux_lemma => kernel_rfl)) (by as_aux_lemma => kernel_rfl) rfl ?_
 refine aS aZ rfl rfl rfl (.s (.s (.s (.z)))) rfl rfl rfl rfl ?_
 refine ae ?_
 refine ay (aL 7) ?_
 refine au (i := 14) rfl aa (ai rfl) (aL 7) aD rfl (aj av) (by as_aux_lemma => kernel_rfl) rfl ?_
 refine bA (by as_aux_lemma => kernel_rfl) ?_
 refine ao ?_
 refine bD (fun w h => (h.weak (.cons_cons _ (.cons_cons _ (.cons _ (.cons_cons _ (.cons _ (.cons _ (.cons _ (.cons_cons _ (.cons _ (.cons_cons _ (.cons _ (.cons _ (.cons _ .slnil))))))))))))) (fun s hs => hs)).f4.f4.f4.f4.f4) ?_
 exact J2 (⟨(tb, Ab, cb), htb2⟩, b110) _ (by repeat (first | exact trivial | refine ⟨rfl, ?_⟩))
 exact bx
 refine aJ (i := 6) rfl rfl rfl (fun _ _ _ => ax (by as_aux_lemma => kernel_rfl)) rfl ?_ ?_
 refine bf (vs := [_]) ([cI 98] : List (bg)) bB Try.underlying25 bF rfl rfl rfl rfl rfl rfl (fun As113 => ?_)
 refine ae ?_
 refine ay (aL 3) ?_
 refine bJ (js := [3, 12]) (by as_aux_lemma => kernel_rfl) rfl ?_
 refine aJ (i := 3) rfl rfl rfl (fun _ _ _ => ax (by as_aux_lemma => kernel_rfl)) rfl ?_ ?_
 refine bf (vs := [_]) (p17b : List (Le)) bl Try.underlying22 a7 rfl rfl rfl rfl rfl rfl (fun As114 => ?_)
 refine ae ?_
 refine ay (aL 4) ?_
 refine au (i := 7) rfl aa (bm rfl (aR _ _ _ _ _ _ _ _)) (aL 4) aD rfl (aj av) (by as_aux_lemma => kernel_rfl) rfl ?_
 refine bJ (js := [8, 12]) (by as_aux_lemma => kernel_rfl) rfl ?_
 refine aJ (i := 8) rfl rfl rfl (aH rfl aU) rfl ?_ ?_
 refine a6 rfl aU rfl (a8 3 ta _ _ false 3 4 p17b _ _ [cI 98] _ _ htaok bw htal (by decide) (by decide) bk) (fun w hw => (ak (aK 6 rfl hw) (ak (ci 5 rfl hw) (ak (aK 0 rfl hw) (ak (bo bv) (ak (aK 1 rfl hw) aO)))))) (fun ⟨⟨tb, Ab, cb⟩, htb⟩ => ?_)
 refine ae ?_
 refine ay (aL 6) ?_
 refine bN (t := 27) (.tuple #[.agg (cU 4 Ab tb.length cb).toArray, .int .i64 0]) rfl (by rw [hb9.1]; rfl) ?_
 have htb2 : tb.map (·.e) = r17b.map (·.e) := htb.trans hb9.2
 refine au (i := 9) rfl aa (am rfl) (aL 6) aD rfl (aj av) (by as_aux_lemma => kernel_rfl) rfl ?_
 refine au (i := 10) rfl aa (az rfl rfl) (aL 6) aD rfl (aj av) (by as_aux_lemma => kernel_rfl) rfl ?_
 refine au (i := 11) rfl aa (az rfl rfl) (aL 6) aD rfl (aj av) (by as_aux_lemma => kernel_rfl) rfl ?_
 refine aP (i := 12) rfl rfl rfl (fun _ _ _ => ax (by as_aux_lemma => kernel_rfl)) (by as_aux_lemma => kernel_rfl) rfl ?_
 refine bu aZ rfl rfl (fun b116 => ?_)
 refine ae ?_
 refine ay (aL 7) ?_
 refine aP (i := 13) rfl rfl rfl (fun _ _ _ => ax (by as_aux_lemma => kernel_rfl)) (by as_aux_lemma => kernel_rfl) rfl ?_
 refine aS aZ rfl rfl rfl .z rfl rfl rfl rfl ?_
 refine ae ?_
 refine ay (aL 7) ?_
 refine au (i := 14) rfl aa (ai rfl) (aL 7) aD rfl (aj av) (by as_aux_lemma => kernel_rfl) rfl ?_
 refine bA (by as_aux_lemma => kernel_rfl) ?_
 refine ao ?_
 refine bD (fun w h => (h.weak (.cons_cons _ (.cons_cons _ (.cons_cons _ (.cons _ (.cons _ (.cons _ (.cons _ (.cons_cons _ (.cons _ (.cons_cons _ (.cons _ (.cons _ (.cons _ .slnil))))))))))))) (fun s hs => hs)).f4.f4.f2.f4.f4) ?_
 exact J2 (⟨(tb, Ab, cb), htb2⟩, b116) _ (by repeat (first | exact trivial | refine ⟨rfl, ?_⟩))
 refine aJ (i := 12) rfl rfl rfl (fun _ _ _ => ax (by as_aux_lemma => kernel_rfl)) rfl ?_ ?_
 refine bu aZ rfl rfl (fun b117 => ?_)
 refine ae ?_
 refine ay (aL 5) ?_
 refine aP (i := 8) rfl rfl rfl (aH rfl aU) (by as_aux_lemma => kernel_rfl) rfl ?_
 refine a6 rfl aU rfl (a8 3 ta _ _ false 3 4 p17b _ _ [cI 98] _ _ htaok bw htal (by decide) (by decide) bk) (fun w hw => (ak (aK 7 rfl hw) (ak (ci 6 rfl hw) (ak (aK 1 rfl hw) (ak (bo bv) (ak (aK 2 rfl hw) aO)))))) (fun ⟨⟨tb, Ab, cb⟩, htb⟩ => ?_)
 refine ae ?_
 refine ay (aL 7) ?_
 refine bN (t := 27) (.tuple #[.agg (cU 4 Ab tb.length cb).toArray, .int .i64 0]) rfl (by rw [hb9.1]; rfl) ?_
 have htb2 : tb.map (·.e) = r17b.map (·.e) := htb.trans hb9.2
 refine au (i := 9) rfl aa (am rfl) (aL 7) aD rfl (aj av) (by as_aux_lemma => kernel_rfl) rfl ?_
 refine au (i := 10) rfl aa (az rfl rfl) (aL 7) aD rfl (aj av) (by as_aux_lemma => kernel_rfl) rfl ?_
 refine au (i := 11) rfl aa (az rfl rfl) (aL 7) aD rfl (aj av) (by as_aux_lemma => kernel_rfl) rfl ?_
 refine aP (i := 13) rfl rfl rfl (fun _ _ _ => ax (by as_aux_lemma => kernel_rfl)) (by as_aux_lemma => kernel_rfl) rfl ?_
 refine aS aZ rfl rfl rfl (.s (.s (.z))) rfl rfl rfl rfl ?_
 refine ae ?_
 refine ay (aL 7) ?_
 refine au (i := 14) rfl aa (ai rfl) (aL 7) aD rfl (aj av) (by as_aux_lemma => kernel_rfl) rfl ?_
 refine bA (by as_aux_lemma => kernel_rfl) ?_
 refine ao ?_
 refine bD (fun w h => (h.weak (.cons_cons _ (.cons_cons _ (.cons_cons _ (.cons _ (.cons _ (.cons _ (.cons _ (.cons_cons _ (.cons _ (.cons_cons _ (.cons _ (.cons _ (.cons _ .slnil))))))))))))) (fun s hs => hs)).f4.f4.f4.f4.f4) ?_
 exact J2 (⟨(tb, Ab, cb), htb2⟩, b117) _ (by repeat (first | exact trivial | refine ⟨rfl, ?_⟩))
 exact bx
 refine aJ (i := 12) rfl rfl rfl (fun _ _ _ => ax (by as_aux_lemma => kernel_rfl)) rfl ?_ ?_
 refine bu aZ rfl rfl (fun b119 => ?_)
 refine ae ?_
 refine ay (aL 4) ?_
 refine aP (i := 3) rfl rfl rfl (fun _ _ _ => ax (by as_aux_lemma => kernel_rfl)) (by as_aux_lemma => kernel_rfl) rfl ?_
 refine bf (vs := [_]) (p17b : List (Le)) bl Try.underlying22 a7 rfl rfl rfl rfl rfl rfl (fun As120 => ?_)
 refine ae ?_
 refine ay (aL 5) ?_
 refine au (i := 7) rfl aa (bm rfl (aR _ _ _ _ _ _ _ _)) (aL 5) aD rfl (aj av) (by as_aux_lemma => kernel_rfl) rfl ?_
 refine aP (i := 8) rfl rfl rfl (aH rfl aU) (by as_aux_lemma => kernel_rfl) rfl ?_
 refine a6 rfl aU rfl (a8 3 ta _ _ false 3 4 p17b _ _ [cI 98] _ _ htaok bw htal (by decide) (by decide) bk) (fun w hw => (ak (aK 7 rfl hw) (ak (ci 6 rfl hw) (ak (aK 0 rfl hw) (ak (bo bv) (ak (aK 2 rfl hw) aO)))))) (fun ⟨⟨tb, Ab, cb⟩, htb⟩ => ?_)
 refine ae ?_
 refine ay (aL 7) ?_
 refine bN (t := 27) (.tuple #[.agg (cU 4 Ab tb.length cb).toArray, .int .i64 0]) rfl (by rw [hb9.1]; rfl) ?_
 have htb2 : tb.map (·.e) = r17b.map (·.e) := htb.trans hb9.2
 refine au (i := 9) rfl aa (am rfl) (aL 7) aD rfl (aj av) (by as_aux_lemma => kernel_rfl) rfl ?_
 refine au (i := 10) rfl aa (az rfl rfl) (aL 7) aD rfl (aj av) (by as_aux_lemma => kernel_rfl) rfl ?_
 refine au (i := 11) rfl aa (az rfl rfl) (aL 7) aD rfl (aj av) (by as_aux_lemma => kernel_rfl) rfl ?_
 refine aP (i := 13) rfl rfl rfl (fun _ _ _ => ax (by as_aux_lemma => kernel_rfl)) (by as_aux_lemma => kernel_rfl) rfl ?_
 refine aS aZ rfl rfl rfl (.s (.s (.s (.z)))) rfl rfl rfl rfl ?_
 refine ae ?_
 refine ay (aL 7) ?_
 refine au (i := 14) rfl aa (ai rfl) (aL 7) aD rfl (aj av) (by as_aux_lemma => kernel_rfl) rfl ?_
 refine bA (by as_aux_lemma => kernel_rfl) ?_
 refine ao ?_
 refine bD (fun w h => (h.weak (.cons_cons _ (.cons_cons _ (.cons _ (.cons_cons _ (.cons _ (.cons _ (.cons _ (.cons_cons _ (.cons _ (.cons_cons _ (.cons _ (.cons _ (.cons _ .slnil))))))))))))) (fun s hs => hs)).f4.f4.f4.f4.f4) ?_
 exact J2 (⟨(tb, Ab, cb), htb2⟩, b119) _ (by repeat (first | exact trivial | refine ⟨rfl, ?_⟩))
 exact bx
 refine aJ (i := 12) rfl rfl rfl (fun _ _ _ => ax (by as_aux_lemma => kernel_rfl)) rfl ?_ ?_
 refine bu aZ rfl rfl (fun b122 => ?_)
 refine ae ?_
 refine ay (aL 3) ?_
 refine bJ (js := [3, 6]) (by as_aux_lemma => kernel_rfl) rfl ?_
 refine aJ (i := 3) rfl rfl rfl (fun _ _ _ => ax (by as_aux_lemma => kernel_rfl)) rfl ?_ ?_
 refine bf (vs := [_]) (p17b : List (Le)) bl Try.underlying22 a7 rfl rfl rfl rfl rfl rfl (fun As123 => ?_)
 refine ae ?_
 refine ay (aL 4) ?_
 refine aP (i := 6) rfl rfl rfl (fun _ _ _ => ax (by as_aux_lemma => kernel_rfl)) (by as_aux_lemma => kernel_rfl) rfl ?_
 refine bf (vs := [_]) ([cI 98] : List (bg)) bB Try.underlying25 bF rfl rfl rfl rfl rfl rfl (fun As124 => ?_)
 refine ae ?_
 refine ay (aL 5) ?_
 refine au (i := 7) rfl aa (bm rfl (aR _ _ _ _ _ _ _ _)) (aL 5) aD rfl (aj av) (by as_aux_lemma => kernel_rfl) rfl ?_
 refine aP (i := 8) rfl rfl rfl (aH rfl aU) (by as_aux_lemma => kernel_rfl) rfl ?_
 refine a6 rfl aU rfl (a8 3 ta _ _ false 3 4 p17b _ _ [cI 98] _ _ htaok bw htal (by decide) (by decide) bk) (fun w hw => (ak (aK 7 rfl hw) (ak (ci 6 rfl hw) (ak (aK 1 rfl hw) (ak (bo bv) (ak (aK 0 rfl hw) aO)))))) (fun ⟨⟨tb, Ab, cb⟩, htb⟩ => ?_)
 refine ae ?_
 refine ay (aL 7) ?_
 refine bN (t := 27) (.tuple #[.agg (cU 4 Ab tb.length cb).toArray, .int .i64 0]) rfl (by rw [hb9.1]; rfl) ?_
 have htb2 : tb.map (·.e) = r17b.map (·.e) := htb.trans hb9.2
 refine au (i := 9) rfl aa (am rfl) (aL 7) aD rfl (aj av) (by as_aux_lemma => kernel_rfl) rfl ?_
 refine au (i := 10) rfl aa (az rfl rfl) (aL 7) aD rfl (aj av) (by as_aux_lemma => kernel_rfl) rfl ?_
 refine au (i := 11) rfl aa (az rfl rfl) (aL 7) aD rfl (aj av) (by as_aux_lemma => kernel_rfl) rfl ?_
 refine aP (i := 13) rfl rfl rfl (fun _ _ _ => ax (by as_aux_lemma => kernel_rfl)) (by as_aux_lemma => kernel_rfl) rfl ?_
 refine aS aZ rfl rfl rfl (.s (.s (.s (.s (.z))))) rfl rfl rfl rfl ?_
 refine ae ?_
 refine ay (aL 7) ?_
 refine au (i := 14) rfl aa (ai rfl) (aL 7) aD rfl (aj av) (by as_aux_lemma => kernel_rfl) rfl ?_
 refine bA (by as_aux_lemma => kernel_rfl) ?_
 refine ao ?_
 refine bD (fun w h => (h.weak (.cons_cons _ (.cons_cons _ (.cons _ (.cons _ (.cons_cons _ (.cons _ (.cons _ (.cons_cons _ (.cons _ (.cons_cons _ (.cons _ (.cons _ (.cons _ .slnil))))))))))))) (fun s hs => hs)).f4.f4.f4.f4.f4) ?_
 exact J2 (⟨(tb, Ab, cb), htb2⟩, b122) _ (by repeat (first | exact trivial | refine ⟨rfl, ?_⟩))
 refine aJ (i := 6) rfl rfl rfl (fun _ _ _ => ax (by as_aux_lemma => kernel_rfl)) rfl ?_ ?_
 refine bf (vs := [_]) ([cI 98] : List (bg)) bB Try.underlying25 bF rfl rfl rfl rfl rfl rfl (fun As126 => ?_)
 refine ae ?_
 refine ay (aL 4) ?_
 refine aP (i := 3) rfl rfl rfl (fun _ _ _ => ax (by as_aux_lemma => kernel_rfl)) (by as_aux_lemma => kernel_rfl) rfl ?_
 refine bf (vs := [_]) (p17b : List (Le)) bl Try.underlying22 a7 rfl rfl rfl rfl rfl rfl (fun As127 => ?_)
 refine ae ?_
 refine ay (aL 5) ?_
 refine au (i := 7) rfl aa (bm rfl (aR _ _ _ _ _ _ _ _)) (aL 5) aD rfl (aj av) (by as_aux_lemma => kernel_rfl) rfl ?_
 refine aP (i := 8) rfl rfl rfl (aH rfl aU) (by as_aux_lemma => kernel_rfl) rfl ?_
 refine a6 rfl aU rfl (a8 3 ta _ _ false 3 4 p17b _ _ [cI 98] _ _ htaok bw htal (by decide) (by decide) bk) (fun w hw => (ak (aK 7 rfl hw) (ak (ci 6 rfl hw) (ak (aK 0 rfl hw) (ak (bo bv) (ak (aK 1 rfl hw) aO)))))) (fun ⟨⟨tb, Ab, cb⟩, htb⟩ => ?_)
 refine ae ?_
 refine ay (aL 7) ?_
 refine bN (t := 27) (.tuple #[.agg (cU 4 Ab tb.length cb).toArray, .int .i64 0]) rfl (by rw [hb9.1]; rfl) ?_
 have htb2 : tb.map (·.e) = r17b.map (·.e) := htb.trans hb9.2
 refine au (i := 9) rfl aa (am rfl) (aL 7) aD rfl (aj av) (by as_aux_lemma => kernel_rfl) rfl ?_
 refine au (i := 10) rfl aa (az rfl rfl) (aL 7) aD rfl (aj av) (by as_aux_lemma => kernel_rfl) rfl ?_
 refine au (i := 11) rfl aa (az rfl rfl) (aL 7) aD rfl (aj av) (by as_aux_lemma => kernel_rfl) rfl ?_
 refine aP (i := 13) rfl rfl rfl (fun _ _ _ => ax (by as_aux_lemma => kernel_rfl)) (by as_aux_lemma => kernel_rfl) rfl ?_
 refine aS aZ rfl rfl rfl (.s (.s (.s (.s (.z))))) rfl rfl rfl rfl ?_
 refine ae ?_
 refine ay (aL 7) ?_
 refine au (i := 14) rfl aa (ai rfl) (aL 7) aD rfl (aj av) (by as_aux_lemma => kernel_rfl) rfl ?_
 refine bA (by as_aux_lemma => kernel_rfl) ?_
 refine ao ?_
 refine bD (fun w h => (h.weak (.cons_cons _ (.cons_cons _ (.cons _ (.cons _ (.cons_cons _ (.cons _ (.cons _ (.cons_cons _ (.cons _ (.cons_cons _ (.cons _ (.cons _ (.cons _ .slnil))))))))))))) (fun s hs => hs)).f4.f4.f4.f4.f4) ?_
 exact J2 (⟨(tb, Ab, cb), htb2⟩, b122) _ (by repeat (first | exact trivial | refine ⟨rfl, ?_⟩))
 exact bx
 exact bx
 refine aJ (i := 12) rfl rfl rfl (fun _ _ _ => ax (by as_aux_lemma => kernel_rfl)) rfl ?_ ?_
 refine bu aZ rfl rfl (fun b129 => ?_)
 refine ae ?_
 refine ay (aL 3) ?_
 refine bJ (js := [3, 5]) (by as_aux_lemma => kernel_rfl) rfl ?_
 refine aJ (i := 3) rfl rfl rfl (fun _ _ _ => ax (by as_aux_lemma => kernel_rfl)) rfl ?_ ?_
 refine bf (vs := [_]) (p17b : List (Le)) bl Try.underlying22 a7 rfl rfl rfl rfl rfl rfl (fun As130 => ?_)
 refine ae ?_
 refine ay (aL 4) ?_
 refine aP (i := 5) rfl rfl rfl (aH rfl bH) (by as_aux_lemma => kernel_rfl) rfl ?_
 refine bi rfl bH rfl (bT _ _ _ (by decide)) (fun w hw => (ak (aK 2 rfl hw) aO)) ?_
 refine ae ?_
 refine ay (aL 4) ?_
 refine aP (i := 6) rfl rfl rfl (fun _ _ _ => ax (by as_aux_lemma => kernel_rfl)) (by as_aux_lemma => kernel_rfl) rfl ?_
 refine bf (vs := [_]) ([cI 98] : List (bg)) bB Try.underlying25 bF rfl rfl rfl rfl rfl rfl (fun As131 => ?_)
 refine ae ?_
 refine ay (aL 5) ?_
 refine au (i := 7) rfl aa (bm rfl (aR _ _ _ _ _ _ _ _)) (aL 5) aD rfl (aj av) (by as_aux_lemma => kernel_rfl) rfl ?_
 refine aP (i := 8) rfl rfl rfl (aH rfl aU) (by as_aux_lemma => kernel_rfl) rfl ?_
 refine a6 rfl aU rfl (a8 3 ta _ _ false 3 4 p17b _ _ [cI 98] _ _ htaok bw htal (by decide) (by decide) bk) (fun w hw => (ak (aK 7 rfl hw) (ak (ci 6 rfl hw) (ak (aK 1 rfl hw) (ak (bo bv) (ak (aK 0 rfl hw) aO)))))) (fun ⟨⟨tb, Ab, cb⟩, htb⟩ => ?_)
 refine ae ?_
 refine ay (aL 7) ?_
 refine bN (t := 27) (.tuple #[.agg (cU 4 Ab tb.length cb).toArray, .int .i64 0]) rfl (by rw [hb9.1]; rfl) ?_
 have htb2 : tb.map (·.e) = r17b.map (·.e) := htb.trans hb9.2
 refine au (i := 9) rfl aa (am rfl) (aL 7) aD rfl (aj av) (by as_aux_lemma => kernel_rfl) rfl ?_
 refine au (i := 10) rfl aa (az rfl rfl) (aL 7) aD rfl (aj av) (by as_aux_lemma => kernel_rfl) rfl ?_
 refine au (i := 11) rfl aa (az rfl rfl) (aL 7) aD rfl (aj av) (by as_aux_lemma => kernel_rfl) rfl ?_
 refine aP (i := 13) rfl rfl rfl (fun _ _ _ => ax (by as_aux_lemma => kernel_rfl)) (by as_aux_lemma => kernel_rfl) rfl ?_
 refine aS aZ rfl rfl rfl (.s (.s (.s (.s (.z))))) rfl rfl rfl rfl ?_
 refine ae ?_
 refine ay (aL 7) ?_
 refine au (i := 14) rfl aa (ai rfl) (aL 7) aD rfl (aj av) (by as_aux_lemma => kernel_rfl) rfl ?_
 refine bA (by as_aux_lemma => kernel_rfl) ?_
 refine ao ?_
 refine bD (fun w h => (h.weak (.cons_cons _ (.cons_cons _ (.cons _ (.cons _ (.cons_cons _ (.cons _ (.cons _ (.cons_cons _ (.cons _ (.cons_cons _ (.cons _ (.cons _ (.cons _ .slnil))))))))))))) (fun s hs => hs)).f4.f4.f4.f4.f4) ?_
 exact J2 (⟨(tb, Ab, cb), htb2⟩, b129) _ (by repeat (first | exact trivial | refine ⟨rfl, ?_⟩))
 refine aJ (i := 5) rfl rfl rfl (aH rfl bH) rfl ?_ ?_
 refine bi rfl bH rfl (bT _ _ _ (by decide)) (fun w hw => (ak (aK 1 rfl hw) aO)) ?_
 refine ae ?_
 refine ay (aL 3) ?_
 refine bJ (js := [3, 6]) (by as_aux_lemma => kernel_rfl) rfl ?_
 refine aJ (i := 3) rfl rfl rfl (fun _ _ _ => ax (by as_aux_lemma => kernel_rfl)) rfl ?_ ?_
 refine bf (vs := [_]) (p17b : List (Le)) bl Try.underlying22 a7 rfl rfl rfl rfl rfl rfl (fun As133 => ?_)
 refine ae ?_
 refine ay (aL 4) ?_
 refine aP (i := 6) rfl rfl rfl (fun _ _ _ => ax (by as_aux_lemma => kernel_rfl)) (by as_aux_lemma => kernel_rfl) rfl ?_
 refine bf (vs := [_]) ([cI 98] : List (bg)) bB Try.underlying25 bF rfl rfl rfl rfl rfl rfl (fun As134 => ?_)
 refine ae ?_
 refine ay (aL 5) ?_
 refine au (i := 7) rfl aa (bm rfl (aR _ _ _ _ _ _ _ _)) (aL 5) aD rfl (aj av) (by as_aux_lemma => kernel_rfl) rfl ?_
 refine aP (i := 8) rfl rfl rfl (aH rfl aU) (by as_aux_lemma => kernel_rfl) rfl ?_
 refine a6 rfl aU rfl (a8 3 ta _ _ false 3 4 p17b _ _ [cI 98] _ _ htaok bw htal (by decide) (by decide) bk) (fun w hw => (ak (aK 7 rfl hw) (ak (ci 6 rfl hw) (ak (aK 1 rfl hw) (ak (bo bv) (ak (aK 0 rfl hw) aO)))))) (fun ⟨⟨tb, Ab, cb⟩, htb⟩ => ?_)
 refine ae ?_
 refine ay (aL 7) ?_
 refine bN (t := 27) (.tuple #[.agg (cU 4 Ab tb.length cb).toArray, .int .i64 0]) rfl (by rw [hb9.1]; rfl) ?_
 have htb2 : tb.map (·.e) = r17b.map (·.e) := htb.trans hb9.2
 refine au (i := 9) rfl aa (am rfl) (aL 7) aD rfl (aj av) (by as_aux_lemma => kernel_rfl) rfl ?_
 refine au (i := 10) rfl aa (az rfl rfl) (aL 7) aD rfl (aj av) (by as_aux_lemma => kernel_rfl) rfl ?_
 refine au (i := 11) rfl aa (az rfl rfl) (aL 7) aD rfl (aj av) (by as_aux_lemma => kernel_rfl) rfl ?_
 refine aP (i := 13) rfl rfl rfl (fun _ _ _ => ax (by as_aux_lemma => kernel_rfl)) (by as_aux_lemma => kernel_rfl) rfl ?_
 refine aS aZ rfl rfl rfl (.s (.s (.s (.s (.z))))) rfl rfl rfl rfl ?_
 refine ae ?_
 refine ay (aL 7) ?_
 refine au (i := 14) rfl aa (ai rfl) (aL 7) aD rfl (aj av) (by as_aux_lemma => kernel_rfl) rfl ?_
 refine bA (by as_aux_lemma => kernel_rfl) ?_
 refine ao ?_
 refine bD (fun w h => (h.weak (.cons_cons _ (.cons_cons _ (.cons _ (.cons _ (.cons_cons _ (.cons _ (.cons _ (.cons_cons _ (.cons _ (.cons_cons _ (.cons _ (.cons _ (.cons _ .slnil))))))))))))) (fun s hs => hs)).f4.f4.f4.f4.f4) ?_
 exact J2 (⟨(tb, Ab, cb), htb2⟩, b129) _ (by repeat (first | exact trivial | refine ⟨rfl, ?_⟩))
 refine aJ (i := 6) rfl rfl rfl (fun _ _ _ => ax (by as_aux_lemma => kernel_rfl)) rfl ?_ ?_
 refine bf (vs := [_]) ([cI 98] : List (bg)) bB Try.underlying25 bF rfl rfl rfl rfl rfl rfl (fun As136 => ?_)
 refine ae ?_
 refine ay (aL 4) ?_
 refine aP (i := 3) rfl rfl rfl (fun _ _ _ => ax (by as_aux_lemma => kernel_rfl)) (by as_aux_lemma => kernel_rfl) rfl ?_
 refine bf (vs := [_]) (p17b : List (Le)) bl Try.underlying22 a7 rfl rfl rfl rfl rfl rfl (fun As137 => ?_)
 refine ae ?_
 refine ay (aL 5) ?_
 refine au (i := 7) rfl aa (bm rfl (aR _ _ _ _ _ _ _ _)) (aL 5) aD rfl (aj av) (by as_aux_lemma => kernel_rfl) rfl ?_
 refine aP (i := 8) rfl rfl rfl (aH rfl aU) (by as_aux_lemma => kernel_rfl) rfl ?_
 refine a6 rfl aU rfl (a8 3 ta _ _ false 3 4 p17b _ _ [cI 98] _ _ htaok bw htal (by decide) (by decide) bk) (fun w hw => (ak (aK 7 rfl hw) (ak (ci 6 rfl hw) (ak (aK 0 rfl hw) (ak (bo bv) (ak (aK 1 rfl hw) aO)))))) (fun ⟨⟨tb, Ab, cb⟩, htb⟩ => ?_)
 refine ae ?_
 refine ay (aL 7) ?_
 refine bN (t := 27) (.tuple #[.agg (cU 4 Ab tb.length cb).toArray, .int .i64 0]) rfl (by rw [hb9.1]; rfl) ?_
 have htb2 : tb.map (·.e) = r17b.map (·.e) := htb.trans hb9.2
 refine au (i := 9) rfl aa (am rfl) (aL 7) aD rfl (aj av) (by as_aux_lemma => kernel_rfl) rfl ?_
 refine au (i := 10) rfl aa (az rfl rfl) (aL 7) aD rfl (aj av) (by as_aux_lemma => kernel_rfl) rfl ?_
 refine au (i := 11) rfl aa (az rfl rfl) (aL 7) aD rfl (aj av) (by as_aux_lemma => kernel_rfl) rfl ?_
 refine aP (i := 13) rfl rfl rfl (fun _ _ _ => ax (by as_aux_lemma => kernel_rfl)) (by as_aux_lemma => kernel_rfl) rfl ?_
 refine aS aZ rfl rfl rfl (.s (.s (.s (.s (.z))))) rfl rfl rfl rfl ?_
 refine ae ?_
 refine ay (aL 7) ?_
 refine au (i := 14) rfl aa (ai rfl) (aL 7) aD rfl (aj av) (by as_aux_lemma => kernel_rfl) rfl ?_
 refine bA (by as_aux_lemma => kernel_rfl) ?_
 refine ao ?_
 refine bD (fun w h => (h.weak (.cons_cons _ (.cons_cons _ (.cons _ (.cons _ (.cons_cons _ (.cons _ (.cons _ (.cons_cons _ (.cons _ (.cons_cons _ (.cons _ (.cons _ (.cons _ .slnil))))))))))))) (fun s hs => hs)).f4.f4.f4.f4.f4) ?_
 exact J2 (⟨(tb, Ab, cb), htb2⟩, b129) _ (by repeat (first | exact trivial | refine ⟨rfl, ?_⟩))
 exact bx
 exact bx
 exact bx
 refine aJ (i := 12) rfl rfl rfl (fun _ _ _ => ax (by as_aux_lemma => kernel_rfl)) rfl ?_ ?_
 refine bu aZ rfl rfl (fun b139 => ?_)
 refine ae ?_
 refine ay (aL 3) ?_
 refine aP (i := 2) rfl rfl rfl (aH rfl dB) (by as_aux_lemma => kernel_rfl) rfl ?_
 refine bi rfl dB rfl (dT _ _ _ (by decide)) (fun w hw => (ak (aK 2 rfl hw) aO)) ?_
 refine ae ?_
 refine ay (aL 3) ?_
 refine bJ (js := [3, 5]) (by as_aux_lemma => kernel_rfl) rfl ?_
 refine aJ (i := 3) rfl rfl rfl (fun _ _ _ => ax (by as_aux_lemma => kernel_rfl)) rfl ?_ ?_
 refine bf (vs := [_]) (p17b : List (Le)) bl Try.underlying22 a7 rfl rfl rfl rfl rfl rfl (fun As140 => ?_)
 refine ae ?_
 refine ay (aL 4) ?_
 refine aP (i := 5) rfl rfl rfl (aH rfl bH) (by as_aux_lemma => kernel_rfl) rfl ?_
 refine bi rfl bH rfl (bT _ _ _ (by decide)) (fun w hw => (ak (aK 2 rfl hw) aO)) ?_
 refine ae ?_
 refine ay (aL 4) ?_
 refine aP (i := 6) rfl rfl rfl (fun _ _ _ => ax (by as_aux_lemma => kernel_rfl)) (by as_aux_lemma => kernel_rfl) rfl ?_
 refine bf (vs := [_]) ([cI 98] : List (bg)) bB Try.underlying25 bF rfl rfl rfl rfl rfl rfl (fun As141 => ?_)
 refine ae ?_
 refine ay (aL 5) ?_
 refine au (i := 7) rfl aa (bm rfl (aR _ _ _ _ _ _ _ _)) (aL 5) aD rfl (aj av) (by as_aux_lemma => kernel_rfl) rfl ?_
 refine aP (i := 8) rfl rfl rfl (aH rfl aU) (by as_aux_lemma => kernel_rfl) rfl ?_
 refine a6 rfl aU rfl (a8 3 ta _ _ false 3 4 p17b _ _ [cI 98] _ _ htaok bw htal (by decide) (by decide) bk) (fun w hw => (ak (aK 7 rfl hw) (ak (ci 6 rfl hw) (ak (aK 1 rfl hw) (ak (bo bv) (ak (aK 0 rfl hw) aO)))))) (fun ⟨⟨tb, Ab, cb⟩, htb⟩ => ?_)
 refine ae ?_
 refine ay (aL 7) ?_
 refine bN (t := 27) (.tuple #[.agg (cU 4 Ab tb.length cb).toArray, .int .i64 0]) rfl (by rw [hb9.1]; rfl) ?_
 have htb2 : tb.map (·.e) = r17b.map (·.e) := htb.trans hb9.2
 refine au (i := 9) rfl aa (am rfl) (aL 7) aD rfl (aj av) (by as_aux_lemma => kernel_rfl) rfl ?_
 refine au (i := 10) rfl aa (az rfl rfl) (aL 7) aD rfl (aj av) (by as_aux_lemma => kernel_rfl) rfl ?_
 refine au (i := 11) rfl aa (az rfl rfl) (aL 7) aD rfl (aj av) (by as_aux_lemma => kernel_rfl) rfl ?_
 refine aP (i := 13) rfl rfl rfl (fun _ _ _ => ax (by as_aux_lemma => kernel_rfl)) (by as_aux_lemma => kernel_rfl) rfl ?_
 refine aS aZ rfl rfl rfl (.s (.s (.s (.s (.z))))) rfl rfl rfl rfl ?_
 refine ae ?_
 refine ay (aL 7) ?_
 refine au (i := 14) rfl aa (ai rfl) (aL 7) aD rfl (aj av) (by as_aux_lemma => kernel_rfl) rfl ?_
 refine bA (by as_aux_lemma => kernel_rfl) ?_
 refine ao ?_
 refine bD (fun w h => (h.weak (.cons_cons _ (.cons_cons _ (.cons _ (.cons _ (.cons_cons _ (.cons _ (.cons _ (.cons_cons _ (.cons _ (.cons_cons _ (.cons _ (.cons _ (.cons _ .slnil))))))))))))) (fun s hs => hs)).f4.f4.f4.f4.f4) ?_
 exact J2 (⟨(tb, Ab, cb), htb2⟩, b139) _ (by repeat (first | exact trivial | refine ⟨rfl, ?_⟩))
 refine aJ (i := 5) rfl rfl rfl (aH rfl bH) rfl ?_ ?_
 refine bi rfl bH rfl (bT _ _ _ (by decide)) (fun w hw => (ak (aK 1 rfl hw) aO)) ?_
 refine ae ?_
 refine ay (aL 3) ?_
 refine bJ (js := [3, 6]) (by as_aux_lemma => kernel_rfl) rfl ?_
 refine aJ (i := 3) rfl rfl rfl (fun _ _ _ => ax (by as_aux_lemma => kernel_rfl)) rfl ?_ ?_
 refine bf (vs := [_]) (p17b : List (Le)) bl Try.underlying22 a7 rfl rfl rfl rfl rfl rfl (fun As143 => ?_)
 refine ae ?_
 refine ay (aL 4) ?_
 refine aP (i := 6) rfl rfl rfl (fun _ _ _ => ax (by as_aux_lemma => kernel_rfl)) (by as_aux_lemma => kernel_rfl) rfl ?_
 refine bf (vs := [_]) ([cI 98] : List (bg)) bB Try.underlying25 bF rfl rfl rfl rfl rfl rfl (fun As144 => ?_)
 refine ae ?_
 refine ay (aL 5) ?_
 refine au (i := 7) rfl aa (bm rfl (aR _ _ _ _ _ _ _ _)) (aL 5) aD rfl (aj av) (by as_aux_lemma => kernel_rfl) rfl ?_
 refine aP (i := 8) rfl rfl rfl (aH rfl aU) (by as_aux_lemma => kernel_rfl) rfl ?_
 refine a6 rfl aU rfl (a8 3 ta _ _ false 3 4 p17b _ _ [cI 98] _ _ htaok bw htal (by decide) (by decide) bk) (fun w hw => (ak (aK 7 rfl hw) (ak (ci 6 rfl hw) (ak (aK 1 rfl hw) (ak (bo bv) (ak (aK 0 rfl hw) aO)))))) (fun ⟨⟨tb, Ab, cb⟩, htb⟩ => ?_)
 refine ae ?_
 refine ay (aL 7) ?_
 refine bN (t := 27) (.tuple #[.agg (cU 4 Ab tb.length cb).toArray, .int .i64 0]) rfl (by rw [hb9.1]; rfl) ?_
 have htb2 : tb.map (·.e) = r17b.map (·.e) := htb.trans hb9.2
 refine au (i := 9) rfl aa (am rfl) (aL 7) aD rfl (aj av) (by as_aux_lemma => kernel_rfl) rfl ?_
 refine au (i := 10) rfl aa (az rfl rfl) (aL 7) aD rfl (aj av) (by as_aux_lemma => kernel_rfl) rfl ?_
 refine au (i := 11) rfl aa (az rfl rfl) (aL 7) aD rfl (aj av) (by as_aux_lemma => kernel_rfl) rfl ?_
 refine aP (i := 13) rfl rfl rfl (fun _ _ _ => ax (by as_aux_lemma => kernel_rfl)) (by as_aux_lemma => kernel_rfl) rfl ?_
 refine aS aZ rfl rfl rfl (.s (.s (.s (.s (.z))))) rfl rfl rfl rfl ?_
 refine ae ?_
 refine ay (aL 7) ?_
 refine au (i := 14) rfl aa (ai rfl) (aL 7) aD rfl (aj av) (by as_aux_lemma => kernel_rfl) rfl ?_
 refine bA (by as_aux_lemma => kernel_rfl) ?_
 refine ao ?_
 refine bD (fun w h => (h.weak (.cons_cons _ (.cons_cons _ (.cons _ (.cons _ (.cons_cons _ (.cons _ (.cons _ (.cons_cons _ (.cons _ (.cons_cons _ (.cons _ (.cons _ (.cons _ .slnil))))))))))))) (fun s hs => hs)).f4.f4.f4.f4.f4) ?_
 exact J2 (⟨(tb, Ab, cb), htb2⟩, b139) _ (by repeat (first | exact trivial | refine ⟨rfl, ?_⟩))
 refine aJ (i := 6) rfl rfl rfl (fun _ _ _ => ax (by as_aux_lemma => kernel_rfl)) rfl ?_ ?_
 refine bf (vs := [_]) ([cI 98] : List (bg)) bB Try.underlying25 bF rfl rfl rfl rfl rfl rfl (fun As146 => ?_)
 refine ae ?_
 refine ay (aL 4) ?_
 refine aP (i := 3) rfl rfl rfl (fun _ _ _ => ax (by as_aux_lemma => kernel_rfl)) (by as_aux_lemma => kernel_rfl) rfl ?_
 refine bf (vs := [_]) (p17b : List (Le)) bl Try.underlying22 a7 rfl rfl rfl rfl rfl rfl (fun As147 => ?_)
 refine ae ?_
 refine ay (aL 5) ?_
 refine au (i := 7) rfl aa (bm rfl (aR _ _ _ _ _ _ _ _)) (aL 5) aD rfl (aj av) (by as_aux_lemma => kernel_rfl) rfl ?_
 refine aP (i := 8) rfl rfl rfl (aH rfl aU) (by as_aux_lemma => kernel_rfl) rfl ?_
 refine a6 rfl aU rfl (a8 3 ta _ _ false 3 4 p17b _ _ [cI 98] _ _ htaok bw htal (by decide) (by decide) bk) (fun w hw => (ak (aK 7 rfl hw) (ak (ci 6 rfl hw) (ak (aK 0 rfl hw) (ak (bo bv) (ak (aK 1 rfl hw) aO)))))) (fun ⟨⟨tb, Ab, cb⟩, htb⟩ => ?_)
 refine ae ?_
 refine ay (aL 7) ?_
 refine bN (t := 27) (.tuple #[.agg (cU 4 Ab tb.length cb).toArray, .int .i64 0]) rfl (by rw [hb9.1]; rfl) ?_
 have htb2 : tb.map (·.e) = r17b.map (·.e) := htb.trans hb9.2
 refine au (i := 9) rfl aa (am rfl) (aL 7) aD rfl (aj av) (by as_aux_lemma => kernel_rfl) rfl ?_
 refine au (i := 10) rfl aa (az rfl rfl) (aL 7) aD rfl (aj av) (by as_aux_lemma => kernel_rfl) rfl ?_
 refine au (i := 11) rfl aa (az rfl rfl) (aL 7) aD rfl (aj av) (by as_aux_lemma => kernel_rfl) rfl ?_
 refine aP (i := 13) rfl rfl rfl (fun _ _ _ => ax (by as_aux_lemma => kernel_rfl)) (by as_aux_lemma => kernel_rfl) rfl ?_
 refine aS aZ rfl rfl rfl (.s (.s (.s (.s (.z))))) rfl rfl rfl rfl ?_
 refine ae ?_
 refine ay (aL 7) ?_
 refine au (i := 14) rfl aa (ai rfl) (aL 7) aD rfl (aj av) (by as_aux_lemma => kernel_rfl) rfl ?_
 refine bA (by as_aux_lemma => kernel_rfl) ?_
 refine ao ?_
 refine bD (fun w h => (h.weak (.cons_cons _ (.cons_cons _ (.cons _ (.cons _ (.cons_cons _ (.cons _ (.cons _ (.cons_cons _ (.cons _ (.cons_cons _ (.cons _ (.cons _ (.cons _ .slnil))))))))))))) (fun s hs => hs)).f4.f4.f4.f4.f4) ?_
 exact J2 (⟨(tb, Ab, cb), htb2⟩, b139) _ (by repeat (first | exact trivial | refine ⟨rfl, ?_⟩))
 exact bx
 exact bx
 exact bx
 refine aJ (i := 12) rfl rfl rfl (fun _ _ _ => ax (by as_aux_lemma => kernel_rfl)) rfl ?_ ?_
 refine bu aZ rfl rfl (fun b149 => ?_)
 refine ae ?_
 refine ay (aL 2) ?_
 refine bJ (js := [2, 4]) (by as_aux_lemma => kernel_rfl) rfl ?_
 refine aJ (i := 2) rfl rfl rfl (aH rfl dB) rfl ?_ ?_
 refine bi rfl dB rfl (dT _ _ _ (by decide)) (fun w hw => (ak (aK 1 rfl hw) aO)) ?_
 refine ae ?_
 refine ay (aL 2) ?_
 refine bJ (js := [3, 4]) (by as_aux_lemma => kernel_rfl) rfl ?_
 refine aJ (i := 3) rfl rfl rfl (fun _ _ _ => ax (by as_aux_lemma => kernel_rfl)) rfl ?_ ?_
 refine bf (vs := [_]) (p17b : List (Le)) bl Try.underlying22 a7 rfl rfl rfl rfl rfl rfl (fun As150 => ?_)
 refine ae ?_
 refine ay (aL 3) ?_
 refine aP (i := 4) rfl rfl rfl (fun _ _ _ => ax (by as_aux_lemma => kernel_rfl)) (by as_aux_lemma => kernel_rfl) rfl ?_
 refine bf (vs := [_]) ([[98]] : List (bg)) bB Try.underlying105 cF rfl rfl rfl rfl rfl rfl (fun As151 => ?_)
 refine ae ?_
 refine ay (aL 4) ?_
 refine aP (i := 5) rfl rfl rfl (aH rfl bH) (by as_aux_lemma => kernel_rfl) rfl ?_
 refine bi rfl bH rfl (bT _ _ _ (by decide)) (fun w hw => (ak (aK 0 rfl hw) aO)) ?_
 refine ae ?_
 refine ay (aL 4) ?_
 refine aP (i := 6) rfl rfl rfl (fun _ _ _ => ax (by as_aux_lemma => kernel_rfl)) (by as_aux_lemma => kernel_rfl) rfl ?_
 refine bf (vs := [_]) ([cI 98] : List (bg)) bB Try.underlying25 bF rfl rfl rfl rfl rfl rfl (fun As152 => ?_)
 refine ae ?_
 refine ay (aL 5) ?_
 refine au (i := 7) rfl aa (bm rfl (aR _ _ _ _ _ _ _ _)) (aL 5) aD rfl (aj av) (by as_aux_lemma => kernel_rfl) rfl ?_
 refine aP (i := 8) rfl rfl rfl (aH rfl aU) (by as_aux_lemma => kernel_rfl) rfl ?_
 refine a6 rfl aU rfl (a8 3 ta _ _ false 3 4 p17b _ _ [cI 98] _ _ htaok bw htal (by decide) (by decide) bk) (fun w hw => (ak (aK 7 rfl hw) (ak (ci 6 rfl hw) (ak (aK 2 rfl hw) (ak (bo bv) (ak (aK 0 rfl hw) aO)))))) (fun ⟨⟨tb, Ab, cb⟩, htb⟩ => ?_)
 refine ae ?_
 refine ay (aL 7) ?_
 refine bN (t := 27) (.tuple #[.agg (cU 4 Ab tb.length cb).toArray, .int .i64 0]) rfl (by rw [hb9.1]; rfl) ?_
 have htb2 : tb.map (·.e) = r17b.map (·.e) := htb.trans hb9.2
 refine au (i := 9) rfl aa (am rfl) (aL 7) aD rfl (aj av) (by as_aux_lemma => kernel_rfl) rfl ?_
 refine au (i := 10) rfl aa (az rfl rfl) (aL 7) aD rfl (aj av) (by as_aux_lemma => kernel_rfl) rfl ?_
 refine au (i := 11) rfl aa (az rfl rfl) (aL 7) aD rfl (aj av) (by as_aux_lemma => kernel_rfl) rfl ?_
 refine aP (i := 13) rfl rfl rfl (fun _ _ _ => ax (by as_aux_lemma => kernel_rfl)) (by as_aux_lemma => kernel_rfl) rfl ?_
 refine aS aZ rfl rfl rfl (.s (.s (.s (.s (.s (.z)))))) rfl rfl rfl rfl ?_
 refine ae ?_
 refine ay (aL 7) ?_
 refine au (i := 14) rfl aa (ai rfl) (aL 7) aD rfl (aj av) (by as_aux_lemma => kernel_rfl) rfl ?_
 refine bA (by as_aux_lemma => kernel_rfl) ?_
 refine ao ?_
 refine bD (fun w h => (h.weak (.cons_cons _ (.cons_cons _ (.cons _ (.cons _ (.cons _ (.cons_cons _ (.cons _ (.cons_cons _ (.cons _ (.cons_cons _ (.cons _ (.cons _ (.cons _ .slnil))))))))))))) (fun s hs => hs)).f4.f4.f4.f4.f4) ?_
 exact J2 (⟨(tb, Ab, cb), htb2⟩, b149) _ (by repeat (first | exact trivial | refine ⟨rfl, ?_⟩))
 refine aJ (i := 4) rfl rfl rfl (fun _ _ _ => ax (by as_aux_lemma => kernel_rfl)) rfl ?_ ?_
 refine bf (vs := [_]) ([[98]] : List (bg)) bB Try.underlying105 cF rfl rfl rfl rfl rfl rfl (fun As154 => ?_)
 refine ae ?_
 refine ay (aL 3) ?_
 refine bJ (js := [3, 5]) (by as_aux_lemma => kernel_rfl) rfl ?_
 refine aJ (i := 3) rfl rfl rfl (fun _ _ _ => ax (by as_aux_lemma => kernel_rfl)) rfl ?_ ?_
 refine bf (vs := [_]) (p17b : List (Le)) bl Try.underlying22 a7 rfl rfl rfl rfl rfl rfl (fun As155 => ?_)
 refine ae ?_
 refine ay (aL 4) ?_
 refine aP (i := 5) rfl rfl rfl (aH rfl bH) (by as_aux_lemma => kernel_rfl) rfl ?_
 refine bi rfl bH rfl (bT _ _ _ (by decide)) (fun w hw => (ak (aK 1 rfl hw) aO)) ?_
 refine ae ?_
 refine ay (aL 4) ?_
 refine aP (i := 6) rfl rfl rfl (fun _ _ _ => ax (by as_aux_lemma => kernel_rfl)) (by as_aux_lemma => kernel_rfl) rfl ?_
 refine bf (vs := [_]) ([cI 98] : List (bg)) bB Try.underlying25 bF rfl rfl rfl rfl rfl rfl (fun As156 => ?_)
 refine ae ?_
 refine ay (aL 5) ?_
 refine au (i := 7) rfl aa (bm rfl (aR _ _ _ _ _ _ _ _)) (aL 5) aD rfl (aj av) (by as_aux_lemma => kernel_rfl) rfl ?_
 refine aP (i := 8) rfl rfl rfl (aH rfl aU) (by as_aux_lemma => kernel_rfl) rfl ?_
 refine a6 rfl aU rfl (a8 3 ta _ _ false 3 4 p17b _ _ [cI 98] _ _ htaok bw htal (by decide) (by decide) bk) (fun w hw => (ak (aK 7 rfl hw) (ak (ci 6 rfl hw) (ak (aK 1 rfl hw) (ak (bo bv) (ak (aK 0 rfl hw) aO)))))) (fun ⟨⟨tb, Ab, cb⟩, htb⟩ => ?_)
 refine ae ?_
 refine ay (aL 7) ?_
 refine bN (t := 27) (.tuple #[.agg (cU 4 Ab tb.length cb).toArray, .int .i64 0]) rfl (by rw [hb9.1]; rfl) ?_
 have htb2 : tb.map (·.e) = r17b.map (·.e) := htb.trans hb9.2
 refine au (i := 9) rfl aa (am rfl) (aL 7) aD rfl (aj av) (by as_aux_lemma => kernel_rfl) rfl ?_
 refine au (i := 10) rfl aa (az rfl rfl) (aL 7) aD rfl (aj av) (by as_aux_lemma => kernel_rfl) rfl ?_
 refine au (i := 11) rfl aa (az rfl rfl) (aL 7) aD rfl (aj av) (by as_aux_lemma => kernel_rfl) rfl ?_
 refine aP (i := 13) rfl rfl rfl (fun _ _ _ => ax (by as_aux_lemma => kernel_rfl)) (by as_aux_lemma => kernel_rfl) rfl ?_
 refine aS aZ rfl rfl rfl (.s (.s (.s (.s (.s (.z)))))) rfl rfl rfl rfl ?_
 refine ae ?_
 refine ay (aL 7) ?_
 refine au (i := 14) rfl aa (ai rfl) (aL 7) aD rfl (aj av) (by as_aux_lemma => kernel_rfl) rfl ?_
 refine bA (by as_aux_lemma => kernel_rfl) ?_
 refine ao ?_
 refine bD (fun w h => (h.weak (.cons_cons _ (.cons_cons _ (.cons _ (.cons _ (.cons _ (.cons_cons _ (.cons _ (.cons_cons _ (.cons _ (.cons_cons _ (.cons _ (.cons _ (.cons _ .slnil))))))))))))) (fun s hs => hs)).f4.f4.f4.f4.f4) ?_
 exact J2 (⟨(tb, Ab, cb), htb2⟩, b149) _ (by repeat (first | exact trivial | refine ⟨rfl, ?_⟩))
 refine aJ (i := 5) rfl rfl rfl (aH rfl bH) rfl ?_ ?_
 refine bi rfl bH rfl (bT _ _ _ (by decide)) (fun w hw => (ak (aK 0 rfl hw) aO)) ?_
 refine ae ?_
 refine ay (aL 3) ?_
 refine bJ (js := [3, 6]) (by as_aux_lemma => kernel_rfl) rfl ?_
 refine aJ (i := 3) rfl rfl rfl (fun _ _ _ => ax (by as_aux_lemma => kernel_rfl)) rfl ?_ ?_
 refine bf (vs := [_]) (p17b : List (Le)) bl Try.underlying22 a7 rfl rfl rfl rfl rfl rfl (fun As158 => ?_)
 refine ae ?_
 refine ay (aL 4) ?_
 refine aP (i := 6) rfl rfl rfl (fun _ _ _ => ax (by as_aux_lemma => kernel_rfl)) (by as_aux_lemma => kernel_rfl) rfl ?_
 refine bf (vs := [_]) ([cI 98] : List (bg)) bB Try.underlying25 bF rfl rfl rfl rfl rfl rfl (fun As159 => ?_)
 refine ae ?_
 refine ay (aL 5) ?_
 refine au (i := 7) rfl aa (bm rfl (aR _ _ _ _ _ _ _ _)) (aL 5) aD rfl (aj av) (by as_aux_lemma => kernel_rfl) rfl ?_
 refine aP (i := 8) rfl rfl rfl (aH rfl aU) (by as_aux_lemma => kernel_rfl) rfl ?_
 refine a6 rfl aU rfl (a8 3 ta _ _ false 3 4 p17b _ _ [cI 98] _ _ htaok bw htal (by decide) (by decide) bk) (fun w hw => (ak (aK 7 rfl hw) (ak (ci 6 rfl hw) (ak (aK 1 rfl hw) (ak (bo bv) (ak (aK 0 rfl hw) aO)))))) (fun ⟨⟨tb, Ab, cb⟩, htb⟩ => ?_)
 refine ae ?_
 refine ay (aL 7) ?_
 refine bN (t := 27) (.tuple #[.agg (cU 4 Ab tb.length cb).toArray, .int .i64 0]) rfl (by rw [hb9.1]; rfl) ?_
 have htb2 : tb.map (·.e) = r17b.map (·.e) := htb.trans hb9.2
 refine au (i := 9) rfl aa (am rfl) (aL 7) aD rfl (aj av) (by as_aux_lemma => kernel_rfl) rfl ?_
 refine au (i := 10) rfl aa (az rfl rfl) (aL 7) aD rfl (aj av) (by as_aux_lemma => kernel_rfl) rfl ?_
 refine au (i := 11) rfl aa (az rfl rfl) (aL 7) aD rfl (aj av) (by as_aux_lemma => kernel_rfl) rfl ?_
 refine aP (i := 13) rfl rfl rfl (fun _ _ _ => ax (by as_aux_lemma => kernel_rfl)) (by as_aux_lemma => kernel_rfl) rfl ?_
 refine aS aZ rfl rfl rfl (.s (.s (.s (.s (.s (.z)))))) rfl rfl rfl rfl ?_
 refine ae ?_
 refine ay (aL 7) ?_
 refine au (i := 14) rfl aa (ai rfl) (aL 7) aD rfl (aj av) (by as_aux_lemma => kernel_rfl) rfl ?_
 refine bA (by as_aux_lemma => kernel_rfl) ?_
 refine ao ?_
 refine bD (fun w h => (h.weak (.cons_cons _ (.cons_cons _ (.cons _ (.cons _ (.cons _ (.cons_cons _ (.cons _ (.cons_cons _ (.cons _ (.cons_cons _ (.cons _ (.cons _ (.cons _ .slnil))))))))))))) (fun s hs => hs)).f4.f4.f4.f4.f4) ?_
 exact J2 (⟨(tb, Ab, cb), htb2⟩, b149) _ (by repeat (first | exact trivial | refine ⟨rfl, ?_⟩))
 refine aJ (i := 6) rfl rfl rfl (fun _ _ _ => ax (by as_aux_lemma => kernel_rfl)) rfl ?_ ?_
 refine bf (vs := [_]) ([cI 98] : List (bg)) bB Try.underlying25 bF rfl rfl rfl rfl rfl rfl (fun As161 => ?_)
 refine ae ?_
 refine ay (aL 4) ?_
 refine aP (i := 3) rfl rfl rfl (fun _ _ _ => ax (by as_aux_lemma => kernel_rfl)) (by as_aux_lemma => kernel_rfl) rfl ?_
 refine bf (vs := [_]) (p17b : List (Le)) bl Try.underlying22 a7 rfl rfl rfl rfl rfl rfl (fun As162 => ?_)
 refine ae ?_
 refine ay (aL 5) ?_
 refine au (i := 7) rfl aa (bm rfl (aR _ _ _ _ _ _ _ _)) (aL 5) aD rfl (aj av) (by as_aux_lemma => kernel_rfl) rfl ?_
 refine aP (i := 8) rfl rfl rfl (aH rfl aU) (by as_aux_lemma => kernel_rfl) rfl ?_
 refine a6 rfl aU rfl (a8 3 ta _ _ false 3 4 p17b _ _ [cI 98] _ _ htaok bw htal (by decide) (by decide) bk) (fun w hw => (ak (aK 7 rfl hw) (ak (ci 6 rfl hw) (ak (aK 0 rfl hw) (ak (bo bv) (ak (aK 1 rfl hw) aO)))))) (fun ⟨⟨tb, Ab, cb⟩, htb⟩ => ?_)
 refine ae ?_
 refine ay (aL 7) ?_
 refine bN (t := 27) (.tuple #[.agg (cU 4 Ab tb.length cb).toArray, .int .i64 0]) rfl (by rw [hb9.1]; rfl) ?_
 have htb2 : tb.map (·.e) = r17b.map (·.e) := htb.trans hb9.2
 refine au (i := 9) rfl aa (am rfl) (aL 7) aD rfl (aj av) (by as_aux_lemma => kernel_rfl) rfl ?_
 refine au (i := 10) rfl aa (az rfl rfl) (aL 7) aD rfl (aj av) (by as_aux_lemma => kernel_rfl) rfl ?_
 refine au (i := 11) rfl aa (az rfl rfl) (aL 7) aD rfl (aj av) (by as_aux_lemma => kernel_rfl) rfl ?_
 refine aP (i := 13) rfl rfl rfl (fun _ _ _ => ax (by as_aux_lemma => kernel_rfl)) (by as_aux_lemma => kernel_rfl) rfl ?_
 refine aS aZ rfl rfl rfl (.s (.s (.s (.s (.s (.z)))))) rfl rfl rfl rfl ?_
 refine ae ?_
 refine ay (aL 7) ?_
 refine au (i := 14) rfl aa (ai rfl) (aL 7) aD rfl (aj av) (by as_aux_lemma => kernel_rfl) rfl ?_
 refine bA (by as_aux_lemma => kernel_rfl) ?_
 refine ao ?_
 refine bD (fun w h => (h.weak (.cons_cons _ (.cons_cons _ (.cons _ (.cons _ (.cons _ (.cons_cons _ (.cons _ (.cons_cons _ (.cons _ (.cons_cons _ (.cons _ (.cons _ (.cons _ .slnil))))))))))))) (fun s hs => hs)).f4.f4.f4.f4.f4) ?_
 exact J2 (⟨(tb, Ab, cb), htb2⟩, b149) _ (by repeat (first | exact trivial | refine ⟨rfl, ?_⟩))
 exact bx
 exact bx
 exact bx
 refine aJ (i := 4) rfl rfl rfl (fun _ _ _ => ax (by as_aux_lemma => kernel_rfl)) rfl ?_ ?_
 refine bf (vs := [_]) ([[98]] : List (bg)) bB Try.underlying105 cF rfl rfl rfl rfl rfl rfl (fun As164 => ?_)
 refine ae ?_
 refine ay (aL 3) ?_
 refine aP (i := 2) rfl rfl rfl (aH rfl dB) (by as_aux_lemma => kernel_rfl) rfl ?_
 refine bi rfl dB rfl (dT _ _ _ (by decide)) (fun w hw => (ak (aK 2 rfl hw) aO)) ?_
 refine ae ?_
 refine ay (aL 3) ?_
 refine bJ (js := [3, 5]) (by as_aux_lemma => kernel_rfl) rfl ?_
 refine aJ (i := 3) rfl rfl rfl (fun _ _ _ => ax (by as_aux_lemma => kernel_rfl)) rfl ?_ ?_
 refine bf (vs := [_]) (p17b : List (Le)) bl Try.underlying22 a7 rfl rfl rfl rfl rfl rfl (fun As165 => ?_)
 refine ae ?_
 refine ay (aL 4) ?_
 refine aP (i := 5) rfl rfl rfl (aH rfl bH) (by as_aux_lemma => kernel_rfl) rfl ?_
 refine bi rfl bH rfl (bT _ _ _ (by decide)) (fun w hw => (ak (aK 1 rfl hw) aO)) ?_
 refine ae ?_
 refine ay (aL 4) ?_
 refine aP (i := 6) rfl rfl rfl (fun _ _ _ => ax (by as_aux_lemma => kernel_rfl)) (by as_aux_lemma => kernel_rfl) rfl ?_
 refine bf (vs := [_]) ([cI 98] : List (bg)) bB Try.underlying25 bF rfl rfl rfl rfl rfl rfl (fun As166 => ?_)
 refine ae ?_
 refine ay (aL 5) ?_
 refine au (i := 7) rfl aa (bm rfl (aR _ _ _ _ _ _ _ _)) (aL 5) aD rfl (aj av) (by as_aux_lemma => kernel_rfl) rfl ?_
 refine aP (i := 8) rfl rfl rfl (aH rfl aU) (by as_aux_lemma => kernel_rfl) rfl ?_
 refine a6 rfl aU rfl (a8 3 ta _ _ false 3 4 p17b _ _ [cI 98] _ _ htaok bw htal (by decide) (by decide) bk) (fun w hw => (ak (aK 7 rfl hw) (ak (ci 6 rfl hw) (ak (aK 1 rfl hw) (ak (bo bv) (ak (aK 0 rfl hw) aO)))))) (fun ⟨⟨tb, Ab, cb⟩, htb⟩ => ?_)
 refine ae ?_
 refine ay (aL 7) ?_
 refine bN (t := 27) (.tuple #[.agg (cU 4 Ab tb.length cb).toArray, .int .i64 0]) rfl (by rw [hb9.1]; rfl) ?_
 have htb2 : tb.map (·.e) = r17b.map (·.e) := htb.trans hb9.2
 refine au (i := 9) rfl aa (am rfl) (aL 7) aD rfl (aj av) (by as_aux_lemma => kernel_rfl) rfl ?_
 refine au (i := 10) rfl aa (az rfl rfl) (aL 7) aD rfl (aj av) (by as_aux_lemma => kernel_rfl) rfl ?_
 refine au (i := 11) rfl aa (az rfl rfl) (aL 7) aD rfl (aj av) (by as_aux_lemma => kernel_rfl) rfl ?_
 refine aP (i := 13) rfl rfl rfl (fun _ _ _ => ax (by as_aux_lemma => kernel_rfl)) (by as_aux_lemma => kernel_rfl) rfl ?_
 refine aS aZ rfl rfl rfl (.s (.s (.s (.s (.s (.z)))))) rfl rfl rfl rfl ?_
 refine ae ?_
 refine ay (aL 7) ?_
 refine au (i := 14) rfl aa (ai rfl) (aL 7) aD rfl (aj av) (by as_aux_lemma => kernel_rfl) rfl ?_
 refine bA (by as_aux_lemma => kernel_rfl) ?_
 refine ao ?_
 refine bD (fun w h => (h.weak (.cons_cons _ (.cons_cons _ (.cons _ (.cons _ (.cons _ (.cons_cons _ (.cons _ (.cons_cons _ (.cons _ (.cons_cons _ (.cons _ (.cons _ (.cons _ .slnil))))))))))))) (fun s hs => hs)).f4.f4.f4.f4.f4) ?_
 exact J2 (⟨(tb, Ab, cb), htb2⟩, b149) _ (by repeat (first | exact trivial | refine ⟨rfl, ?_⟩))
 refine aJ (i := 5) rfl rfl rfl (aH rfl bH) rfl ?_ ?_
 refine bi rfl bH rfl (bT _ _ _ (by decide)) (fun w hw => (ak (aK 0 rfl hw) aO)) ?_
 refine ae ?_
 refine ay (aL 3) ?_
 refine bJ (js := [3, 6]) (by as_aux_lemma => kernel_rfl) rfl ?_
 refine aJ (i := 3) rfl rfl rfl (fun _ _ _ => ax (by as_aux_lemma => kernel_rfl)) rfl ?_ ?_
 refine bf (vs := [_]) (p17b : List (Le)) bl Try.underlying22 a7 rfl rfl rfl rfl rfl rfl (fun As168 => ?_)
 refine ae ?_
 refine ay (aL 4) ?_
 refine aP (i := 6) rfl rfl rfl (fun _ _ _ => ax (by as_aux_lemma => kernel_rfl)) (by as_aux_lemma => kernel_rfl) rfl ?_
 refine bf (vs := [_]) ([cI 98] : List (bg)) bB Try.underlying25 bF rfl rfl rfl rfl rfl rfl (fun As169 => ?_)
 refine ae ?_
 refine ay (aL 5) ?_
 refine au (i := 7) rfl aa (bm rfl (aR _ _ _ _ _ _ _ _)) (aL 5) aD rfl (aj av) (by as_aux_lemma => kernel_rfl) rfl ?_
 refine aP (i := 8) rfl rfl rfl (aH rfl aU) (by as_aux_lemma => kernel_rfl) rfl ?_
 refine a6 rfl aU rfl (a8 3 ta _ _ false 3 4 p17b _ _ [cI 98] _ _ htaok bw htal (by decide) (by decide) bk) (fun w hw => (ak (aK 7 rfl hw) (ak (ci 6 rfl hw) (ak (aK 1 rfl hw) (ak (bo bv) (ak (aK 0 rfl hw) aO)))))) (fun ⟨⟨tb, Ab, cb⟩, htb⟩ => ?_)
 refine ae ?_
 refine ay (aL 7) ?_
 refine bN (t := 27) (.tuple #[.agg (cU 4 Ab tb.length cb).toArray, .int .i64 0]) rfl (by rw [hb9.1]; rfl) ?_
 have htb2 : tb.map (·.e) = r17b.map (·.e) := htb.trans hb9.2
 refine au (i := 9) rfl aa (am rfl) (aL 7) aD rfl (aj av) (by as_aux_lemma => kernel_rfl) rfl ?_
 refine au (i := 10) rfl aa (az rfl rfl) (aL 7) aD rfl (aj av) (by as_aux_lemma => kernel_rfl) rfl ?_
 refine au (i := 11) rfl aa (az rfl rfl) (aL 7) aD rfl (aj av) (by as_aux_lemma => kernel_rfl) rfl ?_
 refine aP (i := 13) rfl rfl rfl (fun _ _ _ => ax (by as_aux_lemma => kernel_rfl)) (by as_aux_lemma => kernel_rfl) rfl ?_
 refine aS aZ rfl rfl rfl (.s (.s (.s (.s (.s (.z)))))) rfl rfl rfl rfl ?_
 refine ae ?_
 refine ay (aL 7) ?_
 refine au (i := 14) rfl aa (ai rfl) (aL 7) aD rfl (aj av) (by as_aux_lemma => kernel_rfl) rfl ?_
 refine bA (by as_aux_lemma => kernel_rfl) ?_
 refine ao ?_
 refine bD (fun w h => (h.weak (.cons_cons _ (.cons_cons _ (.cons _ (.cons _ (.cons _ (.cons_cons _ (.cons _ (.cons_cons _ (.cons _ (.cons_cons _ (.cons _ (.cons _ (.cons _ .slnil))))))))))))) (fun s hs => hs)).f4.f4.f4.f4.f4) ?_
 exact J2 (⟨(tb, Ab, cb), htb2⟩, b149) _ (by repeat (first | exact trivial | refine ⟨rfl, ?_⟩))
 refine aJ (i := 6) rfl rfl rfl (fun _ _ _ => ax (by as_aux_lemma => kernel_rfl)) rfl ?_ ?_
 refine bf (vs := [_]) ([cI 98] : List (bg)) bB Try.underlying25 bF rfl rfl rfl rfl rfl rfl (fun As171 => ?_)
 refine ae ?_
 refine ay (aL 4) ?_
 refine aP (i := 3) rfl rfl rfl (fun _ _ _ => ax (by as_aux_lemma => kernel_rfl)) (by as_aux_lemma => kernel_rfl) rfl ?_
 refine bf (vs := [_]) (p17b : List (Le)) bl Try.underlying22 a7 rfl rfl rfl rfl rfl rfl (fun As172 => ?_)
 refine ae ?_
 refine ay (aL 5) ?_
 refine au (i := 7) rfl aa (bm rfl (aR _ _ _ _ _ _ _ _)) (aL 5) aD rfl (aj av) (by as_aux_lemma => kernel_rfl) rfl ?_
 refine aP (i := 8) rfl rfl rfl (aH rfl aU) (by as_aux_lemma => kernel_rfl) rfl ?_
 refine a6 rfl aU rfl (a8 3 ta _ _ false 3 4 p17b _ _ [cI 98] _ _ htaok bw htal (by decide) (by decide) bk) (fun w hw => (ak (aK 7 rfl hw) (ak (ci 6 rfl hw) (ak (aK 0 rfl hw) (ak (bo bv) (ak (aK 1 rfl hw) aO)))))) (fun ⟨⟨tb, Ab, cb⟩, htb⟩ => ?_)
 refine ae ?_
 refine ay (aL 7) ?_
 refine bN (t := 27) (.tuple #[.agg (cU 4 Ab tb.length cb).toArray, .int .i64 0]) rfl (by rw [hb9.1]; rfl) ?_
 have htb2 : tb.map (·.e) = r17b.map (·.e) := htb.trans hb9.2
 refine au (i := 9) rfl aa (am rfl) (aL 7) aD rfl (aj av) (by as_aux_lemma => kernel_rfl) rfl ?_
 refine au (i := 10) rfl aa (az rfl rfl) (aL 7) aD rfl (aj av) (by as_aux_lemma => kernel_rfl) rfl ?_
 refine au (i := 11) rfl aa (az rfl rfl) (aL 7) aD rfl (aj av) (by as_aux_lemma => kernel_rfl) rfl ?_
 refine aP (i := 13) rfl rfl rfl (fun _ _ _ => ax (by as_aux_lemma => kernel_rfl)) (by as_aux_lemma => kernel_rfl) rfl ?_
 refine aS aZ rfl rfl rfl (.s (.s (.s (.s (.s (.z)))))) rfl rfl rfl rfl ?_
 refine ae ?_
 refine ay (aL 7) ?_
 refine au (i := 14) rfl aa (ai rfl) (aL 7) aD rfl (aj av) (by as_aux_lemma => kernel_rfl) rfl ?_
 refine bA (by as_aux_lemma => kernel_rfl) ?_
 refine ao ?_
 refine bD (fun w h => (h.weak (.cons_cons _ (.cons_cons _ (.cons _ (.cons _ (.cons _ (.cons_cons _ (.cons _ (.cons_cons _ (.cons _ (.cons_cons _ (.cons _ (.cons _ (.cons _ .slnil))))))))))))) (fun s hs => hs)).f4.f4.f4.f4.f4) ?_
 exact J2 (⟨(tb, Ab, cb), htb2⟩, b149) _ (by repeat (first | exact trivial | refine ⟨rfl, ?_⟩))
 exact bx
 exact bx
 exact bx
 exact bx
 refine aJ (i := 4) rfl rfl rfl (fun _ _ _ => ax (by as_aux_lemma => kernel_rfl)) rfl ?_ ?_
 refine bf (vs := [_]) ([[98]] : List (bg)) bB Try.underlying105 cF rfl rfl rfl rfl rfl rfl (fun As174 => ?_)
 refine ae ?_
 refine ay (aL 1) ?_
 refine bJ (js := [1, 12]) (by as_aux_lemma => kernel_rfl) rfl ?_
 refine aJ (i := 1) rfl rfl rfl (fun _ _ _ => ax (by as_aux_lemma => kernel_rfl)) rfl ?_ ?_
 refine bf (vs := [_]) ([[99]] : List (bg)) bB Try.underlying105 cF rfl rfl rfl rfl rfl rfl (fun As175 => ?_)
 refine ae ?_
 refine ay (aL 2) ?_
 refine bJ (js := [2, 12]) (by as_aux_lemma => kernel_rfl) rfl ?_
 refine aJ (i := 2) rfl rfl rfl (aH rfl dB) rfl ?_ ?_
 refine bi rfl dB rfl (dT _ _ _ (by decide)) (fun w hw => (ak (aK 0 rfl hw) aO)) ?_
 refine ae ?_
 refine ay (aL 2) ?_
 refine bJ (js := [3, 5, 12]) (by as_aux_lemma => kernel_rfl) rfl ?_
 refine aJ (i := 3) rfl rfl rfl (fun _ _ _ => ax (by as_aux_lemma => kernel_rfl)) rfl ?_ ?_
 refine bf (vs := [_]) (p17b : List (Le)) bl Try.underlying22 a7 rfl rfl rfl rfl rfl rfl (fun As176 => ?_)
 refine ae ?_
 refine ay (aL 3) ?_
 refine bJ (js := [5, 12]) (by as_aux_lemma => kernel_rfl) rfl ?_
 refine aJ (i := 5) rfl rfl rfl (aH rfl bH) rfl ?_ ?_
 refine bi rfl bH rfl (bT _ _ _ (by decide)) (fun w hw => (ak (aK 2 rfl hw) aO)) ?_
 refine ae ?_
 refine ay (aL 3) ?_
 refine bJ (js := [6, 12]) (by as_aux_lemma => kernel_rfl) rfl ?_
 refine aJ (i := 6) rfl rfl rfl (fun _ _ _ => ax (by as_aux_lemma => kernel_rfl)) rfl ?_ ?_
 refine bf (vs := [_]) ([cI 98] : List (bg)) bB Try.underlying25 bF rfl rfl rfl rfl rfl rfl (fun As177 => ?_)
 refine ae ?_
 refine ay (aL 4) ?_
 refine au (i := 7) rfl aa (bm rfl (aR _ _ _ _ _ _ _ _)) (aL 4) aD rfl (aj av) (by as_aux_lemma => kernel_rfl) rfl ?_
 refine bJ (js := [8, 12]) (by as_aux_lemma => kernel_rfl) rfl ?_
 refine aJ (i := 8) rfl rfl rfl (aH rfl aU) rfl ?_ ?_
 refine a6 rfl aU rfl (a8 3 ta _ _ false 3 4 p17b _ _ [cI 98] _ _ htaok bw htal (by decide) (by decide) bk) (fun w hw => (ak (aK 6 rfl hw) (ak (ci 5 rfl hw) (ak (aK 1 rfl hw) (ak (bo bv) (ak (aK 0 rfl hw) aO)))))) (fun ⟨⟨tb, Ab, cb⟩, htb⟩ => ?_)
 refine ae ?_
 refine ay (aL 6) ?_
 refine bN (t := 27) (.tuple #[.agg (cU 4 Ab tb.length cb).toArray, .int .i64 0]) rfl (by rw [hb9.1]; rfl) ?_
 have htb2 : tb.map (·.e) = r17b.map (·.e) := htb.trans hb9.2
 refine au (i := 9) rfl aa (am rfl) (aL 6) aD rfl (aj av) (by as_aux_lemma => kernel_rfl) rfl ?_
 refine au (i := 10) rfl aa (az rfl rfl) (aL 6) aD rfl (aj av) (by as_aux_lemma => kernel_rfl) rfl ?_
 refine au (i := 11) rfl aa (az rfl rfl) (aL 6) aD rfl (aj av) (by as_aux_lemma => kernel_rfl) rfl ?_
 refine aP (i := 12) rfl rfl rfl (fun _ _ _ => ax (by as_aux_lemma => kernel_rfl)) (by as_aux_lemma => kernel_rfl) rfl ?_
 refine bu aZ rfl rfl (fun b179 => ?_)
 refine ae ?_
 refine ay (aL 7) ?_
 refine aP (i := 13) rfl rfl rfl (fun _ _ _ => ax (by as_aux_lemma => kernel_rfl)) (by as_aux_lemma => kernel_rfl) rfl ?_
 refine aS aZ rfl rfl rfl .z rfl rfl rfl rfl ?_
 refine ae ?_
 refine ay (aL 7) ?_
 refine au (i := 14) rfl aa (ai rfl) (aL 7) aD rfl (aj av) (by as_aux_lemma => kernel_rfl) rfl ?_
 refine bA (by as_aux_lemma => kernel_rfl) ?_
 refine ao ?_
 refine bD (fun w h => (h.weak (.cons_cons _ (.cons_cons _ (.cons_cons _ (.cons _ (.cons _ (.cons _ (.cons _ (.cons_cons _ (.cons _ (.cons_cons _ (.cons _ (.cons _ (.cons _ .slnil))))))))))))) (fun s hs => hs)).f4.f4.f2.f4.f4) ?_
 exact J2 (⟨(tb, Ab, cb), htb2⟩, b179) _ (by repeat (first | exact trivial | refine ⟨rfl, ?_⟩))
 refine aJ (i := 12) rfl rfl rfl (fun _ _ _ => ax (by as_aux_lemma => kernel_rfl)) rfl ?_ ?_
 refine bu aZ rfl rfl (fun b180 => ?_)
 refine ae ?_
 refine ay (aL 5) ?_
 refine aP (i := 8) rfl rfl rfl (aH rfl aU) (by as_aux_lemma => kernel_rfl) rfl ?_
 refine a6 rfl aU rfl (a8 3 ta _ _ false 3 4 p17b _ _ [cI 98] _ _ htaok bw htal (by decide) (by decide) bk) (fun w hw => (ak (aK 7 rfl hw) (ak (ci 6 rfl hw) (ak (aK 2 rfl hw) (ak (bo bv) (ak (aK 1 rfl hw) aO)))))) (fun ⟨⟨tb, Ab, cb⟩, htb⟩ => ?_)
 refine ae ?_
 refine ay (aL 7) ?_
 refine bN (t := 27) (.tuple #[.agg (cU 4 Ab tb.length cb).toArray, .int .i64 0]) rfl (by rw [hb9.1]; rfl) ?_
 have htb2 : tb.map (·.e) = r17b.map (·.e) := htb.trans hb9.2
 refine au (i := 9) rfl aa (am rfl) (aL 7) aD rfl (aj av) (by as_aux_lemma => kernel_rfl) rfl ?_
 refine au (i := 10) rfl aa (az rfl rfl) (aL 7) aD rfl (aj av) (by as_aux_lemma => kernel_rfl) rfl ?_
 refine au (i := 11) rfl aa (az rfl rfl) (aL 7) aD rfl (aj av) (by as_aux_lemma => kernel_rfl) rfl ?_
 refine aP (i := 13) rfl rfl rfl (fun _ _ _ => ax (by as_aux_lemma => kernel_rfl)) (by as_aux_lemma => kernel_rfl) rfl ?_
 refine aS aZ rfl rfl rfl (.s (.s (.z))) rfl rfl rfl rfl ?_
 refine ae ?_
 refine ay (aL 7) ?_
 refine au (i := 14) rfl aa (ai rfl) (aL 7) aD rfl (aj av) (by as_aux_lemma => kernel_rfl) rfl ?_
 refine bA (by as_aux_lemma => kernel_rfl) ?_
 refine ao ?_
 refine bD (fun w h => (h.weak (.cons_cons _ (.cons_cons _ (.cons_cons _ (.cons _ (.cons _ (.cons _ (.cons _ (.cons_cons _ (.cons _ (.cons_cons _ (.cons _ (.cons _ (.cons _ .slnil))))))))))))) (fun s hs => hs)).f4.f4.f4.f4.f4) ?_
 exact J2 (⟨(tb, Ab, cb), htb2⟩, b180) _ (by repeat (first | exact trivial | refine ⟨rfl, ?_⟩))
 exact bx
 refine aJ (i := 12) rfl rfl rfl (fun _ _ _ => ax (by as_aux_lemma => kernel_rfl)) rfl ?_ ?_
 refine bu aZ rfl rfl (fun b182 => ?_)
 refine ae ?_
 refine ay (aL 4) ?_
 refine aP (i := 6) rfl rfl rfl (fun _ _ _ => ax (by as_aux_lemma => kernel_rfl)) (by as_aux_lemma => kernel_rfl) rfl ?_
 refine bf (vs := [_]) ([cI 98] : List (bg)) bB Try.underlying25 bF rfl rfl rfl rfl rfl rfl (fun As183 => ?_)
 refine ae ?_
 refine ay (aL 5) ?_
 refine au (i := 7) rfl aa (bm rfl (aR _ _ _ _ _ _ _ _)) (aL 5) aD rfl (aj av) (by as_aux_lemma => kernel_rfl) rfl ?_
 refine aP (i := 8) rfl rfl rfl (aH rfl aU) (by as_aux_lemma => kernel_rfl) rfl ?_
 refine a6 rfl aU rfl (a8 3 ta _ _ false 3 4 p17b _ _ [cI 98] _ _ htaok bw htal (by decide) (by decide) bk) (fun w hw => (ak (aK 7 rfl hw) (ak (ci 6 rfl hw) (ak (aK 2 rfl hw) (ak (bo bv) (ak (aK 0 rfl hw) aO)))))) (fun ⟨⟨tb, Ab, cb⟩, htb⟩ => ?_)
 refine ae ?_
 refine ay (aL 7) ?_
 refine bN (t := 27) (.tuple #[.agg (cU 4 Ab tb.length cb).toArray, .int .i64 0]) rfl (by rw [hb9.1]; rfl) ?_
 have htb2 : tb.map (·.e) = r17b.map (·.e) := htb.trans hb9.2
 refine au (i := 9) rfl aa (am rfl) (aL 7) aD rfl (aj av) (by as_aux_lemma => kernel_rfl) rfl ?_
 refine au (i := 10) rfl aa (az rfl rfl) (aL 7) aD rfl (aj av) (by as_aux_lemma => kernel_rfl) rfl ?_
 refine au (i := 11) rfl aa (az rfl rfl) (aL 7) aD rfl (aj av) (by as_aux_lemma => kernel_rfl) rfl ?_
 refine aP (i := 13) rfl rfl rfl (fun _ _ _ => ax (by as_aux_lemma => kernel_rfl)) (by as_aux_lemma => kernel_rfl) rfl ?_
 refine aS aZ rfl rfl rfl (.s (.s (.s (.z)))) rfl rfl rfl rfl ?_
 refine ae ?_
 refine ay (aL 7) ?_
 refine au (i := 14) rfl aa (ai rfl) (aL 7) aD rfl (aj av) (by as_aux_lemma => kernel_rfl) rfl ?_
 refine bA (by as_aux_lemma => kernel_rfl) ?_
 refine ao ?_
 refine bD (fun w h => (h.weak (.cons_cons _ (.cons_cons _ (.cons _ (.cons_cons _ (.cons _ (.cons _ (.cons _ (.cons_cons _ (.cons _ (.cons_cons _ (.cons _ (.cons _ (.cons _ .slnil))))))))))))) (fun s hs => hs)).f4.f4.f4.f4.f4) ?_
 exact J2 (⟨(tb, Ab, cb), htb2⟩, b182) _ (by repeat (first | exact trivial | refine ⟨rfl, ?_⟩))
 exact bx
 refine aJ (i := 12) rfl rfl rfl (fun _ _ _ => ax (by as_aux_lemma => kernel_rfl)) rfl ?_ ?_
 refine bu aZ rfl rfl (fun b185 => ?_)
 refine ae ?_
 refine ay (aL 4) ?_
 refine aP (i := 5) rfl rfl rfl (aH rfl bH) (by as_aux_lemma => kernel_rfl) rfl ?_
 refine bi rfl bH rfl (bT _ _ _ (by decide)) (fun w hw => (ak (aK 3 rfl hw) aO)) ?_
 refine ae ?_
 refine ay (aL 4) ?_
 refine aP (i := 6) rfl rfl rfl (fun _ _ _ => ax (by as_aux_lemma => kernel_rfl)) (by as_aux_lemma => kernel_rfl) rfl ?_
 refine bf (vs := [_]) ([cI 98] : List (bg)) bB Try.underlying25 bF rfl rfl rfl rfl rfl rfl (fun As186 => ?_)
 refine ae ?_
 refine ay (aL 5) ?_
 refine au (i := 7) rfl aa (bm rfl (aR _ _ _ _ _ _ _ _)) (aL 5) aD rfl (aj av) (by as_aux_lemma => kernel_rfl) rfl ?_
 refine aP (i := 8) rfl rfl rfl (aH rfl aU) (by as_aux_lemma => kernel_rfl) rfl ?_
 refine a6 rfl aU rfl (a8 3 ta _ _ false 3 4 p17b _ _ [cI 98] _ _ htaok bw htal (by decide) (by decide) bk) (fun w hw => (ak (aK 7 rfl hw) (ak (ci 6 rfl hw) (ak (aK 2 rfl hw) (ak (bo bv) (ak (aK 0 rfl hw) aO)))))) (fun ⟨⟨tb, Ab, cb⟩, htb⟩ => ?_)
 refine ae ?_
 refine ay (aL 7) ?_
 refine bN (t := 27) (.tuple #[.agg (cU 4 Ab tb.length cb).toArray, .int .i64 0]) rfl (by rw [hb9.1]; rfl) ?_
 have htb2 : tb.map (·.e) = r17b.map (·.e) := htb.trans hb9.2
 refine au (i := 9) rfl aa (am rfl) (aL 7) aD rfl (aj av) (by as_aux_lemma => kernel_rfl) rfl ?_
 refine au (i := 10) rfl aa (az rfl rfl) (aL 7) aD rfl (aj av) (by as_aux_lemma => kernel_rfl) rfl ?_
 refine au (i := 11) rfl aa (az rfl rfl) (aL 7) aD rfl (aj av) (by as_aux_lemma => kernel_rfl) rfl ?_
 refine aP (i := 13) rfl rfl rfl (fun _ _ _ => ax (by as_aux_lemma => kernel_rfl)) (by as_aux_lemma => kernel_rfl) rfl ?_
 refine aS aZ rfl rfl rfl (.s (.s (.s (.z)))) rfl rfl rfl rfl ?_
 refine ae ?_
 refine ay (aL 7) ?_
 refine au (i := 14) rfl aa (ai rfl) (aL 7) aD rfl (aj av) (by as_aux_lemma => kernel_rfl) rfl ?_
 refine bA (by as_aux_lemma => kernel_rfl) ?_
 refine ao ?_
 refine bD (fun w h => (h.weak (.cons_cons _ (.cons_cons _ (.cons _ (.cons_cons _ (.cons _ (.cons _ (.cons _ (.cons_cons _ (.cons _ (.cons_cons _ (.cons _ (.cons _ (.cons _ .slnil))))))))))))) (fun s hs => hs)).f4.f4.f4.f4.f4) ?_
 exact J2 (⟨(tb, Ab, cb), htb2⟩, b185) _ (by repeat (first | exact trivial | refine ⟨rfl, ?_⟩))
 exact bx
 refine aJ (i := 5) rfl rfl rfl (aH rfl bH) rfl ?_ ?_
 refine bi rfl bH rfl (bT _ _ _ (by decide)) (fun w hw => (ak (aK 1 rfl hw) aO)) ?_
 refine ae ?_
 refine ay (aL 2) ?_
 refine bJ (js := [3, 6, 12]) (by as_aux_lemma => kernel_rfl) rfl ?_
 refine aJ (i := 3) rfl rfl rfl (fun _ _ _ => ax (by as_aux_lemma => kernel_rfl)) rfl ?_ ?_
 refine bf (vs := [_]) (p17b : List (Le)) bl Try.underlying22 a7 rfl rfl rfl rfl rfl rfl (fun As188 => ?_)
 refine ae ?_
 refine ay (aL 3) ?_
 refine bJ (js := [6, 12]) (by as_aux_lemma => kernel_rfl) rfl ?_
 refine aJ (i := 6) rfl rfl rfl (fun _ _ _ => ax (by as_aux_lemma => kernel_rfl)) rfl ?_ ?_
 refine bf (vs := [_]) ([cI 98] : List (bg)) bB Try.underlying25 bF rfl rfl rfl rfl rfl rfl (fun As189 => ?_)
 refine ae ?_
 refine ay (aL 4) ?_
 refine au (i := 7) rfl aa (bm rfl (aR _ _ _ _ _ _ _ _)) (aL 4) aD rfl (aj av) (by as_aux_lemma => kernel_rfl) rfl ?_
 refine bJ (js := [8, 12]) (by as_aux_lemma => kernel_rfl) rfl ?_
 refine aJ (i := 8) rfl rfl rfl (aH rfl aU) rfl ?_ ?_
 refine a6 rfl aU rfl (a8 3 ta _ _ false 3 4 p17b _ _ [cI 98] _ _ htaok bw htal (by decide) (by decide) bk) (fun w hw => (ak (aK 6 rfl hw) (ak (ci 5 rfl hw) (ak (aK 1 rfl hw) (ak (bo bv) (ak (aK 0 rfl hw) aO)))))) (fun ⟨⟨tb, Ab, cb⟩, htb⟩ => ?_)
 refine ae ?_
 refine ay (aL 6) ?_
 refine bN (t := 27) (.tuple #[.agg (cU 4 Ab tb.length cb).toArray, .int .i64 0]) rfl (by rw [hb9.1]; rfl) ?_
 have htb2 : tb.map (·.e) = r17b.map (·.e) := htb.trans hb9.2
 refine au (i := 9) rfl aa (am rfl) (aL 6) aD rfl (aj av) (by as_aux_lemma => kernel_rfl) rfl ?_
 refine au (i := 10) rfl aa (az rfl rfl) (aL 6) aD rfl (aj av) (by as_aux_lemma => kernel_rfl) rfl ?_
 refine au (i := 11) rfl aa (az rfl rfl) (aL 6) aD rfl (aj av) (by as_aux_lemma => kernel_rfl) rfl ?_
 refine aP (i := 12) rfl rfl rfl (fun _ _ _ => ax (by as_aux_lemma => kernel_rfl)) (by as_aux_lemma => kernel_rfl) rfl ?_
 refine bu aZ rfl rfl (fun b191 => ?_)
 refine ae ?_
 refine ay (aL 7) ?_
 refine aP (i := 13) rfl rfl rfl (fun _ _ _ => ax (by as_aux_lemma => kernel_rfl)) (by as_aux_lemma => kernel_rfl) rfl ?_
 refine aS aZ rfl rfl rfl .z rfl rfl rfl rfl ?_
 refine ae ?_
 refine ay (aL 7) ?_
 refine au (i := 14) rfl aa (ai rfl) (aL 7) aD rfl (aj av) (by as_aux_lemma => kernel_rfl) rfl ?_
 refine bA (by as_aux_lemma => kernel_rfl) ?_
 refine ao ?_
 refine bD (fun w h => (h.weak (.cons_cons _ (.cons_cons _ (.cons_cons _ (.cons _ (.cons _ (.cons _ (.cons _ (.cons_cons _ (.cons _ (.cons_cons _ (.cons _ (.cons _ (.cons _ .slnil))))))))))))) (fun s hs => hs)).f4.f4.f2.f4.f4) ?_
 exact J2 (⟨(tb, Ab, cb), htb2⟩, b191) _ (by repeat (first | exact trivial | refine ⟨rfl, ?_⟩))
 refine aJ (i := 12) rfl rfl rfl (fun _ _ _ => ax (by as_aux_lemma => kernel_rfl)) rfl ?_ ?_
 refine bu aZ rfl rfl (fun b192 => ?_)
 refine ae ?_
 refine ay (aL 5) ?_
 refine aP (i := 8) rfl rfl rfl (aH rfl aU) (by as_aux_lemma => kernel_rfl) rfl ?_
 refine a6 rfl aU rfl (a8 3 ta _ _ false 3 4 p17b _ _ [cI 98] _ _ htaok bw htal (by decide) (by decide) bk) (fun w hw => (ak (aK 7 rfl hw) (ak (ci 6 rfl hw) (ak (aK 2 rfl hw) (ak (bo bv) (ak (aK 1 rfl hw) aO)))))) (fun ⟨⟨tb, Ab, cb⟩, htb⟩ => ?_)
 refine ae ?_
 refine ay (aL 7) ?_
 refine bN (t := 27) (.tuple #[.agg (cU 4 Ab tb.length cb).toArray, .int .i64 0]) rfl (by rw [hb9.1]; rfl) ?_
 have htb2 : tb.map (·.e) = r17b.map (·.e) := htb.trans hb9.2
 refine au (i := 9) rfl aa (am rfl) (aL 7) aD rfl (aj av) (by as_aux_lemma => kernel_rfl) rfl ?_
 refine au (i := 10) rfl aa (az rfl rfl) (aL 7) aD rfl (aj av) (by as_aux_lemma => kernel_rfl) rfl ?_
 refine au (i := 11) rfl aa (az rfl rfl) (aL 7) aD rfl (aj av) (by as_aux_lemma => kernel_rfl) rfl ?_
 refine aP (i := 13) rfl rfl rfl (fun _ _ _ => ax (by as_aux_lemma => kernel_rfl)) (by as_aux_lemma => kernel_rfl) rfl ?_
 refine aS aZ rfl rfl rfl (.s (.s (.z))) rfl rfl rfl rfl ?_
 refine ae ?_
 refine ay (aL 7) ?_
 refine au (i := 14) rfl aa (ai rfl) (aL 7) aD rfl (aj av) (by as_aux_lemma => kernel_rfl) rfl ?_
 refine bA (by as_aux_lemma => kernel_rfl) ?_
 refine ao ?_
 refine bD (fun w h => (h.weak (.cons_cons _ (.cons_cons _ (.cons_cons _ (.cons _ (.cons _ (.cons _ (.cons _ (.cons_cons _ (.cons _ (.cons_cons _ (.cons _ (.cons _ (.cons _ .slnil))))))))))))) (fun s hs => hs)).f4.f4.f4.f4.f4) ?_
 exact J2 (⟨(tb, Ab, cb), htb2⟩, b192) _ (by repeat (first | exact trivial | refine ⟨rfl, ?_⟩))
 exact bx
 refine aJ (i := 12) rfl rfl rfl (fun _ _ _ => ax (by as_aux_lemma => kernel_rfl)) rfl ?_ ?_
 refine bu aZ rfl rfl (fun b194 => ?_)
 refine ae ?_
 refine ay (aL 4) ?_
 refine aP (i := 6) rfl rfl rfl (fun _ _ _ => ax (by as_aux_lemma => kernel_rfl)) (by as_aux_lemma => kernel_rfl) rfl ?_
 refine bf (vs := [_]) ([cI 98] : List (bg)) bB Try.underlying25 bF rfl rfl rfl rfl rfl rfl (fun As195 => ?_)
 refine ae ?_
 refine ay (aL 5) ?_
 refine au (i := 7) rfl aa (bm rfl (aR _ _ _ _ _ _ _ _)) (aL 5) aD rfl (aj av) (by as_aux_lemma => kernel_rfl) rfl ?_
 refine aP (i := 8) rfl rfl rfl (aH rfl aU) (by as_aux_lemma => kernel_rfl) rfl ?_
 refine a6 rfl aU rfl (a8 3 ta _ _ false 3 4 p17b _ _ [cI 98] _ _ htaok bw htal (by decide) (by decide) bk) (fun w hw => (ak (aK 7 rfl hw) (ak (ci 6 rfl hw) (ak (aK 2 rfl hw) (ak (bo bv) (ak (aK 0 rfl hw) aO)))))) (fun ⟨⟨tb, Ab, cb⟩, htb⟩ => ?_)
 refine ae ?_
 refine ay (aL 7) ?_
 refine bN (t := 27) (.tuple #[.agg (cU 4 Ab tb.length cb).toArray, .int .i64 0]) rfl (by rw [hb9.1]; rfl) ?_
 have htb2 : tb.map (·.e) = r17b.map (·.e) := htb.trans hb9.2
 refine au (i := 9) rfl aa (am rfl) (aL 7) aD rfl (aj av) (by as_aux_lemma => kernel_rfl) rfl ?_
 refine au (i := 10) rfl aa (az rfl rfl) (aL 7) aD rfl (aj av) (by as_aux_lemma => kernel_rfl) rfl ?_
 refine au (i := 11) rfl aa (az rfl rfl) (aL 7) aD rfl (aj av) (by as_aux_lemma => kernel_rfl) rfl ?_
 refine aP (i := 13) rfl rfl rfl (fun _ _ _ => ax (by as_aux_lemma => kernel_rfl)) (by as_aux_lemma => kernel_rfl) rfl ?_
 refine aS aZ rfl rfl rfl (.s (.s (.s (.z)))) rfl rfl rfl rfl ?_
 refine ae ?_
 refine ay (aL 7) ?_
 refine au (i := 14) rfl aa (ai rfl) (aL 7) aD rfl (aj av) (by as_aux_lemma => kernel_rfl) rfl ?_
 refine bA (by as_aux_lemma => kernel_rfl) ?_
 refine ao ?_
 refine bD (fun w h => (h.weak (.cons_cons _ (.cons_cons _ (.cons _ (.cons_cons _ (.cons _ (.cons _ (.cons _ (.cons_cons _ (.cons _ (.cons_cons _ (.cons _ (.cons _ (.cons _ .slnil))))))))))))) (fun s hs => hs)).f4.f4.f4.f4.f4) ?_
 exact J2 (⟨(tb, Ab, cb), htb2⟩, b194) _ (by repeat (first | exact trivial | refine ⟨rfl, ?_⟩))
 exact bx
 refine aJ (i := 6) rfl rfl rfl (fun _ _ _ => ax (by as_aux_lemma => kernel_rfl)) rfl ?_ ?_
 refine bf (vs := [_]) ([cI 98] : List (bg)) bB Try.underlying25 bF rfl rfl rfl rfl rfl rfl (fun As197 => ?_)
 refine ae ?_
 refine ay (aL 3) ?_
 refine bJ (js := [3, 12]) (by as_aux_lemma => kernel_rfl) rfl ?_
 refine aJ (i := 3) rfl rfl rfl (fun _ _ _ => ax (by as_aux_lemma => kernel_rfl)) rfl ?_ ?_
 refine bf (vs := [_]) (p17b : List (Le)) bl Try.underlying22 a7 rfl rfl rfl rfl rfl rfl (fun As198 => ?_)
 refine ae ?_
 refine ay (aL 4) ?_
 refine au (i := 7) rfl aa (bm rfl (aR _ _ _ _ _ _ _ _)) (aL 4) aD rfl (aj av) (by as_aux_lemma => kernel_rfl) rfl ?_
 refine bJ (js := [8, 12]) (by as_aux_lemma => kernel_rfl) rfl ?_
 refine aJ (i := 8) rfl rfl rfl (aH rfl aU) rfl ?_ ?_
 refine a6 rfl aU rfl (a8 3 ta _ _ false 3 4 p17b _ _ [cI 98] _ _ htaok bw htal (by decide) (by decide) bk) (fun w hw => (ak (aK 6 rfl hw) (ak (ci 5 rfl hw) (ak (aK 0 rfl hw) (ak (bo bv) (ak (aK 1 rfl hw) aO)))))) (fun ⟨⟨tb, Ab, cb⟩, htb⟩ => ?_)
 refine ae ?_
 refine ay (aL 6) ?_
 refine bN (t := 27) (.tuple #[.agg (cU 4 Ab tb.length cb).toArray, .int .i64 0]) rfl (by rw [hb9.1]; rfl) ?_
 have htb2 : tb.map (·.e) = r17b.map (·.e) := htb.trans hb9.2
 refine au (i := 9) rfl aa (am rfl) (aL 6) aD rfl (aj av) (by as_aux_lemma => kernel_rfl) rfl ?_
 refine au (i := 10) rfl aa (az rfl rfl) (aL 6) aD rfl (aj av) (by as_aux_lemma => kernel_rfl) rfl ?_
 refine au (i := 11) rfl aa (az rfl rfl) (aL 6) aD rfl (aj av) (by as_aux_lemma => kernel_rfl) rfl ?_
 refine aP (i := 12) rfl rfl rfl (fun _ _ _ => ax (by as_aux_lemma => kernel_rfl)) (by as_aux_lemma => kernel_rfl) rfl ?_
 refine bu aZ rfl rfl (fun b200 => ?_)
 refine ae ?_
 refine ay (aL 7) ?_
 refine aP (i := 13) rfl rfl rfl (fun _ _ _ => ax (by as_aux_lemma => kernel_rfl)) (by as_aux_lemma => kernel_rfl) rfl ?_
 refine aS aZ rfl rfl rfl .z rfl rfl rfl rfl ?_
 refine ae ?_
 refine ay (aL 7) ?_
 refine au (i := 14) rfl aa (ai rfl) (aL 7) aD rfl (aj av) (by as_aux_lemma => kernel_rfl) rfl ?_
 refine bA (by as_aux_lemma => kernel_rfl) ?_
 refine ao ?_
 refine bD (fun w h => (h.weak (.cons_cons _ (.cons_cons _ (.cons_cons _ (.cons _ (.cons _ (.cons _ (.cons _ (.cons_cons _ (.cons _ (.cons_cons _ (.cons _ (.cons _ (.cons _ .slnil))))))))))))) (fun s hs => hs)).f4.f4.f2.f4.f4) ?_
 exact J2 (⟨(tb, Ab, cb), htb2⟩, b200) _ (by repeat (first | exact trivial | refine ⟨rfl, ?_⟩))
 refine aJ (i := 12) rfl rfl rfl (fun _ _ _ => ax (by as_aux_lemma => kernel_rfl)) rfl ?_ ?_
 refine bu aZ rfl rfl (fun b201 => ?_)
 refine ae ?_
 refine ay (aL 5) ?_
 refine aP (i := 8) rfl rfl rfl (aH rfl aU) (by as_aux_lemma => kernel_rfl) rfl ?_
 refine a6 rfl aU rfl (a8 3 ta _ _ false 3 4 p17b _ _ [cI 98] _ _ htaok bw htal (by decide) (by decide) bk) (fun w hw => (ak (aK 7 rfl hw) (ak (ci 6 rfl hw) (ak (aK 1 rfl hw) (ak (bo bv) (ak (aK 2 rfl hw) aO)))))) (fun ⟨⟨tb, Ab, cb⟩, htb⟩ => ?_)
 refine ae ?_
 refine ay (aL 7) ?_
 refine bN (t := 27) (.tuple #[.agg (cU 4 Ab tb.length cb).toArray, .int .i64 0]) rfl (by rw [hb9.1]; rfl) ?_
 have htb2 : tb.map (·.e) = r17b.map (·.e) := htb.trans hb9.2
 refine au (i := 9) rfl aa (am rfl) (aL 7) aD rfl (aj av) (by as_aux_lemma => kernel_rfl) rfl ?_
 refine au (i := 10) rfl aa (az rfl rfl) (aL 7) aD rfl (aj av) (by as_aux_lemma => kernel_rfl) rfl ?_
 refine au (i := 11) rfl aa (az rfl rfl) (aL 7) aD rfl (aj av) (by as_aux_lemma => kernel_rfl) rfl ?_
 refine aP (i := 13) rfl rfl rfl (fun _ _ _ => ax (by as_aux_lemma => kernel_rfl)) (by as_aux_lemma => kernel_rfl) rfl ?_
 refine aS aZ rfl rfl rfl (.s (.s (.z))) rfl rfl rfl rfl ?_
 refine ae ?_
 refine ay (aL 7) ?_
 refine au (i := 14) rfl aa (ai rfl) (aL 7) aD rfl (aj av) (by as_aux_lemma => kernel_rfl) rfl ?_
 refine bA (by as_aux_lemma => kernel_rfl) ?_
 refine ao ?_
 refine bD (fun w h => (h.weak (.cons_cons _ (.cons_cons _ (.cons_cons _ (.cons _ (.cons _ (.cons _ (.cons _ (.cons_cons _ (.cons _ (.cons_cons _ (.cons _ (.cons _ (.cons _ .slnil))))))))))))) (fun s hs => hs)).f4.f4.f4.f4.f4) ?_
 exact J2 (⟨(tb, Ab, cb), htb2⟩, b201) _ (by repeat (first | exact trivial | refine ⟨rfl, ?_⟩))
 exact bx
 refine aJ (i := 12) rfl rfl rfl (fun _ _ _ => ax (by as_aux_lemma => kernel_rfl)) rfl ?_ ?_
 refine bu aZ rfl rfl (fun b203 => ?_)
 refine ae ?_
 refine ay (aL 4) ?_
 refine aP (i := 3) rfl rfl rfl (fun _ _ _ => ax (by as_aux_lemma => kernel_rfl)) (by as_aux_lemma => kernel_rfl) rfl ?_
 refine bf (vs := [_]) (p17b : List (Le)) bl Try.underlying22 a7 rfl rfl rfl rfl rfl rfl (fun As204 => ?_)
 refine ae ?_
 refine ay (aL 5) ?_
 refine au (i := 7) rfl aa (bm rfl (aR _ _ _ _ _ _ _ _)) (aL 5) aD rfl (aj av) (by as_aux_lemma => kernel_rfl) rfl ?_
 refine aP (i := 8) rfl rfl rfl (aH rfl aU) (by as_aux_lemma => kernel_rfl) rfl ?_
 refine a6 rfl aU rfl (a8 3 ta _ _ false 3 4 p17b _ _ [cI 98] _ _ htaok bw htal (by decide) (by decide) bk) (fun w hw => (ak (aK 7 rfl hw) (ak (ci 6 rfl hw) (ak (aK 0 rfl hw) (ak (bo bv) (ak (aK 2 rfl hw) aO)))))) (fun ⟨⟨tb, Ab, cb⟩, htb⟩ => ?_)
 refine ae ?_
 refine ay (aL 7) ?_
 refine bN (t := 27) (.tuple #[.agg (cU 4 Ab tb.length cb).toArray, .int .i64 0]) rfl (by rw [hb9.1]; rfl) ?_
 have htb2 : tb.map (·.e) = r17b.map (·.e) := htb.trans hb9.2
 refine au (i := 9) rfl aa (am rfl) (aL 7) aD rfl (aj av) (by as_aux_lemma => kernel_rfl) rfl ?_
 refine au (i := 10) rfl aa (az rfl rfl) (aL 7) aD rfl (aj av) (by as_aux_lemma => kernel_rfl) rfl ?_
 refine au (i := 11) rfl aa (az rfl rfl) (aL 7) aD rfl (aj av) (by as_aux_lemma => kernel_rfl) rfl ?_
 refine aP (i := 13) rfl rfl rfl (fun _ _ _ => ax (by as_aux_lemma => kernel_rfl)) (by as_aux_lemma => kernel_rfl) rfl ?_
 refine aS aZ rfl rfl rfl (.s (.s (.s (.z)))) rfl rfl rfl rfl ?_
 refine ae ?_
 refine ay (aL 7) ?_
 refine au (i := 14) rfl aa (ai rfl) (aL 7) aD rfl (aj av) (by as_aux_lemma => kernel_rfl) rfl ?_
 refine bA (by as_aux_lemma => kernel_rfl) ?_
 refine ao ?_
 refine bD (fun w h => (h.weak (.cons_cons _ (.cons_cons _ (.cons _ (.cons_cons _ (.cons _ (.cons _ (.cons _ (.cons_cons _ (.cons _ (.cons_cons _ (.cons _ (.cons _ (.cons _ .slnil))))))))))))) (fun s hs => hs)).f4.f4.f4.f4.f4) ?_
 exact J2 (⟨(tb, Ab, cb), htb2⟩, b203) _ (by repeat (first | exact trivial | refine ⟨rfl, ?_⟩))
 exact bx
 refine aJ (i := 12) rfl rfl rfl (fun _ _ _ => ax (by as_aux_lemma => kernel_rfl)) rfl ?_ ?_
 refine bu aZ rfl rfl (fun b206 => ?_)
 refine ae ?_
 refine ay (aL 3) ?_
 refine bJ (js := [3, 6]) (by as_aux_lemma => kernel_rfl) rfl ?_
 refine aJ (i := 3) rfl rfl rfl (fun _ _ _ => ax (by as_aux_lemma => kernel_rfl)) rfl ?_ ?_
 refine bf (vs := [_]) (p17b : List (Le)) bl Try.underlying22 a7 rfl rfl rfl rfl rfl rfl (fun As207 => ?_)
 refine ae ?_
 refine ay (aL 4) ?_
 refine aP (i := 6) rfl rfl rfl (fun _ _ _ => ax (by as_aux_lemma => kernel_rfl)) (by as_aux_lemma => kernel_rfl) rfl ?_
 refine bf (vs := [_]) ([cI 98] : List (bg)) bB Try.underlying25 bF rfl rfl rfl rfl rfl rfl (fun As208 => ?_)
 refine ae ?_
 refine ay (aL 5) ?_
 refine au (i := 7) rfl aa (bm rfl (aR _ _ _ _ _ _ _ _)) (aL 5) aD rfl (aj av) (by as_aux_lemma => kernel_rfl) rfl ?_
 refine aP (i := 8) rfl rfl rfl (aH rfl aU) (by as_aux_lemma => kernel_rfl) rfl ?_
 refine a6 rfl aU rfl (a8 3 ta _ _ false 3 4 p17b _ _ [cI 98] _ _ htaok bw htal (by decide) (by decide) bk) (fun w hw => (ak (aK 7 rfl hw) (ak (ci 6 rfl hw) (ak (aK 1 rfl hw) (ak (bo bv) (ak (aK 0 rfl hw) aO)))))) (fun ⟨⟨tb, Ab, cb⟩, htb⟩ => ?_)
 refine ae ?_
 refine ay (aL 7) ?_
 refine bN (t := 27) (.tuple #[.agg (cU 4 Ab tb.length cb).toArray, .int .i64 0]) rfl (by rw [hb9.1]; rfl) ?_
 have htb2 : tb.map (·.e) = r17b.map (·.e) := htb.trans hb9.2
 refine au (i := 9) rfl aa (am rfl) (aL 7) aD rfl (aj av) (by as_aux_lemma => kernel_rfl) rfl ?_
 refine au (i := 10) rfl aa (az rfl rfl) (aL 7) aD rfl (aj av) (by as_aux_lemma => kernel_rfl) rfl ?_
 refine au (i := 11) rfl aa (az rfl rfl) (aL 7) aD rfl (aj av) (by as_aux_lemma => kernel_rfl) rfl ?_
 refine aP (i := 13) rfl rfl rfl (fun _ _ _ => ax (by as_aux_lemma => kernel_rfl)) (by as_aux_lemma => kernel_rfl) rfl ?_
 refine aS aZ rfl rfl rfl (.s (.s (.s (.s (.z))))) rfl rfl rfl rfl ?_
 refine ae ?_
 refine ay (aL 7) ?_
 refine au (i := 14) rfl aa (ai rfl) (aL 7) aD rfl (aj av) (by as_aux_lemma => kernel_rfl) rfl ?_
 refine bA (by as_aux_lemma => kernel_rfl) ?_
 refine ao ?_
 refine bD (fun w h => (h.weak (.cons_cons _ (.cons_cons _ (.cons _ (.cons _ (.cons_cons _ (.cons _ (.cons _ (.cons_cons _ (.cons _ (.cons_cons _ (.cons _ (.cons _ (.cons _ .slnil))))))))))))) (fun s hs => hs)).f4.f4.f4.f4.f4) ?_
 exact J2 (⟨(tb, Ab, cb), htb2⟩, b206) _ (by repeat (first | exact trivial | refine ⟨rfl, ?_⟩))
 refine aJ (i := 6) rfl rfl rfl (fun _ _ _ => ax (by as_aux_lemma => kernel_rfl)) rfl ?_ ?_
 refine bf (vs := [_]) ([cI 98] : List (bg)) bB Try.underlying25 bF rfl rfl rfl rfl rfl rfl (fun As210 => ?_)
 refine ae ?_
 refine ay (aL 4) ?_
 refine aP (i := 3) rfl rfl rfl (fun _ _ _ => ax (by as_aux_lemma => kernel_rfl)) (by as_aux_lemma => kernel_rfl) rfl ?_
 refine bf (vs := [_]) (p17b : List (Le)) bl Try.underlying22 a7 rfl rfl rfl rfl rfl rfl (fun As211 => ?_)
 refine ae ?_
 refine ay (aL 5) ?_
 refine au (i := 7) rfl aa (bm rfl (aR _ _ _ _ _ _ _ _)) (aL 5) aD rfl (aj av) (by as_aux_lemma => kernel_rfl) rfl ?_
 refine aP (i := 8) rfl rfl rfl (aH rfl aU) (by as_aux_lemma => kernel_rfl) rfl ?_
 refine a6 rfl aU rfl (a8 3 ta _ _ false 3 4 p17b _ _ [cI 98] _ _ htaok bw htal (by decide) (by decide) bk) (fun w hw => (ak (aK 7 rfl hw) (ak (ci 6 rfl hw) (ak (aK 0 rfl hw) (ak (bo bv) (ak (aK 1 rfl hw) aO)))))) (fun ⟨⟨tb, Ab, cb⟩, htb⟩ => ?_)
 refine ae ?_
 refine ay (aL 7) ?_
 refine bN (t := 27) (.tuple #[.agg (cU 4 Ab tb.length cb).toArray, .int .i64 0]) rfl (by rw [hb9.1]; rfl) ?_
 have htb2 : tb.map (·.e) = r17b.map (·.e) := htb.trans hb9.2
 refine au (i := 9) rfl aa (am rfl) (aL 7) aD rfl (aj av) (by as_aux_lemma => kernel_rfl) rfl ?_
 refine au (i := 10) rfl aa (az rfl rfl) (aL 7) aD rfl (aj av) (by as_aux_lemma => kernel_rfl) rfl ?_
 refine au (i := 11) rfl aa (az rfl rfl) (aL 7) aD rfl (aj av) (by as_aux_lemma => kernel_rfl) rfl ?_
 refine aP (i := 13) rfl rfl rfl (fun _ _ _ => ax (by as_aux_lemma => kernel_rfl)) (by as_aux_lemma => kernel_rfl) rfl ?_
 refine aS aZ rfl rfl rfl (.s (.s (.s (.s (.z))))) rfl rfl rfl rfl ?_
 refine ae ?_
 refine ay (aL 7) ?_
 refine au (i := 14) rfl aa (ai rfl) (aL 7) aD rfl (aj av) (by as_aux_lemma => kernel_rfl) rfl ?_
 refine bA (by as_aux_lemma => kernel_rfl) ?_
 refine ao ?_
 refine bD (fun w h => (h.weak (.cons_cons _ (.cons_cons _ (.cons _ (.cons _ (.cons_cons _ (.cons _ (.cons _ (.cons_cons _ (.cons _ (.cons_cons _ (.cons _ (.cons _ (.cons _ .slnil))))))))))))) (fun s hs => hs)).f4.f4.f4.f4.f4) ?_
 exact J2 (⟨(tb, Ab, cb), htb2⟩, b206) _ (by repeat (first | exact trivial | refine ⟨rfl, ?_⟩))
 exact bx
 exact bx
 refine aJ (i := 12) rfl rfl rfl (fun _ _ _ => ax (by as_aux_lemma => kernel_rfl)) rfl ?_ ?_
 refine bu aZ rfl rfl (fun b213 => ?_)
 refine ae ?_
 refine ay (aL 3) ?_
 refine bJ (js := [3, 5]) (by as_aux_lemma => kernel_rfl) rfl ?_
 refine aJ (i := 3) rfl rfl rfl (fun _ _ _ => ax (by as_aux_lemma => kernel_rfl)) rfl ?_ ?_
 refine bf (vs := [_]) (p17b : List (Le)) bl Try.underlying22 a7 rfl rfl rfl rfl rfl rfl (fun As214 => ?_)
 refine ae ?_
 refine ay (aL 4) ?_
 refine aP (i := 5) rfl rfl rfl (aH rfl bH) (by as_aux_lemma => kernel_rfl) rfl ?_
 refine bi rfl bH rfl (bT _ _ _ (by decide)) (fun w hw => (ak (aK 3 rfl hw) aO)) ?_
 refine ae ?_
 refine ay (aL 4) ?_
 refine aP (i := 6) rfl rfl rfl (fun _ _ _ => ax (by as_aux_lemma => kernel_rfl)) (by as_aux_lemma => kernel_rfl) rfl ?_
 refine bf (vs := [_]) ([cI 98] : List (bg)) bB Try.underlying25 bF rfl rfl rfl rfl rfl rfl (fun As215 => ?_)
 refine ae ?_
 refine ay (aL 5) ?_
 refine au (i := 7) rfl aa (bm rfl (aR _ _ _ _ _ _ _ _)) (aL 5) aD rfl (aj av) (by as_aux_lemma => kernel_rfl) rfl ?_
 refine aP (i := 8) rfl rfl rfl (aH rfl aU) (by as_aux_lemma => kernel_rfl) rfl ?_
 refine a6 rfl aU rfl (a8 3 ta _ _ false 3 4 p17b _ _ [cI 98] _ _ htaok bw htal (by decide) (by decide) bk) (fun w hw => (ak (aK 7 rfl hw) (ak (ci 6 rfl hw) (ak (aK 1 rfl hw) (ak (bo bv) (ak (aK 0 rfl hw) aO)))))) (fun ⟨⟨tb, Ab, cb⟩, htb⟩ => ?_)
 refine ae ?_
 refine ay (aL 7) ?_
 refine bN (t := 27) (.tuple #[.agg (cU 4 Ab tb.length cb).toArray, .int .i64 0]) rfl (by rw [hb9.1]; rfl) ?_
 have htb2 : tb.map (·.e) = r17b.map (·.e) := htb.trans hb9.2
 refine au (i := 9) rfl aa (am rfl) (aL 7) aD rfl (aj av) (by as_aux_lemma => kernel_rfl) rfl ?_
 refine au (i := 10) rfl aa (az rfl rfl) (aL 7) aD rfl (aj av) (by as_aux_lemma => kernel_rfl) rfl ?_
 refine au (i := 11) rfl aa (az rfl rfl) (aL 7) aD rfl (aj av) (by as_aux_lemma => kernel_rfl) rfl ?_
 refine aP (i := 13) rfl rfl rfl (fun _ _ _ => ax (by as_aux_lemma => kernel_rfl)) (by as_aux_lemma => kernel_rfl) rfl ?_
 refine aS aZ rfl rfl rfl (.s (.s (.s (.s (.z))))) rfl rfl rfl rfl ?_
 refine ae ?_
 refine ay (aL 7) ?_
 refine au (i := 14) rfl aa (ai rfl) (aL 7) aD rfl (aj av) (by as_aux_lemma => kernel_rfl) rfl ?_
 refine bA (by as_aux_lemma => kernel_rfl) ?_
 refine ao ?_
 refine bD (fun w h => (h.weak (.cons_cons _ (.cons_cons _ (.cons _ (.cons _ (.cons_cons _ (.cons _ (.cons _ (.cons_cons _ (.cons _ (.cons_cons _ (.cons _ (.cons _ (.cons _ .slnil))))))))))))) (fun s hs => hs)).f4.f4.f4.f4.f4) ?_
 exact J2 (⟨(tb, Ab, cb), htb2⟩, b213) _ (by repeat (first | exact trivial | refine ⟨rfl, ?_⟩))
 refine aJ (i := 5) rfl rfl rfl (aH rfl bH) rfl ?_ ?_
 refine bi rfl bH rfl (bT _ _ _ (by decide)) (fun w hw => (ak (aK 2 rfl hw) aO)) ?_
 refine ae ?_
 refine ay (aL 3) ?_
 refine bJ (js := [3, 6]) (by as_aux_lemma => kernel_rfl) rfl ?_
 refine aJ (i := 3) rfl rfl rfl (fun _ _ _ => ax (by as_aux_lemma => kernel_rfl)) rfl ?_ ?_
 refine bf (vs := [_]) (p17b : List (Le)) bl Try.underlying22 a7 rfl rfl rfl rfl rfl rfl (fun As217 => ?_)
 refine ae ?_
 refine ay (aL 4) ?_
 refine aP (i := 6) rfl rfl rfl (fun _ _ _ => ax (by as_aux_lemma => kernel_rfl)) (by as_aux_lemma => kernel_rfl) rfl ?_
 refine bf (vs := [_]) ([cI 98] : List (bg)) bB Try.underlying25 bF rfl rfl rfl rfl rfl rfl (fun As218 => ?_)
 refine ae ?_
 refine ay (aL 5) ?_
 refine au (i := 7) rfl aa (bm rfl (aR _ _ _ _ _ _ _ _)) (aL 5) aD rfl (aj av) (by as_aux_lemma => kernel_rfl) rfl ?_
 refine aP (i := 8) rfl rfl rfl (aH rfl aU) (by as_aux_lemma => kernel_rfl) rfl ?_
 refine a6 rfl aU rfl (a8 3 ta _ _ false 3 4 p17b _ _ [cI 98] _ _ htaok bw htal (by decide) (by decide) bk) (fun w hw => (ak (aK 7 rfl hw) (ak (ci 6 rfl hw) (ak (aK 1 rfl hw) (ak (bo bv) (ak (aK 0 rfl hw) aO)))))) (fun ⟨⟨tb, Ab, cb⟩, htb⟩ => ?_)
 refine ae ?_
 refine ay (aL 7) ?_
 refine bN (t := 27) (.tuple #[.agg (cU 4 Ab tb.length cb).toArray, .int .i64 0]) rfl (by rw [hb9.1]; rfl) ?_
 have htb2 : tb.map (·.e) = r17b.map (·.e) := htb.trans hb9.2
 refine au (i := 9) rfl aa (am rfl) (aL 7) aD rfl (aj av) (by as_aux_lemma => kernel_rfl) rfl ?_
 refine au (i := 10) rfl aa (az rfl rfl) (aL 7) aD rfl (aj av) (by as_aux_lemma => kernel_rfl) rfl ?_
 refine au (i := 11) rfl aa (az rfl rfl) (aL 7) aD rfl (aj av) (by as_aux_lemma => kernel_rfl) rfl ?_
 refine aP (i := 13) rfl rfl rfl (fun _ _ _ => ax (by as_aux_lemma => kernel_rfl)) (by as_aux_lemma => kernel_rfl) rfl ?_
 refine aS aZ rfl rfl rfl (.s (.s (.s (.s (.z))))) rfl rfl rfl rfl ?_
 refine ae ?_
 refine ay (aL 7) ?_
 refine au (i := 14) rfl aa (ai rfl) (aL 7) aD rfl (aj av) (by as_aux_lemma => kernel_rfl) rfl ?_
 refine bA (by as_aux_lemma => kernel_rfl) ?_
 refine ao ?_
 refine bD (fun w h => (h.weak (.cons_cons _ (.cons_cons _ (.cons _ (.cons _ (.cons_cons _ (.cons _ (.cons _ (.cons_cons _ (.cons _ (.cons_cons _ (.cons _ (.cons _ (.cons _ .slnil))))))))))))) (fun s hs => hs)).f4.f4.f4.f4.f4) ?_
 exact J2 (⟨(tb, Ab, cb), htb2⟩, b213) _ (by repeat (first | exact trivial | refine ⟨rfl, ?_⟩))
 refine aJ (i := 6) rfl rfl rfl (fun _ _ _ => ax (by as_aux_lemma => kernel_rfl)) rfl ?_ ?_
 refine bf (vs := [_]) ([cI 98] : List (bg)) bB Try.underlying25 bF rfl rfl rfl rfl rfl rfl (fun As220 => ?_)
 refine ae ?_
 refine ay (aL 4) ?_
 refine aP (i := 3) rfl rfl rfl (fun _ _ _ => ax (by as_aux_lemma => kernel_rfl)) (by as_aux_lemma => kernel_rfl) rfl ?_
 refine bf (vs := [_]) (p17b : List (Le)) bl Try.underlying22 a7 rfl rfl rfl rfl rfl rfl (fun As221 => ?_)
 refine ae ?_
 refine ay (aL 5) ?_
 refine au (i := 7) rfl aa (bm rfl (aR _ _ _ _ _ _ _ _)) (aL 5) aD rfl (aj av) (by as_aux_lemma => kernel_rfl) rfl ?_
 refine aP (i := 8) rfl rfl rfl (aH rfl aU) (by as_aux_lemma => kernel_rfl) rfl ?_
 refine a6 rfl aU rfl (a8 3 ta _ _ false 3 4 p17b _ _ [cI 98] _ _ htaok bw htal (by decide) (by decide) bk) (fun w hw => (ak (aK 7 rfl hw) (ak (ci 6 rfl hw) (ak (aK 0 rfl hw) (ak (bo bv) (ak (aK 1 rfl hw) aO)))))) (fun ⟨⟨tb, Ab, cb⟩, htb⟩ => ?_)
 refine ae ?_
 refine ay (aL 7) ?_
 refine bN (t := 27) (.tuple #[.agg (cU 4 Ab tb.length cb).toArray, .int .i64 0]) rfl (by rw [hb9.1]; rfl) ?_
 have htb2 : tb.map (·.e) = r17b.map (·.e) := htb.trans hb9.2
 refine au (i := 9) rfl aa (am rfl) (aL 7) aD rfl (aj av) (by as_aux_lemma => kernel_rfl) rfl ?_
 refine au (i := 10) rfl aa (az rfl rfl) (aL 7) aD rfl (aj av) (by as_aux_lemma => kernel_rfl) rfl ?_
 refine au (i := 11) rfl aa (az rfl rfl) (aL 7) aD rfl (aj av) (by as_aux_lemma => kernel_rfl) rfl ?_
 refine aP (i := 13) rfl rfl rfl (fun _ _ _ => ax (by as_aux_lemma => kernel_rfl)) (by as_aux_lemma => kernel_rfl) rfl ?_
 refine aS aZ rfl rfl rfl (.s (.s (.s (.s (.z))))) rfl rfl rfl rfl ?_
 refine ae ?_
 refine ay (aL 7) ?_
 refine au (i := 14) rfl aa (ai rfl) (aL 7) aD rfl (aj av) (by as_aux_lemma => kernel_rfl) rfl ?_
 refine bA (by as_aux_lemma => kernel_rfl) ?_
 refine ao ?_
 refine bD (fun w h => (h.weak (.cons_cons _ (.cons_cons _ (.cons _ (.cons _ (.cons_cons _ (.cons _ (.cons _ (.cons_cons _ (.cons _ (.cons_cons _ (.cons _ (.cons _ (.cons _ .slnil))))))))))))) (fun s hs => hs)).f4.f4.f4.f4.f4) ?_
 exact J2 (⟨(tb, Ab, cb), htb2⟩, b213) _ (by repeat (first | exact trivial | refine ⟨rfl, ?_⟩))
 exact bx
 exact bx
 exact bx
 refine aJ (i := 12) rfl rfl rfl (fun _ _ _ => ax (by as_aux_lemma => kernel_rfl)) rfl ?_ ?_
 refine bu aZ rfl rfl (fun b223 => ?_)
 refine ae ?_
 refine ay (aL 3) ?_
 refine aP (i := 2) rfl rfl rfl (aH rfl dB) (by as_aux_lemma => kernel_rfl) rfl ?_
 refine bi rfl dB rfl (dT _ _ _ (by decide)) (fun w hw => (ak (aK 1 rfl hw) aO)) ?_
 refine ae ?_
 refine ay (aL 3) ?_
 refine bJ (js := [3, 5]) (by as_aux_lemma => kernel_rfl) rfl ?_
 refine aJ (i := 3) rfl rfl rfl (fun _ _ _ => ax (by as_aux_lemma => kernel_rfl)) rfl ?_ ?_
 refine bf (vs := [_]) (p17b : List (Le)) bl Try.underlying22 a7 rfl rfl rfl rfl rfl rfl (fun As224 => ?_)
 refine ae ?_
 refine ay (aL 4) ?_
 refine aP (i := 5) rfl rfl rfl (aH rfl bH) (by as_aux_lemma => kernel_rfl) rfl ?_
 refine bi rfl bH rfl (bT _ _ _ (by decide)) (fun w hw => (ak (aK 3 rfl hw) aO)) ?_
 refine ae ?_
 refine ay (aL 4) ?_
 refine aP (i := 6) rfl rfl rfl (fun _ _ _ => ax (by as_aux_lemma => kernel_rfl)) (by as_aux_lemma => kernel_rfl) rfl ?_
 refine bf (vs := [_]) ([cI 98] : List (bg)) bB Try.underlying25 bF rfl rfl rfl rfl rfl rfl (fun As225 => ?_)
 refine ae ?_
 refine ay (aL 5) ?_
 refine au (i := 7) rfl aa (bm rfl (aR _ _ _ _ _ _ _ _)) (aL 5) aD rfl (aj av) (by as_aux_lemma => kernel_rfl) rfl ?_
 refine aP (i := 8) rfl rfl rfl (aH rfl aU) (by as_aux_lemma => kernel_rfl) rfl ?_
 refine a6 rfl aU rfl (a8 3 ta _ _ false 3 4 p17b _ _ [cI 98] _ _ htaok bw htal (by decide) (by decide) bk) (fun w hw => (ak (aK 7 rfl hw) (ak (ci 6 rfl hw) (ak (aK 1 rfl hw) (ak (bo bv) (ak (aK 0 rfl hw) aO)))))) (fun ⟨⟨tb, Ab, cb⟩, htb⟩ => ?_)
 refine ae ?_
 refine ay (aL 7) ?_
 refine bN (t := 27) (.tuple #[.agg (cU 4 Ab tb.length cb).toArray, .int .i64 0]) rfl (by rw [hb9.1]; rfl) ?_
 have htb2 : tb.map (·.e) = r17b.map (·.e) := htb.trans hb9.2
 refine au (i := 9) rfl aa (am rfl) (aL 7) aD rfl (aj av) (by as_aux_lemma => kernel_rfl) rfl ?_
 refine au (i := 10) rfl aa (az rfl rfl) (aL 7) aD rfl (aj av) (by as_aux_lemma => kernel_rfl) rfl ?_
 refine au (i := 11) rfl aa (az rfl rfl) (aL 7) aD rfl (aj av) (by as_aux_lemma => kernel_rfl) rfl ?_
 refine aP (i := 13) rfl rfl rfl (fun _ _ _ => ax (by as_aux_lemma => kernel_rfl)) (by as_aux_lemma => kernel_rfl) rfl ?_
 refine aS aZ rfl rfl rfl (.s (.s (.s (.s (.z))))) rfl rfl rfl rfl ?_
 refine ae ?_
 refine ay (aL 7) ?_
 refine au (i := 14) rfl aa (ai rfl) (aL 7) aD rfl (aj av) (by as_aux_lemma => kernel_rfl) rfl ?_
 refine bA (by as_aux_lemma => kernel_rfl) ?_
 refine ao ?_
 refine bD (fun w h => (h.weak (.cons_cons _ (.cons_cons _ (.cons _ (.cons _ (.cons_cons _ (.cons _ (.cons _ (.cons_cons _ (.cons _ (.cons_cons _ (.cons _ (.cons _ (.cons _ .slnil))))))))))))) (fun s hs => hs)).f4.f4.f4.f4.f4) ?_
 exact J2 (⟨(tb, Ab, cb), htb2⟩, b223) _ (by repeat (first | exact trivial | refine ⟨rfl, ?_⟩))
 refine aJ (i := 5) rfl rfl rfl (aH rfl bH) rfl ?_ ?_
 refine bi rfl bH rfl (bT _ _ _ (by decide)) (fun w hw => (ak (aK 2 rfl hw) aO)) ?_
 refine ae ?_
 refine ay (aL 3) ?_
 refine bJ (js := [3, 6]) (by as_aux_lemma => kernel_rfl) rfl ?_
 refine aJ (i := 3) rfl rfl rfl (fun _ _ _ => ax (by as_aux_lemma => kernel_rfl)) rfl ?_ ?_
 refine bf (vs := [_]) (p17b : List (Le)) bl Try.underlying22 a7 rfl rfl rfl rfl rfl rfl (fun As227 => ?_)
 refine ae ?_
 refine ay (aL 4) ?_
 refine aP (i := 6) rfl rfl rfl (fun _ _ _ => ax (by as_aux_lemma => kernel_rfl)) (by as_aux_lemma => kernel_rfl) rfl ?_
 refine bf (vs := [_]) ([cI 98] : List (bg)) bB Try.underlying25 bF rfl rfl rfl rfl rfl rfl (fun As228 => ?_)
 refine ae ?_
 refine ay (aL 5) ?_
 refine au (i := 7) rfl aa (bm rfl (aR _ _ _ _ _ _ _ _)) (aL 5) aD rfl (aj av) (by as_aux_lemma => kernel_rfl) rfl ?_
 refine aP (i := 8) rfl rfl rfl (aH rfl aU) (by as_aux_lemma => kernel_rfl) rfl ?_
 refine a6 rfl aU rfl (a8 3 ta _ _ false 3 4 p17b _ _ [cI 98] _ _ htaok bw htal (by decide) (by decide) bk) (fun w hw => (ak (aK 7 rfl hw) (ak (ci 6 rfl hw) (ak (aK 1 rfl hw) (ak (bo bv) (ak (aK 0 rfl hw) aO)))))) (fun ⟨⟨tb, Ab, cb⟩, htb⟩ => ?_)
 refine ae ?_
 refine ay (aL 7) ?_
 refine bN (t := 27) (.tuple #[.agg (cU 4 Ab tb.length cb).toArray, .int .i64 0]) rfl (by rw [hb9.1]; rfl) ?_
 have htb2 : tb.map (·.e) = r17b.map (·.e) := htb.trans hb9.2
 refine au (i := 9) rfl aa (am rfl) (aL 7) aD rfl (aj av) (by as_aux_lemma => kernel_rfl) rfl ?_
 refine au (i := 10) rfl aa (az rfl rfl) (aL 7) aD rfl (aj av) (by as_aux_lemma => kernel_rfl) rfl ?_
 refine au (i := 11) rfl aa (az rfl rfl) (aL 7) aD rfl (aj av) (by as_aux_lemma => kernel_rfl) rfl ?_
 refine aP (i := 13) rfl rfl rfl (fun _ _ _ => ax (by as_aux_lemma => kernel_rfl)) (by as_aux_lemma => kernel_rfl) rfl ?_
 refine aS aZ rfl rfl rfl (.s (.s (.s (.s (.z))))) rfl rfl rfl rfl ?_
 refine ae ?_
 refine ay (aL 7) ?_
 refine au (i := 14) rfl aa (ai rfl) (aL 7) aD rfl (aj av) (by as_aux_lemma => kernel_rfl) rfl ?_
 refine bA (by as_aux_lemma => kernel_rfl) ?_
 refine ao ?_
 refine bD (fun w h => (h.weak (.cons_cons _ (.cons_cons _ (.cons _ (.cons _ (.cons_cons _ (.cons _ (.cons _ (.cons_cons _ (.cons _ (.cons_cons _ (.cons _ (.cons _ (.cons _ .slnil))))))))))))) (fun s hs => hs)).f4.f4.f4.f4.f4) ?_
 exact J2 (⟨(tb, Ab, cb), htb2⟩, b223) _ (by repeat (first | exact trivial | refine ⟨rfl, ?_⟩))
 refine aJ (i := 6) rfl rfl rfl (fun _ _ _ => ax (by as_aux_lemma => kernel_rfl)) rfl ?_ ?_
 refine bf (vs := [_]) ([cI 98] : List (bg)) bB Try.underlying25 bF rfl rfl rfl rfl rfl rfl (fun As230 => ?_)
 refine ae ?_
 refine ay (aL 4) ?_
 refine aP (i := 3) rfl rfl rfl (fun _ _ _ => ax (by as_aux_lemma => kernel_rfl)) (by as_aux_lemma => kernel_rfl) rfl ?_
 refine bf (vs := [_]) (p17b : List (Le)) bl Try.underlying22 a7 rfl rfl rfl rfl rfl rfl (fun As231 => ?_)
 refine ae ?_
 refine ay (aL 5) ?_
 refine au (i := 7) rfl aa (bm rfl (aR _ _ _ _ _ _ _ _)) (aL 5) aD rfl (aj av) (by as_aux_lemma => kernel_rfl) rfl ?_
 refine aP (i := 8) rfl rfl rfl (aH rfl aU) (by as_aux_lemma => kernel_rfl) rfl ?_
 refine a6 rfl aU rfl (a8 3 ta _ _ false 3 4 p17b _ _ [cI 98] _ _ htaok bw htal (by decide) (by decide) bk) (fun w hw => (ak (aK 7 rfl hw) (ak (ci 6 rfl hw) (ak (aK 0 rfl hw) (ak (bo bv) (ak (aK 1 rfl hw) aO)))))) (fun ⟨⟨tb, Ab, cb⟩, htb⟩ => ?_)
 refine ae ?_
 refine ay (aL 7) ?_
 refine bN (t := 27) (.tuple #[.agg (cU 4 Ab tb.length cb).toArray, .int .i64 0]) rfl (by rw [hb9.1]; rfl) ?_
 have htb2 : tb.map (·.e) = r17b.map (·.e) := htb.trans hb9.2
 refine au (i := 9) rfl aa (am rfl) (aL 7) aD rfl (aj av) (by as_aux_lemma => kernel_rfl) rfl ?_
 refine au (i := 10) rfl aa (az rfl rfl) (aL 7) aD rfl (aj av) (by as_aux_lemma => kernel_rfl) rfl ?_
 refine au (i := 11) rfl aa (az rfl rfl) (aL 7) aD rfl (aj av) (by as_aux_lemma => kernel_rfl) rfl ?_
 refine aP (i := 13) rfl rfl rfl (fun _ _ _ => ax (by as_aux_lemma => kernel_rfl)) (by as_aux_lemma => kernel_rfl) rfl ?_
 refine aS aZ rfl rfl rfl (.s (.s (.s (.s (.z))))) rfl rfl rfl rfl ?_
 refine ae ?_
 refine ay (aL 7) ?_
 refine au (i := 14) rfl aa (ai rfl) (aL 7) aD rfl (aj av) (by as_aux_lemma => kernel_rfl) rfl ?_
 refine bA (by as_aux_lemma => kernel_rfl) ?_
 refine ao ?_
 refine bD (fun w h => (h.weak (.cons_cons _ (.cons_cons _ (.cons _ (.cons _ (.cons_cons _ (.cons _ (.cons _ (.cons_cons _ (.cons _ (.cons_cons _ (.cons _ (.cons _ (.cons _ .slnil))))))))))))) (fun s hs => hs)).f4.f4.f4.f4.f4) ?_
 exact J2 (⟨(tb, Ab, cb), htb2⟩, b223) _ (by repeat (first | exact trivial | refine ⟨rfl, ?_⟩))
 exact bx
 exact bx
 exact bx
 refine aJ (i := 12) rfl rfl rfl (fun _ _ _ => ax (by as_aux_lemma => kernel_rfl)) rfl ?_ ?_
 refine bu aZ rfl rfl (fun b233 => ?_)
 refine ae ?_
 refine ay (aL 2) ?_
 refine aP (i := 1) rfl rfl rfl (fun _ _ _ => ax (by as_aux_lemma => kernel_rfl)) (by as_aux_lemma => kernel_rfl) rfl ?_
 refine bf (vs := [_]) ([[99]] : List (bg)) bB Try.underlying105 cF rfl rfl rfl rfl rfl rfl (fun As234 => ?_)
 refine ae ?_
 refine ay (aL 3) ?_
 refine aP (i := 2) rfl rfl rfl (aH rfl dB) (by as_aux_lemma => kernel_rfl) rfl ?_
 refine bi rfl dB rfl (dT _ _ _ (by decide)) (fun w hw => (ak (aK 0 rfl hw) aO)) ?_
 refine ae ?_
 refine ay (aL 3) ?_
 refine bJ (js := [3, 5]) (by as_aux_lemma => kernel_rfl) rfl ?_
 refine aJ (i := 3) rfl rfl rfl (fun _ _ _ => ax (by as_aux_lemma => kernel_rfl)) rfl ?_ ?_
 refine bf (vs := [_]) (p17b : List (Le)) bl Try.underlying22 a7 rfl rfl rfl rfl rfl rfl (fun As235 => ?_)
 refine ae ?_
 refine ay (aL 4) ?_
 refine aP (i := 5) rfl rfl rfl (aH rfl bH) (by as_aux_lemma => kernel_rfl) rfl ?_
 refine bi rfl bH rfl (bT _ _ _ (by decide)) (fun w hw => (ak (aK 3 rfl hw) aO)) ?_
 refine ae ?_
 refine ay (aL 4) ?_
 refine aP (i := 6) rfl rfl rfl (fun _ _ _ => ax (by as_aux_lemma => kernel_rfl)) (by as_aux_lemma => kernel_rfl) rfl ?_
 refine bf (vs := [_]) ([cI 98] : List (bg)) bB Try.underlying25 bF rfl rfl rfl rfl rfl rfl (fun As236 => ?_)
 refine ae ?_
 refine ay (aL 5) ?_
 refine au (i := 7) rfl aa (bm rfl (aR _ _ _ _ _ _ _ _)) (aL 5) aD rfl (aj av) (by as_aux_lemma => kernel_rfl) rfl ?_
 refine aP (i := 8) rfl rfl rfl (aH rfl aU) (by as_aux_lemma => kernel_rfl) rfl ?_
 refine a6 rfl aU rfl (a8 3 ta _ _ false 3 4 p17b _ _ [cI 98] _ _ htaok bw htal (by decide) (by decide) bk) (fun w hw => (ak (aK 7 rfl hw) (ak (ci 6 rfl hw) (ak (aK 1 rfl hw) (ak (bo bv) (ak (aK 0 rfl hw) aO)))))) (fun ⟨⟨tb, Ab, cb⟩, htb⟩ => ?_)
 refine ae ?_
 refine ay (aL 7) ?_
 refine bN (t := 27) (.tuple #[.agg (cU 4 Ab tb.length cb).toArray, .int .i64 0]) rfl (by rw [hb9.1]; rfl) ?_
 have htb2 : tb.map (·.e) = r17b.map (·.e) := htb.trans hb9.2
 refine au (i := 9) rfl aa (am rfl) (aL 7) aD rfl (aj av) (by as_aux_lemma => kernel_rfl) rfl ?_
 refine au (i := 10) rfl aa (az rfl rfl) (aL 7) aD rfl (aj av) (by as_aux_lemma => kernel_rfl) rfl ?_
 refine au (i := 11) rfl aa (az rfl rfl) (aL 7) aD rfl (aj av) (by as_aux_lemma => kernel_rfl) rfl ?_
 refine aP (i := 13) rfl rfl rfl (fun _ _ _ => ax (by as_aux_lemma => kernel_rfl)) (by as_aux_lemma => kernel_rfl) rfl ?_
 refine aS aZ rfl rfl rfl (.s (.s (.s (.s (.s (.z)))))) rfl rfl rfl rfl ?_
 refine ae ?_
 refine ay (aL 7) ?_
 refine au (i := 14) rfl aa (ai rfl) (aL 7) aD rfl (aj av) (by as_aux_lemma => kernel_rfl) rfl ?_
 refine bA (by as_aux_lemma => kernel_rfl) ?_
 refine ao ?_
 refine bD (fun w h => (h.weak (.cons_cons _ (.cons_cons _ (.cons _ (.cons _ (.cons _ (.cons_cons _ (.cons _ (.cons_cons _ (.cons _ (.cons_cons _ (.cons _ (.cons _ (.cons _ .slnil))))))))))))) (fun s hs => hs)).f4.f4.f4.f4.f4) ?_
 exact J2 (⟨(tb, Ab, cb), htb2⟩, b233) _ (by repeat (first | exact trivial | refine ⟨rfl, ?_⟩))
 refine aJ (i := 5) rfl rfl rfl (aH rfl bH) rfl ?_ ?_
 refine bi rfl bH rfl (bT _ _ _ (by decide)) (fun w hw => (ak (aK 2 rfl hw) aO)) ?_
 refine ae ?_
 refine ay (aL 3) ?_
 refine bJ (js := [3, 6]) (by as_aux_lemma => kernel_rfl) rfl ?_
 refine aJ (i := 3) rfl rfl rfl (fun _ _ _ => ax (by as_aux_lemma => kernel_rfl)) rfl ?_ ?_
 refine bf (vs := [_]) (p17b : List (Le)) bl Try.underlying22 a7 rfl rfl rfl rfl rfl rfl (fun As238 => ?_)
 refine ae ?_
 refine ay (aL 4) ?_
 refine aP (i := 6) rfl rfl rfl (fun _ _ _ => ax (by as_aux_lemma => kernel_rfl)) (by as_aux_lemma => kernel_rfl) rfl ?_
 refine bf (vs := [_]) ([cI 98] : List (bg)) bB Try.underlying25 bF rfl rfl rfl rfl rfl rfl (fun As239 => ?_)
 refine ae ?_
 refine ay (aL 5) ?_
 refine au (i := 7) rfl aa (bm rfl (aR _ _ _ _ _ _ _ _)) (aL 5) aD rfl (aj av) (by as_aux_lemma => kernel_rfl) rfl ?_
 refine aP (i := 8) rfl rfl rfl (aH rfl aU) (by as_aux_lemma => kernel_rfl) rfl ?_
 refine a6 rfl aU rfl (a8 3 ta _ _ false 3 4 p17b _ _ [cI 98] _ _ htaok bw htal (by decide) (by decide) bk) (fun w hw => (ak (aK 7 rfl hw) (ak (ci 6 rfl hw) (ak (aK 1 rfl hw) (ak (bo bv) (ak (aK 0 rfl hw) aO)))))) (fun ⟨⟨tb, Ab, cb⟩, htb⟩ => ?_)
 refine ae ?_
 refine ay (aL 7) ?_
 refine bN (t := 27) (.tuple #[.agg (cU 4 Ab tb.length cb).toArray, .int .i64 0]) rfl (by rw [hb9.1]; rfl) ?_
 have htb2 : tb.map (·.e) = r17b.map (·.e) := htb.trans hb9.2
 refine au (i := 9) rfl aa (am rfl) (aL 7) aD rfl (aj av) (by as_aux_lemma => kernel_rfl) rfl ?_
 refine au (i := 10) rfl aa (az rfl rfl) (aL 7) aD rfl (aj av) (by as_aux_lemma => kernel_rfl) rfl ?_
 refine au (i := 11) rfl aa (az rfl rfl) (aL 7) aD rfl (aj av) (by as_aux_lemma => kernel_rfl) rfl ?_
 refine aP (i := 13) rfl rfl rfl (fun _ _ _ => ax (by as_aux_lemma => kernel_rfl)) (by as_aux_lemma => kernel_rfl) rfl ?_
 refine aS aZ rfl rfl rfl (.s (.s (.s (.s (.s (.z)))))) rfl rfl rfl rfl ?_
 refine ae ?_
 refine ay (aL 7) ?_
 refine au (i := 14) rfl aa (ai rfl) (aL 7) aD rfl (aj av) (by as_aux_lemma => kernel_rfl) rfl ?_
 refine bA (by as_aux_lemma => kernel_rfl) ?_
 refine ao ?_
 refine bD (fun w h => (h.weak (.cons_cons _ (.cons_cons _ (.cons _ (.cons _ (.cons _ (.cons_cons _ (.cons _ (.cons_cons _ (.cons _ (.cons_cons _ (.cons _ (.cons _ (.cons _ .slnil))))))))))))) (fun s hs => hs)).f4.f4.f4.f4.f4) ?_
 exact J2 (⟨(tb, Ab, cb), htb2⟩, b233) _ (by repeat (first | exact trivial | refine ⟨rfl, ?_⟩))
 refine aJ (i := 6) rfl rfl rfl (fun _ _ _ => ax (by as_aux_lemma => kernel_rfl)) rfl ?_ ?_
 refine bf (vs := [_]) ([cI 98] : List (bg)) bB Try.underlying25 bF rfl rfl rfl rfl rfl rfl (fun As241 => ?_)
 refine ae ?_
 refine ay (aL 4) ?_
 refine aP (i := 3) rfl rfl rfl (fun _ _ _ => ax (by as_aux_lemma => kernel_rfl)) (by as_aux_lemma => kernel_rfl) rfl ?_
 refine bf (vs := [_]) (p17b : List (Le)) bl Try.underlying22 a7 rfl rfl rfl rfl rfl rfl (fun As242 => ?_)
 refine ae ?_
 refine ay (aL 5) ?_
 refine au (i := 7) rfl aa (bm rfl (aR _ _ _ _ _ _ _ _)) (aL 5) aD rfl (aj av) (by as_aux_lemma => kernel_rfl) rfl ?_
 refine aP (i := 8) rfl rfl rfl (aH rfl aU) (by as_aux_lemma => kernel_rfl) rfl ?_
 refine a6 rfl aU rfl (a8 3 ta _ _ false 3 4 p17b _ _ [cI 98] _ _ htaok bw htal (by decide) (by decide) bk) (fun w hw => (ak (aK 7 rfl hw) (ak (ci 6 rfl hw) (ak (aK 0 rfl hw) (ak (bo bv) (ak (aK 1 rfl hw) aO)))))) (fun ⟨⟨tb, Ab, cb⟩, htb⟩ => ?_)
 refine ae ?_
 refine ay (aL 7) ?_
 refine bN (t := 27) (.tuple #[.agg (cU 4 Ab tb.length cb).toArray, .int .i64 0]) rfl (by rw [hb9.1]; rfl) ?_
 have htb2 : tb.map (·.e) = r17b.map (·.e) := htb.trans hb9.2
 refine au (i := 9) rfl aa (am rfl) (aL 7) aD rfl (aj av) (by as_aux_lemma => kernel_rfl) rfl ?_
 refine au (i := 10) rfl aa (az rfl rfl) (aL 7) aD rfl (aj av) (by as_aux_lemma => kernel_rfl) rfl ?_
 refine au (i := 11) rfl aa (az rfl rfl) (aL 7) aD rfl (aj av) (by as_aux_lemma => kernel_rfl) rfl ?_
 refine aP (i := 13) rfl rfl rfl (fun _ _ _ => ax (by as_aux_lemma => kernel_rfl)) (by as_aux_lemma => kernel_rfl) rfl ?_
 refine aS aZ rfl rfl rfl (.s (.s (.s (.s (.s (.z)))))) rfl rfl rfl rfl ?_
 refine ae ?_
 refine ay (aL 7) ?_
 refine au (i := 14) rfl aa (ai rfl) (aL 7) aD rfl (aj av) (by as_aux_lemma => kernel_rfl) rfl ?_
 refine bA (by as_aux_lemma => kernel_rfl) ?_
 refine ao ?_
 refine bD (fun w h => (h.weak (.cons_cons _ (.cons_cons _ (.cons _ (.cons _ (.cons _ (.cons_cons _ (.cons _ (.cons_cons _ (.cons _ (.cons_cons _ (.cons _ (.cons _ (.cons _ .slnil))))))))))))) (fun s hs => hs)).f4.f4.f4.f4.f4) ?_
 exact J2 (⟨(tb, Ab, cb), htb2⟩, b233) _ (by repeat (first | exact trivial | refine ⟨rfl, ?_⟩))
 exact bx
 exact bx
 exact bx
 refine aJ (i := 12) rfl rfl rfl (fun _ _ _ => ax (by as_aux_lemma => kernel_rfl)) rfl ?_ ?_
 refine bu aZ rfl rfl (fun b244 => ?_)
 refine ae ?_
 refine ay (aL 1) ?_
 refine bJ (js := [1, 4]) (by as_aux_lemma => kernel_rfl) rfl ?_
 refine aJ (i := 1) rfl rfl rfl (fun _ _ _ => ax (by as_aux_lemma => kernel_rfl)) rfl ?_ ?_
 refine bf (vs := [_]) ([[99]] : List (bg)) bB Try.underlying105 cF rfl rfl rfl rfl rfl rfl (fun As245 => ?_)
 refine ae ?_
 refine ay (aL 2) ?_
 refine bJ (js := [2, 4]) (by as_aux_lemma => kernel_rfl) rfl ?_
 refine aJ (i := 2) rfl rfl rfl (aH rfl dB) rfl ?_ ?_
 refine bi rfl dB rfl (dT _ _ _ (by decide)) (fun w hw => (ak (aK 0 rfl hw) aO)) ?_
 refine ae ?_
 refine ay (aL 2) ?_
 refine bJ (js := [3, 4]) (by as_aux_lemma => kernel_rfl) rfl ?_
 refine aJ (i := 3) rfl rfl rfl (fun _ _ _ => ax (by as_aux_lemma => kernel_rfl)) rfl ?_ ?_
 refine bf (vs := [_]) (p17b : List (Le)) bl Try.underlying22 a7 rfl rfl rfl rfl rfl rfl (fun As246 => ?_)
 refine ae ?_
 refine ay (aL 3) ?_
 refine aP (i := 4) rfl rfl rfl (fun _ _ _ => ax (by as_aux_lemma => kernel_rfl)) (by as_aux_lemma => kernel_rfl) rfl ?_
 refine bf (vs := [_]) ([[98]] : List (bg)) bB Try.underlying105 cF rfl rfl rfl rfl rfl rfl (fun As247 => ?_)
 refine ae ?_
 refine ay (aL 4) ?_
 refine aP (i := 5) rfl rfl rfl (aH rfl bH) (by as_aux_lemma => kernel_rfl) rfl ?_
 refine bi rfl bH rfl (bT _ _ _ (by decide)) (fun w hw => (ak (aK 0 rfl hw) aO)) ?_
 refine ae ?_
 refine ay (aL 4) ?_
 refine aP (i := 6) rfl rfl rfl (fun _ _ _ => ax (by as_aux_lemma => kernel_rfl)) (by as_aux_lemma => kernel_rfl) rfl ?_
 refine bf (vs := [_]) ([cI 98] : List (bg)) bB Try.underlying25 bF rfl rfl rfl rfl rfl rfl (fun As248 => ?_)
 refine ae ?_
 refine ay (aL 5) ?_
 refine au (i := 7) rfl aa (bm rfl (aR _ _ _ _ _ _ _ _)) (aL 5) aD rfl (aj av) (by as_aux_lemma => kernel_rfl) rfl ?_
 refine aP (i := 8) rfl rfl rfl (aH rfl aU) (by as_aux_lemma => kernel_rfl) rfl ?_
 refine a6 rfl aU rfl (a8 3 ta _ _ false 3 4 p17b _ _ [cI 98] _ _ htaok bw htal (by decide) (by decide) bk) (fun w hw => (ak (aK 7 rfl hw) (ak (ci 6 rfl hw) (ak (aK 2 rfl hw) (ak (bo bv) (ak (aK 0 rfl hw) aO)))))) (fun ⟨⟨tb, Ab, cb⟩, htb⟩ => ?_)
 refine ae ?_
 refine ay (aL 7) ?_
 refine bN (t := 27) (.tuple #[.agg (cU 4 Ab tb.length cb).toArray, .int .i64 0]) rfl (by rw [hb9.1]; rfl) ?_
 have htb2 : tb.map (·.e) = r17b.map (·.e) := htb.trans hb9.2
 refine au (i := 9) rfl aa (am rfl) (aL 7) aD rfl (aj av) (by as_aux_lemma => kernel_rfl) rfl ?_
 refine au (i := 10) rfl aa (az rfl rfl) (aL 7) aD rfl (aj av) (by as_aux_lemma => kernel_rfl) rfl ?_
 refine au (i := 11) rfl aa (az rfl rfl) (aL 7) aD rfl (aj av) (by as_aux_lemma => kernel_rfl) rfl ?_
 refine aP (i := 13) rfl rfl rfl (fun _ _ _ => ax (by as_aux_lemma => kernel_rfl)) (by as_aux_lemma => kernel_rfl) rfl ?_
 refine aS aZ rfl rfl rfl (.s (.s (.s (.s (.s (.s (.z))))))) rfl rfl rfl rfl ?_
 refine ae ?_
 refine ay (aL 7) ?_
 refine au (i := 14) rfl aa (ai rfl) (aL 7) aD rfl (aj av) (by as_aux_lemma => kernel_rfl) rfl ?_
 refine bA (by as_aux_lemma => kernel_rfl) ?_
 refine ao ?_
 refine bD (fun w h => (h.weak (.cons_cons _ (.cons_cons _ (.cons _ (.cons _ (.cons _ (.cons _ (.cons_cons _ (.cons_cons _ (.cons _ (.cons_cons _ (.cons _ (.cons _ (.cons _ .slnil))))))))))))) (fun s hs => hs)).f4.f4.f4.f4.f4) ?_
 exact J2 (⟨(tb, Ab, cb), htb2⟩, b244) _ (by repeat (first | exact trivial | refine ⟨rfl, ?_⟩))
 refine aJ (i := 4) rfl rfl rfl (fun _ _ _ => ax (by as_aux_lemma => kernel_rfl)) rfl ?_ ?_
 refine bf (vs := [_]) ([[98]] : List (bg)) bB Try.underlying105 cF rfl rfl rfl rfl rfl rfl (fun As250 => ?_)
 refine ae ?_
 refine ay (aL 3) ?_
 refine bJ (js := [3, 5]) (by as_aux_lemma => kernel_rfl) rfl ?_
 refine aJ (i := 3) rfl rfl rfl (fun _ _ _ => ax (by as_aux_lemma => kernel_rfl)) rfl ?_ ?_
 refine bf (vs := [_]) (p17b : List (Le)) bl Try.underlying22 a7 rfl rfl rfl rfl rfl rfl (fun As251 => ?_)
 refine ae ?_
 refine ay (aL 4) ?_
 refine aP (i := 5) rfl rfl rfl (aH rfl bH) (by as_aux_lemma => kernel_rfl) rfl ?_
 refine bi rfl bH rfl (bT _ _ _ (by decide)) (fun w hw => (ak (aK 1 rfl hw) aO)) ?_
 refine ae ?_
 refine ay (aL 4) ?_
 refine aP (i := 6) rfl rfl rfl (fun _ _ _ => ax (by as_aux_lemma => kernel_rfl)) (by as_aux_lemma => kernel_rfl) rfl ?_
 refine bf (vs := [_]) ([cI 98] : List (bg)) bB Try.underlying25 bF rfl rfl rfl rfl rfl rfl (fun As252 => ?_)
 refine ae ?_
 refine ay (aL 5) ?_
 refine au (i := 7) rfl aa (bm rfl (aR _ _ _ _ _ _ _ _)) (aL 5) aD rfl (aj av) (by as_aux_lemma => kernel_rfl) rfl ?_
 refine aP (i := 8) rfl rfl rfl (aH rfl aU) (by as_aux_lemma => kernel_rfl) rfl ?_
 refine a6 rfl aU rfl (a8 3 ta _ _ false 3 4 p17b _ _ [cI 98] _ _ htaok bw htal (by decide) (by decide) bk) (fun w hw => (ak (aK 7 rfl hw) (ak (ci 6 rfl hw) (ak (aK 1 rfl hw) (ak (bo bv) (ak (aK 0 rfl hw) aO)))))) (fun ⟨⟨tb, Ab, cb⟩, htb⟩ => ?_)
 refine ae ?_
 refine ay (aL 7) ?_
 refine bN (t := 27) (.tuple #[.agg (cU 4 Ab tb.length cb).toArray, .int .i64 0]) rfl (by rw [hb9.1]; rfl) ?_
 have htb2 : tb.map (·.e) = r17b.map (·.e) := htb.trans hb9.2
 refine au (i := 9) rfl aa (am rfl) (aL 7) aD rfl (aj av) (by as_aux_lemma => kernel_rfl) rfl ?_
 refine au (i := 10) rfl aa (az rfl rfl) (aL 7) aD rfl (aj av) (by as_aux_lemma => kernel_rfl) rfl ?_
 refine au (i := 11) rfl aa (az rfl rfl) (aL 7) aD rfl (aj av) (by as_aux_lemma => kernel_rfl) rfl ?_
 refine aP (i := 13) rfl rfl rfl (fun _ _ _ => ax (by as_aux_lemma => kernel_rfl)) (by as_aux_lemma => kernel_rfl) rfl ?_
 refine aS aZ rfl rfl rfl (.s (.s (.s (.s (.s (.s (.z))))))) rfl rfl rfl rfl ?_
 refine ae ?_
 refine ay (aL 7) ?_
 refine au (i := 14) rfl aa (ai rfl) (aL 7) aD rfl (aj av) (by as_aux_lemma => kernel_rfl) rfl ?_
 refine bA (by as_aux_lemma => kernel_rfl) ?_
 refine ao ?_
 refine bD (fun w h => (h.weak (.cons_cons _ (.cons_cons _ (.cons _ (.cons _ (.cons _ (.cons _ (.cons_cons _ (.cons_cons _ (.cons _ (.cons_cons _ (.cons _ (.cons _ (.cons _ .slnil))))))))))))) (fun s hs => hs)).f4.f4.f4.f4.f4) ?_
 exact J2 (⟨(tb, Ab, cb), htb2⟩, b244) _ (by repeat (first | exact trivial | refine ⟨rfl, ?_⟩))
 refine aJ (i := 5) rfl rfl rfl (aH rfl bH) rfl ?_ ?_
 refine bi rfl bH rfl (bT _ _ _ (by decide)) (fun w hw => (ak (aK 0 rfl hw) aO)) ?_
 refine ae ?_
 refine ay (aL 3) ?_
 refine bJ (js := [3, 6]) (by as_aux_lemma => kernel_rfl) rfl ?_
 refine aJ (i := 3) rfl rfl rfl (fun _ _ _ => ax (by as_aux_lemma => kernel_rfl)) rfl ?_ ?_
 refine bf (vs := [_]) (p17b : List (Le)) bl Try.underlying22 a7 rfl rfl rfl rfl rfl rfl (fun As254 => ?_)
 refine ae ?_
 refine ay (aL 4) ?_
 refine aP (i := 6) rfl rfl rfl (fun _ _ _ => ax (by as_aux_lemma => kernel_rfl)) (by as_aux_lemma => kernel_rfl) rfl ?_
 refine bf (vs := [_]) ([cI 98] : List (bg)) bB Try.underlying25 bF rfl rfl rfl rfl rfl rfl (fun As255 => ?_)
 refine ae ?_
 refine ay (aL 5) ?_
 refine au (i := 7) rfl aa (bm rfl (aR _ _ _ _ _ _ _ _)) (aL 5) aD rfl (aj av) (by as_aux_lemma => kernel_rfl) rfl ?_
 refine aP (i := 8) rfl rfl rfl (aH rfl aU) (by as_aux_lemma => kernel_rfl) rfl ?_
 refine a6 rfl aU rfl (a8 3 ta _ _ false 3 4 p17b _ _ [cI 98] _ _ htaok bw htal (by decide) (by decide) bk) (fun w hw => (ak (aK 7 rfl hw) (ak (ci 6 rfl hw) (ak (aK 1 rfl hw) (ak (bo bv) (ak (aK 0 rfl hw) aO)))))) (fun ⟨⟨tb, Ab, cb⟩, htb⟩ => ?_)
 refine ae ?_
 refine ay (aL 7) ?_
 refine bN (t := 27) (.tuple #[.agg (cU 4 Ab tb.length cb).toArray, .int .i64 0]) rfl (by rw [hb9.1]; rfl) ?_
 have htb2 : tb.map (·.e) = r17b.map (·.e) := htb.trans hb9.2
 refine au (i := 9) rfl aa (am rfl) (aL 7) aD rfl (aj av) (by as_aux_lemma => kernel_rfl) rfl ?_
 refine au (i := 10) rfl aa (az rfl rfl) (aL 7) aD rfl (aj av) (by as_aux_lemma => kernel_rfl) rfl ?_
 refine au (i := 11) rfl aa (az rfl rfl) (aL 7) aD rfl (aj av) (by as_aux_lemma => kernel_rfl) rfl ?_
 refine aP (i := 13) rfl rfl rfl (fun _ _ _ => ax (by as_aux_lemma => kernel_rfl)) (by as_aux_lemma => kernel_rfl) rfl ?_
 refine aS aZ rfl rfl rfl (.s (.s (.s (.s (.s (.s (.z))))))) rfl rfl rfl rfl ?_
 refine ae ?_
 refine ay (aL 7) ?_
 refine au (i := 14) rfl aa (ai rfl) (aL 7) aD rfl (aj av) (by as_aux_lemma => kernel_rfl) rfl ?_
 refine bA (by as_aux_lemma => kernel_rfl) ?_
 refine ao ?_
 refine bD (fun w h => (h.weak (.cons_cons _ (.cons_cons _ (.cons _ (.cons _ (.cons _ (.cons _ (.cons_cons _ (.cons_cons _ (.cons _ (.cons_cons _ (.cons _ (.cons _ (.cons _ .slnil))))))))))))) (fun s hs => hs)).f4.f4.f4.f4.f4) ?_
 exact J2 (⟨(tb, Ab, cb), htb2⟩, b244) _ (by repeat (first | exact trivial | refine ⟨rfl, ?_⟩))
 refine aJ (i := 6) rfl rfl rfl (fun _ _ _ => ax (by as_aux_lemma => kernel_rfl)) rfl ?_ ?_
 refine bf (vs := [_]) ([cI 98] : List (bg)) bB Try.underlying25 bF rfl rfl rfl rfl rfl rfl (fun As257 => ?_)
 refine ae ?_
 refine ay (aL 4) ?_
 refine aP (i := 3) rfl rfl rfl (fun _ _ _ => ax (by as_aux_lemma => kernel_rfl)) (by as_aux_lemma => kernel_rfl) rfl ?_
 refine bf (vs := [_]) (p17b : List (Le)) bl Try.underlying22 a7 rfl rfl rfl rfl rfl rfl (fun As258 => ?_)
 refine ae ?_
 refine ay (aL 5) ?_
 refine au (i := 7) rfl aa (bm rfl (aR _ _ _ _ _ _ _ _)) (aL 5) aD rfl (aj av) (by as_aux_lemma => kernel_rfl) rfl ?_
 refine aP (i := 8) rfl rfl rfl (aH rfl aU) (by as_aux_lemma => kernel_rfl) rfl ?_
 refine a6 rfl aU rfl (a8 3 ta _ _ false 3 4 p17b _ _ [cI 98] _ _ htaok bw htal (by decide) (by decide) bk) (fun w hw => (ak (aK 7 rfl hw) (ak (ci 6 rfl hw) (ak (aK 0 rfl hw) (ak (bo bv) (ak (aK 1 rfl hw) aO)))))) (fun ⟨⟨tb, Ab, cb⟩, htb⟩ => ?_)
 refine ae ?_
 refine ay (aL 7) ?_
 refine bN (t := 27) (.tuple #[.agg (cU 4 Ab tb.length cb).toArray, .int .i64 0]) rfl (by rw [hb9.1]; rfl) ?_
 have htb2 : tb.map (·.e) = r17b.map (·.e) := htb.trans hb9.2
 refine au (i := 9) rfl aa (am rfl) (aL 7) aD rfl (aj av) (by as_aux_lemma => kernel_rfl) rfl ?_
 refine au (i := 10) rfl aa (az rfl rfl) (aL 7) aD rfl (aj av) (by as_aux_lemma => kernel_rfl) rfl ?_
 refine au (i := 11) rfl aa (az rfl rfl) (aL 7) aD rfl (aj av) (by as_aux_lemma => kernel_rfl) rfl ?_
 refine aP (i := 13) rfl rfl rfl (fun _ _ _ => ax (by as_aux_lemma => kernel_rfl)) (by as_aux_lemma => kernel_rfl) rfl ?_
 refine aS aZ rfl rfl rfl (.s (.s (.s (.s (.s (.s (.z))))))) rfl rfl rfl rfl ?_
 refine ae ?_
 refine ay (aL 7) ?_
 refine au (i := 14) rfl aa (ai rfl) (aL 7) aD rfl (aj av) (by as_aux_lemma => kernel_rfl) rfl ?_
 refine bA (by as_aux_lemma => kernel_rfl) ?_
 refine ao ?_
 refine bD (fun w h => (h.weak (.cons_cons _ (.cons_cons _ (.cons _ (.cons _ (.cons _ (.cons _ (.cons_cons _ (.cons_cons _ (.cons _ (.cons_cons _ (.cons _ (.cons _ (.cons _ .slnil))))))))))))) (fun s hs => hs)).f4.f4.f4.f4.f4) ?_
 exact J2 (⟨(tb, Ab, cb), htb2⟩, b244) _ (by repeat (first | exact trivial | refine ⟨rfl, ?_⟩))
 exact bx
 exact bx
 exact bx
 refine aJ (i := 4) rfl rfl rfl (fun _ _ _ => ax (by as_aux_lemma => kernel_rfl)) rfl ?_ ?_
 refine bf (vs := [_]) ([[98]] : List (bg)) bB Try.underlying105 cF rfl rfl rfl rfl rfl rfl (fun As260 => ?_)
 refine ae ?_
 refine ay (aL 3) ?_
 refine aP (i := 2) rfl rfl rfl (aH rfl dB) (by as_aux_lemma => kernel_rfl) rfl ?_
 refine bi rfl dB rfl (dT _ _ _ (by decide)) (fun w hw => (ak (aK 1 rfl hw) aO)) ?_
 refine ae ?_
 refine ay (aL 3) ?_
 refine bJ (js := [3, 5]) (by as_aux_lemma => kernel_rfl) rfl ?_
 refine aJ (i := 3) rfl rfl rfl (fun _ _ _ => ax (by as_aux_lemma => kernel_rfl)) rfl ?_ ?_
 refine bf (vs := [_]) (p17b : List (Le)) bl Try.underlying22 a7 rfl rfl rfl rfl rfl rfl (fun As261 => ?_)
 refine ae ?_
 refine ay (aL 4) ?_
 refine aP (i := 5) rfl rfl rfl (aH rfl bH) (by as_aux_lemma => kernel_rfl) rfl ?_
 refine bi rfl bH rfl (bT _ _ _ (by decide)) (fun w hw => (ak (aK 1 rfl hw) aO)) ?_
 refine ae ?_
 refine ay (aL 4) ?_
 refine aP (i := 6) rfl rfl rfl (fun _ _ _ => ax (by as_aux_lemma => kernel_rfl)) (by as_aux_lemma => kernel_rfl) rfl ?_
 refine bf (vs := [_]) ([cI 98] : List (bg)) bB Try.underlying25 bF rfl rfl rfl rfl rfl rfl (fun As262 => ?_)
 refine ae ?_
 refine ay (aL 5) ?_
 refine au (i := 7) rfl aa (bm rfl (aR _ _ _ _ _ _ _ _)) (aL 5) aD rfl (aj av) (by as_aux_lemma => kernel_rfl) rfl ?_
 refine aP (i := 8) rfl rfl rfl (aH rfl aU) (by as_aux_lemma => kernel_rfl) rfl ?_
 refine a6 rfl aU rfl (a8 3 ta _ _ false 3 4 p17b _ _ [cI 98] _ _ htaok bw htal (by decide) (by decide) bk) (fun w hw => (ak (aK 7 rfl hw) (ak (ci 6 rfl hw) (ak (aK 1 rfl hw) (ak (bo bv) (ak (aK 0 rfl hw) aO)))))) (fun ⟨⟨tb, Ab, cb⟩, htb⟩ => ?_)
 refine ae ?_
 refine ay (aL 7) ?_
 refine bN (t := 27) (.tuple #[.agg (cU 4 Ab tb.length cb).toArray, .int .i64 0]) rfl (by rw [hb9.1]; rfl) ?_
 have htb2 : tb.map (·.e) = r17b.map (·.e) := htb.trans hb9.2
 refine au (i := 9) rfl aa (am rfl) (aL 7) aD rfl (aj av) (by as_aux_lemma => kernel_rfl) rfl ?_
 refine au (i := 10) rfl aa (az rfl rfl) (aL 7) aD rfl (aj av) (by as_aux_lemma => kernel_rfl) rfl ?_
 refine au (i := 11) rfl aa (az rfl rfl) (aL 7) aD rfl (aj av) (by as_aux_lemma => kernel_rfl) rfl ?_
 refine aP (i := 13) rfl rfl rfl (fun _ _ _ => ax (by as_aux_lemma => kernel_rfl)) (by as_aux_lemma => kernel_rfl) rfl ?_
 refine aS aZ rfl rfl rfl (.s (.s (.s (.s (.s (.s (.z))))))) rfl rfl rfl rfl ?_
 refine ae ?_
 refine ay (aL 7) ?_
 refine au (i := 14) rfl aa (ai rfl) (aL 7) aD rfl (aj av) (by as_aux_lemma => kernel_rfl) rfl ?_
 refine bA (by as_aux_lemma => kernel_rfl) ?_
 refine ao ?_
 refine bD (fun w h => (h.weak (.cons_cons _ (.cons_cons _ (.cons _ (.cons _ (.cons _ (.cons _ (.cons_cons _ (.cons_cons _ (.cons _ (.cons_cons _ (.cons _ (.cons _ (.cons _ .slnil))))))))))))) (fun s hs => hs)).f4.f4.f4.f4.f4) ?_
 exact J2 (⟨(tb, Ab, cb), htb2⟩, b244) _ (by repeat (first | exact trivial | refine ⟨rfl, ?_⟩))
 refine aJ (i := 5) rfl rfl rfl (aH rfl bH) rfl ?_ ?_
 refine bi rfl bH rfl (bT _ _ _ (by decide)) (fun w hw => (ak (aK 0 rfl hw) aO)) ?_
 refine ae ?_
 refine ay (aL 3) ?_
 refine bJ (js := [3, 6]) (by as_aux_lemma => kernel_rfl) rfl ?_
 refine aJ (i := 3) rfl rfl rfl (fun _ _ _ => ax (by as_aux_lemma => kernel_rfl)) rfl ?_ ?_
 refine bf (vs := [_]) (p17b : List (Le)) bl Try.underlying22 a7 rfl rfl rfl rfl rfl rfl (fun As264 => ?_)
 refine ae ?_
 refine ay (aL 4) ?_
 refine aP (i := 6) rfl rfl rfl (fun _ _ _ => ax (by as_aux_lemma => kernel_rfl)) (by as_aux_lemma => kernel_rfl) rfl ?_
 refine bf (vs := [_]) ([cI 98] : List (bg)) bB Try.underlying25 bF rfl rfl rfl rfl rfl rfl (fun As265 => ?_)
 refine ae ?_
 refine ay (aL 5) ?_
 refine au (i := 7) rfl aa (bm rfl (aR _ _ _ _ _ _ _ _)) (aL 5) aD rfl (aj av) (by as_aux_lemma => kernel_rfl) rfl ?_
 refine aP (i := 8) rfl rfl rfl (aH rfl aU) (by as_aux_lemma => kernel_rfl) rfl ?_
 refine a6 rfl aU rfl (a8 3 ta _ _ false 3 4 p17b _ _ [cI 98] _ _ htaok bw htal (by decide) (by decide) bk) (fun w hw => (ak (aK 7 rfl hw) (ak (ci 6 rfl hw) (ak (aK 1 rfl hw) (ak (bo bv) (ak (aK 0 rfl hw) aO)))))) (fun ⟨⟨tb, Ab, cb⟩, htb⟩ => ?_)
 refine ae ?_
 refine ay (aL 7) ?_
 refine bN (t := 27) (.tuple #[.agg (cU 4 Ab tb.length cb).toArray, .int .i64 0]) rfl (by rw [hb9.1]; rfl) ?_
 have htb2 : tb.map (·.e) = r17b.map (·.e) := htb.trans hb9.2
 refine au (i := 9) rfl aa (am rfl) (aL 7) aD rfl (aj av) (by as_aux_lemma => kernel_rfl) rfl ?_
 refine au (i := 10) rfl aa (az rfl rfl) (aL 7) aD rfl (aj av) (by as_aux_lemma => kernel_rfl) rfl ?_
 refine au (i := 11) rfl aa (az rfl rfl) (aL 7) aD rfl (aj av) (by as_aux_lemma => kernel_rfl) rfl ?_
 refine aP (i := 13) rfl rfl rfl (fun _ _ _ => ax (by as_aux_lemma => kernel_rfl)) (by as_aux_lemma => kernel_rfl) rfl ?_
 refine aS aZ rfl rfl rfl (.s (.s (.s (.s (.s (.s (.z))))))) rfl rfl rfl rfl ?_
 refine ae ?_
 refine ay (aL 7) ?_
 refine au (i := 14) rfl aa (ai rfl) (aL 7) aD rfl (aj av) (by as_aux_lemma => kernel_rfl) rfl ?_
 refine bA (by as_aux_lemma => kernel_rfl) ?_
 refine ao ?_
 refine bD (fun w h => (h.weak (.cons_cons _ (.cons_cons _ (.cons _ (.cons _ (.cons _ (.cons _ (.cons_cons _ (.cons_cons _ (.cons _ (.cons_cons _ (.cons _ (.cons _ (.cons _ .slnil))))))))))))) (fun s hs => hs)).f4.f4.f4.f4.f4) ?_
 exact J2 (⟨(tb, Ab, cb), htb2⟩, b244) _ (by repeat (first | exact trivial | refine ⟨rfl, ?_⟩))
 refine aJ (i := 6) rfl rfl rfl (fun _ _ _ => ax (by as_aux_lemma => kernel_rfl)) rfl ?_ ?_
 refine bf (vs := [_]) ([cI 98] : List (bg)) bB Try.underlying25 bF rfl rfl rfl rfl rfl rfl (fun As267 => ?_)
 refine ae ?_
 refine ay (aL 4) ?_
 refine aP (i := 3) rfl rfl rfl (fun _ _ _ => ax (by as_aux_lemma => kernel_rfl)) (by as_aux_lemma => kernel_rfl) rfl ?_
 refine bf (vs := [_]) (p17b : List (Le)) bl Try.underlying22 a7 rfl rfl rfl rfl rfl rfl (fun As268 => ?_)
 refine ae ?_
 refine ay (aL 5) ?_
 refine au (i := 7) rfl aa (bm rfl (aR _ _ _ _ _ _ _ _)) (aL 5) aD rfl (aj av) (by as_aux_lemma => kernel_rfl) rfl ?_
 refine aP (i := 8) rfl rfl rfl (aH rfl aU) (by as_aux_lemma => kernel_rfl) rfl ?_
 refine a6 rfl aU rfl (a8 3 ta _ _ false 3 4 p17b _ _ [cI 98] _ _ htaok bw htal (by decide) (by decide) bk) (fun w hw => (ak (aK 7 rfl hw) (ak (ci 6 rfl hw) (ak (aK 0 rfl hw) (ak (bo bv) (ak (aK 1 rfl hw) aO)))))) (fun ⟨⟨tb, Ab, cb⟩, htb⟩ => ?_)
 refine ae ?_
 refine ay (aL 7) ?_
 refine bN (t := 27) (.tuple #[.agg (cU 4 Ab tb.length cb).toArray, .int .i64 0]) rfl (by rw [hb9.1]; rfl) ?_
 have htb2 : tb.map (·.e) = r17b.map (·.e) := htb.trans hb9.2
 refine au (i := 9) rfl aa (am rfl) (aL 7) aD rfl (aj av) (by as_aux_lemma => kernel_rfl) rfl ?_
 refine au (i := 10) rfl aa (az rfl rfl) (aL 7) aD rfl (aj av) (by as_aux_lemma => kernel_rfl) rfl ?_
 refine au (i := 11) rfl aa (az rfl rfl) (aL 7) aD rfl (aj av) (by as_aux_lemma => kernel_rfl) rfl ?_
 refine aP (i := 13) rfl rfl rfl (fun _ _ _ => ax (by as_aux_lemma => kernel_rfl)) (by as_aux_lemma => kernel_rfl) rfl ?_
 refine aS aZ rfl rfl rfl (.s (.s (.s (.s (.s (.s (.z))))))) rfl rfl rfl rfl ?_
 refine ae ?_
 refine ay (aL 7) ?_
 refine au (i := 14) rfl aa (ai rfl) (aL 7) aD rfl (aj av) (by as_aux_lemma => kernel_rfl) rfl ?_
 refine bA (by as_aux_lemma => kernel_rfl) ?_
 refine ao ?_
 refine bD (fun w h => (h.weak (.cons_cons _ (.cons_cons _ (.cons _ (.cons _ (.cons _ (.cons _ (.cons_cons _ (.cons_cons _ (.cons _ (.cons_cons _ (.cons _ (.cons _ (.cons _ .slnil))))))))))))) (fun s hs => hs)).f4.f4.f4.f4.f4) ?_
 exact J2 (⟨(tb, Ab, cb), htb2⟩, b244) _ (by repeat (first | exact trivial | refine ⟨rfl, ?_⟩))
 exact bx
 exact bx
 exact bx
 refine aJ (i := 4) rfl rfl rfl (fun _ _ _ => ax (by as_aux_lemma => kernel_rfl)) rfl ?_ ?_
 refine bf (vs := [_]) ([[98]] : List (bg)) bB Try.underlying105 cF rfl rfl rfl rfl rfl rfl (fun As270 => ?_)
 refine ae ?_
 refine ay (aL 2) ?_
 refine aP (i := 1) rfl rfl rfl (fun _ _ _ => ax (by as_aux_lemma => kernel_rfl)) (by as_aux_lemma => kernel_rfl) rfl ?_
 refine bf (vs := [_]) ([[99]] : List (bg)) bB Try.underlying105 cF rfl rfl rfl rfl rfl rfl (fun As271 => ?_)
 refine ae ?_
 refine ay (aL 3) ?_
 refine aP (i := 2) rfl rfl rfl (aH rfl dB) (by as_aux_lemma => kernel_rfl) rfl ?_
 refine bi rfl dB rfl (dT _ _ _ (by decide)) (fun w hw => (ak (aK 0 rfl hw) aO)) ?_
 refine ae ?_
 refine ay (aL 3) ?_
 refine bJ (js := [3, 5]) (by as_aux_lemma => kernel_rfl) rfl ?_
 refine aJ (i := 3) rfl rfl rfl (fun _ _ _ => ax (by as_aux_lemma => kernel_rfl)) rfl ?_ ?_
 refine bf (vs := [_]) (p17b : List (Le)) bl Try.underlying22 a7 rfl rfl rfl rfl rfl rfl (fun As272 => ?_)
 refine ae ?_
 refine ay (aL 4) ?_
 refine aP (i := 5) rfl rfl rfl (aH rfl bH) (by as_aux_lemma => kernel_rfl) rfl ?_
 refine bi rfl bH rfl (bT _ _ _ (by decide)) (fun w hw => (ak (aK 2 rfl hw) aO)) ?_
 refine ae ?_
 refine ay (aL 4) ?_
 refine aP (i := 6) rfl rfl rfl (fun _ _ _ => ax (by as_aux_lemma => kernel_rfl)) (by as_aux_lemma => kernel_rfl) rfl ?_
 refine bf (vs := [_]) ([cI 98] : List (bg)) bB Try.underlying25 bF rfl rfl rfl rfl rfl rfl (fun As273 => ?_)
 refine ae ?_
 refine ay (aL 5) ?_
 refine au (i := 7) rfl aa (bm rfl (aR _ _ _ _ _ _ _ _)) (aL 5) aD rfl (aj av) (by as_aux_lemma => kernel_rfl) rfl ?_
 refine aP (i := 8) rfl rfl rfl (aH rfl aU) (by as_aux_lemma => kernel_rfl) rfl ?_
 refine a6 rfl aU rfl (a8 3 ta _ _ false 3 4 p17b _ _ [cI 98] _ _ htaok bw htal (by decide) (by decide) bk) (fun w hw => (ak (aK 7 rfl hw) (ak (ci 6 rfl hw) (ak (aK 1 rfl hw) (ak (bo bv) (ak (aK 0 rfl hw) aO)))))) (fun ⟨⟨tb, Ab, cb⟩, htb⟩ => ?_)
 refine ae ?_
 refine ay (aL 7) ?_
 refine bN (t := 27) (.tuple #[.agg (cU 4 Ab tb.length cb).toArray, .int .i64 0]) rfl (by rw [hb9.1]; rfl) ?_
 have htb2 : tb.map (·.e) = r17b.map (·.e) := htb.trans hb9.2
 refine au (i := 9) rfl aa (am rfl) (aL 7) aD rfl (aj av) (by as_aux_lemma => kernel_rfl) rfl ?_
 refine au (i := 10) rfl aa (az rfl rfl) (aL 7) aD rfl (aj av) (by as_aux_lemma => kernel_rfl) rfl ?_
 refine au (i := 11) rfl aa (az rfl rfl) (aL 7) aD rfl (aj av) (by as_aux_lemma => kernel_rfl) rfl ?_
 refine aP (i := 13) rfl rfl rfl (fun _ _ _ => ax (by as_aux_lemma => kernel_rfl)) (by as_aux_lemma => kernel_rfl) rfl ?_
 refine aS aZ rfl rfl rfl (.s (.s (.s (.s (.s (.s (.z))))))) rfl rfl rfl rfl ?_
 refine ae ?_
 refine ay (aL 7) ?_
 refine au (i := 14) rfl aa (ai rfl) (aL 7) aD rfl (aj av) (by as_aux_lemma => kernel_rfl) rfl ?_
 refine bA (by as_aux_lemma => kernel_rfl) ?_
 refine ao ?_
 refine bD (fun w h => (h.weak (.cons_cons _ (.cons_cons _ (.cons _ (.cons _ (.cons _ (.cons _ (.cons_cons _ (.cons_cons _ (.cons _ (.cons_cons _ (.cons _ (.cons _ (.cons _ .slnil))))))))))))) (fun s hs => hs)).f4.f4.f4.f4.f4) ?_
 exact J2 (⟨(tb, Ab, cb), htb2⟩, b244) _ (by repeat (first | exact trivial | refine ⟨rfl, ?_⟩))
 refine aJ (i := 5) rfl rfl rfl (aH rfl bH) rfl ?_ ?_
 refine bi rfl bH rfl (bT _ _ _ (by decide)) (fun w hw => (ak (aK 1 rfl hw) aO)) ?_
 refine ae ?_
 refine ay (aL 3) ?_
 refine bJ (js := [3, 6]) (by as_aux_lemma => kernel_rfl) rfl ?_
 refine aJ (i := 3) rfl rfl rfl (fun _ _ _ => ax (by as_aux_lemma => kernel_rfl)) rfl ?_ ?_
 refine bf (vs := [_]) (p17b : List (Le)) bl Try.underlying22 a7 rfl rfl rfl rfl rfl rfl (fun As275 => ?_)
 refine ae ?_
 refine ay (aL 4) ?_
 refine aP (i := 6) rfl rfl rfl (fun _ _ _ => ax (by as_aux_lemma => kernel_rfl)) (by as_aux_lemma => kernel_rfl) rfl ?_
 refine bf (vs := [_]) ([cI 98] : List (bg)) bB Try.underlying25 bF rfl rfl rfl rfl rfl rfl (fun As276 => ?_)
 refine ae ?_
 refine ay (aL 5) ?_
 refine au (i := 7) rfl aa (bm rfl (aR _ _ _ _ _ _ _ _)) (aL 5) aD rfl (aj av) (by as_aux_lemma => kernel_rfl) rfl ?_
 refine aP (i := 8) rfl rfl rfl (aH rfl aU) (by as_aux_lemma => kernel_rfl) rfl ?_
 refine a6 rfl aU rfl (a8 3 ta _ _ false 3 4 p17b _ _ [cI 98] _ _ htaok bw htal (by decide) (by decide) bk) (fun w hw => (ak (aK 7 rfl hw) (ak (ci 6 rfl hw) (ak (aK 1 rfl hw) (ak (bo bv) (ak (aK 0 rfl hw) aO)))))) (fun ⟨⟨tb, Ab, cb⟩, htb⟩ => ?_)
 refine ae ?_
 refine ay (aL 7) ?_
 refine bN (t := 27) (.tuple #[.agg (cU 4 Ab tb.length cb).toArray, .int .i64 0]) rfl (by rw [hb9.1]; rfl) ?_
 have htb2 : tb.map (·.e) = r17b.map (·.e) := htb.trans hb9.2
 refine au (i := 9) rfl aa (am rfl) (aL 7) aD rfl (aj av) (by as_aux_lemma => kernel_rfl) rfl ?_
 refine au (i := 10) rfl aa (az rfl rfl) (aL 7) aD rfl (aj av) (by as_aux_lemma => kernel_rfl) rfl ?_
 refine au (i := 11) rfl aa (az rfl rfl) (aL 7) aD rfl (aj av) (by as_aux_lemma => kernel_rfl) rfl ?_
 refine aP (i := 13) rfl rfl rfl (fun _ _ _ => ax (by as_aux_lemma => kernel_rfl)) (by as_aux_lemma => kernel_rfl) rfl ?_
 refine aS aZ rfl rfl rfl (.s (.s (.s (.s (.s (.s (.z))))))) rfl rfl rfl rfl ?_
 refine ae ?_
 refine ay (aL 7) ?_
 refine au (i := 14) rfl aa (ai rfl) (aL 7) aD rfl (aj av) (by as_aux_lemma => kernel_rfl) rfl ?_
 refine bA (by as_aux_lemma => kernel_rfl) ?_
 refine ao ?_
 refine bD (fun w h => (h.weak (.cons_cons _ (.cons_cons _ (.cons _ (.cons _ (.cons _ (.cons _ (.cons_cons _ (.cons_cons _ (.cons _ (.cons_cons _ (.cons _ (.cons _ (.cons _ .slnil))))))))))))) (fun s hs => hs)).f4.f4.f4.f4.f4) ?_
 exact J2 (⟨(tb, Ab, cb), htb2⟩, b244) _ (by repeat (first | exact trivial | refine ⟨rfl, ?_⟩))
 refine aJ (i := 6) rfl rfl rfl (fun _ _ _ => ax (by as_aux_lemma => kernel_rfl)) rfl ?_ ?_
 refine bf (vs := [_]) ([cI 98] : List (bg)) bB Try.underlying25 bF rfl rfl rfl rfl rfl rfl (fun As278 => ?_)
 refine ae ?_
 refine ay (aL 4) ?_
 refine aP (i := 3) rfl rfl rfl (fun _ _ _ => ax (by as_aux_lemma => kernel_rfl)) (by as_aux_lemma => kernel_rfl) rfl ?_
 refine bf (vs := [_]) (p17b : List (Le)) bl Try.underlying22 a7 rfl rfl rfl rfl rfl rfl (fun As279 => ?_)
 refine ae ?_
 refine ay (aL 5) ?_
 refine au (i := 7) rfl aa (bm rfl (aR _ _ _ _ _ _ _ _)) (aL 5) aD rfl (aj av) (by as_aux_lemma => kernel_rfl) rfl ?_
 refine aP (i := 8) rfl rfl rfl (aH rfl aU) (by as_aux_lemma => kernel_rfl) rfl ?_
 refine a6 rfl aU rfl (a8 3 ta _ _ false 3 4 p17b _ _ [cI 98] _ _ htaok bw htal (by decide) (by decide) bk) (fun w hw => (ak (aK 7 rfl hw) (ak (ci 6 rfl hw) (ak (aK 0 rfl hw) (ak (bo bv) (ak (aK 1 rfl hw) aO)))))) (fun ⟨⟨tb, Ab, cb⟩, htb⟩ => ?_)
 refine ae ?_
 refine ay (aL 7) ?_
 refine bN (t := 27) (.tuple #[.agg (cU 4 Ab tb.length cb).toArray, .int .i64 0]) rfl (by rw [hb9.1]; rfl) ?_
 have htb2 : tb.map (·.e) = r17b.map (·.e) := htb.trans hb9.2
 refine au (i := 9) rfl aa (am rfl) (aL 7) aD rfl (aj av) (by as_aux_lemma => kernel_rfl) rfl ?_
 refine au (i := 10) rfl aa (az rfl rfl) (aL 7) aD rfl (aj av) (by as_aux_lemma => kernel_rfl) rfl ?_
 refine au (i := 11) rfl aa (az rfl rfl) (aL 7) aD rfl (aj av) (by as_aux_lemma => kernel_rfl) rfl ?_
 refine aP (i := 13) rfl rfl rfl (fun _ _ _ => ax (by as_aux_lemma => kernel_rfl)) (by as_aux_lemma => kernel_rfl) rfl ?_
 refine aS aZ rfl rfl rfl (.s (.s (.s (.s (.s (.s (.z))))))) rfl rfl rfl rfl ?_
 refine ae ?_
 refine ay (aL 7) ?_
 refine au (i := 14) rfl aa (ai rfl) (aL 7) aD rfl (aj av) (by as_aux_lemma => kernel_rfl) rfl ?_
 refine bA (by as_aux_lemma => kernel_rfl) ?_
 refine ao ?_
 refine bD (fun w h => (h.weak (.cons_cons _ (.cons_cons _ (.cons _ (.cons _ (.cons _ (.cons _ (.cons_cons _ (.cons_cons _ (.cons _ (.cons_cons _ (.cons _ (.cons _ (.cons _ .slnil))))))))))))) (fun s hs => hs)).f4.f4.f4.f4.f4) ?_
 exact J2 (⟨(tb, Ab, cb), htb2⟩, b244) _ (by repeat (first | exact trivial | refine ⟨rfl, ?_⟩))
 exact bx
 exact bx
 exact bx
 exact bx
end Go.Proofs.Ytnpdgmoeoidppaa
