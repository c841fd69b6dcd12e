import Derived.Test.YtnpdgmoeoidppaaUfQc
import Derived.Test.YtnpdgmoeoidppaaLxQc
/- law 17: its examples -/
namespace Go.Proofs.Ytnpdgmoeoidppaa
open Go.RowKit Go.Shelf
set_option linter.unusedVariables false
set_option linter.unusedSimpArgs false

theorem bu_27_0_2 (x0 : Bool) (x1 : Int) : Try.prog.built 27 [(0, .bool x0), (2, .int .i64 x1)] = some [.bool x0, .int .i64 0, .int .i64 x1, .slice none 0 0, .slice none 0 0].toArray := by kernel_rfl
theorem ek (x0 : Bool) (x1 : Int) (x2 : Option Addr) (x3 : Nat) (x4 : Nat) : Try.prog.built 27 [(0, .bool x0), (2, .int .i64 x1), (3, .slice x2 x3 x4)] = some [.bool x0, .int .i64 0, .int .i64 x1, .slice x2 x3 x4, .slice none 0 0].toArray := by kernel_rfl
theorem bF (x0 : Int) (x1 : Int) (x2 : Option Addr) (x3 : Nat) (x4 : Nat) (x5 : Option Addr) (x6 : Nat) (x7 : Nat) : Try.prog.built 27 [(1, .int .i64 x0), (2, .int .i64 x1), (3, .slice x2 x3 x4), (4, .slice x5 x6 x7)] = some [.bool false, .int .i64 x0, .int .i64 x1, .slice x2 x3 x4, .slice x5 x6 x7].toArray := by kernel_rfl
theorem bu_44_0_1_2 (x0 : aW) (x1 : Int) (x2 : aW) : Try.prog.built 44 [(0, .string (ba x0)), (1, .int .i64 x1), (2, .string (ba x2))] = some [.string (ba x0), .int .i64 x1, .string (ba x2), .slice none 0 0, .string ⟨#[]⟩, .slice none 0 0, .int .u32 0].toArray := by kernel_rfl
theorem bz : Enters Try.prog 12 := enters_of Try.func12 (by kernel_rfl) rfl
theorem bU : Enters Try.prog 22 := enters_of Try.func22 (by kernel_rfl) rfl
theorem bp : Enters Try.prog 23 := enters_of Try.func23 (by kernel_rfl) rfl

/-- An entry of few octets. -/
def smE (e : En) : Bool := decide (e.host.length ≤ 300) && decide (e.alias.length ≤ 300) && decide (e.cluster.length ≤ 300) && decide (e.addrs.length ≤ 20) && decide (e.ports.length ≤ 20) && decide (0 ≤ e.kind ∧ e.kind ≤ 9) && decide (0 ≤ e.ttl ∧ e.ttl ≤ 1000) && (e.addrs.all fun a => decide (0 ≤ a.hi ∧ a.hi ≤ 1000000) && decide (0 ≤ a.lo ∧ a.lo ≤ 4294967295)) && (e.ports.all fun p => decide (0 ≤ p ∧ p ≤ 1000000))
theorem smE_ok {e : En} (h : smE e = true) : EnOk e ∧ lightE e = true := by
  simp only [smE, Bool.and_eq_true, decide_eq_true_eq, List.all_eq_true] at h
  obtain ⟨⟨⟨⟨⟨⟨⟨⟨h1, h2⟩, h3⟩, h4⟩, h5⟩, h6⟩, h7⟩, h8⟩, h9⟩ := h
  refine ⟨⟨by omega, by omega, by omega, fun a ha => ?_, by omega, by omega, fun p hp => by have := h9 p hp; omega, by omega, h7.1, by omega⟩, ?_⟩
  · have := h8 a ha
    refine ⟨this.1.1, ?_, this.2.1, ?_⟩ <;> omega
  · simp only [lightE, Bool.and_eq_true, decide_eq_true_eq]
    exact ⟨⟨⟨⟨h1, h2⟩, h3⟩, h4⟩, h5⟩
theorem gu {l : List Le} (h : (l.map (·.e)).all smE = true) : TbOk l := fun x hx => smE_ok (List.all_eq_true.1 h _ (List.mem_map.2 ⟨x, hx, rfl⟩))

def auE17 (ls : List aW) : En := ⟨(eo ls).1, 2, [120], [], [], [], 0⟩
def cF (ls : List aW) : Le := ⟨auE17 ls, none, 0, none, 0⟩
def cQ (c : UInt8) : aW := (eo [[c]]).1
def p17a : List Le := [cF [[66]], cF [[97]]]
def r17a : List Le := [cF [[97]], cF [[66]]]
def p17b : List Le := [cF [[99]]]
def r17b : List Le := [cF [[97]], cF [[99]]]
theorem gD {l : List Le} (h : (l.all fun x => decide (x.e.addrs = []) && decide (x.e.ports = [])) = true) : ∀ x ∈ l, x.e.addrs = [] ∧ x.e.ports = [] := fun x hx => by
  have := List.all_eq_true.1 h x hx
  simpa using this
theorem ap17_a : (bv 0 [] true 0 3 p17a []).1 = 0 ∧ (bv 0 [] true 0 3 p17a []).2.map (·.e) = r17a.map (·.e) := by decide +kernel
theorem ap17_b : (bv 3 r17a false 3 4 p17b [cQ 98]).1 = 0 ∧ (bv 3 r17a false 3 4 p17b [cQ 98]).2.map (·.e) = r17b.map (·.e) := by decide +kernel
theorem ap17_c : (bv 4 r17b true 0 4 [] []).1 = 9 := by decide +kernel
theorem to17 {v : Int} {l l' : List Le} {full : Bool} {bs ver : Int} {put : List Le} {drop : List aW} {x : Int} {r : List Le} (hl : l.map (·.e) = l'.map (·.e)) (h : (bv v l' full bs ver put drop).1 = x ∧ (bv v l' full bs ver put drop).2.map (·.e) = r.map (·.e)) : (bv v l full bs ver put drop).1 = x ∧ (bv v l full bs ver put drop).2.map (·.e) = r.map (·.e) :=
  ⟨((cN hl rfl).1).trans h.1, ((cN hl rfl).2).trans h.2⟩
theorem p17a_tb : TbOk p17a := gu (by decide +kernel)
theorem ed : TbOk p17b := gu (by decide +kernel)
theorem r17a_tb {l : List Le} (h : l.map (·.e) = r17a.map (·.e)) : TbOk l := gu (by rw [h]; decide +kernel)
theorem r17b_tb {l : List Le} (h : l.map (·.e) = r17b.map (·.e)) : TbOk l := gu (by rw [h]; decide +kernel)
theorem p17a_rd {w : World} : Rd (p17a.flatMap fv) w := fL (gD (by decide))
theorem ee {w : World} : Rd (p17b.flatMap fv) w := fL (gD (by decide))
theorem dM : ∀ n ∈ [cQ 98], n.length ≤ 1000 := by decide +kernel
theorem at17 {l r : List Le} {n : aW} (h : l.map (·.e) = r.map (·.e)) {i : Nat} (hq : (r.getD i bQ).e.host = n) : (l.getD i bQ).e.host = n := by
  rw [d5, h, ← d5]; exact hq

theorem bH (ls : List aW) (A : Option Addr) (ca : Nat) (hl : ls.length ≤ 1000000000000) : RC Try.prog 23 #[.slice A ls.length ca] [Ch.rd A 1 er ls] (α := Unit) (fun _ => .string (ba (eo ls).1)) (fun _ => []) := by
 refine bZ (args := [.slice A ls.length ca]) 11 Try.func23 rfl rfl rfl (fun w0 => ?_)
 refine ap ?_
 refine ah ?_
 refine au (aj rfl) rfl rfl ?_
 refine aa ?_
 refine am ?_
 refine ap ?_
 refine ah ?_
 refine au (ak rfl) rfl rfl ?_
 refine aS rfl ent_59 rfl (c_ref02_Make _ _ _ (by omega)) (fun w hw => (ao (cW 0 rfl hw) aM)) ?_
 refine au (ak rfl) rfl rfl ?_
 refine au (aL rfl rfl) rfl rfl ?_
 refine au (aL rfl rfl) rfl rfl ?_
 refine au (aj rfl) rfl rfl ?_
 refine au (aj rfl) rfl rfl ?_
 refine aa ?_
 refine am ?_
 refine ap ?_
 refine ah ?_
 refine au (ak rfl) rfl rfl ?_
 refine au (aj rfl) rfl rfl ?_
 refine aa ?_
 refine am ?_
 refine aU ?_
 refine aX (ts := [2]) rfl rfl rfl (fun w hw => ?_)
 exact ⟨(), rfl, hw.base, (hw.weak (List.nil_sublist _) (fun s hs => hs)).toNews⟩

theorem ct (ls : List aW) (A : Option Addr) (ca : Nat) (hl : ls.length ≤ 1000000000000) : RC Try.prog 22 #[.slice A ls.length ca] [Ch.rd A 1 er ls] (α := Unit) (fun _ => .agg (dT (cF ls)).toArray) (fun _ => []) := by
 refine bZ (args := [.slice A ls.length ca]) 6 Try.func22 rfl rfl rfl (fun w0 => ?_)
 refine ap ?_
 refine ah ?_
 refine bo a7 rfl rfl (fun b1 => ?_)
 refine aa ?_
 refine am ?_
 refine ap ?_
 refine ah ?_
 refine au (ak rfl) rfl rfl ?_
 refine aS rfl bp rfl (bH _ _ _ hl) (fun w hw => (ao (cW 0 rfl hw) aM)) ?_
 refine au (bB rfl (bu_44_0_1_2 _ _ _)) rfl rfl ?_
 refine bf a7 rfl rfl rfl .z rfl rfl rfl rfl ?_
 refine aa ?_
 refine am ?_
 refine aU ?_
 refine e_rsr (rs := [.cell 2 44]) rfl (dJ 0 a7 rfl rfl rfl rfl eN) rfl (fun w hw => ?_)
 exact ⟨(), rfl, hw.base, (hw.weak (List.nil_sublist _) (fun s hs => hs)).toNews⟩

theorem Hp.f6 {ok0 : Nat → Prop} {w0 w : World} {a b c d e f g : Ch} {L S : List Ch} (h : Hp ok0 w0 (a :: b :: c :: d :: e :: f :: g :: L) S w) : Hp ok0 w0 (g :: a :: b :: c :: d :: e :: f :: L) S w := h.perm (List.perm_middle (l₁ := [a, b, c, d, e, f])).symm

set_option maxRecDepth 100000 in
set_option maxHeartbeats 4000000 in
theorem c_lives17  : d4 Try.prog 9 #[] (.bool true) := by
 intro w0
 refine bR (ok0 := no) (S := []) (args := []) 83 Try.func9 rfl rfl rfl (by simp) (by simp) ?_
 refine ap ?_
 refine ah ?_
 refine au (aj rfl) rfl rfl ?_
 refine aa ?_
 refine am ?_
 refine ap ?_
 refine ah ?_
 refine au (bB rfl (bu_24)) rfl rfl ?_
 refine bh (vs := [_]) ([[66]] : List (aW)) bm Try.underlying105 bK rfl rfl rfl rfl rfl rfl (fun As1 => ?_)
 refine aS rfl bU rfl (ct _ _ _ (by decide)) (fun w hw => (ao (aP 0 rfl hw) aM)) ?_
 refine bh (vs := [_]) ([[97]] : List (aW)) bm Try.underlying105 bK rfl rfl rfl rfl rfl rfl (fun As2 => ?_)
 refine aS rfl bU rfl (ct _ _ _ (by decide)) (fun w hw => (ao (aP 0 rfl hw) aM)) ?_
 refine bh (vs := [_, _]) (p17a : List (Le)) bw Try.underlying22 a7 rfl rfl rfl rfl rfl rfl (fun As3 => ?_)
 refine au (bB rfl (ek _ _ _ _ _)) rfl rfl ?_
 refine bC rfl bz rfl (bJ 0 [] _ _ true 0 3 p17a _ _ [] none _ nofun p17a_tb (by decide) (by decide) (by decide) nofun) (fun w hw => (ao (cT) (ao (bM nofun) (ao (aP 0 rfl hw) (ao (bM p17a_rd) (ao (cT) aM)))))) (fun ⟨⟨ta, Aa, ca⟩, hta⟩ => ?_)
 refine du (t := 15) (.tuple #[.agg (dU 3 Aa ta.length ca).toArray, .int .i64 0]) rfl (by rw [ap17_a.1]; rfl) ?_
 have hta2 : ta.map (·.e) = r17a.map (·.e) := hta.trans ap17_a.2
 refine au (ak rfl) rfl rfl ?_
 refine au (aL rfl rfl) rfl rfl ?_
 refine au (aL rfl rfl) rfl rfl ?_
 refine bo bd rfl rfl (fun b5 => ?_)
 refine bf bd rfl rfl rfl .z rfl rfl rfl rfl ?_
 refine au (aj rfl) rfl rfl ?_
 refine aa ?_
 refine am ?_
 refine ga (σ := {q : List Le × Option Addr × Nat // q.1.map (·.e) = r17b.map (·.e)} × Nat) (fun g => [(3, .pointer (some ⟨g.2, 0, none⟩)), (4, .int .i64 0)]) (fun g => [Ch.rall (g.1.1.1.flatMap fv), Ch.ls g.1.1.2.1 g.1.1.2.2 44 7 dT g.1.1.1, Ch.row g.2 (dU 4 g.1.1.2.1 g.1.1.1.length g.1.1.2.2) 24, Ch.row b5 (dU 3 Aa ta.length ca) 24, Ch.ls Aa ca 44 7 dT ta]) (fun g => ?_) (fun J2 => ?_)
 obtain ⟨⟨⟨tb, Ab9, cb⟩, htb2⟩, q3⟩ := g
 dsimp only at htb2 ⊢
 refine ap ?_
 refine ah ?_
 refine au (bj 2 bd rfl rfl rfl rfl) rfl rfl ?_
 refine au (bB rfl (bu_27_0_2 _ _)) rfl rfl ?_
 refine bC rfl bz rfl (bJ 4 tb _ _ true 0 4 [] none _ [] none _ (r17b_tb htb2) nofun (by rw [eh htb2]; decide) (by decide) (by decide) nofun) (fun w hw => (ao (aP 1 rfl hw) (ao (cz 0 rfl hw) (ao (cT) (ao (bM nofun) (ao (cT) aM)))))) (fun ⟨⟨tc, Ac, cc⟩, htc⟩ => ?_)
 have hc9 : (bv 4 tb true 0 4 [] []).1 = 9 := ((cN htb2 rfl).1).trans ap17_c
 refine du (t := 33) (.tuple #[.agg (dU 0 Ac tc.length cc).toArray, .int .i64 9]) rfl (by rw [hc9]; rfl) ?_
 refine au (ak rfl) rfl rfl ?_
 refine au (aL rfl rfl) rfl rfl ?_
 refine au (aL rfl rfl) rfl rfl ?_
 refine bo bd rfl rfl (fun b7 => ?_)
 refine bf bd rfl rfl rfl .z rfl rfl rfl rfl ?_
 refine au (aj rfl) rfl rfl ?_
 refine aa ?_
 refine am ?_
 refine ap ?_
 refine eG 48 rfl mixed ?_
 refine aq (i := 0) rfl ae (ak rfl) aD aD rfl (ai ar) (by as_aux_lemma => kernel_rfl) rfl ?_
 refine aq (i := 1) rfl ae (bW rfl rfl) aD aD rfl (ai ar) (by as_aux_lemma => kernel_rfl) rfl ?_
 refine cH (t := 37) rfl rfl ?_
 refine aq (i := 2) rfl ae (ak rfl) aD aD rfl (ai ar) (by as_aux_lemma => kernel_rfl) rfl ?_
 refine aq (i := 3) rfl (ay rfl rfl) (aR cS rfl) aD aD rfl (ai ar) (by as_aux_lemma => kernel_rfl) rfl ?_
 refine aq (i := 4) rfl (ay rfl rfl) (aN 6 bX rfl rfl rfl) aD aD rfl (ai ar) (by as_aux_lemma => kernel_rfl) rfl ?_
 refine aq (i := 5) rfl (ay rfl rfl) (bu Try.underlying22 rfl) aD aD rfl (ai ar) (by as_aux_lemma => kernel_rfl) rfl ?_
 refine aq (i := 6) rfl (ay rfl rfl) (bW rfl rfl) aD aD rfl (ai ar) (by as_aux_lemma => kernel_rfl) rfl ?_
 refine cH (t := 42) rfl (by rw [eh hta2]; rfl) ?_
 refine aq (i := 7) rfl ae (aF rfl rfl) aD aD rfl (ai ar) (by as_aux_lemma => kernel_rfl) rfl ?_
 refine aq (i := 8) rfl ae (ak rfl) aD aD rfl (ai ar) (by as_aux_lemma => kernel_rfl) rfl ?_
 refine aq (i := 9) rfl (ay rfl rfl) (aR cS rfl) aD aD rfl (ai ar) (by as_aux_lemma => kernel_rfl) rfl ?_
 refine aq (i := 10) rfl (ay rfl rfl) (aN 6 bX rfl rfl rfl) aD aD rfl (ai ar) (by as_aux_lemma => kernel_rfl) rfl ?_
 refine aq (i := 11) rfl (ay rfl rfl) (co (k := 1) Try.underlying22 a7 rfl rfl (dS 7 rfl) rfl (by rw [eh hta2]; decide)) aD aD rfl (ai ar) (by as_aux_lemma => kernel_rfl) rfl ?_
 refine aq (i := 12) rfl (ay rfl rfl) (aR db rfl) aD aD rfl (ai ar) (by as_aux_lemma => kernel_rfl) rfl ?_
 refine aq (i := 13) rfl (ay rfl rfl) (cP (k := 1) bw bQ bN rfl (dS 7 rfl) (by rw [eh hta2]; decide) rfl rfl) aD aD rfl (ai ar) (by as_aux_lemma => kernel_rfl) rfl ?_
 refine aQ (i := 14) rfl rfl rfl (fun _ _ _ => az (by as_aux_lemma => kernel_rfl)) (by as_aux_lemma => kernel_rfl) rfl ?_
 refine av rfl rfl ?_
 refine bh (vs := [_]) ([[66]] : List (aW)) bm Try.underlying105 bK rfl rfl rfl rfl rfl rfl (fun As8 => ?_)
 refine aa ?_
 refine ax (aJ 1) ?_
 refine aQ (i := 15) rfl rfl rfl (aB rfl bp) (by as_aux_lemma => kernel_rfl) rfl ?_
 refine av rfl rfl ?_
 refine aS rfl bp rfl (bH _ _ _ (by decide)) (fun w hw => (ao (aP 0 rfl hw) aM)) ?_
 refine aa ?_
 refine ax (aJ 1) ?_
 refine aq (i := 16) rfl (ay rfl rfl) (d8 rfl rfl) (aJ 1) aD rfl (ai ar) (by as_aux_lemma => kernel_rfl) rfl ?_
 refine cH (t := 52) rfl (at17 hta2 rfl) ?_
 refine aq (i := 17) rfl ae (aF rfl rfl) (aJ 1) aD rfl (ai ar) (by as_aux_lemma => kernel_rfl) rfl ?_
 refine aq (i := 18) rfl ae (ak rfl) (aJ 1) aD rfl (ai ar) (by as_aux_lemma => kernel_rfl) rfl ?_
 refine aq (i := 19) rfl (ay rfl rfl) (ak rfl) (aJ 1) aD rfl (ai ar) (by as_aux_lemma => kernel_rfl) rfl ?_
 refine aq (i := 20) rfl (ay rfl rfl) (bW rfl rfl) (aJ 1) aD rfl (ai ar) (by as_aux_lemma => kernel_rfl) rfl ?_
 refine cH (t := 56) rfl rfl ?_
 refine aq (i := 21) rfl ae (aF rfl rfl) (aJ 1) aD rfl (ai ar) (by as_aux_lemma => kernel_rfl) rfl ?_
 refine aq (i := 22) rfl ae (ak rfl) (aJ 1) aD rfl (ai ar) (by as_aux_lemma => kernel_rfl) rfl ?_
 refine aq (i := 23) rfl (ay rfl rfl) (aR cS rfl) (aJ 1) aD rfl (ai ar) (by as_aux_lemma => kernel_rfl) rfl ?_
 refine aq (i := 24) rfl (ay rfl rfl) (aN 5 bX rfl rfl rfl) (aJ 1) aD rfl (ai ar) (by as_aux_lemma => kernel_rfl) rfl ?_
 refine aq (i := 25) rfl (ay rfl rfl) (bu Try.underlying22 rfl) (aJ 1) aD rfl (ai ar) (by as_aux_lemma => kernel_rfl) rfl ?_
 refine aq (i := 26) rfl (ay rfl rfl) (bW rfl rfl) (aJ 1) aD rfl (ai ar) (by as_aux_lemma => kernel_rfl) rfl ?_
 refine cH (t := 62) rfl (by rw [eh htb2]; rfl) ?_
 refine aq (i := 27) rfl ae (aF rfl rfl) (aJ 1) aD rfl (ai ar) (by as_aux_lemma => kernel_rfl) rfl ?_
 refine aq (i := 28) rfl ae (ak rfl) (aJ 1) aD rfl (ai ar) (by as_aux_lemma => kernel_rfl) rfl ?_
 refine aq (i := 29) rfl (ay rfl rfl) (aR cS rfl) (aJ 1) aD rfl (ai ar) (by as_aux_lemma => kernel_rfl) rfl ?_
 refine aq (i := 30) rfl (ay rfl rfl) (aN 5 bX rfl rfl rfl) (aJ 1) aD rfl (ai ar) (by as_aux_lemma => kernel_rfl) rfl ?_
 refine aq (i := 31) rfl (ay rfl rfl) (co (k := 1) Try.underlying22 a7 rfl rfl (dS 4 rfl) rfl (by rw [eh htb2]; decide)) (aJ 1) aD rfl (ai ar) (by as_aux_lemma => kernel_rfl) rfl ?_
 refine aq (i := 32) rfl (ay rfl rfl) (aR db rfl) (aJ 1) aD rfl (ai ar) (by as_aux_lemma => kernel_rfl) rfl ?_
 refine aq (i := 33) rfl (ay rfl rfl) (cP (k := 1) bw bQ bN rfl (dS 4 rfl) (by rw [eh htb2]; decide) rfl rfl) (aJ 1) aD rfl (ai ar) (by as_aux_lemma => kernel_rfl) rfl ?_
 refine aQ (i := 34) rfl rfl rfl (fun _ _ _ => az (by as_aux_lemma => kernel_rfl)) (by as_aux_lemma => kernel_rfl) rfl ?_
 refine av rfl rfl ?_
 refine bh (vs := [_]) ([[99]] : List (aW)) bm Try.underlying105 bK rfl rfl rfl rfl rfl rfl (fun As9 => ?_)
 refine aa ?_
 refine ax (aJ 2) ?_
 refine aQ (i := 35) rfl rfl rfl (aB rfl bp) (by as_aux_lemma => kernel_rfl) rfl ?_
 refine av rfl rfl ?_
 refine aS rfl bp rfl (bH _ _ _ (by decide)) (fun w hw => (ao (aP 0 rfl hw) aM)) ?_
 refine aa ?_
 refine ax (aJ 2) ?_
 refine aq (i := 36) rfl (ay rfl rfl) (d8 rfl rfl) (aJ 2) aD rfl (ai ar) (by as_aux_lemma => kernel_rfl) rfl ?_
 refine cH (t := 72) rfl (at17 htb2 rfl) ?_
 refine aq (i := 37) rfl ae (aF rfl rfl) (aJ 2) aD rfl (ai ar) (by as_aux_lemma => kernel_rfl) rfl ?_
 refine aq (i := 38) rfl ae (ak rfl) (aJ 2) aD rfl (ai ar) (by as_aux_lemma => kernel_rfl) rfl ?_
 refine aq (i := 39) rfl (ay rfl rfl) (aR eY rfl) (aJ 2) aD rfl (ai ar) (by as_aux_lemma => kernel_rfl) rfl ?_
 refine aq (i := 40) rfl (ay rfl rfl) (aN 5 d6 rfl rfl rfl) (aJ 2) aD rfl (ai ar) (by as_aux_lemma => kernel_rfl) rfl ?_
 refine aq (i := 41) rfl (ay rfl rfl) (bW rfl rfl) (aJ 2) aD rfl (ai ar) (by as_aux_lemma => kernel_rfl) rfl ?_
 refine cH (t := 77) rfl rfl ?_
 refine aq (i := 42) rfl ae (aF rfl rfl) (aJ 2) aD rfl (ai ar) (by as_aux_lemma => kernel_rfl) rfl ?_
 refine aq (i := 43) rfl ae (ak rfl) (aJ 2) aD rfl (ai ar) (by as_aux_lemma => kernel_rfl) rfl ?_
 refine aq (i := 44) rfl (ay rfl rfl) (ak rfl) (aJ 2) aD rfl (ai ar) (by as_aux_lemma => kernel_rfl) rfl ?_
 refine aq (i := 45) rfl (ay rfl rfl) (bW rfl rfl) (aJ 2) aD rfl (ai ar) (by as_aux_lemma => kernel_rfl) rfl ?_
 refine cH (t := 81) rfl rfl ?_
 refine aq (i := 46) rfl ae (aF rfl rfl) (aJ 2) aD rfl (ai ar) (by as_aux_lemma => kernel_rfl) rfl ?_
 refine aq (i := 47) rfl ae (aj rfl) (aJ 2) aD rfl (ai ar) (by as_aux_lemma => kernel_rfl) rfl ?_
 refine b0 (by as_aux_lemma => kernel_rfl) ?_
 refine am ?_
 refine aU ?_
 refine aX (ts := [0]) rfl rfl rfl (fun w hw => ?_)
 exact ⟨rfl, hw.base⟩
 refine ap ?_
 have htaok := r17a_tb hta2
 have htal : ta.length ≤ 1000 := by rw [eh hta2]; decide
 have hb9 := to17 hta2 ap17_b
 refine eG 15 rfl mixed ?_
 apply wu_k4 #[true, true, true, true, true, true, true, true, false, false, false, false, false, false, false] 7
 intro K2_16
 apply fP #[true, true, true, false, true, true, true, false, false, false, false, false, false, false, false] 9
 intro K2_15
 apply fP #[true, true, true, true, true, true, false, false, false, false, false, false, false, false, false] 9
 intro K2_14
 apply fP #[true, true, true, false, true, true, false, false, false, false, false, false, true, false, false] 9
 intro K2_13
 apply eO #[true, true, true, false, true, true, false, false, false, false, false, false, false, false, false] 10
 intro K2_12
 apply fP #[true, true, true, true, true, false, false, false, false, false, false, false, false, false, false] 10
 intro K2_11
 apply fP #[true, true, true, false, true, false, false, false, false, false, false, false, true, false, false] 10
 intro K2_7
 apply eO #[true, true, true, false, false, false, false, false, false, false, false, false, true, false, false] 11
 intro K2_10
 apply eO #[true, true, true, false, true, false, false, false, false, false, false, false, false, false, false] 11
 intro K2_9
 apply eO #[true, true, true, true, false, false, false, false, false, false, false, false, false, false, false] 11
 intro K2_8
 apply eO #[true, true, false, false, false, false, false, false, false, false, false, false, true, false, false] 12
 intro K2_6
 apply eO #[true, true, false, false, true, false, false, false, false, false, false, false, false, false, false] 12
 intro K2_5
 apply ft #[true, true, true, false, false, false, false, false, false, false, false, false, false, false, false] 12
 intro K2_4
 apply ft #[true, false, false, false, false, false, false, false, false, false, false, false, true, false, false] 13
 intro K2_3
 apply ft #[true, false, false, false, true, false, false, false, false, false, false, false, false, false, false] 13
 intro K2_2
 apply ft #[true, true, false, false, false, false, false, false, false, false, false, false, false, false, false] 13
 intro K2_1
 apply wu_k0 #[true, false, false, false, false, false, false, false, false, false, false, false, false, false, false] 14
 intro K2_0
 refine aq (i := 0) rfl ae (bj 0 bd rfl rfl rfl rfl) aD aD rfl (ai ar) (by as_aux_lemma => kernel_rfl) rfl ?_
 refine bn (listed' := #[true, false, false, false, false, false, false, false, false, false, false, false, false, false, false]) (by as_aux_lemma => kernel_rfl) ?_
 exact K2_0 _ bx
 refine bI (js := [1, 4, 12]) (by as_aux_lemma => kernel_rfl) rfl ?_
 refine aH (i := 1) rfl rfl rfl (fun _ _ _ => az (by as_aux_lemma => kernel_rfl)) rfl ?_ ?_
 refine bh (vs := [_]) ([[99]] : List (aW)) bm Try.underlying105 bK rfl rfl rfl rfl rfl rfl (fun As10 => ?_)
 refine aa ?_
 refine ax (aJ 1) ?_
 refine bn (listed' := #[true, true, false, false, false, false, false, false, false, false, false, false, false, false, false]) (by as_aux_lemma => kernel_rfl) ?_
 exact K2_1 As10 _ bx
 refine aH (i := 4) rfl rfl rfl (fun _ _ _ => az (by as_aux_lemma => kernel_rfl)) rfl ?_ ?_
 refine bh (vs := [_]) ([[98]] : List (aW)) bm Try.underlying105 bK rfl rfl rfl rfl rfl rfl (fun As11 => ?_)
 refine aa ?_
 refine ax (aJ 1) ?_
 refine bn (listed' := #[true, false, false, false, true, false, false, false, false, false, false, false, false, false, false]) (by as_aux_lemma => kernel_rfl) ?_
 exact K2_2 As11 _ bx
 refine aH (i := 12) rfl rfl rfl (fun _ _ _ => az (by as_aux_lemma => kernel_rfl)) rfl ?_ ?_
 refine bo bd rfl rfl (fun b12 => ?_)
 refine aa ?_
 refine ax (aJ 1) ?_
 refine bn (listed' := #[true, false, false, false, false, false, false, false, false, false, false, false, true, false, false]) (by as_aux_lemma => kernel_rfl) ?_
 exact K2_3 b12 _ bx
 exact br
 intro As10
 refine bI (js := [2, 4, 12]) (by as_aux_lemma => kernel_rfl) rfl ?_
 refine aH (i := 2) rfl rfl rfl (aB rfl bU) rfl ?_ ?_
 refine aS rfl bU rfl (ct _ _ _ (by decide)) (fun w hw => (ao (aP 0 rfl hw) aM)) ?_
 refine aa ?_
 refine ax (aJ 1) ?_
 refine bn (listed' := #[true, true, true, false, false, false, false, false, false, false, false, false, false, false, false]) (by as_aux_lemma => kernel_rfl) ?_
 exact K2_4 As10 _ bx
 refine aH (i := 4) rfl rfl rfl (fun _ _ _ => az (by as_aux_lemma => kernel_rfl)) rfl ?_ ?_
 refine bh (vs := [_]) ([[98]] : List (aW)) bm Try.underlying105 bK rfl rfl rfl rfl rfl rfl (fun As13 => ?_)
 refine aa ?_
 refine ax (aJ 2) ?_
 refine bn (listed' := #[true, true, false, false, true, false, false, false, false, false, false, false, false, false, false]) (by as_aux_lemma => kernel_rfl) ?_
 exact K2_5 As10 As13 _ bx
 refine aH (i := 12) rfl rfl rfl (fun _ _ _ => az (by as_aux_lemma => kernel_rfl)) rfl ?_ ?_
 refine bo bd rfl rfl (fun b14 => ?_)
 refine aa ?_
 refine ax (aJ 2) ?_
 refine bn (listed' := #[true, true, false, false, false, false, false, false, false, false, false, false, true, false, false]) (by as_aux_lemma => kernel_rfl) ?_
 exact K2_6 As10 b14 _ bx
 exact br
 intro As11
 refine bI (js := [1, 12]) (by as_aux_lemma => kernel_rfl) rfl ?_
 refine aH (i := 1) rfl rfl rfl (fun _ _ _ => az (by as_aux_lemma => kernel_rfl)) rfl ?_ ?_
 refine bh (vs := [_]) ([[99]] : List (aW)) bm Try.underlying105 bK rfl rfl rfl rfl rfl rfl (fun As15 => ?_)
 refine aa ?_
 refine ax (aJ 2) ?_
 refine cA (fun w h => h.f1) ?_
 refine bn (listed' := #[true, true, false, false, true, false, false, false, false, false, false, false, false, false, false]) (by as_aux_lemma => kernel_rfl) ?_
 exact K2_5 As15 As11 _ (by repeat (first | exact trivial | refine ⟨rfl, ?_⟩))
 refine aH (i := 12) rfl rfl rfl (fun _ _ _ => az (by as_aux_lemma => kernel_rfl)) rfl ?_ ?_
 refine bo bd rfl rfl (fun b16 => ?_)
 refine aa ?_
 refine ax (aJ 2) ?_
 refine aQ (i := 1) rfl rfl rfl (fun _ _ _ => az (by as_aux_lemma => kernel_rfl)) (by as_aux_lemma => kernel_rfl) rfl ?_
 refine bh (vs := [_]) ([[99]] : List (aW)) bm Try.underlying105 bK rfl rfl rfl rfl rfl rfl (fun As17 => ?_)
 refine aa ?_
 refine ax (aJ 3) ?_
 refine aQ (i := 2) rfl rfl rfl (aB rfl bU) (by as_aux_lemma => kernel_rfl) rfl ?_
 refine aS rfl bU rfl (ct _ _ _ (by decide)) (fun w hw => (ao (aP 0 rfl hw) aM)) ?_
 refine aa ?_
 refine ax (aJ 3) ?_
 refine bn (listed' := #[true, true, true, false, true, false, false, false, false, false, false, false, true, false, false]) (by as_aux_lemma => kernel_rfl) ?_
 exact K2_7 As11 b16 As17 _ bx
 exact br
 intro b12
 refine bI (js := [1, 4]) (by as_aux_lemma => kernel_rfl) rfl ?_
 refine aH (i := 1) rfl rfl rfl (fun _ _ _ => az (by as_aux_lemma => kernel_rfl)) rfl ?_ ?_
 refine bh (vs := [_]) ([[99]] : List (aW)) bm Try.underlying105 bK rfl rfl rfl rfl rfl rfl (fun As18 => ?_)
 refine aa ?_
 refine ax (aJ 2) ?_
 refine cA (fun w h => h.f1) ?_
 refine bn (listed' := #[true, true, false, false, false, false, false, false, false, false, false, false, true, false, false]) (by as_aux_lemma => kernel_rfl) ?_
 exact K2_6 As18 b12 _ (by repeat (first | exact trivial | refine ⟨rfl, ?_⟩))
 refine aH (i := 4) rfl rfl rfl (fun _ _ _ => az (by as_aux_lemma => kernel_rfl)) rfl ?_ ?_
 refine bh (vs := [_]) ([[98]] : List (aW)) bm Try.underlying105 bK rfl rfl rfl rfl rfl rfl (fun As19 => ?_)
 refine aa ?_
 refine ax (aJ 2) ?_
 refine aQ (i := 1) rfl rfl rfl (fun _ _ _ => az (by as_aux_lemma => kernel_rfl)) (by as_aux_lemma => kernel_rfl) rfl ?_
 refine bh (vs := [_]) ([[99]] : List (aW)) bm Try.underlying105 bK rfl rfl rfl rfl rfl rfl (fun As20 => ?_)
 refine aa ?_
 refine ax (aJ 3) ?_
 refine aQ (i := 2) rfl rfl rfl (aB rfl bU) (by as_aux_lemma => kernel_rfl) rfl ?_
 refine aS rfl bU rfl (ct _ _ _ (by decide)) (fun w hw => (ao (aP 0 rfl hw) aM)) ?_
 refine aa ?_
 refine ax (aJ 3) ?_
 refine cA (fun w h => h.f1.f2.f2) ?_
 refine bn (listed' := #[true, true, true, false, true, false, false, false, false, false, false, false, true, false, false]) (by as_aux_lemma => kernel_rfl) ?_
 exact K2_7 As19 b12 As20 _ (by repeat (first | exact trivial | refine ⟨rfl, ?_⟩))
 exact br
 intro As10
 refine bI (js := [3, 4, 12]) (by as_aux_lemma => kernel_rfl) rfl ?_
 refine aH (i := 3) rfl rfl rfl (fun _ _ _ => az (by as_aux_lemma => kernel_rfl)) rfl ?_ ?_
 refine bh (vs := [_]) (p17b : List (Le)) bw Try.underlying22 a7 rfl rfl rfl rfl rfl rfl (fun As21 => ?_)
 refine aa ?_
 refine ax (aJ 2) ?_
 refine bn (listed' := #[true, true, true, true, false, false, false, false, false, false, false, false, false, false, false]) (by as_aux_lemma => kernel_rfl) ?_
 exact K2_8 As10 As21 _ bx
 refine aH (i := 4) rfl rfl rfl (fun _ _ _ => az (by as_aux_lemma => kernel_rfl)) rfl ?_ ?_
 refine bh (vs := [_]) ([[98]] : List (aW)) bm Try.underlying105 bK rfl rfl rfl rfl rfl rfl (fun As22 => ?_)
 refine aa ?_
 refine ax (aJ 2) ?_
 refine bn (listed' := #[true, true, true, false, true, false, false, false, false, false, false, false, false, false, false]) (by as_aux_lemma => kernel_rfl) ?_
 exact K2_9 As10 As22 _ bx
 refine aH (i := 12) rfl rfl rfl (fun _ _ _ => az (by as_aux_lemma => kernel_rfl)) rfl ?_ ?_
 refine bo bd rfl rfl (fun b23 => ?_)
 refine aa ?_
 refine ax (aJ 2) ?_
 refine bn (listed' := #[true, true, true, false, false, false, false, false, false, false, false, false, true, false, false]) (by as_aux_lemma => kernel_rfl) ?_
 exact K2_10 As10 b23 _ bx
 exact br
 intro As10 As13
 refine bI (js := [2, 12]) (by as_aux_lemma => kernel_rfl) rfl ?_
 refine aH (i := 2) rfl rfl rfl (aB rfl bU) rfl ?_ ?_
 refine aS rfl bU rfl (ct _ _ _ (by decide)) (fun w hw => (ao (aP 1 rfl hw) aM)) ?_
 refine aa ?_
 refine ax (aJ 2) ?_
 refine bn (listed' := #[true, true, true, false, true, false, false, false, false, false, false, false, false, false, false]) (by as_aux_lemma => kernel_rfl) ?_
 exact K2_9 As10 As13 _ (by repeat (first | exact trivial | refine ⟨rfl, ?_⟩))
 refine aH (i := 12) rfl rfl rfl (fun _ _ _ => az (by as_aux_lemma => kernel_rfl)) rfl ?_ ?_
 refine bo bd rfl rfl (fun b24 => ?_)
 refine aa ?_
 refine ax (aJ 3) ?_
 refine aQ (i := 2) rfl rfl rfl (aB rfl bU) (by as_aux_lemma => kernel_rfl) rfl ?_
 refine aS rfl bU rfl (ct _ _ _ (by decide)) (fun w hw => (ao (aP 2 rfl hw) aM)) ?_
 refine aa ?_
 refine ax (aJ 3) ?_
 refine cA (fun w h => h.f1.f1.f2) ?_
 refine bn (listed' := #[true, true, true, false, true, false, false, false, false, false, false, false, true, false, false]) (by as_aux_lemma => kernel_rfl) ?_
 exact K2_7 As13 b24 As10 _ (by repeat (first | exact trivial | refine ⟨rfl, ?_⟩))
 exact br
 intro As10 b14
 refine bI (js := [2, 4]) (by as_aux_lemma => kernel_rfl) rfl ?_
 refine aH (i := 2) rfl rfl rfl (aB rfl bU) rfl ?_ ?_
 refine aS rfl bU rfl (ct _ _ _ (by decide)) (fun w hw => (ao (aP 1 rfl hw) aM)) ?_
 refine aa ?_
 refine ax (aJ 2) ?_
 refine bn (listed' := #[true, true, true, false, false, false, false, false, false, false, false, false, true, false, false]) (by as_aux_lemma => kernel_rfl) ?_
 exact K2_10 As10 b14 _ (by repeat (first | exact trivial | refine ⟨rfl, ?_⟩))
 refine aH (i := 4) rfl rfl rfl (fun _ _ _ => az (by as_aux_lemma => kernel_rfl)) rfl ?_ ?_
 refine bh (vs := [_]) ([[98]] : List (aW)) bm Try.underlying105 bK rfl rfl rfl rfl rfl rfl (fun As25 => ?_)
 refine aa ?_
 refine ax (aJ 3) ?_
 refine aQ (i := 2) rfl rfl rfl (aB rfl bU) (by as_aux_lemma => kernel_rfl) rfl ?_
 refine aS rfl bU rfl (ct _ _ _ (by decide)) (fun w hw => (ao (aP 2 rfl hw) aM)) ?_
 refine aa ?_
 refine ax (aJ 3) ?_
 refine cA (fun w h => h.f1.f2) ?_
 refine bn (listed' := #[true, true, true, false, true, false, false, false, false, false, false, false, true, false, false]) (by as_aux_lemma => kernel_rfl) ?_
 exact K2_7 As25 b14 As10 _ (by repeat (first | exact trivial | refine ⟨rfl, ?_⟩))
 exact br
 intro As10 As21
 refine bI (js := [4, 12]) (by as_aux_lemma => kernel_rfl) rfl ?_
 refine aH (i := 4) rfl rfl rfl (fun _ _ _ => az (by as_aux_lemma => kernel_rfl)) rfl ?_ ?_
 refine bh (vs := [_]) ([[98]] : List (aW)) bm Try.underlying105 bK rfl rfl rfl rfl rfl rfl (fun As26 => ?_)
 refine aa ?_
 refine ax (aJ 3) ?_
 refine bn (listed' := #[true, true, true, true, true, false, false, false, false, false, false, false, false, false, false]) (by as_aux_lemma => kernel_rfl) ?_
 exact K2_11 As10 As21 As26 _ bx
 refine aH (i := 12) rfl rfl rfl (fun _ _ _ => az (by as_aux_lemma => kernel_rfl)) rfl ?_ ?_
 refine bo bd rfl rfl (fun b27 => ?_)
 refine aa ?_
 refine ax (aJ 3) ?_
 refine aQ (i := 4) rfl rfl rfl (fun _ _ _ => az (by as_aux_lemma => kernel_rfl)) (by as_aux_lemma => kernel_rfl) rfl ?_
 refine bh (vs := [_]) ([[98]] : List (aW)) bm Try.underlying105 bK rfl rfl rfl rfl rfl rfl (fun As28 => ?_)
 refine aa ?_
 refine ax (aJ 4) ?_
 refine aQ (i := 5) rfl rfl rfl (aB rfl bp) (by as_aux_lemma => kernel_rfl) rfl ?_
 refine aS rfl bp rfl (bH _ _ _ (by decide)) (fun w hw => (ao (aP 0 rfl hw) aM)) ?_
 refine aa ?_
 refine ax (aJ 4) ?_
 refine aQ (i := 6) rfl rfl rfl (fun _ _ _ => az (by as_aux_lemma => kernel_rfl)) (by as_aux_lemma => kernel_rfl) rfl ?_
 refine bh (vs := [_]) ([cQ 98] : List (aW)) bm Try.underlying25 bN rfl rfl rfl rfl rfl rfl (fun As29 => ?_)
 refine aa ?_
 refine ax (aJ 5) ?_
 refine aq (i := 7) rfl ae (bB rfl (bF _ _ _ _ _ _ _ _)) (aJ 5) aD rfl (ai ar) (by as_aux_lemma => kernel_rfl) rfl ?_
 refine aQ (i := 8) rfl rfl rfl (aB rfl bz) (by as_aux_lemma => kernel_rfl) rfl ?_
 refine bC rfl bz rfl (bJ 3 ta _ _ false 3 4 p17b _ _ [cQ 98] _ _ htaok ed htal (by decide) (by decide) dM) (fun w hw => (ao (aP 7 rfl hw) (ao (cz 6 rfl hw) (ao (aP 3 rfl hw) (ao (bM ee) (ao (aP 0 rfl hw) aM)))))) (fun ⟨⟨tb, Ab, cb⟩, htb⟩ => ?_)
 refine aa ?_
 refine ax (aJ 7) ?_
 refine bO (t := 27) (.tuple #[.agg (dU 4 Ab tb.length cb).toArray, .int .i64 0]) rfl (by rw [hb9.1]; rfl) ?_
 have htb2 : tb.map (·.e) = r17b.map (·.e) := htb.trans hb9.2
 refine aq (i := 9) rfl ae (ak rfl) (aJ 7) aD rfl (ai ar) (by as_aux_lemma => kernel_rfl) rfl ?_
 refine aq (i := 10) rfl ae (aL rfl rfl) (aJ 7) aD rfl (ai ar) (by as_aux_lemma => kernel_rfl) rfl ?_
 refine aq (i := 11) rfl ae (aL rfl rfl) (aJ 7) aD rfl (ai ar) (by as_aux_lemma => kernel_rfl) rfl ?_
 refine aQ (i := 13) rfl rfl rfl (fun _ _ _ => az (by as_aux_lemma => kernel_rfl)) (by as_aux_lemma => kernel_rfl) rfl ?_
 refine bf bd rfl rfl rfl (.s (.s (.s (.s (.z))))) rfl rfl rfl rfl ?_
 refine aa ?_
 refine ax (aJ 7) ?_
 refine aq (i := 14) rfl ae (aj rfl) (aJ 7) aD rfl (ai ar) (by as_aux_lemma => kernel_rfl) rfl ?_
 refine b0 (by as_aux_lemma => kernel_rfl) ?_
 refine am ?_
 refine cu (fun w h => (h.weak (.cons_cons _ (.cons_cons _ (.cons _ (.cons _ (.cons_cons _ (.cons _ (.cons _ (.cons_cons _ (.cons _ (.cons_cons _ (.cons _ (.cons _ (.cons _ .slnil))))))))))))) (fun s hs => hs)).f4.f4.f4.f4.f4) ?_
 exact J2 (⟨(tb, Ab, cb), htb2⟩, b27) _ (by repeat (first | exact trivial | refine ⟨rfl, ?_⟩))
 exact br
 intro As10 As22
 refine bI (js := [3, 5, 12]) (by as_aux_lemma => kernel_rfl) rfl ?_
 refine aH (i := 3) rfl rfl rfl (fun _ _ _ => az (by as_aux_lemma => kernel_rfl)) rfl ?_ ?_
 refine bh (vs := [_]) (p17b : List (Le)) bw Try.underlying22 a7 rfl rfl rfl rfl rfl rfl (fun As31 => ?_)
 refine aa ?_
 refine ax (aJ 3) ?_
 refine cA (fun w h => h.f2.f1.f2) ?_
 refine bn (listed' := #[true, true, true, true, true, false, false, false, false, false, false, false, false, false, false]) (by as_aux_lemma => kernel_rfl) ?_
 exact K2_11 As10 As31 As22 _ (by repeat (first | exact trivial | refine ⟨rfl, ?_⟩))
 refine aH (i := 5) rfl rfl rfl (aB rfl bp) rfl ?_ ?_
 refine aS rfl bp rfl (bH _ _ _ (by decide)) (fun w hw => (ao (aP 0 rfl hw) aM)) ?_
 refine aa ?_
 refine ax (aJ 2) ?_
 refine bn (listed' := #[true, true, true, false, true, true, false, false, false, false, false, false, false, false, false]) (by as_aux_lemma => kernel_rfl) ?_
 exact K2_12 As10 As22 _ bx
 refine aH (i := 12) rfl rfl rfl (fun _ _ _ => az (by as_aux_lemma => kernel_rfl)) rfl ?_ ?_
 refine bo bd rfl rfl (fun b32 => ?_)
 refine aa ?_
 refine ax (aJ 3) ?_
 refine cA (fun w h => h.f1.f1.f2) ?_
 refine bn (listed' := #[true, true, true, false, true, false, false, false, false, false, false, false, true, false, false]) (by as_aux_lemma => kernel_rfl) ?_
 exact K2_7 As22 b32 As10 _ (by repeat (first | exact trivial | refine ⟨rfl, ?_⟩))
 exact br
 intro As10 b23
 refine bI (js := [3, 4]) (by as_aux_lemma => kernel_rfl) rfl ?_
 refine aH (i := 3) rfl rfl rfl (fun _ _ _ => az (by as_aux_lemma => kernel_rfl)) rfl ?_ ?_
 refine bh (vs := [_]) (p17b : List (Le)) bw Try.underlying22 a7 rfl rfl rfl rfl rfl rfl (fun As33 => ?_)
 refine aa ?_
 refine ax (aJ 3) ?_
 refine aQ (i := 4) rfl rfl rfl (fun _ _ _ => az (by as_aux_lemma => kernel_rfl)) (by as_aux_lemma => kernel_rfl) rfl ?_
 refine bh (vs := [_]) ([[98]] : List (aW)) bm Try.underlying105 bK rfl rfl rfl rfl rfl rfl (fun As34 => ?_)
 refine aa ?_
 refine ax (aJ 4) ?_
 refine aQ (i := 5) rfl rfl rfl (aB rfl bp) (by as_aux_lemma => kernel_rfl) rfl ?_
 refine aS rfl bp rfl (bH _ _ _ (by decide)) (fun w hw => (ao (aP 0 rfl hw) aM)) ?_
 refine aa ?_
 refine ax (aJ 4) ?_
 refine aQ (i := 6) rfl rfl rfl (fun _ _ _ => az (by as_aux_lemma => kernel_rfl)) (by as_aux_lemma => kernel_rfl) rfl ?_
 refine bh (vs := [_]) ([cQ 98] : List (aW)) bm Try.underlying25 bN rfl rfl rfl rfl rfl rfl (fun As35 => ?_)
 refine aa ?_
 refine ax (aJ 5) ?_
 refine aq (i := 7) rfl ae (bB rfl (bF _ _ _ _ _ _ _ _)) (aJ 5) aD rfl (ai ar) (by as_aux_lemma => kernel_rfl) rfl ?_
 refine aQ (i := 8) rfl rfl rfl (aB rfl bz) (by as_aux_lemma => kernel_rfl) rfl ?_
 refine bC rfl bz rfl (bJ 3 ta _ _ false 3 4 p17b _ _ [cQ 98] _ _ htaok ed htal (by decide) (by decide) dM) (fun w hw => (ao (aP 7 rfl hw) (ao (cz 6 rfl hw) (ao (aP 2 rfl hw) (ao (bM ee) (ao (aP 0 rfl hw) aM)))))) (fun ⟨⟨tb, Ab, cb⟩, htb⟩ => ?_)
 refine aa ?_
 refine ax (aJ 7) ?_
 refine bO (t := 27) (.tuple #[.agg (dU 4 Ab tb.length cb).toArray, .int .i64 0]) rfl (by rw [hb9.1]; rfl) ?_
 have htb2 : tb.map (·.e) = r17b.map (·.e) := htb.trans hb9.2
 refine aq (i := 9) rfl ae (ak rfl) (aJ 7) aD rfl (ai ar) (by as_aux_lemma => kernel_rfl) rfl ?_
 refine aq (i := 10) rfl ae (aL rfl rfl) (aJ 7) aD rfl (ai ar) (by as_aux_lemma => kernel_rfl) rfl ?_
 refine aq (i := 11) rfl ae (aL rfl rfl) (aJ 7) aD rfl (ai ar) (by as_aux_lemma => kernel_rfl) rfl ?_
 refine aQ (i := 13) rfl rfl rfl (fun _ _ _ => az (by as_aux_lemma => kernel_rfl)) (by as_aux_lemma => kernel_rfl) rfl ?_
 refine bf bd rfl rfl rfl (.s (.s (.s (.s (.s (.z)))))) rfl rfl rfl rfl ?_
 refine aa ?_
 refine ax (aJ 7) ?_
 refine aq (i := 14) rfl ae (aj rfl) (aJ 7) aD rfl (ai ar) (by as_aux_lemma => kernel_rfl) rfl ?_
 refine b0 (by as_aux_lemma => kernel_rfl) ?_
 refine am ?_
 refine cu (fun w h => (h.weak (.cons_cons _ (.cons_cons _ (.cons _ (.cons _ (.cons _ (.cons_cons _ (.cons _ (.cons_cons _ (.cons _ (.cons_cons _ (.cons _ (.cons _ (.cons _ .slnil))))))))))))) (fun s hs => hs)).f4.f4.f4.f4.f4) ?_
 exact J2 (⟨(tb, Ab, cb), htb2⟩, b23) _ (by repeat (first | exact trivial | refine ⟨rfl, ?_⟩))
 refine aH (i := 4) rfl rfl rfl (fun _ _ _ => az (by as_aux_lemma => kernel_rfl)) rfl ?_ ?_
 refine bh (vs := [_]) ([[98]] : List (aW)) bm Try.underlying105 bK rfl rfl rfl rfl rfl rfl (fun As37 => ?_)
 refine aa ?_
 refine ax (aJ 3) ?_
 refine cA (fun w h => h.f1.f2) ?_
 refine bn (listed' := #[true, true, true, false, true, false, false, false, false, false, false, false, true, false, false]) (by as_aux_lemma => kernel_rfl) ?_
 exact K2_7 As37 b23 As10 _ (by repeat (first | exact trivial | refine ⟨rfl, ?_⟩))
 exact br
 intro As11 b16 As17
 refine bI (js := [3, 5]) (by as_aux_lemma => kernel_rfl) rfl ?_
 refine aH (i := 3) rfl rfl rfl (fun _ _ _ => az (by as_aux_lemma => kernel_rfl)) rfl ?_ ?_
 refine bh (vs := [_]) (p17b : List (Le)) bw Try.underlying22 a7 rfl rfl rfl rfl rfl rfl (fun As38 => ?_)
 refine aa ?_
 refine ax (aJ 4) ?_
 refine aQ (i := 5) rfl rfl rfl (aB rfl bp) (by as_aux_lemma => kernel_rfl) rfl ?_
 refine aS rfl bp rfl (bH _ _ _ (by decide)) (fun w hw => (ao (aP 3 rfl hw) aM)) ?_
 refine aa ?_
 refine ax (aJ 4) ?_
 refine aQ (i := 6) rfl rfl rfl (fun _ _ _ => az (by as_aux_lemma => kernel_rfl)) (by as_aux_lemma => kernel_rfl) rfl ?_
 refine bh (vs := [_]) ([cQ 98] : List (aW)) bm Try.underlying25 bN rfl rfl rfl rfl rfl rfl (fun As39 => ?_)
 refine aa ?_
 refine ax (aJ 5) ?_
 refine aq (i := 7) rfl ae (bB rfl (bF _ _ _ _ _ _ _ _)) (aJ 5) aD rfl (ai ar) (by as_aux_lemma => kernel_rfl) rfl ?_
 refine aQ (i := 8) rfl rfl rfl (aB rfl bz) (by as_aux_lemma => kernel_rfl) rfl ?_
 refine bC rfl bz rfl (bJ 3 ta _ _ false 3 4 p17b _ _ [cQ 98] _ _ htaok ed htal (by decide) (by decide) dM) (fun w hw => (ao (aP 7 rfl hw) (ao (cz 6 rfl hw) (ao (aP 1 rfl hw) (ao (bM ee) (ao (aP 0 rfl hw) aM)))))) (fun ⟨⟨tb, Ab, cb⟩, htb⟩ => ?_)
 refine aa ?_
 refine ax (aJ 7) ?_
 refine bO (t := 27) (.tuple #[.agg (dU 4 Ab tb.length cb).toArray, .int .i64 0]) rfl (by rw [hb9.1]; rfl) ?_
 have htb2 : tb.map (·.e) = r17b.map (·.e) := htb.trans hb9.2
 refine aq (i := 9) rfl ae (ak rfl) (aJ 7) aD rfl (ai ar) (by as_aux_lemma => kernel_rfl) rfl ?_
 refine aq (i := 10) rfl ae (aL rfl rfl) (aJ 7) aD rfl (ai ar) (by as_aux_lemma => kernel_rfl) rfl ?_
 refine aq (i := 11) rfl ae (aL rfl rfl) (aJ 7) aD rfl (ai ar) (by as_aux_lemma => kernel_rfl) rfl ?_
 refine aQ (i := 13) rfl rfl rfl (fun _ _ _ => az (by as_aux_lemma => kernel_rfl)) (by as_aux_lemma => kernel_rfl) rfl ?_
 refine bf bd rfl rfl rfl (.s (.s (.s (.s (.s (.z)))))) rfl rfl rfl rfl ?_
 refine aa ?_
 refine ax (aJ 7) ?_
 refine aq (i := 14) rfl ae (aj rfl) (aJ 7) aD rfl (ai ar) (by as_aux_lemma => kernel_rfl) rfl ?_
 refine b0 (by as_aux_lemma => kernel_rfl) ?_
 refine am ?_
 refine cu (fun w h => (h.weak (.cons_cons _ (.cons_cons _ (.cons _ (.cons _ (.cons _ (.cons_cons _ (.cons _ (.cons_cons _ (.cons _ (.cons_cons _ (.cons _ (.cons _ (.cons _ .slnil))))))))))))) (fun s hs => hs)).f4.f4.f4.f4.f4) ?_
 exact J2 (⟨(tb, Ab, cb), htb2⟩, b16) _ (by repeat (first | exact trivial | refine ⟨rfl, ?_⟩))
 refine aH (i := 5) rfl rfl rfl (aB rfl bp) rfl ?_ ?_
 refine aS rfl bp rfl (bH _ _ _ (by decide)) (fun w hw => (ao (aP 2 rfl hw) aM)) ?_
 refine aa ?_
 refine ax (aJ 3) ?_
 refine bn (listed' := #[true, true, true, false, true, true, false, false, false, false, false, false, true, false, false]) (by as_aux_lemma => kernel_rfl) ?_
 exact K2_13 As11 b16 As17 _ bx
 exact br
 intro As10 As21 As26
 refine bI (js := [5, 12]) (by as_aux_lemma => kernel_rfl) rfl ?_
 refine aH (i := 5) rfl rfl rfl (aB rfl bp) rfl ?_ ?_
 refine aS rfl bp rfl (bH _ _ _ (by decide)) (fun w hw => (ao (aP 0 rfl hw) aM)) ?_
 refine aa ?_
 refine ax (aJ 3) ?_
 refine bn (listed' := #[true, true, true, true, true, true, false, false, false, false, false, false, false, false, false]) (by as_aux_lemma => kernel_rfl) ?_
 exact K2_14 As10 As21 As26 _ bx
 refine aH (i := 12) rfl rfl rfl (fun _ _ _ => az (by as_aux_lemma => kernel_rfl)) rfl ?_ ?_
 refine bo bd rfl rfl (fun b41 => ?_)
 refine aa ?_
 refine ax (aJ 4) ?_
 refine aQ (i := 5) rfl rfl rfl (aB rfl bp) (by as_aux_lemma => kernel_rfl) rfl ?_
 refine aS rfl bp rfl (bH _ _ _ (by decide)) (fun w hw => (ao (aP 1 rfl hw) aM)) ?_
 refine aa ?_
 refine ax (aJ 4) ?_
 refine aQ (i := 6) rfl rfl rfl (fun _ _ _ => az (by as_aux_lemma => kernel_rfl)) (by as_aux_lemma => kernel_rfl) rfl ?_
 refine bh (vs := [_]) ([cQ 98] : List (aW)) bm Try.underlying25 bN rfl rfl rfl rfl rfl rfl (fun As42 => ?_)
 refine aa ?_
 refine ax (aJ 5) ?_
 refine aq (i := 7) rfl ae (bB rfl (bF _ _ _ _ _ _ _ _)) (aJ 5) aD rfl (ai ar) (by as_aux_lemma => kernel_rfl) rfl ?_
 refine aQ (i := 8) rfl rfl rfl (aB rfl bz) (by as_aux_lemma => kernel_rfl) rfl ?_
 refine bC rfl bz rfl (bJ 3 ta _ _ false 3 4 p17b _ _ [cQ 98] _ _ htaok ed htal (by decide) (by decide) dM) (fun w hw => (ao (aP 7 rfl hw) (ao (cz 6 rfl hw) (ao (aP 3 rfl hw) (ao (bM ee) (ao (aP 0 rfl hw) aM)))))) (fun ⟨⟨tb, Ab, cb⟩, htb⟩ => ?_)
 refine aa ?_
 refine ax (aJ 7) ?_
 refine bO (t := 27) (.tuple #[.agg (dU 4 Ab tb.length cb).toArray, .int .i64 0]) rfl (by rw [hb9.1]; rfl) ?_
 have htb2 : tb.map (·.e) = r17b.map (·.e) := htb.trans hb9.2
 refine aq (i := 9) rfl ae (ak rfl) (aJ 7) aD rfl (ai ar) (by as_aux_lemma => kernel_rfl) rfl ?_
 refine aq (i := 10) rfl ae (aL rfl rfl) (aJ 7) aD rfl (ai ar) (by as_aux_lemma => kernel_rfl) rfl ?_
 refine aq (i := 11) rfl ae (aL rfl rfl) (aJ 7) aD rfl (ai ar) (by as_aux_lemma => kernel_rfl) rfl ?_
 refine aQ (i := 13) rfl rfl rfl (fun _ _ _ => az (by as_aux_lemma => kernel_rfl)) (by as_aux_lemma => kernel_rfl) rfl ?_
 refine bf bd rfl rfl rfl (.s (.s (.s (.z)))) rfl rfl rfl rfl ?_
 refine aa ?_
 refine ax (aJ 7) ?_
 refine aq (i := 14) rfl ae (aj rfl) (aJ 7) aD rfl (ai ar) (by as_aux_lemma => kernel_rfl) rfl ?_
 refine b0 (by as_aux_lemma => kernel_rfl) ?_
 refine am ?_
 refine cu (fun w h => (h.weak (.cons_cons _ (.cons_cons _ (.cons _ (.cons_cons _ (.cons _ (.cons _ (.cons _ (.cons_cons _ (.cons _ (.cons_cons _ (.cons _ (.cons _ (.cons _ .slnil))))))))))))) (fun s hs => hs)).f4.f4.f4.f4.f4) ?_
 exact J2 (⟨(tb, Ab, cb), htb2⟩, b41) _ (by repeat (first | exact trivial | refine ⟨rfl, ?_⟩))
 exact br
 intro As10 As22
 refine bI (js := [3, 6, 12]) (by as_aux_lemma => kernel_rfl) rfl ?_
 refine aH (i := 3) rfl rfl rfl (fun _ _ _ => az (by as_aux_lemma => kernel_rfl)) rfl ?_ ?_
 refine bh (vs := [_]) (p17b : List (Le)) bw Try.underlying22 a7 rfl rfl rfl rfl rfl rfl (fun As44 => ?_)
 refine aa ?_
 refine ax (aJ 3) ?_
 refine cA (fun w h => h.f2.f1.f2) ?_
 refine bn (listed' := #[true, true, true, true, true, true, false, false, false, false, false, false, false, false, false]) (by as_aux_lemma => kernel_rfl) ?_
 exact K2_14 As10 As44 As22 _ (by repeat (first | exact trivial | refine ⟨rfl, ?_⟩))
 refine aH (i := 6) rfl rfl rfl (fun _ _ _ => az (by as_aux_lemma => kernel_rfl)) rfl ?_ ?_
 refine bh (vs := [_]) ([cQ 98] : List (aW)) bm Try.underlying25 bN rfl rfl rfl rfl rfl rfl (fun As45 => ?_)
 refine aa ?_
 refine ax (aJ 3) ?_
 refine bn (listed' := #[true, true, true, false, true, true, true, false, false, false, false, false, false, false, false]) (by as_aux_lemma => kernel_rfl) ?_
 exact K2_15 As10 As22 As45 _ bx
 refine aH (i := 12) rfl rfl rfl (fun _ _ _ => az (by as_aux_lemma => kernel_rfl)) rfl ?_ ?_
 refine bo bd rfl rfl (fun b46 => ?_)
 refine aa ?_
 refine ax (aJ 3) ?_
 refine cA (fun w h => h.f1.f1.f2) ?_
 refine bn (listed' := #[true, true, true, false, true, true, false, false, false, false, false, false, true, false, false]) (by as_aux_lemma => kernel_rfl) ?_
 exact K2_13 As22 b46 As10 _ (by repeat (first | exact trivial | refine ⟨rfl, ?_⟩))
 exact br
 intro As11 b16 As17
 refine bI (js := [3, 6]) (by as_aux_lemma => kernel_rfl) rfl ?_
 refine aH (i := 3) rfl rfl rfl (fun _ _ _ => az (by as_aux_lemma => kernel_rfl)) rfl ?_ ?_
 refine bh (vs := [_]) (p17b : List (Le)) bw Try.underlying22 a7 rfl rfl rfl rfl rfl rfl (fun As47 => ?_)
 refine aa ?_
 refine ax (aJ 4) ?_
 refine aQ (i := 6) rfl rfl rfl (fun _ _ _ => az (by as_aux_lemma => kernel_rfl)) (by as_aux_lemma => kernel_rfl) rfl ?_
 refine bh (vs := [_]) ([cQ 98] : List (aW)) bm Try.underlying25 bN rfl rfl rfl rfl rfl rfl (fun As48 => ?_)
 refine aa ?_
 refine ax (aJ 5) ?_
 refine aq (i := 7) rfl ae (bB rfl (bF _ _ _ _ _ _ _ _)) (aJ 5) aD rfl (ai ar) (by as_aux_lemma => kernel_rfl) rfl ?_
 refine aQ (i := 8) rfl rfl rfl (aB rfl bz) (by as_aux_lemma => kernel_rfl) rfl ?_
 refine bC rfl bz rfl (bJ 3 ta _ _ false 3 4 p17b _ _ [cQ 98] _ _ htaok ed htal (by decide) (by decide) dM) (fun w hw => (ao (aP 7 rfl hw) (ao (cz 6 rfl hw) (ao (aP 1 rfl hw) (ao (bM ee) (ao (aP 0 rfl hw) aM)))))) (fun ⟨⟨tb, Ab, cb⟩, htb⟩ => ?_)
 refine aa ?_
 refine ax (aJ 7) ?_
 refine bO (t := 27) (.tuple #[.agg (dU 4 Ab tb.length cb).toArray, .int .i64 0]) rfl (by rw [hb9.1]; rfl) ?_
 have htb2 : tb.map (·.e) = r17b.map (·.e) := htb.trans hb9.2
 refine aq (i := 9) rfl ae (ak rfl) (aJ 7) aD rfl (ai ar) (by as_aux_lemma => kernel_rfl) rfl ?_
 refine aq (i := 10) rfl ae (aL rfl rfl) (aJ 7) aD rfl (ai ar) (by as_aux_lemma => kernel_rfl) rfl ?_
 refine aq (i := 11) rfl ae (aL rfl rfl) (aJ 7) aD rfl (ai ar) (by as_aux_lemma => kernel_rfl) rfl ?_
 refine aQ (i := 13) rfl rfl rfl (fun _ _ _ => az (by as_aux_lemma => kernel_rfl)) (by as_aux_lemma => kernel_rfl) rfl ?_
 refine bf bd rfl rfl rfl (.s (.s (.s (.s (.s (.z)))))) rfl rfl rfl rfl ?_
 refine aa ?_
 refine ax (aJ 7) ?_
 refine aq (i := 14) rfl ae (aj rfl) (aJ 7) aD rfl (ai ar) (by as_aux_lemma => kernel_rfl) rfl ?_
 refine b0 (by as_aux_lemma => kernel_rfl) ?_
 refine am ?_
 refine cu (fun w h => (h.weak (.cons_cons _ (.cons_cons _ (.cons _ (.cons _ (.cons _ (.cons_cons _ (.cons _ (.cons_cons _ (.cons _ (.cons_cons _ (.cons _ (.cons _ (.cons _ .slnil))))))))))))) (fun s hs => hs)).f4.f4.f4.f4.f4) ?_
 exact J2 (⟨(tb, Ab, cb), htb2⟩, b16) _ (by repeat (first | exact trivial | refine ⟨rfl, ?_⟩))
 refine aH (i := 6) rfl rfl rfl (fun _ _ _ => az (by as_aux_lemma => kernel_rfl)) rfl ?_ ?_
 refine bh (vs := [_]) ([cQ 98] : List (aW)) bm Try.underlying25 bN rfl rfl rfl rfl rfl rfl (fun As50 => ?_)
 refine aa ?_
 refine ax (aJ 4) ?_
 refine aQ (i := 3) rfl rfl rfl (fun _ _ _ => az (by as_aux_lemma => kernel_rfl)) (by as_aux_lemma => kernel_rfl) rfl ?_
 refine bh (vs := [_]) (p17b : List (Le)) bw Try.underlying22 a7 rfl rfl rfl rfl rfl rfl (fun As51 => ?_)
 refine aa ?_
 refine ax (aJ 5) ?_
 refine aq (i := 7) rfl ae (bB rfl (bF _ _ _ _ _ _ _ _)) (aJ 5) aD rfl (ai ar) (by as_aux_lemma => kernel_rfl) rfl ?_
 refine aQ (i := 8) rfl rfl rfl (aB rfl bz) (by as_aux_lemma => kernel_rfl) rfl ?_
 refine bC rfl bz rfl (bJ 3 ta _ _ false 3 4 p17b _ _ [cQ 98] _ _ htaok ed htal (by decide) (by decide) dM) (fun w hw => (ao (aP 7 rfl hw) (ao (cz 6 rfl hw) (ao (aP 0 rfl hw) (ao (bM ee) (ao (aP 1 rfl hw) aM)))))) (fun ⟨⟨tb, Ab, cb⟩, htb⟩ => ?_)
 refine aa ?_
 refine ax (aJ 7) ?_
 refine bO (t := 27) (.tuple #[.agg (dU 4 Ab tb.length cb).toArray, .int .i64 0]) rfl (by rw [hb9.1]; rfl) ?_
 have htb2 : tb.map (·.e) = r17b.map (·.e) := htb.trans hb9.2
 refine aq (i := 9) rfl ae (ak rfl) (aJ 7) aD rfl (ai ar) (by as_aux_lemma => kernel_rfl) rfl ?_
 refine aq (i := 10) rfl ae (aL rfl rfl) (aJ 7) aD rfl (ai ar) (by as_aux_lemma => kernel_rfl) rfl ?_
 refine aq (i := 11) rfl ae (aL rfl rfl) (aJ 7) aD rfl (ai ar) (by as_aux_lemma => kernel_rfl) rfl ?_
 refine aQ (i := 13) rfl rfl rfl (fun _ _ _ => az (by as_aux_lemma => kernel_rfl)) (by as_aux_lemma => kernel_rfl) rfl ?_
 refine bf bd rfl rfl rfl (.s (.s (.s (.s (.s (.z)))))) rfl rfl rfl rfl ?_
 refine aa ?_
 refine ax (aJ 7) ?_
 refine aq (i := 14) rfl ae (aj rfl) (aJ 7) aD rfl (ai ar) (by as_aux_lemma => kernel_rfl) rfl ?_
 refine b0 (by as_aux_lemma => kernel_rfl) ?_
 refine am ?_
 refine cu (fun w h => (h.weak (.cons_cons _ (.cons_cons _ (.cons _ (.cons _ (.cons _ (.cons_cons _ (.cons _ (.cons_cons _ (.cons _ (.cons_cons _ (.cons _ (.cons _ (.cons _ .slnil))))))))))))) (fun s hs => hs)).f4.f4.f4.f4.f4) ?_
 exact J2 (⟨(tb, Ab, cb), htb2⟩, b16) _ (by repeat (first | exact trivial | refine ⟨rfl, ?_⟩))
 exact br
 intro As10 As21 As26
 refine bI (js := [6, 12]) (by as_aux_lemma => kernel_rfl) rfl ?_
 refine aH (i := 6) rfl rfl rfl (fun _ _ _ => az (by as_aux_lemma => kernel_rfl)) rfl ?_ ?_
 refine bh (vs := [_]) ([cQ 98] : List (aW)) bm Try.underlying25 bN rfl rfl rfl rfl rfl rfl (fun As53 => ?_)
 refine aa ?_
 refine ax (aJ 4) ?_
 refine aq (i := 7) rfl ae (bB rfl (bF _ _ _ _ _ _ _ _)) (aJ 4) aD rfl (ai ar) (by as_aux_lemma => kernel_rfl) rfl ?_
 refine bn (listed' := #[true, true, true, true, true, true, true, true, false, false, false, false, false, false, false]) (by as_aux_lemma => kernel_rfl) ?_
 exact K2_16 As10 As21 As26 As53 _ bx
 refine aH (i := 12) rfl rfl rfl (fun _ _ _ => az (by as_aux_lemma => kernel_rfl)) rfl ?_ ?_
 refine bo bd rfl rfl (fun b54 => ?_)
 refine aa ?_
 refine ax (aJ 4) ?_
 refine aQ (i := 6) rfl rfl rfl (fun _ _ _ => az (by as_aux_lemma => kernel_rfl)) (by as_aux_lemma => kernel_rfl) rfl ?_
 refine bh (vs := [_]) ([cQ 98] : List (aW)) bm Try.underlying25 bN rfl rfl rfl rfl rfl rfl (fun As55 => ?_)
 refine aa ?_
 refine ax (aJ 5) ?_
 refine aq (i := 7) rfl ae (bB rfl (bF _ _ _ _ _ _ _ _)) (aJ 5) aD rfl (ai ar) (by as_aux_lemma => kernel_rfl) rfl ?_
 refine aQ (i := 8) rfl rfl rfl (aB rfl bz) (by as_aux_lemma => kernel_rfl) rfl ?_
 refine bC rfl bz rfl (bJ 3 ta _ _ false 3 4 p17b _ _ [cQ 98] _ _ htaok ed htal (by decide) (by decide) dM) (fun w hw => (ao (aP 7 rfl hw) (ao (cz 6 rfl hw) (ao (aP 3 rfl hw) (ao (bM ee) (ao (aP 0 rfl hw) aM)))))) (fun ⟨⟨tb, Ab, cb⟩, htb⟩ => ?_)
 refine aa ?_
 refine ax (aJ 7) ?_
 refine bO (t := 27) (.tuple #[.agg (dU 4 Ab tb.length cb).toArray, .int .i64 0]) rfl (by rw [hb9.1]; rfl) ?_
 have htb2 : tb.map (·.e) = r17b.map (·.e) := htb.trans hb9.2
 refine aq (i := 9) rfl ae (ak rfl) (aJ 7) aD rfl (ai ar) (by as_aux_lemma => kernel_rfl) rfl ?_
 refine aq (i := 10) rfl ae (aL rfl rfl) (aJ 7) aD rfl (ai ar) (by as_aux_lemma => kernel_rfl) rfl ?_
 refine aq (i := 11) rfl ae (aL rfl rfl) (aJ 7) aD rfl (ai ar) (by as_aux_lemma => kernel_rfl) rfl ?_
 refine aQ (i := 13) rfl rfl rfl (fun _ _ _ => az (by as_aux_lemma => kernel_rfl)) (by as_aux_lemma => kernel_rfl) rfl ?_
 refine bf bd rfl rfl rfl (.s (.s (.s (.z)))) rfl rfl rfl rfl ?_
 refine aa ?_
 refine ax (aJ 7) ?_
 refine aq (i := 14) rfl ae (aj rfl) (aJ 7) aD rfl (ai ar) (by as_aux_lemma => kernel_rfl) rfl ?_
 refine b0 (by as_aux_lemma => kernel_rfl) ?_
 refine am ?_
 refine cu (fun w h => (h.weak (.cons_cons _ (.cons_cons _ (.cons _ (.cons_cons _ (.cons _ (.cons _ (.cons _ (.cons_cons _ (.cons _ (.cons_cons _ (.cons _ (.cons _ (.cons _ .slnil))))))))))))) (fun s hs => hs)).f4.f4.f4.f4.f4) ?_
 exact J2 (⟨(tb, Ab, cb), htb2⟩, b54) _ (by repeat (first | exact trivial | refine ⟨rfl, ?_⟩))
 exact br
 intro As10 As22 As45
 refine bI (js := [3, 12]) (by as_aux_lemma => kernel_rfl) rfl ?_
 refine aH (i := 3) rfl rfl rfl (fun _ _ _ => az (by as_aux_lemma => kernel_rfl)) rfl ?_ ?_
 refine bh (vs := [_]) (p17b : List (Le)) bw Try.underlying22 a7 rfl rfl rfl rfl rfl rfl (fun As57 => ?_)
 refine aa ?_
 refine ax (aJ 4) ?_
 refine aq (i := 7) rfl ae (bB rfl (bF _ _ _ _ _ _ _ _)) (aJ 4) aD rfl (ai ar) (by as_aux_lemma => kernel_rfl) rfl ?_
 refine cA (fun w h => h.f3.f1.f3.f3) ?_
 refine bn (listed' := #[true, true, true, true, true, true, true, true, false, false, false, false, false, false, false]) (by as_aux_lemma => kernel_rfl) ?_
 exact K2_16 As10 As57 As22 As45 _ (by repeat (first | exact trivial | refine ⟨rfl, ?_⟩))
 refine aH (i := 12) rfl rfl rfl (fun _ _ _ => az (by as_aux_lemma => kernel_rfl)) rfl ?_ ?_
 refine bo bd rfl rfl (fun b58 => ?_)
 refine aa ?_
 refine ax (aJ 4) ?_
 refine aQ (i := 3) rfl rfl rfl (fun _ _ _ => az (by as_aux_lemma => kernel_rfl)) (by as_aux_lemma => kernel_rfl) rfl ?_
 refine bh (vs := [_]) (p17b : List (Le)) bw Try.underlying22 a7 rfl rfl rfl rfl rfl rfl (fun As59 => ?_)
 refine aa ?_
 refine ax (aJ 5) ?_
 refine aq (i := 7) rfl ae (bB rfl (bF _ _ _ _ _ _ _ _)) (aJ 5) aD rfl (ai ar) (by as_aux_lemma => kernel_rfl) rfl ?_
 refine aQ (i := 8) rfl rfl rfl (aB rfl bz) (by as_aux_lemma => kernel_rfl) rfl ?_
 refine bC rfl bz rfl (bJ 3 ta _ _ false 3 4 p17b _ _ [cQ 98] _ _ htaok ed htal (by decide) (by decide) dM) (fun w hw => (ao (aP 7 rfl hw) (ao (cz 6 rfl hw) (ao (aP 0 rfl hw) (ao (bM ee) (ao (aP 2 rfl hw) aM)))))) (fun ⟨⟨tb, Ab, cb⟩, htb⟩ => ?_)
 refine aa ?_
 refine ax (aJ 7) ?_
 refine bO (t := 27) (.tuple #[.agg (dU 4 Ab tb.length cb).toArray, .int .i64 0]) rfl (by rw [hb9.1]; rfl) ?_
 have htb2 : tb.map (·.e) = r17b.map (·.e) := htb.trans hb9.2
 refine aq (i := 9) rfl ae (ak rfl) (aJ 7) aD rfl (ai ar) (by as_aux_lemma => kernel_rfl) rfl ?_
 refine aq (i := 10) rfl ae (aL rfl rfl) (aJ 7) aD rfl (ai ar) (by as_aux_lemma => kernel_rfl) rfl ?_
 refine aq (i := 11) rfl ae (aL rfl rfl) (aJ 7) aD rfl (ai ar) (by as_aux_lemma => kernel_rfl) rfl ?_
 refine aQ (i := 13) rfl rfl rfl (fun _ _ _ => az (by as_aux_lemma => kernel_rfl)) (by as_aux_lemma => kernel_rfl) rfl ?_
 refine bf bd rfl rfl rfl (.s (.s (.s (.z)))) rfl rfl rfl rfl ?_
 refine aa ?_
 refine ax (aJ 7) ?_
 refine aq (i := 14) rfl ae (aj rfl) (aJ 7) aD rfl (ai ar) (by as_aux_lemma => kernel_rfl) rfl ?_
 refine b0 (by as_aux_lemma => kernel_rfl) ?_
 refine am ?_
 refine cu (fun w h => (h.weak (.cons_cons _ (.cons_cons _ (.cons _ (.cons_cons _ (.cons _ (.cons _ (.cons _ (.cons_cons _ (.cons _ (.cons_cons _ (.cons _ (.cons _ (.cons _ .slnil))))))))))))) (fun s hs => hs)).f4.f4.f4.f4.f4) ?_
 exact J2 (⟨(tb, Ab, cb), htb2⟩, b58) _ (by repeat (first | exact trivial | refine ⟨rfl, ?_⟩))
 exact br
 intro As10 As21 As26 As53
 refine bI (js := [8, 12]) (by as_aux_lemma => kernel_rfl) rfl ?_
 refine aH (i := 8) rfl rfl rfl (aB rfl bz) rfl ?_ ?_
 refine bC rfl bz rfl (bJ 3 ta _ _ false 3 4 p17b _ _ [cQ 98] _ _ htaok ed htal (by decide) (by decide) dM) (fun w hw => (ao (aP 6 rfl hw) (ao (cz 5 rfl hw) (ao (aP 2 rfl hw) (ao (bM ee) (ao (aP 0 rfl hw) aM)))))) (fun ⟨⟨tb, Ab, cb⟩, htb⟩ => ?_)
 refine aa ?_
 refine ax (aJ 6) ?_
 refine bO (t := 27) (.tuple #[.agg (dU 4 Ab tb.length cb).toArray, .int .i64 0]) rfl (by rw [hb9.1]; rfl) ?_
 have htb2 : tb.map (·.e) = r17b.map (·.e) := htb.trans hb9.2
 refine aq (i := 9) rfl ae (ak rfl) (aJ 6) aD rfl (ai ar) (by as_aux_lemma => kernel_rfl) rfl ?_
 refine aq (i := 10) rfl ae (aL rfl rfl) (aJ 6) aD rfl (ai ar) (by as_aux_lemma => kernel_rfl) rfl ?_
 refine aq (i := 11) rfl ae (aL rfl rfl) (aJ 6) aD rfl (ai ar) (by as_aux_lemma => kernel_rfl) rfl ?_
 refine aQ (i := 12) rfl rfl rfl (fun _ _ _ => az (by as_aux_lemma => kernel_rfl)) (by as_aux_lemma => kernel_rfl) rfl ?_
 refine bo bd rfl rfl (fun b62 => ?_)
 refine aa ?_
 refine ax (aJ 7) ?_
 refine aQ (i := 13) rfl rfl rfl (fun _ _ _ => az (by as_aux_lemma => kernel_rfl)) (by as_aux_lemma => kernel_rfl) rfl ?_
 refine bf bd rfl rfl rfl .z rfl rfl rfl rfl ?_
 refine aa ?_
 refine ax (aJ 7) ?_
 refine aq (i := 14) rfl ae (aj rfl) (aJ 7) aD rfl (ai ar) (by as_aux_lemma => kernel_rfl) rfl ?_
 refine b0 (by as_aux_lemma => kernel_rfl) ?_
 refine am ?_
 refine cu (fun w h => (h.weak (.cons_cons _ (.cons_cons _ (.cons_cons _ (.cons _ (.cons _ (.cons _ (.cons _ (.cons_cons _ (.cons _ (.cons_cons _ (.cons _ (.cons _ (.cons _ .slnil))))))))))))) (fun s hs => hs)).f4.f4.f2.f4.f4) ?_
 exact J2 (⟨(tb, Ab, cb), htb2⟩, b62) _ (by repeat (first | exact trivial | refine ⟨rfl, ?_⟩))
 refine aH (i := 12) rfl rfl rfl (fun _ _ _ => az (by as_aux_lemma => kernel_rfl)) rfl ?_ ?_
 refine bo bd rfl rfl (fun b63 => ?_)
 refine aa ?_
 refine ax (aJ 5) ?_
 refine aQ (i := 8) rfl rfl rfl (aB rfl bz) (by as_aux_lemma => kernel_rfl) rfl ?_
 refine bC rfl bz rfl (bJ 3 ta _ _ false 3 4 p17b _ _ [cQ 98] _ _ htaok ed htal (by decide) (by decide) dM) (fun w hw => (ao (aP 7 rfl hw) (ao (cz 6 rfl hw) (ao (aP 3 rfl hw) (ao (bM ee) (ao (aP 1 rfl hw) aM)))))) (fun ⟨⟨tb, Ab, cb⟩, htb⟩ => ?_)
 refine aa ?_
 refine ax (aJ 7) ?_
 refine bO (t := 27) (.tuple #[.agg (dU 4 Ab tb.length cb).toArray, .int .i64 0]) rfl (by rw [hb9.1]; rfl) ?_
 have htb2 : tb.map (·.e) = r17b.map (·.e) := htb.trans hb9.2
 refine aq (i := 9) rfl ae (ak rfl) (aJ 7) aD rfl (ai ar) (by as_aux_lemma => kernel_rfl) rfl ?_
 refine aq (i := 10) rfl ae (aL rfl rfl) (aJ 7) aD rfl (ai ar) (by as_aux_lemma => kernel_rfl) rfl ?_
 refine aq (i := 11) rfl ae (aL rfl rfl) (aJ 7) aD rfl (ai ar) (by as_aux_lemma => kernel_rfl) rfl ?_
 refine aQ (i := 13) rfl rfl rfl (fun _ _ _ => az (by as_aux_lemma => kernel_rfl)) (by as_aux_lemma => kernel_rfl) rfl ?_
 refine bf bd rfl rfl rfl (.s (.s (.z))) rfl rfl rfl rfl ?_
 refine aa ?_
 refine ax (aJ 7) ?_
 refine aq (i := 14) rfl ae (aj rfl) (aJ 7) aD rfl (ai ar) (by as_aux_lemma => kernel_rfl) rfl ?_
 refine b0 (by as_aux_lemma => kernel_rfl) ?_
 refine am ?_
 refine cu (fun w h => (h.weak (.cons_cons _ (.cons_cons _ (.cons_cons _ (.cons _ (.cons _ (.cons _ (.cons _ (.cons_cons _ (.cons _ (.cons_cons _ (.cons _ (.cons _ (.cons _ .slnil))))))))))))) (fun s hs => hs)).f4.f4.f4.f4.f4) ?_
 exact J2 (⟨(tb, Ab, cb), htb2⟩, b63) _ (by repeat (first | exact trivial | refine ⟨rfl, ?_⟩))
 exact br
end Go.Proofs.Ytnpdgmoeoidppaa

/- law 17: what a push makes -/
namespace Go.Proofs.Ytnpdgmoeoidppaa
open Go.RowKit Go.Shelf
set_option linter.unusedVariables false
set_option linter.unusedSimpArgs false

theorem cU : Enters Try.prog 14 := enters_of Try.func14 (by kernel_rfl) rfl
theorem fS : Enters Try.prog 18 := enters_of Try.func18 (by kernel_rfl) rfl
theorem ent_9 : Enters Try.prog 9 := enters_of Try.func9 (by kernel_rfl) rfl

section
variable {v : Int} {l : List Le} {full : Bool} {bs ver : Int} {put : List Le} {drop : List aW} {r : List Le} (hA : ApplyOk v l full bs ver put drop r) {n : aW}
include hA
end
theorem eT {o : Option Le} {e : En} (h : o.map (·.e) = some e) : o.isSome = true ∧ (o.getD bQ).e = e := by
  cases o with
  | none => cases h
  | some y => exact ⟨rfl, Option.some.inj h⟩
end Go.Proofs.Ytnpdgmoeoidppaa
