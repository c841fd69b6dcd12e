import Derived.Test.YtnpdgmoeoidppaaGreatLxQx
/- law 17: its examples -/
namespace Go.Proofs.YtnpdgmoeoidppaaGreat
open Go.RowKit Go.Shelf
set_option linter.unusedVariables false
set_option linter.unusedSimpArgs false

theorem bu_103_0_2 (x0 : Bool) (x1 : Int) : Tryz.prog.built 103 [(0, .bool x0), (2, .int .i64 x1)] = some [.bool x0, .int .i64 0, .int .i64 x1, .slice none 0 0, .slice none 0 0].toArray := by kernel_rfl
theorem bu_103_0_2_3 (x0 : Bool) (x1 : Int) (x2 : Option Addr) (x3 : Nat) (x4 : Nat) : Tryz.prog.built 103 [(0, .bool x0), (2, .int .i64 x1), (3, .slice x2 x3 x4)] = some [.bool x0, .int .i64 0, .int .i64 x1, .slice x2 x3 x4, .slice none 0 0].toArray := by kernel_rfl
theorem dl (x0 : Int) (x1 : Int) (x2 : Option Addr) (x3 : Nat) (x4 : Nat) (x5 : Option Addr) (x6 : Nat) (x7 : Nat) : Tryz.prog.built 103 [(1, .int .i64 x0), (2, .int .i64 x1), (3, .slice x2 x3 x4), (4, .slice x5 x6 x7)] = some [.bool false, .int .i64 x0, .int .i64 x1, .slice x2 x3 x4, .slice x5 x6 x7].toArray := by kernel_rfl
theorem bu_34_0_1_2 (x0 : a6) (x1 : Int) (x2 : a6) : Tryz.prog.built 34 [(0, .string (ba x0)), (1, .int .i64 x1), (2, .string (ba x2))] = some [.string (ba x0), .int .i64 x1, .string (ba x2), .slice none 0 0, .string ⟨#[]⟩, .slice none 0 0, .int .u32 0].toArray := by kernel_rfl
theorem em : Enters Tryz.prog 121 := enters_of Tryz.func121 (by kernel_rfl) rfl
theorem dU : Enters Tryz.prog 122 := enters_of Tryz.func122 (by kernel_rfl) rfl
theorem dC : Enters Tryz.prog 55 := enters_of Tryz.func55 (by kernel_rfl) rfl

/-- An entry of few octets. -/
def smE (e : En) : Bool := decide (e.host.length ≤ 300) && decide (e.alias.length ≤ 300) && decide (e.cluster.length ≤ 300) && decide (e.addrs.length ≤ 20) && decide (e.ports.length ≤ 20) && decide (0 ≤ e.kind ∧ e.kind ≤ 9) && decide (0 ≤ e.ttl ∧ e.ttl ≤ 1000) && (e.addrs.all fun a => decide (0 ≤ a.hi ∧ a.hi ≤ 1000000) && decide (0 ≤ a.lo ∧ a.lo ≤ 4294967295)) && (e.ports.all fun p => decide (0 ≤ p ∧ p ≤ 1000000))
theorem smE_ok {e : En} (h : smE e = true) : EnOk e ∧ eJ e = true := by
  simp only [smE, Bool.and_eq_true, decide_eq_true_eq, List.all_eq_true] at h
  obtain ⟨⟨⟨⟨⟨⟨⟨⟨h1, h2⟩, h3⟩, h4⟩, h5⟩, h6⟩, h7⟩, h8⟩, h9⟩ := h
  refine ⟨⟨by omega, by omega, by omega, fun a ha => ?_, by omega, by omega, fun p hp => by have := h9 p hp; omega, by omega, h7.1, by omega⟩, ?_⟩
  · have := h8 a ha
    refine ⟨this.1.1, ?_, this.2.1, ?_⟩ <;> omega
  · simp only [eJ, Bool.and_eq_true, decide_eq_true_eq]
    exact ⟨⟨⟨⟨h1, h2⟩, h3⟩, h4⟩, h5⟩
theorem sm_tb {l : List Le} (h : (l.map (·.e)).all smE = true) : TbOk l := fun x hx => smE_ok (List.all_eq_true.1 h _ (List.mem_map.2 ⟨x, hx, rfl⟩))

def auE17 (ls : List a6) : En := ⟨(fR ls).1, 2, [120], [], [], [], 0⟩
def au17 (ls : List a6) : Le := ⟨auE17 ls, none, 0, none, 0⟩
def n17 (c : UInt8) : a6 := (fR [[c]]).1
def p17a : List Le := [au17 [[66]], au17 [[97]]]
def r17a : List Le := [au17 [[97]], au17 [[66]]]
def p17b : List Le := [au17 [[99]]]
def r17b : List Le := [au17 [[97]], au17 [[99]]]
theorem bare17 {l : List Le} (h : (l.all fun x => decide (x.e.addrs = []) && decide (x.e.ports = [])) = true) : ∀ x ∈ l, x.e.addrs = [] ∧ x.e.ports = [] := fun x hx => by
  have := List.all_eq_true.1 h x hx
  simpa using this
theorem ap17_a : (bx 0 [] true 0 3 p17a []).1 = 0 ∧ (bx 0 [] true 0 3 p17a []).2.map (·.e) = r17a.map (·.e) := by decide +kernel
theorem ap17_b : (bx 3 r17a false 3 4 p17b [n17 98]).1 = 0 ∧ (bx 3 r17a false 3 4 p17b [n17 98]).2.map (·.e) = r17b.map (·.e) := by decide +kernel
theorem ap17_c : (bx 4 r17b true 0 4 [] []).1 = 9 := by decide +kernel
theorem to17 {v : Int} {l l' : List Le} {full : Bool} {bs ver : Int} {put : List Le} {drop : List a6} {x : Int} {r : List Le} (hl : l.map (·.e) = l'.map (·.e)) (h : (bx v l' full bs ver put drop).1 = x ∧ (bx v l' full bs ver put drop).2.map (·.e) = r.map (·.e)) : (bx v l full bs ver put drop).1 = x ∧ (bx v l full bs ver put drop).2.map (·.e) = r.map (·.e) :=
  ⟨((fX hl rfl).1).trans h.1, ((fX hl rfl).2).trans h.2⟩
theorem p17a_tb : TbOk p17a := sm_tb (by decide +kernel)
theorem fI : TbOk p17b := sm_tb (by decide +kernel)
theorem r17a_tb {l : List Le} (h : l.map (·.e) = r17a.map (·.e)) : TbOk l := sm_tb (by rw [h]; decide +kernel)
theorem r17b_tb {l : List Le} (h : l.map (·.e) = r17b.map (·.e)) : TbOk l := sm_tb (by rw [h]; decide +kernel)
theorem p17a_rd {w : World} : Rd (p17a.flatMap fm) w := rd_bare (bare17 (by decide))
theorem fJ {w : World} : Rd (p17b.flatMap fm) w := rd_bare (bare17 (by decide))
theorem eX : ∀ n ∈ [n17 98], n.length ≤ 1000 := by decide +kernel
theorem at17 {l r : List Le} {n : a6} (h : l.map (·.e) = r.map (·.e)) {i : Nat} (hq : (r.getD i bm).e.host = n) : (l.getD i bm).e.host = n := by
  rw [dI, h, ← dI]; exact hq

theorem eZ (ls : List a6) (A : Option Addr) (ca : Nat) (hl : ls.length ≤ 1000000000000) : RC Tryz.prog 122 #[.slice A ls.length ca] [Ch.rd A 1 dD ls] (α := Unit) (fun _ => .string (ba (fR ls).1)) (fun _ => []) := by
 refine bK (args := [.slice A ls.length ca]) 11 Tryz.func122 rfl rfl rfl (fun w0 => ?_)
 refine ap ?_
 refine ae ?_
 refine aq (ai rfl) rfl rfl ?_
 refine aa ?_
 refine aj ?_
 refine ap ?_
 refine ae ?_
 refine aq (am rfl) rfl rfl ?_
 refine bA rfl ent_143 rfl (jB _ _ _ (by omega)) (fun w hw => (az (bo 0 rfl hw) aY)) ?_
 refine aq (am rfl) rfl rfl ?_
 refine aq (bn rfl rfl) rfl rfl ?_
 refine aq (bn rfl rfl) rfl rfl ?_
 refine aq (ai rfl) rfl rfl ?_
 refine aq (ai rfl) rfl rfl ?_
 refine aa ?_
 refine aj ?_
 refine ap ?_
 refine ae ?_
 refine aq (am rfl) rfl rfl ?_
 refine aq (ai rfl) rfl rfl ?_
 refine aa ?_
 refine aj ?_
 refine aN ?_
 refine aR (ts := [2]) rfl rfl rfl (fun w hw => ?_)
 exact ⟨(), rfl, hw.base, (hw.weak (List.nil_sublist _) (fun s hs => hs)).toNews⟩

theorem fu (ls : List a6) (A : Option Addr) (ca : Nat) (hl : ls.length ≤ 1000000000000) : RC Tryz.prog 121 #[.slice A ls.length ca] [Ch.rd A 1 dD ls] (α := Unit) (fun _ => .agg (dF (au17 ls)).toArray) (fun _ => []) := by
 refine bK (args := [.slice A ls.length ca]) 6 Tryz.func121 rfl rfl rfl (fun w0 => ?_)
 refine ap ?_
 refine ae ?_
 refine bH aU rfl rfl (fun b1 => ?_)
 refine aa ?_
 refine aj ?_
 refine ap ?_
 refine ae ?_
 refine aq (am rfl) rfl rfl ?_
 refine bA rfl dU rfl (eZ _ _ _ hl) (fun w hw => (az (bo 0 rfl hw) aY)) ?_
 refine aq (bP rfl (bu_34_0_1_2 _ _ _)) rfl rfl ?_
 refine aW aU rfl rfl rfl .z rfl rfl rfl rfl ?_
 refine aa ?_
 refine aj ?_
 refine aN ?_
 refine dP (rs := [.cell 2 34]) rfl (bQ 0 aU rfl rfl rfl rfl cG) rfl (fun w hw => ?_)
 exact ⟨(), rfl, hw.base, (hw.weak (List.nil_sublist _) (fun s hs => hs)).toNews⟩

theorem c_light17 (v : Int) (l : List Le) (A : Option Addr) (c : Nat) (hl : l.length ≤ 9223372036854775807) : RC Tryz.prog 53 #[.agg (eE v A l.length c).toArray] [Ch.rd A 7 dF l] (α := Unit) (fun _ => .bool (f7 l 40)) (fun _ => []) := by
 refine bK (args := [.agg (eE v A l.length c).toArray]) 6 Tryz.func53 rfl rfl rfl (fun w0 => ?_)
 refine ap ?_
 refine ae ?_
 refine cL rfl rfl rfl (fun b1 => ?_)
 refine aq (ai rfl) rfl rfl ?_
 refine aa ?_
 refine aj ?_
 refine ap ?_
 refine ae ?_
 refine aq (aB bX rfl) rfl rfl ?_
 refine aq (aC 0 bz rfl rfl rfl) rfl rfl ?_
 refine bA rfl ent_10 rfl (iJ _ _ _ _ (by omega)) (fun w hw => (az (bo 0 rfl hw) aY)) ?_
 refine aq (ai rfl) rfl rfl ?_
 refine aa ?_
 refine aj ?_
 refine aN ?_
 refine aR (ts := [2]) rfl rfl rfl (fun w hw => ?_)
 exact ⟨(), rfl, hw.base, (hw.weak (List.nil_sublist _) (fun s hs => hs)).toNews⟩

theorem Hp.f6 {ok0 : Nat → Prop} {w0 w : World} {a b c d e f g : Ch} {L S : List Ch} (h : Hp ok0 w0 (a :: b :: c :: d :: e :: f :: g :: L) S w) : Hp ok0 w0 (g :: a :: b :: c :: d :: e :: f :: L) S w := h.perm (List.perm_middle (l₁ := [a, b, c, d, e, f])).symm

set_option maxRecDepth 100000 in
set_option maxHeartbeats 4000000 in
theorem c_lives17  : eC Tryz.prog 52 #[] (.bool true) := by
 intro w0
 refine bT (ok0 := no) (S := []) (args := []) 83 Tryz.func52 rfl rfl rfl (by simp) (by simp) ?_
 refine ap ?_
 refine ae ?_
 refine aq (ai rfl) rfl rfl ?_
 refine aa ?_
 refine aj ?_
 refine ap ?_
 refine ae ?_
 refine aq (bP rfl (fg)) rfl rfl ?_
 refine bY (vs := [_]) ([[66]] : List (a6)) bV Tryz.underlying135 cI rfl rfl rfl rfl rfl rfl (fun As1 => ?_)
 refine bA rfl em rfl (fu _ _ _ (by decide)) (fun w hw => (az (ci 0 rfl hw) aY)) ?_
 refine bY (vs := [_]) ([[97]] : List (a6)) bV Tryz.underlying135 cI rfl rfl rfl rfl rfl rfl (fun As2 => ?_)
 refine bA rfl em rfl (fu _ _ _ (by decide)) (fun w hw => (az (ci 0 rfl hw) aY)) ?_
 refine bY (vs := [_, _]) (p17a : List (Le)) bp Tryz.underlying22 aU rfl rfl rfl rfl rfl rfl (fun As3 => ?_)
 refine aq (bP rfl (bu_103_0_2_3 _ _ _ _ _)) rfl rfl ?_
 refine bU rfl dC rfl (dY 0 [] _ _ true 0 3 p17a _ _ [] none _ nofun p17a_tb (by decide) (by decide) (by decide) nofun) (fun w hw => (az (rd_none) (az (ek nofun) (az (ci 0 rfl hw) (az (ek p17a_rd) (az (rd_none) aY)))))) (fun ⟨⟨ta, Aa, ca⟩, hta⟩ => ?_)
 refine eo (t := 15) (.tuple #[.agg (eE 3 Aa ta.length ca).toArray, .int .i64 0]) rfl (by rw [ap17_a.1]; rfl) ?_
 have hta2 : ta.map (·.e) = r17a.map (·.e) := hta.trans ap17_a.2
 refine aq (am rfl) rfl rfl ?_
 refine aq (bn rfl rfl) rfl rfl ?_
 refine aq (bn rfl rfl) rfl rfl ?_
 refine bH bw rfl rfl (fun b5 => ?_)
 refine aW bw rfl rfl rfl .z rfl rfl rfl rfl ?_
 refine aq (ai rfl) rfl rfl ?_
 refine aa ?_
 refine aj ?_
 refine w_joinL (σ := {q : List Le × Option Addr × Nat // q.1.map (·.e) = r17b.map (·.e)} × Nat) (fun g => [(3, .pointer (some ⟨g.2, 0, none⟩)), (4, .int .i64 0)]) (fun g => [Ch.rall (g.1.1.1.flatMap fm), Ch.ls g.1.1.2.1 g.1.1.2.2 34 7 dF g.1.1.1, Ch.row g.2 (eE 4 g.1.1.2.1 g.1.1.1.length g.1.1.2.2) 24, Ch.row b5 (eE 3 Aa ta.length ca) 24, Ch.ls Aa ca 34 7 dF ta]) (fun g => ?_) (fun J2 => ?_)
 obtain ⟨⟨⟨tb, Ab9, cb⟩, htb2⟩, q3⟩ := g
 dsimp only at htb2 ⊢
 refine ap ?_
 refine ae ?_
 refine aq (bu 2 bw rfl rfl rfl rfl) rfl rfl ?_
 refine aq (bP rfl (bu_103_0_2 _ _)) rfl rfl ?_
 refine bU rfl dC rfl (dY 4 tb _ _ true 0 4 [] none _ [] none _ (r17b_tb htb2) nofun (by rw [eG htb2]; decide) (by decide) (by decide) nofun) (fun w hw => (az (ci 1 rfl hw) (az (ja 0 rfl hw) (az (rd_none) (az (ek nofun) (az (rd_none) aY)))))) (fun ⟨⟨tc, Ac, cc⟩, htc⟩ => ?_)
 have hc9 : (bx 4 tb true 0 4 [] []).1 = 9 := ((fX htb2 rfl).1).trans ap17_c
 refine eo (t := 33) (.tuple #[.agg (eE 0 Ac tc.length cc).toArray, .int .i64 9]) rfl (by rw [hc9]; rfl) ?_
 refine aq (am rfl) rfl rfl ?_
 refine aq (bn rfl rfl) rfl rfl ?_
 refine aq (bn rfl rfl) rfl rfl ?_
 refine bH bw rfl rfl (fun b7 => ?_)
 refine aW bw rfl rfl rfl .z rfl rfl rfl rfl ?_
 refine aq (ai rfl) rfl rfl ?_
 refine aa ?_
 refine aj ?_
 refine ap ?_
 refine e7 48 rfl mixed ?_
 refine aI (i := 0) rfl ak (am rfl) aG aG rfl (ah aw) (by as_aux_lemma => kernel_rfl) rfl ?_
 refine aI (i := 1) rfl ak (cY rfl rfl) aG aG rfl (ah aw) (by as_aux_lemma => kernel_rfl) rfl ?_
 refine fV (t := 37) rfl rfl ?_
 refine aI (i := 2) rfl ak (am rfl) aG aG rfl (ah aw) (by as_aux_lemma => kernel_rfl) rfl ?_
 refine aI (i := 3) rfl (aL rfl rfl) (aB bX rfl) aG aG rfl (ah aw) (by as_aux_lemma => kernel_rfl) rfl ?_
 refine aI (i := 4) rfl (aL rfl rfl) (aC 6 bz rfl rfl rfl) aG aG rfl (ah aw) (by as_aux_lemma => kernel_rfl) rfl ?_
 refine aI (i := 5) rfl (aL rfl rfl) (bg Tryz.underlying22 rfl) aG aG rfl (ah aw) (by as_aux_lemma => kernel_rfl) rfl ?_
 refine aI (i := 6) rfl (aL rfl rfl) (cY rfl rfl) aG aG rfl (ah aw) (by as_aux_lemma => kernel_rfl) rfl ?_
 refine fV (t := 42) rfl (by rw [eG hta2]; rfl) ?_
 refine aI (i := 7) rfl ak (aH rfl rfl) aG aG rfl (ah aw) (by as_aux_lemma => kernel_rfl) rfl ?_
 refine aI (i := 8) rfl ak (am rfl) aG aG rfl (ah aw) (by as_aux_lemma => kernel_rfl) rfl ?_
 refine aI (i := 9) rfl (aL rfl rfl) (aB bX rfl) aG aG rfl (ah aw) (by as_aux_lemma => kernel_rfl) rfl ?_
 refine aI (i := 10) rfl (aL rfl rfl) (aC 6 bz rfl rfl rfl) aG aG rfl (ah aw) (by as_aux_lemma => kernel_rfl) rfl ?_
 refine aI (i := 11) rfl (aL rfl rfl) (bB (k := 1) Tryz.underlying22 aU rfl rfl (dL 7 rfl) rfl (by rw [eG hta2]; decide)) aG aG rfl (ah aw) (by as_aux_lemma => kernel_rfl) rfl ?_
 refine aI (i := 12) rfl (aL rfl rfl) (aB cM rfl) aG aG rfl (ah aw) (by as_aux_lemma => kernel_rfl) rfl ?_
 refine aI (i := 13) rfl (aL rfl rfl) (bZ (k := 1) bp bm bE rfl (dL 7 rfl) (by rw [eG hta2]; decide) rfl rfl) aG aG rfl (ah aw) (by as_aux_lemma => kernel_rfl) rfl ?_
 refine bl (i := 14) rfl rfl rfl (fun _ _ _ => aM (by as_aux_lemma => kernel_rfl)) (by as_aux_lemma => kernel_rfl) rfl ?_
 refine au rfl rfl ?_
 refine bY (vs := [_]) ([[66]] : List (a6)) bV Tryz.underlying135 cI rfl rfl rfl rfl rfl rfl (fun As8 => ?_)
 refine aa ?_
 refine aT (bq 1) ?_
 refine bl (i := 15) rfl rfl rfl (bf rfl dU) (by as_aux_lemma => kernel_rfl) rfl ?_
 refine au rfl rfl ?_
 refine bA rfl dU rfl (eZ _ _ _ (by decide)) (fun w hw => (az (ci 0 rfl hw) aY)) ?_
 refine aa ?_
 refine aT (bq 1) ?_
 refine aI (i := 16) rfl (aL rfl rfl) (eK rfl rfl) (bq 1) aG rfl (ah aw) (by as_aux_lemma => kernel_rfl) rfl ?_
 refine fV (t := 52) rfl (at17 hta2 rfl) ?_
 refine aI (i := 17) rfl ak (aH rfl rfl) (bq 1) aG rfl (ah aw) (by as_aux_lemma => kernel_rfl) rfl ?_
 refine aI (i := 18) rfl ak (am rfl) (bq 1) aG rfl (ah aw) (by as_aux_lemma => kernel_rfl) rfl ?_
 refine aI (i := 19) rfl (aL rfl rfl) (am rfl) (bq 1) aG rfl (ah aw) (by as_aux_lemma => kernel_rfl) rfl ?_
 refine aI (i := 20) rfl (aL rfl rfl) (cY rfl rfl) (bq 1) aG rfl (ah aw) (by as_aux_lemma => kernel_rfl) rfl ?_
 refine fV (t := 56) rfl rfl ?_
 refine aI (i := 21) rfl ak (aH rfl rfl) (bq 1) aG rfl (ah aw) (by as_aux_lemma => kernel_rfl) rfl ?_
 refine aI (i := 22) rfl ak (am rfl) (bq 1) aG rfl (ah aw) (by as_aux_lemma => kernel_rfl) rfl ?_
 refine aI (i := 23) rfl (aL rfl rfl) (aB bX rfl) (bq 1) aG rfl (ah aw) (by as_aux_lemma => kernel_rfl) rfl ?_
 refine aI (i := 24) rfl (aL rfl rfl) (aC 5 bz rfl rfl rfl) (bq 1) aG rfl (ah aw) (by as_aux_lemma => kernel_rfl) rfl ?_
 refine aI (i := 25) rfl (aL rfl rfl) (bg Tryz.underlying22 rfl) (bq 1) aG rfl (ah aw) (by as_aux_lemma => kernel_rfl) rfl ?_
 refine aI (i := 26) rfl (aL rfl rfl) (cY rfl rfl) (bq 1) aG rfl (ah aw) (by as_aux_lemma => kernel_rfl) rfl ?_
 refine fV (t := 62) rfl (by rw [eG htb2]; rfl) ?_
 refine aI (i := 27) rfl ak (aH rfl rfl) (bq 1) aG rfl (ah aw) (by as_aux_lemma => kernel_rfl) rfl ?_
 refine aI (i := 28) rfl ak (am rfl) (bq 1) aG rfl (ah aw) (by as_aux_lemma => kernel_rfl) rfl ?_
 refine aI (i := 29) rfl (aL rfl rfl) (aB bX rfl) (bq 1) aG rfl (ah aw) (by as_aux_lemma => kernel_rfl) rfl ?_
 refine aI (i := 30) rfl (aL rfl rfl) (aC 5 bz rfl rfl rfl) (bq 1) aG rfl (ah aw) (by as_aux_lemma => kernel_rfl) rfl ?_
 refine aI (i := 31) rfl (aL rfl rfl) (bB (k := 1) Tryz.underlying22 aU rfl rfl (dL 4 rfl) rfl (by rw [eG htb2]; decide)) (bq 1) aG rfl (ah aw) (by as_aux_lemma => kernel_rfl) rfl ?_
 refine aI (i := 32) rfl (aL rfl rfl) (aB cM rfl) (bq 1) aG rfl (ah aw) (by as_aux_lemma => kernel_rfl) rfl ?_
 refine aI (i := 33) rfl (aL rfl rfl) (bZ (k := 1) bp bm bE rfl (dL 4 rfl) (by rw [eG htb2]; decide) rfl rfl) (bq 1) aG rfl (ah aw) (by as_aux_lemma => kernel_rfl) rfl ?_
 refine bl (i := 34) rfl rfl rfl (fun _ _ _ => aM (by as_aux_lemma => kernel_rfl)) (by as_aux_lemma => kernel_rfl) rfl ?_
 refine au rfl rfl ?_
 refine bY (vs := [_]) ([[99]] : List (a6)) bV Tryz.underlying135 cI rfl rfl rfl rfl rfl rfl (fun As9 => ?_)
 refine aa ?_
 refine aT (bq 2) ?_
 refine bl (i := 35) rfl rfl rfl (bf rfl dU) (by as_aux_lemma => kernel_rfl) rfl ?_
 refine au rfl rfl ?_
 refine bA rfl dU rfl (eZ _ _ _ (by decide)) (fun w hw => (az (ci 0 rfl hw) aY)) ?_
 refine aa ?_
 refine aT (bq 2) ?_
 refine aI (i := 36) rfl (aL rfl rfl) (eK rfl rfl) (bq 2) aG rfl (ah aw) (by as_aux_lemma => kernel_rfl) rfl ?_
 refine fV (t := 72) rfl (at17 htb2 rfl) ?_
 refine aI (i := 37) rfl ak (aH rfl rfl) (bq 2) aG rfl (ah aw) (by as_aux_lemma => kernel_rfl) rfl ?_
 refine aI (i := 38) rfl ak (am rfl) (bq 2) aG rfl (ah aw) (by as_aux_lemma => kernel_rfl) rfl ?_
 refine aI (i := 39) rfl (aL rfl rfl) (aB dZ rfl) (bq 2) aG rfl (ah aw) (by as_aux_lemma => kernel_rfl) rfl ?_
 refine aI (i := 40) rfl (aL rfl rfl) (aC 5 cX rfl rfl rfl) (bq 2) aG rfl (ah aw) (by as_aux_lemma => kernel_rfl) rfl ?_
 refine aI (i := 41) rfl (aL rfl rfl) (cY rfl rfl) (bq 2) aG rfl (ah aw) (by as_aux_lemma => kernel_rfl) rfl ?_
 refine fV (t := 77) rfl rfl ?_
 refine aI (i := 42) rfl ak (aH rfl rfl) (bq 2) aG rfl (ah aw) (by as_aux_lemma => kernel_rfl) rfl ?_
 refine aI (i := 43) rfl ak (am rfl) (bq 2) aG rfl (ah aw) (by as_aux_lemma => kernel_rfl) rfl ?_
 refine aI (i := 44) rfl (aL rfl rfl) (am rfl) (bq 2) aG rfl (ah aw) (by as_aux_lemma => kernel_rfl) rfl ?_
 refine aI (i := 45) rfl (aL rfl rfl) (cY rfl rfl) (bq 2) aG rfl (ah aw) (by as_aux_lemma => kernel_rfl) rfl ?_
 refine fV (t := 81) rfl rfl ?_
 refine aI (i := 46) rfl ak (aH rfl rfl) (bq 2) aG rfl (ah aw) (by as_aux_lemma => kernel_rfl) rfl ?_
 refine aI (i := 47) rfl ak (ai rfl) (bq 2) aG rfl (ah aw) (by as_aux_lemma => kernel_rfl) rfl ?_
 refine cw (by as_aux_lemma => kernel_rfl) ?_
 refine aj ?_
 refine aN ?_
 refine aR (ts := [0]) rfl rfl rfl (fun w hw => ?_)
 exact ⟨rfl, hw.base⟩
 refine ap ?_
 have htaok := r17a_tb hta2
 have htal : ta.length ≤ 1000 := by rw [eG hta2]; decide
 have hb9 := to17 hta2 ap17_b
 refine e7 15 rfl mixed ?_
 apply wu_k4 #[true, true, true, true, true, true, true, true, false, false, false, false, false, false, false] 7
 intro K2_16
 apply wu_k3 #[true, true, true, false, true, true, true, false, false, false, false, false, false, false, false] 9
 intro K2_15
 apply wu_k3 #[true, true, true, true, true, true, false, false, false, false, false, false, false, false, false] 9
 intro K2_14
 apply wu_k3 #[true, true, true, false, true, true, false, false, false, false, false, false, true, false, false] 9
 intro K2_13
 apply wu_k2 #[true, true, true, false, true, true, false, false, false, false, false, false, false, false, false] 10
 intro K2_12
 apply wu_k3 #[true, true, true, true, true, false, false, false, false, false, false, false, false, false, false] 10
 intro K2_11
 apply wu_k3 #[true, true, true, false, true, false, false, false, false, false, false, false, true, false, false] 10
 intro K2_7
 apply wu_k2 #[true, true, true, false, false, false, false, false, false, false, false, false, true, false, false] 11
 intro K2_10
 apply wu_k2 #[true, true, true, false, true, false, false, false, false, false, false, false, false, false, false] 11
 intro K2_9
 apply wu_k2 #[true, true, true, true, false, false, false, false, false, false, false, false, false, false, false] 11
 intro K2_8
 apply wu_k2 #[true, true, false, false, false, false, false, false, false, false, false, false, true, false, false] 12
 intro K2_6
 apply wu_k2 #[true, true, false, false, true, false, false, false, false, false, false, false, false, false, false] 12
 intro K2_5
 apply wu_k1 #[true, true, true, false, false, false, false, false, false, false, false, false, false, false, false] 12
 intro K2_4
 apply wu_k1 #[true, false, false, false, false, false, false, false, false, false, false, false, true, false, false] 13
 intro K2_3
 apply wu_k1 #[true, false, false, false, true, false, false, false, false, false, false, false, false, false, false] 13
 intro K2_2
 apply wu_k1 #[true, true, false, false, false, false, false, false, false, false, false, false, false, false, false] 13
 intro K2_1
 apply wu_k0 #[true, false, false, false, false, false, false, false, false, false, false, false, false, false, false] 14
 intro K2_0
 refine aI (i := 0) rfl ak (bu 0 bw rfl rfl rfl rfl) aG aG rfl (ah aw) (by as_aux_lemma => kernel_rfl) rfl ?_
 refine dw (listed' := #[true, false, false, false, false, false, false, false, false, false, false, false, false, false, false]) (by as_aux_lemma => kernel_rfl) ?_
 exact K2_0 _ ec
 refine de (js := [1, 4, 12]) (by as_aux_lemma => kernel_rfl) rfl ?_
 refine bi (i := 1) rfl rfl rfl (fun _ _ _ => aM (by as_aux_lemma => kernel_rfl)) rfl ?_ ?_
 refine bY (vs := [_]) ([[99]] : List (a6)) bV Tryz.underlying135 cI rfl rfl rfl rfl rfl rfl (fun As10 => ?_)
 refine aa ?_
 refine aT (bq 1) ?_
 refine dw (listed' := #[true, true, false, false, false, false, false, false, false, false, false, false, false, false, false]) (by as_aux_lemma => kernel_rfl) ?_
 exact K2_1 As10 _ ec
 refine bi (i := 4) rfl rfl rfl (fun _ _ _ => aM (by as_aux_lemma => kernel_rfl)) rfl ?_ ?_
 refine bY (vs := [_]) ([[98]] : List (a6)) bV Tryz.underlying135 cI rfl rfl rfl rfl rfl rfl (fun As11 => ?_)
 refine aa ?_
 refine aT (bq 1) ?_
 refine dw (listed' := #[true, false, false, false, true, false, false, false, false, false, false, false, false, false, false]) (by as_aux_lemma => kernel_rfl) ?_
 exact K2_2 As11 _ ec
 refine bi (i := 12) rfl rfl rfl (fun _ _ _ => aM (by as_aux_lemma => kernel_rfl)) rfl ?_ ?_
 refine bH bw rfl rfl (fun b12 => ?_)
 refine aa ?_
 refine aT (bq 1) ?_
 refine dw (listed' := #[true, false, false, false, false, false, false, false, false, false, false, false, true, false, false]) (by as_aux_lemma => kernel_rfl) ?_
 exact K2_3 b12 _ ec
 exact cH
 intro As10
 refine de (js := [2, 4, 12]) (by as_aux_lemma => kernel_rfl) rfl ?_
 refine bi (i := 2) rfl rfl rfl (bf rfl em) rfl ?_ ?_
 refine bA rfl em rfl (fu _ _ _ (by decide)) (fun w hw => (az (ci 0 rfl hw) aY)) ?_
 refine aa ?_
 refine aT (bq 1) ?_
 refine dw (listed' := #[true, true, true, false, false, false, false, false, false, false, false, false, false, false, false]) (by as_aux_lemma => kernel_rfl) ?_
 exact K2_4 As10 _ ec
 refine bi (i := 4) rfl rfl rfl (fun _ _ _ => aM (by as_aux_lemma => kernel_rfl)) rfl ?_ ?_
 refine bY (vs := [_]) ([[98]] : List (a6)) bV Tryz.underlying135 cI rfl rfl rfl rfl rfl rfl (fun As13 => ?_)
 refine aa ?_
 refine aT (bq 2) ?_
 refine dw (listed' := #[true, true, false, false, true, false, false, false, false, false, false, false, false, false, false]) (by as_aux_lemma => kernel_rfl) ?_
 exact K2_5 As10 As13 _ ec
 refine bi (i := 12) rfl rfl rfl (fun _ _ _ => aM (by as_aux_lemma => kernel_rfl)) rfl ?_ ?_
 refine bH bw rfl rfl (fun b14 => ?_)
 refine aa ?_
 refine aT (bq 2) ?_
 refine dw (listed' := #[true, true, false, false, false, false, false, false, false, false, false, false, true, false, false]) (by as_aux_lemma => kernel_rfl) ?_
 exact K2_6 As10 b14 _ ec
 exact cH
 intro As11
 refine de (js := [1, 12]) (by as_aux_lemma => kernel_rfl) rfl ?_
 refine bi (i := 1) rfl rfl rfl (fun _ _ _ => aM (by as_aux_lemma => kernel_rfl)) rfl ?_ ?_
 refine bY (vs := [_]) ([[99]] : List (a6)) bV Tryz.underlying135 cI rfl rfl rfl rfl rfl rfl (fun As15 => ?_)
 refine aa ?_
 refine aT (bq 2) ?_
 refine fB (fun w h => h.f1) ?_
 refine dw (listed' := #[true, true, false, false, true, false, false, false, false, false, false, false, false, false, false]) (by as_aux_lemma => kernel_rfl) ?_
 exact K2_5 As15 As11 _ (by repeat (first | exact trivial | refine ⟨rfl, ?_⟩))
 refine bi (i := 12) rfl rfl rfl (fun _ _ _ => aM (by as_aux_lemma => kernel_rfl)) rfl ?_ ?_
 refine bH bw rfl rfl (fun b16 => ?_)
 refine aa ?_
 refine aT (bq 2) ?_
 refine bl (i := 1) rfl rfl rfl (fun _ _ _ => aM (by as_aux_lemma => kernel_rfl)) (by as_aux_lemma => kernel_rfl) rfl ?_
 refine bY (vs := [_]) ([[99]] : List (a6)) bV Tryz.underlying135 cI rfl rfl rfl rfl rfl rfl (fun As17 => ?_)
 refine aa ?_
 refine aT (bq 3) ?_
 refine bl (i := 2) rfl rfl rfl (bf rfl em) (by as_aux_lemma => kernel_rfl) rfl ?_
 refine bA rfl em rfl (fu _ _ _ (by decide)) (fun w hw => (az (ci 0 rfl hw) aY)) ?_
 refine aa ?_
 refine aT (bq 3) ?_
 refine dw (listed' := #[true, true, true, false, true, false, false, false, false, false, false, false, true, false, false]) (by as_aux_lemma => kernel_rfl) ?_
 exact K2_7 As11 b16 As17 _ ec
 exact cH
 intro b12
 refine de (js := [1, 4]) (by as_aux_lemma => kernel_rfl) rfl ?_
 refine bi (i := 1) rfl rfl rfl (fun _ _ _ => aM (by as_aux_lemma => kernel_rfl)) rfl ?_ ?_
 refine bY (vs := [_]) ([[99]] : List (a6)) bV Tryz.underlying135 cI rfl rfl rfl rfl rfl rfl (fun As18 => ?_)
 refine aa ?_
 refine aT (bq 2) ?_
 refine fB (fun w h => h.f1) ?_
 refine dw (listed' := #[true, true, false, false, false, false, false, false, false, false, false, false, true, false, false]) (by as_aux_lemma => kernel_rfl) ?_
 exact K2_6 As18 b12 _ (by repeat (first | exact trivial | refine ⟨rfl, ?_⟩))
 refine bi (i := 4) rfl rfl rfl (fun _ _ _ => aM (by as_aux_lemma => kernel_rfl)) rfl ?_ ?_
 refine bY (vs := [_]) ([[98]] : List (a6)) bV Tryz.underlying135 cI rfl rfl rfl rfl rfl rfl (fun As19 => ?_)
 refine aa ?_
 refine aT (bq 2) ?_
 refine bl (i := 1) rfl rfl rfl (fun _ _ _ => aM (by as_aux_lemma => kernel_rfl)) (by as_aux_lemma => kernel_rfl) rfl ?_
 refine bY (vs := [_]) ([[99]] : List (a6)) bV Tryz.underlying135 cI rfl rfl rfl rfl rfl rfl (fun As20 => ?_)
 refine aa ?_
 refine aT (bq 3) ?_
 refine bl (i := 2) rfl rfl rfl (bf rfl em) (by as_aux_lemma => kernel_rfl) rfl ?_
 refine bA rfl em rfl (fu _ _ _ (by decide)) (fun w hw => (az (ci 0 rfl hw) aY)) ?_
 refine aa ?_
 refine aT (bq 3) ?_
 refine fB (fun w h => h.f1.f2.f2) ?_
 refine dw (listed' := #[true, true, true, false, true, false, false, false, false, false, false, false, true, false, false]) (by as_aux_lemma => kernel_rfl) ?_
 exact K2_7 As19 b12 As20 _ (by repeat (first | exact trivial | refine ⟨rfl, ?_⟩))
 exact cH
 intro As10
 refine de (js := [3, 4, 12]) (by as_aux_lemma => kernel_rfl) rfl ?_
 refine bi (i := 3) rfl rfl rfl (fun _ _ _ => aM (by as_aux_lemma => kernel_rfl)) rfl ?_ ?_
 refine bY (vs := [_]) (p17b : List (Le)) bp Tryz.underlying22 aU rfl rfl rfl rfl rfl rfl (fun As21 => ?_)
 refine aa ?_
 refine aT (bq 2) ?_
 refine dw (listed' := #[true, true, true, true, false, false, false, false, false, false, false, false, false, false, false]) (by as_aux_lemma => kernel_rfl) ?_
 exact K2_8 As10 As21 _ ec
 refine bi (i := 4) rfl rfl rfl (fun _ _ _ => aM (by as_aux_lemma => kernel_rfl)) rfl ?_ ?_
 refine bY (vs := [_]) ([[98]] : List (a6)) bV Tryz.underlying135 cI rfl rfl rfl rfl rfl rfl (fun As22 => ?_)
 refine aa ?_
 refine aT (bq 2) ?_
 refine dw (listed' := #[true, true, true, false, true, false, false, false, false, false, false, false, false, false, false]) (by as_aux_lemma => kernel_rfl) ?_
 exact K2_9 As10 As22 _ ec
 refine bi (i := 12) rfl rfl rfl (fun _ _ _ => aM (by as_aux_lemma => kernel_rfl)) rfl ?_ ?_
 refine bH bw rfl rfl (fun b23 => ?_)
 refine aa ?_
 refine aT (bq 2) ?_
 refine dw (listed' := #[true, true, true, false, false, false, false, false, false, false, false, false, true, false, false]) (by as_aux_lemma => kernel_rfl) ?_
 exact K2_10 As10 b23 _ ec
 exact cH
 intro As10 As13
 refine de (js := [2, 12]) (by as_aux_lemma => kernel_rfl) rfl ?_
 refine bi (i := 2) rfl rfl rfl (bf rfl em) rfl ?_ ?_
 refine bA rfl em rfl (fu _ _ _ (by decide)) (fun w hw => (az (ci 1 rfl hw) aY)) ?_
 refine aa ?_
 refine aT (bq 2) ?_
 refine dw (listed' := #[true, true, true, false, true, false, false, false, false, false, false, false, false, false, false]) (by as_aux_lemma => kernel_rfl) ?_
 exact K2_9 As10 As13 _ (by repeat (first | exact trivial | refine ⟨rfl, ?_⟩))
 refine bi (i := 12) rfl rfl rfl (fun _ _ _ => aM (by as_aux_lemma => kernel_rfl)) rfl ?_ ?_
 refine bH bw rfl rfl (fun b24 => ?_)
 refine aa ?_
 refine aT (bq 3) ?_
 refine bl (i := 2) rfl rfl rfl (bf rfl em) (by as_aux_lemma => kernel_rfl) rfl ?_
 refine bA rfl em rfl (fu _ _ _ (by decide)) (fun w hw => (az (ci 2 rfl hw) aY)) ?_
 refine aa ?_
 refine aT (bq 3) ?_
 refine fB (fun w h => h.f1.f1.f2) ?_
 refine dw (listed' := #[true, true, true, false, true, false, false, false, false, false, false, false, true, false, false]) (by as_aux_lemma => kernel_rfl) ?_
 exact K2_7 As13 b24 As10 _ (by repeat (first | exact trivial | refine ⟨rfl, ?_⟩))
 exact cH
 intro As10 b14
 refine de (js := [2, 4]) (by as_aux_lemma => kernel_rfl) rfl ?_
 refine bi (i := 2) rfl rfl rfl (bf rfl em) rfl ?_ ?_
 refine bA rfl em rfl (fu _ _ _ (by decide)) (fun w hw => (az (ci 1 rfl hw) aY)) ?_
 refine aa ?_
 refine aT (bq 2) ?_
 refine dw (listed' := #[true, true, true, false, false, false, false, false, false, false, false, false, true, false, false]) (by as_aux_lemma => kernel_rfl) ?_
 exact K2_10 As10 b14 _ (by repeat (first | exact trivial | refine ⟨rfl, ?_⟩))
 refine bi (i := 4) rfl rfl rfl (fun _ _ _ => aM (by as_aux_lemma => kernel_rfl)) rfl ?_ ?_
 refine bY (vs := [_]) ([[98]] : List (a6)) bV Tryz.underlying135 cI rfl rfl rfl rfl rfl rfl (fun As25 => ?_)
 refine aa ?_
 refine aT (bq 3) ?_
 refine bl (i := 2) rfl rfl rfl (bf rfl em) (by as_aux_lemma => kernel_rfl) rfl ?_
 refine bA rfl em rfl (fu _ _ _ (by decide)) (fun w hw => (az (ci 2 rfl hw) aY)) ?_
 refine aa ?_
 refine aT (bq 3) ?_
 refine fB (fun w h => h.f1.f2) ?_
 refine dw (listed' := #[true, true, true, false, true, false, false, false, false, false, false, false, true, false, false]) (by as_aux_lemma => kernel_rfl) ?_
 exact K2_7 As25 b14 As10 _ (by repeat (first | exact trivial | refine ⟨rfl, ?_⟩))
 exact cH
 intro As10 As21
 refine de (js := [4, 12]) (by as_aux_lemma => kernel_rfl) rfl ?_
 refine bi (i := 4) rfl rfl rfl (fun _ _ _ => aM (by as_aux_lemma => kernel_rfl)) rfl ?_ ?_
 refine bY (vs := [_]) ([[98]] : List (a6)) bV Tryz.underlying135 cI rfl rfl rfl rfl rfl rfl (fun As26 => ?_)
 refine aa ?_
 refine aT (bq 3) ?_
 refine dw (listed' := #[true, true, true, true, true, false, false, false, false, false, false, false, false, false, false]) (by as_aux_lemma => kernel_rfl) ?_
 exact K2_11 As10 As21 As26 _ ec
 refine bi (i := 12) rfl rfl rfl (fun _ _ _ => aM (by as_aux_lemma => kernel_rfl)) rfl ?_ ?_
 refine bH bw rfl rfl (fun b27 => ?_)
 refine aa ?_
 refine aT (bq 3) ?_
 refine bl (i := 4) rfl rfl rfl (fun _ _ _ => aM (by as_aux_lemma => kernel_rfl)) (by as_aux_lemma => kernel_rfl) rfl ?_
 refine bY (vs := [_]) ([[98]] : List (a6)) bV Tryz.underlying135 cI rfl rfl rfl rfl rfl rfl (fun As28 => ?_)
 refine aa ?_
 refine aT (bq 4) ?_
 refine bl (i := 5) rfl rfl rfl (bf rfl dU) (by as_aux_lemma => kernel_rfl) rfl ?_
 refine bA rfl dU rfl (eZ _ _ _ (by decide)) (fun w hw => (az (ci 0 rfl hw) aY)) ?_
 refine aa ?_
 refine aT (bq 4) ?_
 refine bl (i := 6) rfl rfl rfl (fun _ _ _ => aM (by as_aux_lemma => kernel_rfl)) (by as_aux_lemma => kernel_rfl) rfl ?_
 refine bY (vs := [_]) ([n17 98] : List (a6)) bV Tryz.underlying59 bE rfl rfl rfl rfl rfl rfl (fun As29 => ?_)
 refine aa ?_
 refine aT (bq 5) ?_
 refine aI (i := 7) rfl ak (bP rfl (dl _ _ _ _ _ _ _ _)) (bq 5) aG rfl (ah aw) (by as_aux_lemma => kernel_rfl) rfl ?_
 refine bl (i := 8) rfl rfl rfl (bf rfl dC) (by as_aux_lemma => kernel_rfl) rfl ?_
 refine bU rfl dC rfl (dY 3 ta _ _ false 3 4 p17b _ _ [n17 98] _ _ htaok fI htal (by decide) (by decide) eX) (fun w hw => (az (ci 7 rfl hw) (az (ja 6 rfl hw) (az (ci 3 rfl hw) (az (ek fJ) (az (ci 0 rfl hw) aY)))))) (fun ⟨⟨tb, Ab, cb⟩, htb⟩ => ?_)
 refine aa ?_
 refine aT (bq 7) ?_
 refine dT (t := 27) (.tuple #[.agg (eE 4 Ab tb.length cb).toArray, .int .i64 0]) rfl (by rw [hb9.1]; rfl) ?_
 have htb2 : tb.map (·.e) = r17b.map (·.e) := htb.trans hb9.2
 refine aI (i := 9) rfl ak (am rfl) (bq 7) aG rfl (ah aw) (by as_aux_lemma => kernel_rfl) rfl ?_
 refine aI (i := 10) rfl ak (bn rfl rfl) (bq 7) aG rfl (ah aw) (by as_aux_lemma => kernel_rfl) rfl ?_
 refine aI (i := 11) rfl ak (bn rfl rfl) (bq 7) aG rfl (ah aw) (by as_aux_lemma => kernel_rfl) rfl ?_
 refine bl (i := 13) rfl rfl rfl (fun _ _ _ => aM (by as_aux_lemma => kernel_rfl)) (by as_aux_lemma => kernel_rfl) rfl ?_
 refine aW bw rfl rfl rfl (.s (.s (.s (.s (.z))))) rfl rfl rfl rfl ?_
 refine aa ?_
 refine aT (bq 7) ?_
 refine aI (i := 14) rfl ak (ai rfl) (bq 7) aG rfl (ah aw) (by as_aux_lemma => kernel_rfl) rfl ?_
 refine cw (by as_aux_lemma => kernel_rfl) ?_
 refine aj ?_
 refine cz (fun w h => (h.weak (.cons_cons _ (.cons_cons _ (.cons _ (.cons _ (.cons_cons _ (.cons _ (.cons _ (.cons_cons _ (.cons _ (.cons_cons _ (.cons _ (.cons _ (.cons _ .slnil))))))))))))) (fun s hs => hs))) ?_
 exact J2 (⟨(tb, Ab, cb), htb2⟩, b27) _ (by repeat (first | exact trivial | refine ⟨rfl, ?_⟩))
 exact cH
 intro As10 As22
 refine de (js := [3, 5, 12]) (by as_aux_lemma => kernel_rfl) rfl ?_
 refine bi (i := 3) rfl rfl rfl (fun _ _ _ => aM (by as_aux_lemma => kernel_rfl)) rfl ?_ ?_
 refine bY (vs := [_]) (p17b : List (Le)) bp Tryz.underlying22 aU rfl rfl rfl rfl rfl rfl (fun As31 => ?_)
 refine aa ?_
 refine aT (bq 3) ?_
 refine fB (fun w h => h.f2.f1.f2) ?_
 refine dw (listed' := #[true, true, true, true, true, false, false, false, false, false, false, false, false, false, false]) (by as_aux_lemma => kernel_rfl) ?_
 exact K2_11 As10 As31 As22 _ (by repeat (first | exact trivial | refine ⟨rfl, ?_⟩))
 refine bi (i := 5) rfl rfl rfl (bf rfl dU) rfl ?_ ?_
 refine bA rfl dU rfl (eZ _ _ _ (by decide)) (fun w hw => (az (ci 0 rfl hw) aY)) ?_
 refine aa ?_
 refine aT (bq 2) ?_
 refine dw (listed' := #[true, true, true, false, true, true, false, false, false, false, false, false, false, false, false]) (by as_aux_lemma => kernel_rfl) ?_
 exact K2_12 As10 As22 _ ec
 refine bi (i := 12) rfl rfl rfl (fun _ _ _ => aM (by as_aux_lemma => kernel_rfl)) rfl ?_ ?_
 refine bH bw rfl rfl (fun b32 => ?_)
 refine aa ?_
 refine aT (bq 3) ?_
 refine fB (fun w h => h.f1.f1.f2) ?_
 refine dw (listed' := #[true, true, true, false, true, false, false, false, false, false, false, false, true, false, false]) (by as_aux_lemma => kernel_rfl) ?_
 exact K2_7 As22 b32 As10 _ (by repeat (first | exact trivial | refine ⟨rfl, ?_⟩))
 exact cH
 intro As10 b23
 refine de (js := [3, 4]) (by as_aux_lemma => kernel_rfl) rfl ?_
 refine bi (i := 3) rfl rfl rfl (fun _ _ _ => aM (by as_aux_lemma => kernel_rfl)) rfl ?_ ?_
 refine bY (vs := [_]) (p17b : List (Le)) bp Tryz.underlying22 aU rfl rfl rfl rfl rfl rfl (fun As33 => ?_)
 refine aa ?_
 refine aT (bq 3) ?_
 refine bl (i := 4) rfl rfl rfl (fun _ _ _ => aM (by as_aux_lemma => kernel_rfl)) (by as_aux_lemma => kernel_rfl) rfl ?_
 refine bY (vs := [_]) ([[98]] : List (a6)) bV Tryz.underlying135 cI rfl rfl rfl rfl rfl rfl (fun As34 => ?_)
 refine aa ?_
 refine aT (bq 4) ?_
 refine bl (i := 5) rfl rfl rfl (bf rfl dU) (by as_aux_lemma => kernel_rfl) rfl ?_
 refine bA rfl dU rfl (eZ _ _ _ (by decide)) (fun w hw => (az (ci 0 rfl hw) aY)) ?_
 refine aa ?_
 refine aT (bq 4) ?_
 refine bl (i := 6) rfl rfl rfl (fun _ _ _ => aM (by as_aux_lemma => kernel_rfl)) (by as_aux_lemma => kernel_rfl) rfl ?_
 refine bY (vs := [_]) ([n17 98] : List (a6)) bV Tryz.underlying59 bE rfl rfl rfl rfl rfl rfl (fun As35 => ?_)
 refine aa ?_
 refine aT (bq 5) ?_
 refine aI (i := 7) rfl ak (bP rfl (dl _ _ _ _ _ _ _ _)) (bq 5) aG rfl (ah aw) (by as_aux_lemma => kernel_rfl) rfl ?_
 refine bl (i := 8) rfl rfl rfl (bf rfl dC) (by as_aux_lemma => kernel_rfl) rfl ?_
 refine bU rfl dC rfl (dY 3 ta _ _ false 3 4 p17b _ _ [n17 98] _ _ htaok fI htal (by decide) (by decide) eX) (fun w hw => (az (ci 7 rfl hw) (az (ja 6 rfl hw) (az (ci 2 rfl hw) (az (ek fJ) (az (ci 0 rfl hw) aY)))))) (fun ⟨⟨tb, Ab, cb⟩, htb⟩ => ?_)
 refine aa ?_
 refine aT (bq 7) ?_
 refine dT (t := 27) (.tuple #[.agg (eE 4 Ab tb.length cb).toArray, .int .i64 0]) rfl (by rw [hb9.1]; rfl) ?_
 have htb2 : tb.map (·.e) = r17b.map (·.e) := htb.trans hb9.2
 refine aI (i := 9) rfl ak (am rfl) (bq 7) aG rfl (ah aw) (by as_aux_lemma => kernel_rfl) rfl ?_
 refine aI (i := 10) rfl ak (bn rfl rfl) (bq 7) aG rfl (ah aw) (by as_aux_lemma => kernel_rfl) rfl ?_
 refine aI (i := 11) rfl ak (bn rfl rfl) (bq 7) aG rfl (ah aw) (by as_aux_lemma => kernel_rfl) rfl ?_
 refine bl (i := 13) rfl rfl rfl (fun _ _ _ => aM (by as_aux_lemma => kernel_rfl)) (by as_aux_lemma => kernel_rfl) rfl ?_
 refine aW bw rfl rfl rfl (.s (.s (.s (.s (.s (.z)))))) rfl rfl rfl rfl ?_
 refine aa ?_
 refine aT (bq 7) ?_
 refine aI (i := 14) rfl ak (ai rfl) (bq 7) aG rfl (ah aw) (by as_aux_lemma => kernel_rfl) rfl ?_
 refine cw (by as_aux_lemma => kernel_rfl) ?_
 refine aj ?_
 refine cz (fun w h => (h.weak (.cons_cons _ (.cons_cons _ (.cons _ (.cons _ (.cons _ (.cons_cons _ (.cons _ (.cons_cons _ (.cons _ (.cons_cons _ (.cons _ (.cons _ (.cons _ .slnil))))))))))))) (fun s hs => hs))) ?_
 exact J2 (⟨(tb, Ab, cb), htb2⟩, b23) _ (by repeat (first | exact trivial | refine ⟨rfl, ?_⟩))
 refine bi (i := 4) rfl rfl rfl (fun _ _ _ => aM (by as_aux_lemma => kernel_rfl)) rfl ?_ ?_
 refine bY (vs := [_]) ([[98]] : List (a6)) bV Tryz.underlying135 cI rfl rfl rfl rfl rfl rfl (fun As37 => ?_)
 refine aa ?_
 refine aT (bq 3) ?_
 refine fB (fun w h => h.f1.f2) ?_
 refine dw (listed' := #[true, true, true, false, true, false, false, false, false, false, false, false, true, false, false]) (by as_aux_lemma => kernel_rfl) ?_
 exact K2_7 As37 b23 As10 _ (by repeat (first | exact trivial | refine ⟨rfl, ?_⟩))
 exact cH
 intro As11 b16 As17
 refine de (js := [3, 5]) (by as_aux_lemma => kernel_rfl) rfl ?_
 refine bi (i := 3) rfl rfl rfl (fun _ _ _ => aM (by as_aux_lemma => kernel_rfl)) rfl ?_ ?_
 refine bY (vs := [_]) (p17b : List (Le)) bp Tryz.underlying22 aU rfl rfl rfl rfl rfl rfl (fun As38 => ?_)
 refine aa ?_
 refine aT (bq 4) ?_
 refine bl (i := 5) rfl rfl rfl (bf rfl dU) (by as_aux_lemma => kernel_rfl) rfl ?_
 refine bA rfl dU rfl (eZ _ _ _ (by decide)) (fun w hw => (az (ci 3 rfl hw) aY)) ?_
 refine aa ?_
 refine aT (bq 4) ?_
 refine bl (i := 6) rfl rfl rfl (fun _ _ _ => aM (by as_aux_lemma => kernel_rfl)) (by as_aux_lemma => kernel_rfl) rfl ?_
 refine bY (vs := [_]) ([n17 98] : List (a6)) bV Tryz.underlying59 bE rfl rfl rfl rfl rfl rfl (fun As39 => ?_)
 refine aa ?_
 refine aT (bq 5) ?_
 refine aI (i := 7) rfl ak (bP rfl (dl _ _ _ _ _ _ _ _)) (bq 5) aG rfl (ah aw) (by as_aux_lemma => kernel_rfl) rfl ?_
 refine bl (i := 8) rfl rfl rfl (bf rfl dC) (by as_aux_lemma => kernel_rfl) rfl ?_
 refine bU rfl dC rfl (dY 3 ta _ _ false 3 4 p17b _ _ [n17 98] _ _ htaok fI htal (by decide) (by decide) eX) (fun w hw => (az (ci 7 rfl hw) (az (ja 6 rfl hw) (az (ci 1 rfl hw) (az (ek fJ) (az (ci 0 rfl hw) aY)))))) (fun ⟨⟨tb, Ab, cb⟩, htb⟩ => ?_)
 refine aa ?_
 refine aT (bq 7) ?_
 refine dT (t := 27) (.tuple #[.agg (eE 4 Ab tb.length cb).toArray, .int .i64 0]) rfl (by rw [hb9.1]; rfl) ?_
 have htb2 : tb.map (·.e) = r17b.map (·.e) := htb.trans hb9.2
 refine aI (i := 9) rfl ak (am rfl) (bq 7) aG rfl (ah aw) (by as_aux_lemma => kernel_rfl) rfl ?_
 refine aI (i := 10) rfl ak (bn rfl rfl) (bq 7) aG rfl (ah aw) (by as_aux_lemma => kernel_rfl) rfl ?_
 refine aI (i := 11) rfl ak (bn rfl rfl) (bq 7) aG rfl (ah aw) (by as_aux_lemma => kernel_rfl) rfl ?_
 refine bl (i := 13) rfl rfl rfl (fun _ _ _ => aM (by as_aux_lemma => kernel_rfl)) (by as_aux_lemma => kernel_rfl) rfl ?_
 refine aW bw rfl rfl rfl (.s (.s (.s (.s (.s (.z)))))) rfl rfl rfl rfl ?_
 refine aa ?_
 refine aT (bq 7) ?_
 refine aI (i := 14) rfl ak (ai rfl) (bq 7) aG rfl (ah aw) (by as_aux_lemma => kernel_rfl) rfl ?_
 refine cw (by as_aux_lemma => kernel_rfl) ?_
 refine aj ?_
 refine cz (fun w h => (h.weak (.cons_cons _ (.cons_cons _ (.cons _ (.cons _ (.cons _ (.cons_cons _ (.cons _ (.cons_cons _ (.cons _ (.cons_cons _ (.cons _ (.cons _ (.cons _ .slnil))))))))))))) (fun s hs => hs))) ?_
 exact J2 (⟨(tb, Ab, cb), htb2⟩, b16) _ (by repeat (first | exact trivial | refine ⟨rfl, ?_⟩))
 refine bi (i := 5) rfl rfl rfl (bf rfl dU) rfl ?_ ?_
 refine bA rfl dU rfl (eZ _ _ _ (by decide)) (fun w hw => (az (ci 2 rfl hw) aY)) ?_
 refine aa ?_
 refine aT (bq 3) ?_
 refine dw (listed' := #[true, true, true, false, true, true, false, false, false, false, false, false, true, false, false]) (by as_aux_lemma => kernel_rfl) ?_
 exact K2_13 As11 b16 As17 _ ec
 exact cH
 intro As10 As21 As26
 refine de (js := [5, 12]) (by as_aux_lemma => kernel_rfl) rfl ?_
 refine bi (i := 5) rfl rfl rfl (bf rfl dU) rfl ?_ ?_
 refine bA rfl dU rfl (eZ _ _ _ (by decide)) (fun w hw => (az (ci 0 rfl hw) aY)) ?_
 refine aa ?_
 refine aT (bq 3) ?_
 refine dw (listed' := #[true, true, true, true, true, true, false, false, false, false, false, false, false, false, false]) (by as_aux_lemma => kernel_rfl) ?_
 exact K2_14 As10 As21 As26 _ ec
 refine bi (i := 12) rfl rfl rfl (fun _ _ _ => aM (by as_aux_lemma => kernel_rfl)) rfl ?_ ?_
 refine bH bw rfl rfl (fun b41 => ?_)
 refine aa ?_
 refine aT (bq 4) ?_
 refine bl (i := 5) rfl rfl rfl (bf rfl dU) (by as_aux_lemma => kernel_rfl) rfl ?_
 refine bA rfl dU rfl (eZ _ _ _ (by decide)) (fun w hw => (az (ci 1 rfl hw) aY)) ?_
 refine aa ?_
 refine aT (bq 4) ?_
 refine bl (i := 6) rfl rfl rfl (fun _ _ _ => aM (by as_aux_lemma => kernel_rfl)) (by as_aux_lemma => kernel_rfl) rfl ?_
 refine bY (vs := [_]) ([n17 98] : List (a6)) bV Tryz.underlying59 bE rfl rfl rfl rfl rfl rfl (fun As42 => ?_)
 refine aa ?_
 refine aT (bq 5) ?_
 refine aI (i := 7) rfl ak (bP rfl (dl _ _ _ _ _ _ _ _)) (bq 5) aG rfl (ah aw) (by as_aux_lemma => kernel_rfl) rfl ?_
 refine bl (i := 8) rfl rfl rfl (bf rfl dC) (by as_aux_lemma => kernel_rfl) rfl ?_
 refine bU rfl dC rfl (dY 3 ta _ _ false 3 4 p17b _ _ [n17 98] _ _ htaok fI htal (by decide) (by decide) eX) (fun w hw => (az (ci 7 rfl hw) (az (ja 6 rfl hw) (az (ci 3 rfl hw) (az (ek fJ) (az (ci 0 rfl hw) aY)))))) (fun ⟨⟨tb, Ab, cb⟩, htb⟩ => ?_)
 refine aa ?_
 refine aT (bq 7) ?_
 refine dT (t := 27) (.tuple #[.agg (eE 4 Ab tb.length cb).toArray, .int .i64 0]) rfl (by rw [hb9.1]; rfl) ?_
 have htb2 : tb.map (·.e) = r17b.map (·.e) := htb.trans hb9.2
 refine aI (i := 9) rfl ak (am rfl) (bq 7) aG rfl (ah aw) (by as_aux_lemma => kernel_rfl) rfl ?_
 refine aI (i := 10) rfl ak (bn rfl rfl) (bq 7) aG rfl (ah aw) (by as_aux_lemma => kernel_rfl) rfl ?_
 refine aI (i := 11) rfl ak (bn rfl rfl) (bq 7) aG rfl (ah aw) (by as_aux_lemma => kernel_rfl) rfl ?_
 refine bl (i := 13) rfl rfl rfl (fun _ _ _ => aM (by as_aux_lemma => kernel_rfl)) (by as_aux_lemma => kernel_rfl) rfl ?_
 refine aW bw rfl rfl rfl (.s (.s (.s (.z)))) rfl rfl rfl rfl ?_
 refine aa ?_
 refine aT (bq 7) ?_
 refine aI (i := 14) rfl ak (ai rfl) (bq 7) aG rfl (ah aw) (by as_aux_lemma => kernel_rfl) rfl ?_
 refine cw (by as_aux_lemma => kernel_rfl) ?_
 refine aj ?_
 refine cz (fun w h => (h.weak (.cons_cons _ (.cons_cons _ (.cons _ (.cons_cons _ (.cons _ (.cons _ (.cons _ (.cons_cons _ (.cons _ (.cons_cons _ (.cons _ (.cons _ (.cons _ .slnil))))))))))))) (fun s hs => hs))) ?_
 exact J2 (⟨(tb, Ab, cb), htb2⟩, b41) _ (by repeat (first | exact trivial | refine ⟨rfl, ?_⟩))
 exact cH
 intro As10 As22
 refine de (js := [3, 6, 12]) (by as_aux_lemma => kernel_rfl) rfl ?_
 refine bi (i := 3) rfl rfl rfl (fun _ _ _ => aM (by as_aux_lemma => kernel_rfl)) rfl ?_ ?_
 refine bY (vs := [_]) (p17b : List (Le)) bp Tryz.underlying22 aU rfl rfl rfl rfl rfl rfl (fun As44 => ?_)
 refine aa ?_
 refine aT (bq 3) ?_
 refine fB (fun w h => h.f2.f1.f2) ?_
 refine dw (listed' := #[true, true, true, true, true, true, false, false, false, false, false, false, false, false, false]) (by as_aux_lemma => kernel_rfl) ?_
 exact K2_14 As10 As44 As22 _ (by repeat (first | exact trivial | refine ⟨rfl, ?_⟩))
 refine bi (i := 6) rfl rfl rfl (fun _ _ _ => aM (by as_aux_lemma => kernel_rfl)) rfl ?_ ?_
 refine bY (vs := [_]) ([n17 98] : List (a6)) bV Tryz.underlying59 bE rfl rfl rfl rfl rfl rfl (fun As45 => ?_)
 refine aa ?_
 refine aT (bq 3) ?_
 refine dw (listed' := #[true, true, true, false, true, true, true, false, false, false, false, false, false, false, false]) (by as_aux_lemma => kernel_rfl) ?_
 exact K2_15 As10 As22 As45 _ ec
 refine bi (i := 12) rfl rfl rfl (fun _ _ _ => aM (by as_aux_lemma => kernel_rfl)) rfl ?_ ?_
 refine bH bw rfl rfl (fun b46 => ?_)
 refine aa ?_
 refine aT (bq 3) ?_
 refine fB (fun w h => h.f1.f1.f2) ?_
 refine dw (listed' := #[true, true, true, false, true, true, false, false, false, false, false, false, true, false, false]) (by as_aux_lemma => kernel_rfl) ?_
 exact K2_13 As22 b46 As10 _ (by repeat (first | exact trivial | refine ⟨rfl, ?_⟩))
 exact cH
 intro As11 b16 As17
 refine de (js := [3, 6]) (by as_aux_lemma => kernel_rfl) rfl ?_
 refine bi (i := 3) rfl rfl rfl (fun _ _ _ => aM (by as_aux_lemma => kernel_rfl)) rfl ?_ ?_
 refine bY (vs := [_]) (p17b : List (Le)) bp Tryz.underlying22 aU rfl rfl rfl rfl rfl rfl (fun As47 => ?_)
 refine aa ?_
 refine aT (bq 4) ?_
 refine bl (i := 6) rfl rfl rfl (fun _ _ _ => aM (by as_aux_lemma => kernel_rfl)) (by as_aux_lemma => kernel_rfl) rfl ?_
 refine bY (vs := [_]) ([n17 98] : List (a6)) bV Tryz.underlying59 bE rfl rfl rfl rfl rfl rfl (fun As48 => ?_)
 refine aa ?_
 refine aT (bq 5) ?_
 refine aI (i := 7) rfl ak (bP rfl (dl _ _ _ _ _ _ _ _)) (bq 5) aG rfl (ah aw) (by as_aux_lemma => kernel_rfl) rfl ?_
 refine bl (i := 8) rfl rfl rfl (bf rfl dC) (by as_aux_lemma => kernel_rfl) rfl ?_
 refine bU rfl dC rfl (dY 3 ta _ _ false 3 4 p17b _ _ [n17 98] _ _ htaok fI htal (by decide) (by decide) eX) (fun w hw => (az (ci 7 rfl hw) (az (ja 6 rfl hw) (az (ci 1 rfl hw) (az (ek fJ) (az (ci 0 rfl hw) aY)))))) (fun ⟨⟨tb, Ab, cb⟩, htb⟩ => ?_)
 refine aa ?_
 refine aT (bq 7) ?_
 refine dT (t := 27) (.tuple #[.agg (eE 4 Ab tb.length cb).toArray, .int .i64 0]) rfl (by rw [hb9.1]; rfl) ?_
 have htb2 : tb.map (·.e) = r17b.map (·.e) := htb.trans hb9.2
 refine aI (i := 9) rfl ak (am rfl) (bq 7) aG rfl (ah aw) (by as_aux_lemma => kernel_rfl) rfl ?_
 refine aI (i := 10) rfl ak (bn rfl rfl) (bq 7) aG rfl (ah aw) (by as_aux_lemma => kernel_rfl) rfl ?_
 refine aI (i := 11) rfl ak (bn rfl rfl) (bq 7) aG rfl (ah aw) (by as_aux_lemma => kernel_rfl) rfl ?_
 refine bl (i := 13) rfl rfl rfl (fun _ _ _ => aM (by as_aux_lemma => kernel_rfl)) (by as_aux_lemma => kernel_rfl) rfl ?_
 refine aW bw rfl rfl rfl (.s (.s (.s (.s (.s (.z)))))) rfl rfl rfl rfl ?_
 refine aa ?_
 refine aT (bq 7) ?_
 refine aI (i := 14) rfl ak (ai rfl) (bq 7) aG rfl (ah aw) (by as_aux_lemma => kernel_rfl) rfl ?_
 refine cw (by as_aux_lemma => kernel_rfl) ?_
 refine aj ?_
 refine cz (fun w h => (h.weak (.cons_cons _ (.cons_cons _ (.cons _ (.cons _ (.cons _ (.cons_cons _ (.cons _ (.cons_cons _ (.cons _ (.cons_cons _ (.cons _ (.cons _ (.cons _ .slnil))))))))))))) (fun s hs => hs))) ?_
 exact J2 (⟨(tb, Ab, cb), htb2⟩, b16) _ (by repeat (first | exact trivial | refine ⟨rfl, ?_⟩))
 refine bi (i := 6) rfl rfl rfl (fun _ _ _ => aM (by as_aux_lemma => kernel_rfl)) rfl ?_ ?_
 refine bY (vs := [_]) ([n17 98] : List (a6)) bV Tryz.underlying59 bE rfl rfl rfl rfl rfl rfl (fun As50 => ?_)
 refine aa ?_
 refine aT (bq 4) ?_
 refine bl (i := 3) rfl rfl rfl (fun _ _ _ => aM (by as_aux_lemma => kernel_rfl)) (by as_aux_lemma => kernel_rfl) rfl ?_
 refine bY (vs := [_]) (p17b : List (Le)) bp Tryz.underlying22 aU rfl rfl rfl rfl rfl rfl (fun As51 => ?_)
 refine aa ?_
 refine aT (bq 5) ?_
 refine aI (i := 7) rfl ak (bP rfl (dl _ _ _ _ _ _ _ _)) (bq 5) aG rfl (ah aw) (by as_aux_lemma => kernel_rfl) rfl ?_
 refine bl (i := 8) rfl rfl rfl (bf rfl dC) (by as_aux_lemma => kernel_rfl) rfl ?_
 refine bU rfl dC rfl (dY 3 ta _ _ false 3 4 p17b _ _ [n17 98] _ _ htaok fI htal (by decide) (by decide) eX) (fun w hw => (az (ci 7 rfl hw) (az (ja 6 rfl hw) (az (ci 0 rfl hw) (az (ek fJ) (az (ci 1 rfl hw) aY)))))) (fun ⟨⟨tb, Ab, cb⟩, htb⟩ => ?_)
 refine aa ?_
 refine aT (bq 7) ?_
 refine dT (t := 27) (.tuple #[.agg (eE 4 Ab tb.length cb).toArray, .int .i64 0]) rfl (by rw [hb9.1]; rfl) ?_
 have htb2 : tb.map (·.e) = r17b.map (·.e) := htb.trans hb9.2
 refine aI (i := 9) rfl ak (am rfl) (bq 7) aG rfl (ah aw) (by as_aux_lemma => kernel_rfl) rfl ?_
 refine aI (i := 10) rfl ak (bn rfl rfl) (bq 7) aG rfl (ah aw) (by as_aux_lemma => kernel_rfl) rfl ?_
 refine aI (i := 11) rfl ak (bn rfl rfl) (bq 7) aG rfl (ah aw) (by as_aux_lemma => kernel_rfl) rfl ?_
 refine bl (i := 13) rfl rfl rfl (fun _ _ _ => aM (by as_aux_lemma => kernel_rfl)) (by as_aux_lemma => kernel_rfl) rfl ?_
 refine aW bw rfl rfl rfl (.s (.s (.s (.s (.s (.z)))))) rfl rfl rfl rfl ?_
 refine aa ?_
 refine aT (bq 7) ?_
 refine aI (i := 14) rfl ak (ai rfl) (bq 7) aG rfl (ah aw) (by as_aux_lemma => kernel_rfl) rfl ?_
 refine cw (by as_aux_lemma => kernel_rfl) ?_
 refine aj ?_
 refine cz (fun w h => (h.weak (.cons_cons _ (.cons_cons _ (.cons _ (.cons _ (.cons _ (.cons_cons _ (.cons _ (.cons_cons _ (.cons _ (.cons_cons _ (.cons _ (.cons _ (.cons _ .slnil))))))))))))) (fun s hs => hs))) ?_
 exact J2 (⟨(tb, Ab, cb), htb2⟩, b16) _ (by repeat (first | exact trivial | refine ⟨rfl, ?_⟩))
 exact cH
 intro As10 As21 As26
 refine de (js := [6, 12]) (by as_aux_lemma => kernel_rfl) rfl ?_
 refine bi (i := 6) rfl rfl rfl (fun _ _ _ => aM (by as_aux_lemma => kernel_rfl)) rfl ?_ ?_
 refine bY (vs := [_]) ([n17 98] : List (a6)) bV Tryz.underlying59 bE rfl rfl rfl rfl rfl rfl (fun As53 => ?_)
 refine aa ?_
 refine aT (bq 4) ?_
 refine aI (i := 7) rfl ak (bP rfl (dl _ _ _ _ _ _ _ _)) (bq 4) aG rfl (ah aw) (by as_aux_lemma => kernel_rfl) rfl ?_
 refine dw (listed' := #[true, true, true, true, true, true, true, true, false, false, false, false, false, false, false]) (by as_aux_lemma => kernel_rfl) ?_
 exact K2_16 As10 As21 As26 As53 _ ec
 refine bi (i := 12) rfl rfl rfl (fun _ _ _ => aM (by as_aux_lemma => kernel_rfl)) rfl ?_ ?_
 refine bH bw rfl rfl (fun b54 => ?_)
 refine aa ?_
 refine aT (bq 4) ?_
 refine bl (i := 6) rfl rfl rfl (fun _ _ _ => aM (by as_aux_lemma => kernel_rfl)) (by as_aux_lemma => kernel_rfl) rfl ?_
 refine bY (vs := [_]) ([n17 98] : List (a6)) bV Tryz.underlying59 bE rfl rfl rfl rfl rfl rfl (fun As55 => ?_)
 refine aa ?_
 refine aT (bq 5) ?_
 refine aI (i := 7) rfl ak (bP rfl (dl _ _ _ _ _ _ _ _)) (bq 5) aG rfl (ah aw) (by as_aux_lemma => kernel_rfl) rfl ?_
 refine bl (i := 8) rfl rfl rfl (bf rfl dC) (by as_aux_lemma => kernel_rfl) rfl ?_
 refine bU rfl dC rfl (dY 3 ta _ _ false 3 4 p17b _ _ [n17 98] _ _ htaok fI htal (by decide) (by decide) eX) (fun w hw => (az (ci 7 rfl hw) (az (ja 6 rfl hw) (az (ci 3 rfl hw) (az (ek fJ) (az (ci 0 rfl hw) aY)))))) (fun ⟨⟨tb, Ab, cb⟩, htb⟩ => ?_)
 refine aa ?_
 refine aT (bq 7) ?_
 refine dT (t := 27) (.tuple #[.agg (eE 4 Ab tb.length cb).toArray, .int .i64 0]) rfl (by rw [hb9.1]; rfl) ?_
 have htb2 : tb.map (·.e) = r17b.map (·.e) := htb.trans hb9.2
 refine aI (i := 9) rfl ak (am rfl) (bq 7) aG rfl (ah aw) (by as_aux_lemma => kernel_rfl) rfl ?_
 refine aI (i := 10) rfl ak (bn rfl rfl) (bq 7) aG rfl (ah aw) (by as_aux_lemma => kernel_rfl) rfl ?_
 refine aI (i := 11) rfl ak (bn rfl rfl) (bq 7) aG rfl (ah aw) (by as_aux_lemma => kernel_rfl) rfl ?_
 refine bl (i := 13) rfl rfl rfl (fun _ _ _ => aM (by as_aux_lemma => kernel_rfl)) (by as_aux_lemma => kernel_rfl) rfl ?_
 refine aW bw rfl rfl rfl (.s (.s (.s (.z)))) rfl rfl rfl rfl ?_
 refine aa ?_
 refine aT (bq 7) ?_
 refine aI (i := 14) rfl ak (ai rfl) (bq 7) aG rfl (ah aw) (by as_aux_lemma => kernel_rfl) rfl ?_
 refine cw (by as_aux_lemma => kernel_rfl) ?_
 refine aj ?_
 refine cz (fun w h => (h.weak (.cons_cons _ (.cons_cons _ (.cons _ (.cons_cons _ (.cons _ (.cons _ (.cons _ (.cons_cons _ (.cons _ (.cons_cons _ (.cons _ (.cons _ (.cons _ .slnil))))))))))))) (fun s hs => hs))) ?_
 exact J2 (⟨(tb, Ab, cb), htb2⟩, b54) _ (by repeat (first | exact trivial | refine ⟨rfl, ?_⟩))
 exact cH
 intro As10 As22 As45
 refine de (js := [3, 12]) (by as_aux_lemma => kernel_rfl) rfl ?_
 refine bi (i := 3) rfl rfl rfl (fun _ _ _ => aM (by as_aux_lemma => kernel_rfl)) rfl ?_ ?_
 refine bY (vs := [_]) (p17b : List (Le)) bp Tryz.underlying22 aU rfl rfl rfl rfl rfl rfl (fun As57 => ?_)
 refine aa ?_
 refine aT (bq 4) ?_
 refine aI (i := 7) rfl ak (bP rfl (dl _ _ _ _ _ _ _ _)) (bq 4) aG rfl (ah aw) (by as_aux_lemma => kernel_rfl) rfl ?_
 refine fB (fun w h => h.f3.f1.f3.f3) ?_
 refine dw (listed' := #[true, true, true, true, true, true, true, true, false, false, false, false, false, false, false]) (by as_aux_lemma => kernel_rfl) ?_
 exact K2_16 As10 As57 As22 As45 _ (by repeat (first | exact trivial | refine ⟨rfl, ?_⟩))
 refine bi (i := 12) rfl rfl rfl (fun _ _ _ => aM (by as_aux_lemma => kernel_rfl)) rfl ?_ ?_
 refine bH bw rfl rfl (fun b58 => ?_)
 refine aa ?_
 refine aT (bq 4) ?_
 refine bl (i := 3) rfl rfl rfl (fun _ _ _ => aM (by as_aux_lemma => kernel_rfl)) (by as_aux_lemma => kernel_rfl) rfl ?_
 refine bY (vs := [_]) (p17b : List (Le)) bp Tryz.underlying22 aU rfl rfl rfl rfl rfl rfl (fun As59 => ?_)
 refine aa ?_
 refine aT (bq 5) ?_
 refine aI (i := 7) rfl ak (bP rfl (dl _ _ _ _ _ _ _ _)) (bq 5) aG rfl (ah aw) (by as_aux_lemma => kernel_rfl) rfl ?_
 refine bl (i := 8) rfl rfl rfl (bf rfl dC) (by as_aux_lemma => kernel_rfl) rfl ?_
 refine bU rfl dC rfl (dY 3 ta _ _ false 3 4 p17b _ _ [n17 98] _ _ htaok fI htal (by decide) (by decide) eX) (fun w hw => (az (ci 7 rfl hw) (az (ja 6 rfl hw) (az (ci 0 rfl hw) (az (ek fJ) (az (ci 2 rfl hw) aY)))))) (fun ⟨⟨tb, Ab, cb⟩, htb⟩ => ?_)
 refine aa ?_
 refine aT (bq 7) ?_
 refine dT (t := 27) (.tuple #[.agg (eE 4 Ab tb.length cb).toArray, .int .i64 0]) rfl (by rw [hb9.1]; rfl) ?_
 have htb2 : tb.map (·.e) = r17b.map (·.e) := htb.trans hb9.2
 refine aI (i := 9) rfl ak (am rfl) (bq 7) aG rfl (ah aw) (by as_aux_lemma => kernel_rfl) rfl ?_
 refine aI (i := 10) rfl ak (bn rfl rfl) (bq 7) aG rfl (ah aw) (by as_aux_lemma => kernel_rfl) rfl ?_
 refine aI (i := 11) rfl ak (bn rfl rfl) (bq 7) aG rfl (ah aw) (by as_aux_lemma => kernel_rfl) rfl ?_
 refine bl (i := 13) rfl rfl rfl (fun _ _ _ => aM (by as_aux_lemma => kernel_rfl)) (by as_aux_lemma => kernel_rfl) rfl ?_
 refine aW bw rfl rfl rfl (.s (.s (.s (.z)))) rfl rfl rfl rfl ?_
 refine aa ?_
 refine aT (bq 7) ?_
 refine aI (i := 14) rfl ak (ai rfl) (bq 7) aG rfl (ah aw) (by as_aux_lemma => kernel_rfl) rfl ?_
 refine cw (by as_aux_lemma => kernel_rfl) ?_
 refine aj ?_
 refine cz (fun w h => (h.weak (.cons_cons _ (.cons_cons _ (.cons _ (.cons_cons _ (.cons _ (.cons _ (.cons _ (.cons_cons _ (.cons _ (.cons_cons _ (.cons _ (.cons _ (.cons _ .slnil))))))))))))) (fun s hs => hs))) ?_
 exact J2 (⟨(tb, Ab, cb), htb2⟩, b58) _ (by repeat (first | exact trivial | refine ⟨rfl, ?_⟩))
 exact cH
 intro As10 As21 As26 As53
 refine de (js := [8, 12]) (by as_aux_lemma => kernel_rfl) rfl ?_
 refine bi (i := 8) rfl rfl rfl (bf rfl dC) rfl ?_ ?_
 refine bU rfl dC rfl (dY 3 ta _ _ false 3 4 p17b _ _ [n17 98] _ _ htaok fI htal (by decide) (by decide) eX) (fun w hw => (az (ci 6 rfl hw) (az (ja 5 rfl hw) (az (ci 2 rfl hw) (az (ek fJ) (az (ci 0 rfl hw) aY)))))) (fun ⟨⟨tb, Ab, cb⟩, htb⟩ => ?_)
 refine aa ?_
 refine aT (bq 6) ?_
 refine dT (t := 27) (.tuple #[.agg (eE 4 Ab tb.length cb).toArray, .int .i64 0]) rfl (by rw [hb9.1]; rfl) ?_
 have htb2 : tb.map (·.e) = r17b.map (·.e) := htb.trans hb9.2
 refine aI (i := 9) rfl ak (am rfl) (bq 6) aG rfl (ah aw) (by as_aux_lemma => kernel_rfl) rfl ?_
 refine aI (i := 10) rfl ak (bn rfl rfl) (bq 6) aG rfl (ah aw) (by as_aux_lemma => kernel_rfl) rfl ?_
 refine aI (i := 11) rfl ak (bn rfl rfl) (bq 6) aG rfl (ah aw) (by as_aux_lemma => kernel_rfl) rfl ?_
 refine bl (i := 12) rfl rfl rfl (fun _ _ _ => aM (by as_aux_lemma => kernel_rfl)) (by as_aux_lemma => kernel_rfl) rfl ?_
 refine bH bw rfl rfl (fun b62 => ?_)
 refine aa ?_
 refine aT (bq 7) ?_
 refine bl (i := 13) rfl rfl rfl (fun _ _ _ => aM (by as_aux_lemma => kernel_rfl)) (by as_aux_lemma => kernel_rfl) rfl ?_
 refine aW bw rfl rfl rfl .z rfl rfl rfl rfl ?_
 refine aa ?_
 refine aT (bq 7) ?_
 refine aI (i := 14) rfl ak (ai rfl) (bq 7) aG rfl (ah aw) (by as_aux_lemma => kernel_rfl) rfl ?_
 refine cw (by as_aux_lemma => kernel_rfl) ?_
 refine aj ?_
 refine cz (fun w h => (h.weak (.cons_cons _ (.cons_cons _ (.cons_cons _ (.cons _ (.cons _ (.cons _ (.cons _ (.cons_cons _ (.cons _ (.cons_cons _ (.cons _ (.cons _ (.cons _ .slnil))))))))))))) (fun s hs => hs)).f2.f2) ?_
 exact J2 (⟨(tb, Ab, cb), htb2⟩, b62) _ (by repeat (first | exact trivial | refine ⟨rfl, ?_⟩))
 refine bi (i := 12) rfl rfl rfl (fun _ _ _ => aM (by as_aux_lemma => kernel_rfl)) rfl ?_ ?_
 refine bH bw rfl rfl (fun b63 => ?_)
 refine aa ?_
 refine aT (bq 5) ?_
 refine bl (i := 8) rfl rfl rfl (bf rfl dC) (by as_aux_lemma => kernel_rfl) rfl ?_
 refine bU rfl dC rfl (dY 3 ta _ _ false 3 4 p17b _ _ [n17 98] _ _ htaok fI htal (by decide) (by decide) eX) (fun w hw => (az (ci 7 rfl hw) (az (ja 6 rfl hw) (az (ci 3 rfl hw) (az (ek fJ) (az (ci 1 rfl hw) aY)))))) (fun ⟨⟨tb, Ab, cb⟩, htb⟩ => ?_)
 refine aa ?_
 refine aT (bq 7) ?_
 refine dT (t := 27) (.tuple #[.agg (eE 4 Ab tb.length cb).toArray, .int .i64 0]) rfl (by rw [hb9.1]; rfl) ?_
 have htb2 : tb.map (·.e) = r17b.map (·.e) := htb.trans hb9.2
 refine aI (i := 9) rfl ak (am rfl) (bq 7) aG rfl (ah aw) (by as_aux_lemma => kernel_rfl) rfl ?_
 refine aI (i := 10) rfl ak (bn rfl rfl) (bq 7) aG rfl (ah aw) (by as_aux_lemma => kernel_rfl) rfl ?_
 refine aI (i := 11) rfl ak (bn rfl rfl) (bq 7) aG rfl (ah aw) (by as_aux_lemma => kernel_rfl) rfl ?_
 refine bl (i := 13) rfl rfl rfl (fun _ _ _ => aM (by as_aux_lemma => kernel_rfl)) (by as_aux_lemma => kernel_rfl) rfl ?_
 refine aW bw rfl rfl rfl (.s (.s (.z))) rfl rfl rfl rfl ?_
 refine aa ?_
 refine aT (bq 7) ?_
 refine aI (i := 14) rfl ak (ai rfl) (bq 7) aG rfl (ah aw) (by as_aux_lemma => kernel_rfl) rfl ?_
 refine cw (by as_aux_lemma => kernel_rfl) ?_
 refine aj ?_
 refine cz (fun w h => (h.weak (.cons_cons _ (.cons_cons _ (.cons_cons _ (.cons _ (.cons _ (.cons _ (.cons _ (.cons_cons _ (.cons _ (.cons_cons _ (.cons _ (.cons _ (.cons _ .slnil))))))))))))) (fun s hs => hs))) ?_
 exact J2 (⟨(tb, Ab, cb), htb2⟩, b63) _ (by repeat (first | exact trivial | refine ⟨rfl, ?_⟩))
 exact cH
end Go.Proofs.YtnpdgmoeoidppaaGreat
