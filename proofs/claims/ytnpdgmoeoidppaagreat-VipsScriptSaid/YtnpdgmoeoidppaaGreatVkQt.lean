import Derived.Test.YtnpdgmoeoidppaaGreatIbQt
import Derived.Test.YtnpdgmoeoidppaaGreatLxQt
/- ranges of addresses -/
namespace Go.Proofs.YtnpdgmoeoidppaaGreat
open Go.RowKit Go.Shelf
set_option linter.unusedVariables false
set_option linter.unusedSimpArgs false

theorem e6 : Tryz.prog.built 29 [] = some [.bool false, .int .u64 0, .int .u64 0].toArray := by kernel_rfl
theorem bu_29_0_1_2 (x0 : Bool) (x1 : Int) (x2 : Int) : Tryz.prog.built 29 [(0, .bool x0), (1, .int .u64 x1), (2, .int .u64 x2)] = some [.bool x0, .int .u64 x1, .int .u64 x2].toArray := by kernel_rfl
theorem ent_110 : Enters Tryz.prog 110 := enters_of Tryz.func110 (by kernel_rfl) rfl
theorem ent_166 : Enters Tryz.prog 166 := enters_of Tryz.func166 (by kernel_rfl) rfl
theorem ent_179 : Enters Tryz.prog 179 := enters_of Tryz.func179 (by kernel_rfl) rfl
theorem gY : Enters Tryz.prog 220 := enters_of Tryz.func220 (by kernel_rfl) rfl
theorem db : FA Tryz.prog 64 0 0 := fun b o w => by kernel_rfl
theorem eP : FA Tryz.prog 64 1 3 := fun b o w => by kernel_rfl
theorem cm : TyI Tryz.prog 64 true 4 32 (.agg #[.bool false, .int .u64 0, .int .u64 0, .int .i64 0]) := TyI.mk' (by kernel_rfl) (fun _ => by kernel_rfl)

/-- A range: its base, its bits. -/
structure Rg where
  base : Ad
  bits : Int
def dR (r : Rg) : List Value := [.bool r.base.six, .int .u64 r.base.hi, .int .u64 r.base.lo, .int .i64 r.bits]
theorem fO : Enc dR 4 := ⟨fun _ => rfl, fun _ => rfl⟩
def hU : Rg := ⟨ad0, 0⟩
def RgOk (r : Rg) : Prop := gO r.base ∧ -9223372036854775808 ≤ r.bits ∧ r.bits ≤ 9223372036854775807
def cr (a : Ad) : Int := if a.six = true then 128 else 32
theorem ga (a : Ad) : 32 ≤ cr a ∧ cr a ≤ 128 := by unfold cr; split <;> omega
def ep (b n : Int) : Int := if b ≤ 0 then 0 else if n ≤ b then 2 ^ n.toNat - 1 else (2 ^ b.toNat - 1) * 2 ^ (n - b).toNat
def mskW (b n : Int) : Int := IntKind.u64.wrap (IntKind.u64.wrap (IntKind.u64.wrap (1 * 2 ^ min b.toNat IntKind.u64.bits) - 1) * 2 ^ min (n - b).toNat IntKind.u64.bits)
def mskF (n : Int) : Int := IntKind.u64.wrap (IntKind.u64.wrap (1 * 2 ^ min n.toNat IntKind.u64.bits) - 1)
theorem msk_full {n : Int} (hn : n = 32 ∨ n = 64) : mskF n = 2 ^ n.toNat - 1 := by
  rcases hn with rfl | rfl <;> decide +kernel
theorem msk_all : ∀ k : Fin 64, 0 < k.val → (k.val < 32 → mskW (k.val : Int) 32 = ep (k.val : Int) 32) ∧ mskW (k.val : Int) 64 = ep (k.val : Int) 64 := by decide +kernel
theorem msk_mid {b n : Int} (hn : n = 32 ∨ n = 64) (h : 0 < b) (h2 : b < n) : mskW b n = ep b n := by
  obtain ⟨k, rfl⟩ : ∃ k : Nat, b = k := ⟨b.toNat, by omega⟩
  have := msk_all ⟨k, by omega⟩ (by show 0 < k; omega)
  rcases hn with rfl | rfl
  · exact this.1 (by show k < 32; omega)
  · exact this.2
def andI (a b : Int) : Int := bits .and .u64 a b
def gc (a : Ad) (b : Int) : Ad := if a.six = true then ⟨a.six, andI a.hi (ep b 64), andI a.lo (ep (b - 64) 64)⟩ else ⟨a.six, a.hi, andI a.lo (ep b 32)⟩
def cw (r : Rg) : Int := if cn r.base ≠ 0 ∨ r.bits < 0 ∨ cr r.base < r.bits ∨ gc r.base r.bits ≠ r.base then 2 else 0
theorem gm {r : Rg} (h : cw r = 0) : cn r.base = 0 ∧ 0 ≤ r.bits ∧ r.bits ≤ cr r.base ∧ gc r.base r.bits = r.base := by
  unfold cw at h
  split at h
  · exact absurd h (by decide)
  · rename_i q
    refine ⟨Decidable.not_not.1 (fun e => q (.inl e)), by have := fun e => q (.inr (.inl e)); omega, by have := fun e => q (.inr (.inr (.inl e))); omega, Decidable.not_not.1 (fun e => q (.inr (.inr (.inr e))))⟩
def ci (r : Rg) (a : Ad) : Bool := decide (cw r = 0) && (decide (cn a = 0) && (decide (a.six = r.base.six) && decide (gc a r.bits = r.base)))
def bj (r : Rg) : Nat := if cw r ≠ 0 then 0 else if cr r.base - r.bits < 16 then 2 ^ (cr r.base - r.bits).toNat else 65536
theorem sz_all : ∀ k : Fin 129, (IntKind.i64.wrap (1 * 2 ^ min (if (30 : Int) < (k.val : Int) then (30 : Int) else (k.val : Int)).toNat IntKind.i64.bits) < 65536 ↔ k.val < 16) ∧ (k.val < 16 → IntKind.i64.wrap (1 * 2 ^ min ((k.val : Int)).toNat IntKind.i64.bits) = 2 ^ k.val) := by decide +kernel
theorem eD (r : Rg) : bj r ≤ 65536 := by
  unfold bj
  split
  · omega
  · split
    · rename_i h
      have : (cr r.base - r.bits).toNat ≤ 15 := by omega
      calc 2 ^ (cr r.base - r.bits).toNat ≤ 2 ^ 15 := Nat.pow_le_pow_right (by decide) this
        _ ≤ 65536 := by decide
    · omega
def loS (a : Ad) (d : Int) : Int := (a.lo + d + 0) % 18446744073709551616
def loC (a : Ad) (d : Int) : Int := (a.lo + d + 0) / 18446744073709551616
def hiS (a : Ad) (d : Int) : Int := (a.hi + 0 + loC a d) % 18446744073709551616
def hiC (a : Ad) (d : Int) : Int := (a.hi + 0 + loC a d) / 18446744073709551616
def g8 (a : Ad) (d : Int) : Ad := if a.six = true then ⟨a.six, hiS a d, loS a d⟩ else ⟨a.six, a.hi, loS a d⟩
def carA (a : Ad) (d : Int) : Int := if a.six = true then hiC a d else loC a d
theorem loS_pos (a : Ad) (d : Int) : 0 ≤ loS a d := by unfold loS; omega
theorem loC_rng {a : Ad} {d : Int} (h0 : 0 ≤ a.lo ∧ a.lo ≤ 18446744073709551615) (hd : 0 ≤ d ∧ d ≤ 18446744073709551615) : 0 ≤ loC a d ∧ loC a d ≤ 1 := by unfold loC; omega
def cD (a : Ad) (d : Int) : Ad × Bool := if cn a ≠ 0 then (ad0, false) else if carA a d ≠ 0 ∨ cn (g8 a d) ≠ 0 then (ad0, false) else (g8 a d, true)
def atR (r : Rg) (i : Int) : Ad × Bool := if i < 0 ∨ (bj r : Int) ≤ i then (ad0, false) else cD r.base i
def dQ (r : Rg) : List Ad := (List.range (bj r)).map fun i : Nat => (cD r.base i).1
def dv (r : Rg) (res : List Rg) : Nat := ((dQ r).filter fun a => !(res.any fun x => ci x a)).length
theorem ad0_lo : (0 : Int) ≤ ad0.lo := by decide
theorem addA_lo (a : Ad) (d : Int) : 0 ≤ (cD a d).1.lo := by
  have h : 0 ≤ loS a d := loS_pos a d
  unfold cD
  split
  · exact ad0_lo
  · split
    · exact ad0_lo
    · unfold g8; split <;> exact h
theorem eM (r : Rg) : (dQ r).length = bj r := by rw [dQ, List.length_map, List.length_range]

theorem c_rwide (a : Ad) : cO Tryz.prog 166 #[.agg (dN a).toArray] (.int .i64 (cr a)) := by
 intro w0
 refine bd (ok0 := no) (S := []) (args := [.agg (dN a).toArray]) 5 Tryz.func166 rfl rfl rfl (by simp) (by simp) ?_
 refine ao ?_
 refine ab ?_
 refine bE rfl rfl rfl (fun b1 => ?_)
 refine ap (ai rfl) rfl rfl ?_
 refine ae ?_
 refine aj ?_
 refine ao ?_
 refine ao ?_
 refine ab ?_
 refine ap (aB dc rfl) rfl rfl ?_
 refine ap (aM 0 gk rfl rfl rfl) rfl rfl ?_
 refine bk (t := 4) rfl (fun h1_1 => ?_) (fun h1_1 => ?_)
 refine ae ?_
 refine aj ?_
 refine ay rfl ?_
 refine ao ?_
 refine ab ?_
 refine ap (ai rfl) rfl rfl ?_
 refine ae ?_
 refine aj ?_
 refine aF ?_
 refine aA ?_
 refine aJ (ts := [2]) rfl rfl rfl (fun w hw => ?_)
 exact ⟨by rw [cr, if_pos h1_1]; rfl, hw.base⟩
 refine ae ?_
 refine aj ?_
 refine au rfl ?_
 refine aH ?_
 refine aj ?_
 refine ao ?_
 refine ab ?_
 refine ap (ai rfl) rfl rfl ?_
 refine ae ?_
 refine aj ?_
 refine aF ?_
 refine aJ (ts := [2]) rfl rfl rfl (fun w hw => ?_)
 exact ⟨by rw [cr, if_neg (by rw [h1_1]; decide)]; rfl, hw.base⟩

theorem c_mask (b n : Int) (hn : n = 32 ∨ n = 64) : cO Tryz.prog 220 #[.int .i64 b, .int .i64 n] (.int .u64 (ep b n)) := by
 intro w0
 refine bd (ok0 := no) (S := []) (args := [.int .i64 b, .int .i64 n]) 22 Tryz.func220 rfl rfl rfl (by simp) (by simp) ?_
 refine ao ?_
 refine ab ?_
 refine ap (ai rfl) rfl rfl ?_
 refine ae ?_
 refine aj ?_
 refine ao ?_
 refine aP ?_
 refine ao ?_
 refine ab ?_
 refine ap (ak rfl) rfl rfl ?_
 refine ap (y_leq rfl rfl) rfl rfl ?_
 refine aC (t := 7) rfl (fun h1_1 => ?_) (fun h1_1 => ?_)
 refine ap (ai rfl) rfl rfl ?_
 refine ae ?_
 refine aj ?_
 refine ay rfl ?_
 refine ao ?_
 refine ab ?_
 refine ap (ai rfl) rfl rfl ?_
 refine ae ?_
 refine aj ?_
 refine aF ?_
 refine aL ?_
 refine aA ?_
 refine aJ (ts := [4]) rfl rfl rfl (fun w hw => ?_)
 exact ⟨by rw [ep, if_pos (by omega)]; rfl, hw.base⟩
 refine ap (ai rfl) rfl rfl ?_
 refine ae ?_
 refine aj ?_
 refine au rfl ?_
 refine ao ?_
 refine ab ?_
 refine ap (ak rfl) rfl rfl ?_
 refine ap (ak rfl) rfl rfl ?_
 refine ap (gF rfl rfl) rfl rfl ?_
 refine aC (t := 11) rfl (fun h3_2 => ?_) (fun h3_2 => ?_)
 refine ap (ai rfl) rfl rfl ?_
 refine ae ?_
 refine aj ?_
 refine ay rfl ?_
 refine ao ?_
 refine ab ?_
 refine ap (ak rfl) rfl rfl ?_
 refine ap (y_shl rfl rfl (by omega)) rfl rfl ?_
 refine ap (y_sub rfl rfl) rfl rfl ?_
 refine ap (ai rfl) rfl rfl ?_
 refine ae ?_
 refine aj ?_
 refine aF ?_
 refine aL ?_
 refine aA ?_
 refine aJ (ts := [4]) rfl rfl rfl (fun w hw => ?_)
 exact ⟨by rw [ep, if_neg (by omega), if_pos (by omega), ← msk_full hn]; rfl, hw.base⟩
 refine ap (ai rfl) rfl rfl ?_
 refine ae ?_
 refine aj ?_
 refine au rfl ?_
 refine aH ?_
 refine bq ?_
 refine aj ?_
 refine ao ?_
 refine ab ?_
 refine ap (ak rfl) rfl rfl ?_
 refine ap (y_shl rfl rfl (by omega)) rfl rfl ?_
 refine ap (y_sub rfl rfl) rfl rfl ?_
 refine ap (ak rfl) rfl rfl ?_
 refine ap (ak rfl) rfl rfl ?_
 refine ap (fM rfl rfl (by omega) (by omega)) rfl rfl ?_
 refine ap (y_shl rfl rfl (by omega)) rfl rfl ?_
 refine ap (ai rfl) rfl rfl ?_
 refine ae ?_
 refine aj ?_
 refine aF ?_
 refine aJ (ts := [4]) rfl rfl rfl (fun w hw => ?_)
 exact ⟨by rw [← msk_mid hn (by omega) (by omega)]; rfl, hw.base⟩

set_option maxRecDepth 100000 in
theorem c_head (a : Ad) (b : Int) (hb : 0 ≤ b ∧ b ≤ 128) : RC Tryz.prog 179 #[.agg (dN a).toArray, .int .i64 b] [] (α := Unit) (fun _ => .agg (dN (gc a b)).toArray) (fun _ => []) := by
 refine bi (args := [.agg (dN a).toArray, .int .i64 b]) 29 Tryz.func179 rfl rfl rfl (fun w0 => ?_)
 refine ao ?_
 refine ab ?_
 refine bE rfl rfl rfl (fun b1 => ?_)
 refine bz aN rfl rfl (fun b2 => ?_)
 refine ae ?_
 refine aj ?_
 refine ao ?_
 refine ao ?_
 refine ab ?_
 refine ap (aB dc rfl) rfl rfl ?_
 refine ap (aM 1 gk rfl rfl rfl) rfl rfl ?_
 refine bk (t := 6) rfl (fun h1_1 => ?_) (fun h1_1 => ?_)
 refine ap (bJ rfl) rfl rfl ?_
 refine ae ?_
 refine aj ?_
 refine au rfl ?_
 refine aH ?_
 refine aj ?_
 refine ao ?_
 refine eh 6 rfl mixed ?_
 refine aD (i := 0) rfl ah (aB dG rfl) aw aw rfl (aa ar) (by kernel_rfl) rfl ?_
 refine aD (i := 1) rfl ah (aM 1 cP rfl rfl rfl) aw aw rfl (aa ar) (by kernel_rfl) rfl ?_
 refine aD (i := 2) rfl ah (ak rfl) aw aw rfl (aa ar) (by kernel_rfl) rfl ?_
 refine dm (i := 3) rfl rfl rfl (br rfl gY) (by kernel_rfl) rfl ?_
 refine aS rfl gY (c_mask _ _ (by first | exact .inl rfl | exact .inr rfl)) rfl ?_
 refine ae ?_
 refine dC aw ?_
 refine aD (i := 4) rfl ah (y_and rfl rfl) aw aw rfl (aa ar) (by kernel_rfl) rfl ?_
 refine aD (i := 5) rfl ah (aB dG rfl) aw aw rfl (aa ar) (by kernel_rfl) rfl ?_
 refine dm (i := 6) rfl rfl rfl (fun _ _ _ => a7 (by kernel_rfl)) (by kernel_rfl) rfl ?_
 refine aT cP rfl rfl rfl (.s (.z)) rfl rfl rfl rfl ?_
 refine ae ?_
 refine e_tail rfl ?_
 refine cB (by kernel_rfl) ?_
 refine aj ?_
 refine ao ?_
 refine eh 7 rfl mixed ?_
 refine aD (i := 0) rfl ah (aB cW rfl) aw aw rfl (aa ar) (by kernel_rfl) rfl ?_
 refine aD (i := 1) rfl ah (aM 1 cP rfl rfl rfl) aw aw rfl (aa ar) (by kernel_rfl) rfl ?_
 refine aD (i := 2) rfl ah (ak rfl) aw aw rfl (aa ar) (by kernel_rfl) rfl ?_
 refine aD (i := 3) rfl ah (fM rfl rfl (by omega) (by omega)) aw aw rfl (aa ar) (by kernel_rfl) rfl ?_
 refine dm (i := 4) rfl rfl rfl (br rfl gY) (by kernel_rfl) rfl ?_
 refine aS rfl gY (c_mask _ _ (by first | exact .inl rfl | exact .inr rfl)) rfl ?_
 refine ae ?_
 refine dC aw ?_
 refine aD (i := 5) rfl ah (y_and rfl rfl) aw aw rfl (aa ar) (by kernel_rfl) rfl ?_
 refine aD (i := 6) rfl ah (aB cW rfl) aw aw rfl (aa ar) (by kernel_rfl) rfl ?_
 refine dm (i := 7) rfl rfl rfl (fun _ _ _ => a7 (by kernel_rfl)) (by kernel_rfl) rfl ?_
 refine aT cP rfl rfl rfl (.s (.z)) rfl rfl rfl rfl ?_
 refine ae ?_
 refine e_tail rfl ?_
 refine cB (by kernel_rfl) ?_
 refine aj ?_
 refine ao ?_
 refine ab ?_
 refine ap (aK 1 aN rfl rfl rfl rfl) rfl rfl ?_
 refine aT aN rfl rfl rfl .z rfl rfl rfl rfl ?_
 refine ae ?_
 refine aj ?_
 refine aF ?_
 refine dp (rs := [.cell 4 29]) rfl (bA 0 aN rfl rfl rfl rfl bR) rfl (fun w hw => ?_)
 exact ⟨(), by rw [gc, if_pos h1_1]; rfl, hw.base, (hw.weak (List.nil_sublist _) (fun s hs => hs)).toNews⟩
 refine ap (bJ rfl) rfl rfl ?_
 refine ae ?_
 refine aj ?_
 refine ay rfl ?_
 refine ao ?_
 refine eh 6 rfl mixed ?_
 refine aD (i := 0) rfl ah (aB cW rfl) aw aw rfl (aa (aa ar)) (by kernel_rfl) rfl ?_
 refine aD (i := 1) rfl ah (aM 1 cP rfl rfl rfl) aw aw rfl (aa (aa ar)) (by kernel_rfl) rfl ?_
 refine aD (i := 2) rfl ah (ak rfl) aw aw rfl (aa (aa ar)) (by kernel_rfl) rfl ?_
 refine dm (i := 3) rfl rfl rfl (br rfl gY) (by kernel_rfl) rfl ?_
 refine aS rfl gY (c_mask _ _ (by first | exact .inl rfl | exact .inr rfl)) rfl ?_
 refine ae ?_
 refine dC aw ?_
 refine aD (i := 4) rfl ah (y_and rfl rfl) aw aw rfl (aa (aa ar)) (by kernel_rfl) rfl ?_
 refine aD (i := 5) rfl ah (aB cW rfl) aw aw rfl (aa (aa ar)) (by kernel_rfl) rfl ?_
 refine dm (i := 6) rfl rfl rfl (fun _ _ _ => a7 (by kernel_rfl)) (by kernel_rfl) rfl ?_
 refine aT cP rfl rfl rfl (.s (.z)) rfl rfl rfl rfl ?_
 refine ae ?_
 refine e_tail rfl ?_
 refine cB (by kernel_rfl) ?_
 refine aj ?_
 refine ao ?_
 refine ab ?_
 refine ap (aK 1 aN rfl rfl rfl rfl) rfl rfl ?_
 refine aT aN rfl rfl rfl .z rfl rfl rfl rfl ?_
 refine ae ?_
 refine aj ?_
 refine aF ?_
 refine aA ?_
 refine dp (rs := [.cell 4 29]) rfl (bA 0 aN rfl rfl rfl rfl bR) rfl (fun w hw => ?_)
 exact ⟨(), by rw [gc, if_neg (by rw [h1_1]; decide)]; rfl, hw.base, (hw.weak (List.nil_sublist _) (fun s hs => hs)).toNews⟩

set_option maxRecDepth 100000 in
theorem c_rCheck (r : Rg) (h0 : 0 ≤ r.base.lo) : cO Tryz.prog 110 #[.agg (dR r).toArray] (.int .i64 (cw r)) := by
 intro w0
 refine bd (ok0 := no) (S := []) (args := [.agg (dR r).toArray]) 30 Tryz.func110 rfl rfl rfl (by simp) (by simp) ?_
 refine ao ?_
 refine ab ?_
 refine bE rfl rfl rfl (fun b1 => ?_)
 refine ap (ai rfl) rfl rfl ?_
 refine ae ?_
 refine aj ?_
 refine ao ?_
 refine ao ?_
 refine eh 27 rfl mixed ?_
 refine aD (i := 0) rfl ah (aB db rfl) aw aw rfl (aa (aa ar)) (by kernel_rfl) rfl ?_
 refine aD (i := 1) rfl ah (aK 0 aN rfl rfl rfl rfl) aw aw rfl (aa (aa ar)) (by kernel_rfl) rfl ?_
 refine dm (i := 2) rfl rfl rfl (br rfl ig) (by kernel_rfl) rfl ?_
 refine aS rfl ig (eC r.base h0) rfl ?_
 refine ae ?_
 refine dC aw ?_
 refine aD (i := 3) rfl ah (cv rfl rfl) aw aw rfl (aa (aa ar)) (by kernel_rfl) rfl ?_
 refine cT (t := 6) rfl (fun h1_3 => ?_) (fun h1_3 => ?_)
 refine aD (i := 4) rfl ah (ak rfl) aw aw rfl (aa (aa ar)) (by kernel_rfl) rfl ?_
 refine bb (i := 5) rfl (aG rfl rfl rfl) aw rfl (aa (aa ar)) (by kernel_rfl) rfl ?_
 refine bb (i := 6) rfl (aG rfl rfl rfl) aw rfl (aa (aa ar)) (by kernel_rfl) rfl ?_
 refine bb (i := 7) rfl (aG rfl rfl rfl) aw rfl (aa (aa ar)) (by kernel_rfl) rfl ?_
 refine aD (i := 8) rfl ah (aX rfl rfl) aw aw rfl (aa (aa ar)) (by kernel_rfl) rfl ?_
 refine aD (i := 9) rfl ah (ak rfl) aw aw rfl (aa (aa ar)) (by kernel_rfl) rfl ?_
 refine bb (i := 10) rfl (aG rfl rfl rfl) aw rfl (aa (aa ar)) (by kernel_rfl) rfl ?_
 refine bb (i := 11) rfl (aG rfl rfl rfl) aw rfl (aa (aa ar)) (by kernel_rfl) rfl ?_
 refine bb (i := 12) rfl (aG rfl rfl rfl) aw rfl (aa (aa ar)) (by kernel_rfl) rfl ?_
 refine bb (i := 13) rfl (aG rfl rfl rfl) aw rfl (aa (aa ar)) (by kernel_rfl) rfl ?_
 refine bb (i := 14) rfl (aG rfl rfl rfl) aw rfl (aa (aa ar)) (by kernel_rfl) rfl ?_
 refine bb (i := 15) rfl (aG rfl rfl rfl) aw rfl (aa (aa ar)) (by kernel_rfl) rfl ?_
 refine aD (i := 16) rfl ah (aX rfl rfl) aw aw rfl (aa (aa ar)) (by kernel_rfl) rfl ?_
 refine aD (i := 17) rfl ah (ak rfl) aw aw rfl (aa (aa ar)) (by kernel_rfl) rfl ?_
 refine bb (i := 18) rfl (aG rfl rfl rfl) aw rfl (aa (aa ar)) (by kernel_rfl) rfl ?_
 refine bb (i := 19) rfl (aG rfl rfl rfl) aw rfl (aa (aa ar)) (by kernel_rfl) rfl ?_
 refine bb (i := 20) rfl (aG rfl rfl rfl) aw rfl (aa (aa ar)) (by kernel_rfl) rfl ?_
 refine bb (i := 21) rfl (aG rfl rfl rfl) aw rfl (aa (aa ar)) (by kernel_rfl) rfl ?_
 refine bb (i := 23) rfl (aG rfl rfl rfl) aw rfl (aa (aa ar)) (by kernel_rfl) rfl ?_
 refine bb (i := 24) rfl (aG rfl rfl rfl) aw rfl (aa (aa ar)) (by kernel_rfl) rfl ?_
 refine bb (i := 22) rfl (aG rfl rfl rfl) aw rfl (aa (aa ar)) (by kernel_rfl) rfl ?_
 refine bb (i := 25) rfl (aG rfl rfl rfl) aw rfl (aa (aa ar)) (by kernel_rfl) rfl ?_
 refine aD (i := 26) rfl ah (aX rfl rfl) aw aw rfl (aa (aa ar)) (by kernel_rfl) rfl ?_
 refine cB (by kernel_rfl) ?_
 refine aj ?_
 refine ay rfl ?_
 refine ao ?_
 refine ab ?_
 refine ap (ai rfl) rfl rfl ?_
 refine ae ?_
 refine aj ?_
 refine aF ?_
 refine aA ?_
 refine aJ (ts := [2]) rfl rfl rfl (fun w hw => ?_)
 focus first
   | (exact ⟨by rw [cw, if_pos (by first | exact .inl h1_3 | exact .inr (.inl h1_7) | exact .inr (.inr (.inl h1_15)) | exact .inr (.inr (.inr h1_25)))]; rfl, hw.base⟩)
   | (exact ⟨by rw [cw, if_neg (fun h => h.elim h1_3 (fun h => h.elim h1_7 (fun h => h.elim h1_15 h1_25)))]; rfl, hw.base⟩)
   | (trace_state; fail)
 refine aD (i := 4) rfl ah (ak rfl) aw aw rfl (aa (aa ar)) (by kernel_rfl) rfl ?_
 refine aD (i := 5) rfl (aZ rfl rfl) (aB eP rfl) aw aw rfl (aa (aa ar)) (by kernel_rfl) rfl ?_
 refine aD (i := 6) rfl (aZ rfl rfl) (aM 0 eW rfl rfl rfl) aw aw rfl (aa (aa ar)) (by kernel_rfl) rfl ?_
 refine aD (i := 7) rfl (aZ rfl rfl) (bF rfl rfl) aw aw rfl (aa (aa ar)) (by kernel_rfl) rfl ?_
 refine cT (t := 10) rfl (fun h1_7 => ?_) (fun h1_7 => ?_)
 refine aD (i := 8) rfl ah (aW rfl rfl) aw aw rfl (aa (aa ar)) (by kernel_rfl) rfl ?_
 refine aD (i := 9) rfl ah (ak rfl) aw aw rfl (aa (aa ar)) (by kernel_rfl) rfl ?_
 refine bb (i := 10) rfl (aG rfl rfl rfl) aw rfl (aa (aa ar)) (by kernel_rfl) rfl ?_
 refine bb (i := 11) rfl (aG rfl rfl rfl) aw rfl (aa (aa ar)) (by kernel_rfl) rfl ?_
 refine bb (i := 12) rfl (aG rfl rfl rfl) aw rfl (aa (aa ar)) (by kernel_rfl) rfl ?_
 refine bb (i := 13) rfl (aG rfl rfl rfl) aw rfl (aa (aa ar)) (by kernel_rfl) rfl ?_
 refine bb (i := 14) rfl (aG rfl rfl rfl) aw rfl (aa (aa ar)) (by kernel_rfl) rfl ?_
 refine bb (i := 15) rfl (aG rfl rfl rfl) aw rfl (aa (aa ar)) (by kernel_rfl) rfl ?_
 refine aD (i := 16) rfl ah (aX rfl rfl) aw aw rfl (aa (aa ar)) (by kernel_rfl) rfl ?_
 refine aD (i := 17) rfl ah (ak rfl) aw aw rfl (aa (aa ar)) (by kernel_rfl) rfl ?_
 refine bb (i := 18) rfl (aG rfl rfl rfl) aw rfl (aa (aa ar)) (by kernel_rfl) rfl ?_
 refine bb (i := 19) rfl (aG rfl rfl rfl) aw rfl (aa (aa ar)) (by kernel_rfl) rfl ?_
 refine bb (i := 20) rfl (aG rfl rfl rfl) aw rfl (aa (aa ar)) (by kernel_rfl) rfl ?_
 refine bb (i := 21) rfl (aG rfl rfl rfl) aw rfl (aa (aa ar)) (by kernel_rfl) rfl ?_
 refine bb (i := 23) rfl (aG rfl rfl rfl) aw rfl (aa (aa ar)) (by kernel_rfl) rfl ?_
 refine bb (i := 24) rfl (aG rfl rfl rfl) aw rfl (aa (aa ar)) (by kernel_rfl) rfl ?_
 refine bb (i := 22) rfl (aG rfl rfl rfl) aw rfl (aa (aa ar)) (by kernel_rfl) rfl ?_
 refine bb (i := 25) rfl (aG rfl rfl rfl) aw rfl (aa (aa ar)) (by kernel_rfl) rfl ?_
 refine aD (i := 26) rfl ah (aX rfl rfl) aw aw rfl (aa (aa ar)) (by kernel_rfl) rfl ?_
 refine cB (by kernel_rfl) ?_
 refine aj ?_
 refine ay rfl ?_
 refine ao ?_
 refine ab ?_
 refine ap (ai rfl) rfl rfl ?_
 refine ae ?_
 refine aj ?_
 refine aF ?_
 refine aA ?_
 refine aJ (ts := [2]) rfl rfl rfl (fun w hw => ?_)
 focus first
   | (exact ⟨by rw [cw, if_pos (by first | exact .inl h1_3 | exact .inr (.inl h1_7) | exact .inr (.inr (.inl h1_15)) | exact .inr (.inr (.inr h1_25)))]; rfl, hw.base⟩)
   | (exact ⟨by rw [cw, if_neg (fun h => h.elim h1_3 (fun h => h.elim h1_7 (fun h => h.elim h1_15 h1_25)))]; rfl, hw.base⟩)
   | (trace_state; fail)
 refine aD (i := 8) rfl ah (aW rfl rfl) aw aw rfl (aa (aa ar)) (by kernel_rfl) rfl ?_
 refine aD (i := 9) rfl ah (ak rfl) aw aw rfl (aa (aa ar)) (by kernel_rfl) rfl ?_
 refine aD (i := 10) rfl (aZ rfl rfl) (aB eP rfl) aw aw rfl (aa (aa ar)) (by kernel_rfl) rfl ?_
 refine aD (i := 11) rfl (aZ rfl rfl) (aM 0 eW rfl rfl rfl) aw aw rfl (aa (aa ar)) (by kernel_rfl) rfl ?_
 refine aD (i := 12) rfl (aZ rfl rfl) (aB db rfl) aw aw rfl (aa (aa ar)) (by kernel_rfl) rfl ?_
 refine aD (i := 13) rfl (aZ rfl rfl) (aK 0 aN rfl rfl rfl rfl) aw aw rfl (aa (aa ar)) (by kernel_rfl) rfl ?_
 refine dm (i := 14) rfl rfl rfl (br rfl ent_166) (by kernel_rfl) rfl ?_
 refine az rfl rfl ?_
 refine aS rfl ent_166 (c_rwide r.base) rfl ?_
 refine ae ?_
 refine dC aw ?_
 refine aD (i := 15) rfl (aZ rfl rfl) (eI rfl rfl) aw aw rfl (aa (aa ar)) (by kernel_rfl) rfl ?_
 refine cT (t := 18) rfl (fun h1_15 => ?_) (fun h1_15 => ?_)
 refine aD (i := 16) rfl ah (aW rfl rfl) aw aw rfl (aa (aa ar)) (by kernel_rfl) rfl ?_
 refine aD (i := 17) rfl ah (ak rfl) aw aw rfl (aa (aa ar)) (by kernel_rfl) rfl ?_
 refine bb (i := 18) rfl (aG rfl rfl rfl) aw rfl (aa (aa ar)) (by kernel_rfl) rfl ?_
 refine bb (i := 19) rfl (aG rfl rfl rfl) aw rfl (aa (aa ar)) (by kernel_rfl) rfl ?_
 refine bb (i := 20) rfl (aG rfl rfl rfl) aw rfl (aa (aa ar)) (by kernel_rfl) rfl ?_
 refine bb (i := 21) rfl (aG rfl rfl rfl) aw rfl (aa (aa ar)) (by kernel_rfl) rfl ?_
 refine bb (i := 23) rfl (aG rfl rfl rfl) aw rfl (aa (aa ar)) (by kernel_rfl) rfl ?_
 refine bb (i := 24) rfl (aG rfl rfl rfl) aw rfl (aa (aa ar)) (by kernel_rfl) rfl ?_
 refine bb (i := 22) rfl (aG rfl rfl rfl) aw rfl (aa (aa ar)) (by kernel_rfl) rfl ?_
 refine bb (i := 25) rfl (aG rfl rfl rfl) aw rfl (aa (aa ar)) (by kernel_rfl) rfl ?_
 refine aD (i := 26) rfl ah (aX rfl rfl) aw aw rfl (aa (aa ar)) (by kernel_rfl) rfl ?_
 refine cB (by kernel_rfl) ?_
 refine aj ?_
 refine ay rfl ?_
 refine ao ?_
 refine ab ?_
 refine ap (ai rfl) rfl rfl ?_
 refine ae ?_
 refine aj ?_
 refine aF ?_
 refine aA ?_
 refine aJ (ts := [2]) rfl rfl rfl (fun w hw => ?_)
 focus first
   | (exact ⟨by rw [cw, if_pos (by first | exact .inl h1_3 | exact .inr (.inl h1_7) | exact .inr (.inr (.inl h1_15)) | exact .inr (.inr (.inr h1_25)))]; rfl, hw.base⟩)
   | (exact ⟨by rw [cw, if_neg (fun h => h.elim h1_3 (fun h => h.elim h1_7 (fun h => h.elim h1_15 h1_25)))]; rfl, hw.base⟩)
   | (trace_state; fail)
 refine aD (i := 16) rfl ah (aW rfl rfl) aw aw rfl (aa (aa ar)) (by kernel_rfl) rfl ?_
 refine aD (i := 17) rfl ah (ak rfl) aw aw rfl (aa (aa ar)) (by kernel_rfl) rfl ?_
 refine aD (i := 18) rfl (aZ rfl rfl) (aB db rfl) aw aw rfl (aa (aa ar)) (by kernel_rfl) rfl ?_
 refine aD (i := 19) rfl (aZ rfl rfl) (aK 0 aN rfl rfl rfl rfl) aw aw rfl (aa (aa ar)) (by kernel_rfl) rfl ?_
 refine aD (i := 20) rfl (aZ rfl rfl) (aB eP rfl) aw aw rfl (aa (aa ar)) (by kernel_rfl) rfl ?_
 refine aD (i := 21) rfl (aZ rfl rfl) (aM 0 eW rfl rfl rfl) aw aw rfl (aa (aa ar)) (by kernel_rfl) rfl ?_
 refine aD (i := 23) rfl (aZ rfl rfl) (aB db rfl) aw aw rfl (aa (aa ar)) (by kernel_rfl) rfl ?_
 refine aD (i := 24) rfl (aZ rfl rfl) (aK 0 aN rfl rfl rfl rfl) aw aw rfl (aa (aa ar)) (by kernel_rfl) rfl ?_
 refine dm (i := 22) rfl rfl rfl (br rfl ent_179) (by kernel_rfl) rfl ?_
 refine az rfl rfl ?_
 refine aS rfl ent_179 (rc_pure (c_head r.base r.bits (by have := ga r.base; omega))) rfl ?_
 refine ae ?_
 refine dC aw ?_
 refine aD (i := 25) rfl (aZ rfl rfl) (y_nestd (by kernel_rfl) rfl rfl (fq _ _) rfl) aw aw rfl (aa (aa ar)) (by kernel_rfl) rfl ?_
 refine cT (t := 28) rfl (fun h1_25 => ?_) (fun h1_25 => ?_)
 refine aD (i := 26) rfl ah (aW rfl rfl) aw aw rfl (aa (aa ar)) (by kernel_rfl) rfl ?_
 refine cB (by kernel_rfl) ?_
 refine aj ?_
 refine ay rfl ?_
 refine ao ?_
 refine ab ?_
 refine ap (ai rfl) rfl rfl ?_
 refine ae ?_
 refine aj ?_
 refine aF ?_
 refine aA ?_
 refine aJ (ts := [2]) rfl rfl rfl (fun w hw => ?_)
 focus first
   | (exact ⟨by rw [cw, if_pos (by first | exact .inl h1_3 | exact .inr (.inl h1_7) | exact .inr (.inr (.inl h1_15)) | exact .inr (.inr (.inr h1_25)))]; rfl, hw.base⟩)
   | (exact ⟨by rw [cw, if_neg (fun h => h.elim h1_3 (fun h => h.elim h1_7 (fun h => h.elim h1_15 h1_25)))]; rfl, hw.base⟩)
   | (trace_state; fail)
 refine aD (i := 26) rfl ah (aW rfl rfl) aw aw rfl (aa (aa ar)) (by kernel_rfl) rfl ?_
 refine cB (by kernel_rfl) ?_
 refine aj ?_
 refine au rfl ?_
 refine aH ?_
 refine aj ?_
 refine ao ?_
 refine ab ?_
 refine ap (ai rfl) rfl rfl ?_
 refine ae ?_
 refine aj ?_
 refine aF ?_
 refine aJ (ts := [2]) rfl rfl rfl (fun w hw => ?_)
 focus first
   | (exact ⟨by rw [cw, if_pos (by first | exact .inl h1_3 | exact .inr (.inl h1_7) | exact .inr (.inr (.inl h1_15)) | exact .inr (.inr (.inr h1_25)))]; rfl, hw.base⟩)
   | (exact ⟨by rw [cw, if_neg (fun h => h.elim h1_3 (fun h => h.elim h1_7 (fun h => h.elim h1_15 h1_25)))]; rfl, hw.base⟩)
   | (trace_state; fail)

set_option maxRecDepth 100000 in
theorem c_rHas (r : Rg) (a : Ad) (h0 : 0 ≤ r.base.lo) (h1 : 0 ≤ a.lo) : cO Tryz.prog 159 #[.agg (dR r).toArray, .agg (dN a).toArray] (.bool (ci r a)) := by
 intro w0
 refine bd (ok0 := no) (S := []) (args := [.agg (dR r).toArray, .agg (dN a).toArray]) 30 Tryz.func159 rfl rfl rfl (by simp) (by simp) ?_
 refine ao ?_
 refine ab ?_
 refine bE rfl rfl rfl (fun b1 => ?_)
 refine bE rfl rfl rfl (fun b2 => ?_)
 refine ap (ai rfl) rfl rfl ?_
 refine ae ?_
 refine aj ?_
 refine ao ?_
 refine eh 26 rfl mixed ?_
 refine aD (i := 0) rfl ah (aK 1 cm rfl rfl rfl rfl) aw aw rfl (aa ar) (by kernel_rfl) rfl ?_
 refine dm (i := 1) rfl rfl rfl (br rfl ent_110) (by kernel_rfl) rfl ?_
 refine aS rfl ent_110 (c_rCheck r h0) rfl ?_
 refine ae ?_
 refine dC aw ?_
 refine aD (i := 2) rfl ah (dB rfl rfl) aw aw rfl (aa ar) (by kernel_rfl) rfl ?_
 refine cT (t := 7) rfl (fun h1_2 => ?_) (fun h1_2 => ?_)
 refine aD (i := 3) rfl ah (ak rfl) aw aw rfl (aa ar) (by kernel_rfl) rfl ?_
 refine aD (i := 4) rfl (aZ rfl rfl) (aK 0 aN rfl rfl rfl rfl) aw aw rfl (aa ar) (by kernel_rfl) rfl ?_
 refine dm (i := 5) rfl rfl rfl (br rfl ig) (by kernel_rfl) rfl ?_
 refine az rfl rfl ?_
 refine aS rfl ig (eC a h1) rfl ?_
 refine ae ?_
 refine dC aw ?_
 refine aD (i := 6) rfl (aZ rfl rfl) (dB rfl rfl) aw aw rfl (aa ar) (by kernel_rfl) rfl ?_
 refine cT (t := 11) rfl (fun h1_6 => ?_) (fun h1_6 => ?_)
 refine aD (i := 7) rfl ah (aX rfl rfl) aw aw rfl (aa ar) (by kernel_rfl) rfl ?_
 refine aD (i := 8) rfl ah (ak rfl) aw aw rfl (aa ar) (by kernel_rfl) rfl ?_
 refine aD (i := 9) rfl (aZ rfl rfl) (aB dc rfl) aw aw rfl (aa ar) (by kernel_rfl) rfl ?_
 refine aD (i := 10) rfl (aZ rfl rfl) (aM 0 gk rfl rfl rfl) aw aw rfl (aa ar) (by kernel_rfl) rfl ?_
 refine aD (i := 11) rfl (aZ rfl rfl) (aB db rfl) aw aw rfl (aa ar) (by kernel_rfl) rfl ?_
 refine aD (i := 12) rfl (aZ rfl rfl) (aB dc rfl) aw aw rfl (aa ar) (by kernel_rfl) rfl ?_
 refine aD (i := 13) rfl (aZ rfl rfl) (aM 1 gk rfl rfl rfl) aw aw rfl (aa ar) (by kernel_rfl) rfl ?_
 refine aD (i := 14) rfl (aZ rfl rfl) (y_eqlb Tryz.underlying4 rfl rfl) aw aw rfl (aa ar) (by kernel_rfl) rfl ?_
 refine cT (t := 19) rfl (fun h1_14 => ?_) (fun h1_14 => ?_)
 refine aD (i := 15) rfl ah (aX rfl rfl) aw aw rfl (aa ar) (by kernel_rfl) rfl ?_
 refine aD (i := 16) rfl ah (ak rfl) aw aw rfl (aa ar) (by kernel_rfl) rfl ?_
 refine aD (i := 17) rfl (aZ rfl rfl) (aK 0 aN rfl rfl rfl rfl) aw aw rfl (aa ar) (by kernel_rfl) rfl ?_
 refine aD (i := 18) rfl (aZ rfl rfl) (aB eP rfl) aw aw rfl (aa ar) (by kernel_rfl) rfl ?_
 refine aD (i := 19) rfl (aZ rfl rfl) (aM 1 eW rfl rfl rfl) aw aw rfl (aa ar) (by kernel_rfl) rfl ?_
 refine aD (i := 21) rfl (aZ rfl rfl) (aB db rfl) aw aw rfl (aa ar) (by kernel_rfl) rfl ?_
 refine aD (i := 22) rfl (aZ rfl rfl) (aK 1 aN rfl rfl rfl rfl) aw aw rfl (aa ar) (by kernel_rfl) rfl ?_
 refine dm (i := 20) rfl rfl rfl (br rfl ent_179) (by kernel_rfl) rfl ?_
 refine az rfl rfl ?_
 refine aS rfl ent_179 (rc_pure (c_head a r.bits (by have h9 := gm h1_2; have := ga r.base; omega))) rfl ?_
 refine ae ?_
 refine dC aw ?_
 refine aD (i := 23) rfl (aZ rfl rfl) (il (by kernel_rfl) rfl rfl (fq _ _) rfl) aw aw rfl (aa ar) (by kernel_rfl) rfl ?_
 refine aD (i := 24) rfl ah (aX rfl rfl) aw aw rfl (aa ar) (by kernel_rfl) rfl ?_
 refine aD (i := 25) rfl ah (ai rfl) aw aw rfl (aa ar) (by kernel_rfl) rfl ?_
 refine cB (by kernel_rfl) ?_
 refine aj ?_
 refine aF ?_
 refine aJ (ts := [4]) rfl rfl rfl (fun w hw => ?_)
 refine ⟨?_, hw.base⟩
 show Ending.returned (.bool _) = _
 congr 2
 focus first
   | (rw [ci, decide_eq_false h1_2]; rfl)
   | (rw [ci, decide_eq_true h1_2, decide_eq_false h1_6]; rfl)
   | (rw [ci, decide_eq_true h1_2, decide_eq_true h1_6, decide_eq_false h1_14]; rfl)
   | (rw [ci, decide_eq_true h1_2, decide_eq_true h1_6, decide_eq_true h1_14]; rfl)
   | (trace_state; fail)
 refine aD (i := 15) rfl ah (aX rfl rfl) aw aw rfl (aa ar) (by kernel_rfl) rfl ?_
 refine aD (i := 16) rfl ah (ak rfl) aw aw rfl (aa ar) (by kernel_rfl) rfl ?_
 refine bb (i := 17) rfl (aG rfl rfl rfl) aw rfl (aa ar) (by kernel_rfl) rfl ?_
 refine bb (i := 18) rfl (aG rfl rfl rfl) aw rfl (aa ar) (by kernel_rfl) rfl ?_
 refine bb (i := 19) rfl (aG rfl rfl rfl) aw rfl (aa ar) (by kernel_rfl) rfl ?_
 refine bb (i := 21) rfl (aG rfl rfl rfl) aw rfl (aa ar) (by kernel_rfl) rfl ?_
 refine bb (i := 22) rfl (aG rfl rfl rfl) aw rfl (aa ar) (by kernel_rfl) rfl ?_
 refine bb (i := 20) rfl (aG rfl rfl rfl) aw rfl (aa ar) (by kernel_rfl) rfl ?_
 refine bb (i := 23) rfl (aG rfl rfl rfl) aw rfl (aa ar) (by kernel_rfl) rfl ?_
 refine aD (i := 24) rfl ah (aW rfl rfl) aw aw rfl (aa ar) (by kernel_rfl) rfl ?_
 refine aD (i := 25) rfl ah (ai rfl) aw aw rfl (aa ar) (by kernel_rfl) rfl ?_
 refine cB (by kernel_rfl) ?_
 refine aj ?_
 refine aF ?_
 refine aJ (ts := [4]) rfl rfl rfl (fun w hw => ?_)
 refine ⟨?_, hw.base⟩
 show Ending.returned (.bool _) = _
 congr 2
 focus first
   | (rw [ci, decide_eq_false h1_2]; rfl)
   | (rw [ci, decide_eq_true h1_2, decide_eq_false h1_6]; rfl)
   | (rw [ci, decide_eq_true h1_2, decide_eq_true h1_6, decide_eq_false h1_14]; rfl)
   | (rw [ci, decide_eq_true h1_2, decide_eq_true h1_6, decide_eq_true h1_14]; rfl)
   | (trace_state; fail)
 refine aD (i := 7) rfl ah (aX rfl rfl) aw aw rfl (aa ar) (by kernel_rfl) rfl ?_
 refine aD (i := 8) rfl ah (ak rfl) aw aw rfl (aa ar) (by kernel_rfl) rfl ?_
 refine bb (i := 9) rfl (aG rfl rfl rfl) aw rfl (aa ar) (by kernel_rfl) rfl ?_
 refine bb (i := 10) rfl (aG rfl rfl rfl) aw rfl (aa ar) (by kernel_rfl) rfl ?_
 refine bb (i := 11) rfl (aG rfl rfl rfl) aw rfl (aa ar) (by kernel_rfl) rfl ?_
 refine bb (i := 12) rfl (aG rfl rfl rfl) aw rfl (aa ar) (by kernel_rfl) rfl ?_
 refine bb (i := 13) rfl (aG rfl rfl rfl) aw rfl (aa ar) (by kernel_rfl) rfl ?_
 refine bb (i := 14) rfl (aG rfl rfl rfl) aw rfl (aa ar) (by kernel_rfl) rfl ?_
 refine aD (i := 15) rfl ah (aW rfl rfl) aw aw rfl (aa ar) (by kernel_rfl) rfl ?_
 refine aD (i := 16) rfl ah (ak rfl) aw aw rfl (aa ar) (by kernel_rfl) rfl ?_
 refine bb (i := 17) rfl (aG rfl rfl rfl) aw rfl (aa ar) (by kernel_rfl) rfl ?_
 refine bb (i := 18) rfl (aG rfl rfl rfl) aw rfl (aa ar) (by kernel_rfl) rfl ?_
 refine bb (i := 19) rfl (aG rfl rfl rfl) aw rfl (aa ar) (by kernel_rfl) rfl ?_
 refine bb (i := 21) rfl (aG rfl rfl rfl) aw rfl (aa ar) (by kernel_rfl) rfl ?_
 refine bb (i := 22) rfl (aG rfl rfl rfl) aw rfl (aa ar) (by kernel_rfl) rfl ?_
 refine bb (i := 20) rfl (aG rfl rfl rfl) aw rfl (aa ar) (by kernel_rfl) rfl ?_
 refine bb (i := 23) rfl (aG rfl rfl rfl) aw rfl (aa ar) (by kernel_rfl) rfl ?_
 refine aD (i := 24) rfl ah (aW rfl rfl) aw aw rfl (aa ar) (by kernel_rfl) rfl ?_
 refine aD (i := 25) rfl ah (ai rfl) aw aw rfl (aa ar) (by kernel_rfl) rfl ?_
 refine cB (by kernel_rfl) ?_
 refine aj ?_
 refine aF ?_
 refine aJ (ts := [4]) rfl rfl rfl (fun w hw => ?_)
 refine ⟨?_, hw.base⟩
 show Ending.returned (.bool _) = _
 congr 2
 focus first
   | (rw [ci, decide_eq_false h1_2]; rfl)
   | (rw [ci, decide_eq_true h1_2, decide_eq_false h1_6]; rfl)
   | (rw [ci, decide_eq_true h1_2, decide_eq_true h1_6, decide_eq_false h1_14]; rfl)
   | (rw [ci, decide_eq_true h1_2, decide_eq_true h1_6, decide_eq_true h1_14]; rfl)
   | (trace_state; fail)
 refine aD (i := 3) rfl ah (ak rfl) aw aw rfl (aa ar) (by kernel_rfl) rfl ?_
 refine bb (i := 4) rfl (aG rfl rfl rfl) aw rfl (aa ar) (by kernel_rfl) rfl ?_
 refine bb (i := 5) rfl (aG rfl rfl rfl) aw rfl (aa ar) (by kernel_rfl) rfl ?_
 refine bb (i := 6) rfl (aG rfl rfl rfl) aw rfl (aa ar) (by kernel_rfl) rfl ?_
 refine aD (i := 7) rfl ah (aW rfl rfl) aw aw rfl (aa ar) (by kernel_rfl) rfl ?_
 refine aD (i := 8) rfl ah (ak rfl) aw aw rfl (aa ar) (by kernel_rfl) rfl ?_
 refine bb (i := 9) rfl (aG rfl rfl rfl) aw rfl (aa ar) (by kernel_rfl) rfl ?_
 refine bb (i := 10) rfl (aG rfl rfl rfl) aw rfl (aa ar) (by kernel_rfl) rfl ?_
 refine bb (i := 11) rfl (aG rfl rfl rfl) aw rfl (aa ar) (by kernel_rfl) rfl ?_
 refine bb (i := 12) rfl (aG rfl rfl rfl) aw rfl (aa ar) (by kernel_rfl) rfl ?_
 refine bb (i := 13) rfl (aG rfl rfl rfl) aw rfl (aa ar) (by kernel_rfl) rfl ?_
 refine bb (i := 14) rfl (aG rfl rfl rfl) aw rfl (aa ar) (by kernel_rfl) rfl ?_
 refine aD (i := 15) rfl ah (aW rfl rfl) aw aw rfl (aa ar) (by kernel_rfl) rfl ?_
 refine aD (i := 16) rfl ah (ak rfl) aw aw rfl (aa ar) (by kernel_rfl) rfl ?_
 refine bb (i := 17) rfl (aG rfl rfl rfl) aw rfl (aa ar) (by kernel_rfl) rfl ?_
 refine bb (i := 18) rfl (aG rfl rfl rfl) aw rfl (aa ar) (by kernel_rfl) rfl ?_
 refine bb (i := 19) rfl (aG rfl rfl rfl) aw rfl (aa ar) (by kernel_rfl) rfl ?_
 refine bb (i := 21) rfl (aG rfl rfl rfl) aw rfl (aa ar) (by kernel_rfl) rfl ?_
 refine bb (i := 22) rfl (aG rfl rfl rfl) aw rfl (aa ar) (by kernel_rfl) rfl ?_
 refine bb (i := 20) rfl (aG rfl rfl rfl) aw rfl (aa ar) (by kernel_rfl) rfl ?_
 refine bb (i := 23) rfl (aG rfl rfl rfl) aw rfl (aa ar) (by kernel_rfl) rfl ?_
 refine aD (i := 24) rfl ah (aW rfl rfl) aw aw rfl (aa ar) (by kernel_rfl) rfl ?_
 refine aD (i := 25) rfl ah (ai rfl) aw aw rfl (aa ar) (by kernel_rfl) rfl ?_
 refine cB (by kernel_rfl) ?_
 refine aj ?_
 refine aF ?_
 refine aJ (ts := [4]) rfl rfl rfl (fun w hw => ?_)
 refine ⟨?_, hw.base⟩
 show Ending.returned (.bool _) = _
 congr 2
 focus first
   | (rw [ci, decide_eq_false h1_2]; rfl)
   | (rw [ci, decide_eq_true h1_2, decide_eq_false h1_6]; rfl)
   | (rw [ci, decide_eq_true h1_2, decide_eq_true h1_6, decide_eq_false h1_14]; rfl)
   | (rw [ci, decide_eq_true h1_2, decide_eq_true h1_6, decide_eq_true h1_14]; rfl)
   | (trace_state; fail)

set_option maxRecDepth 100000 in
theorem c_rSize (r : Rg) (h0 : 0 ≤ r.base.lo) : cO Tryz.prog 97 #[.agg (dR r).toArray] (.int .i64 (bj r)) := by
 intro w0
 refine bd (ok0 := no) (S := []) (args := [.agg (dR r).toArray]) 19 Tryz.func97 rfl rfl rfl (by simp) (by simp) ?_
 refine ao ?_
 refine ab ?_
 refine bE rfl rfl rfl (fun b1 => ?_)
 refine ap (ai rfl) rfl rfl ?_
 refine ae ?_
 refine aj ?_
 refine ao ?_
 refine ao ?_
 refine ab ?_
 refine ap (aK 0 cm rfl rfl rfl rfl) rfl rfl ?_
 refine aS rfl ent_110 (c_rCheck r h0) rfl ?_
 refine ap (cv rfl rfl) rfl rfl ?_
 refine aC (t := 6) rfl (fun h1_2 => ?_) (fun h1_2 => ?_)
 refine ae ?_
 refine aj ?_
 refine ay rfl ?_
 refine ao ?_
 refine ab ?_
 refine ap (ai rfl) rfl rfl ?_
 refine ae ?_
 refine aj ?_
 refine aF ?_
 refine aA ?_
 refine aJ (ts := [2]) rfl rfl rfl (fun w hw => ?_)
 exact ⟨by rw [bj, if_pos h1_2]; rfl, hw.base⟩
 refine ae ?_
 refine aj ?_
 refine au rfl ?_
 refine aH ?_
 refine aj ?_
 refine ao ?_
 refine ao ?_
 have hz : cw r = 0 := Decidable.not_not.1 h1_2
 obtain ⟨hz1, hz2, hz3, hz4⟩ := gm hz
 have hwl := ga r.base
 obtain ⟨k, hk⟩ : ∃ k : Nat, cr r.base - r.bits = k := ⟨(cr r.base - r.bits).toNat, by omega⟩
 have hsz := sz_all ⟨k, by omega⟩
 dsimp only at hsz
 rw [← hk] at hsz
 refine eh 7 rfl mixed ?_
 refine aD (i := 0) rfl ah (aB db rfl) aw aw rfl (aa (aa ar)) (by kernel_rfl) rfl ?_
 refine aD (i := 1) rfl ah (aK 0 aN rfl rfl rfl rfl) aw aw rfl (aa (aa ar)) (by kernel_rfl) rfl ?_
 refine aD (i := 3) rfl ah (aB eP rfl) aw aw rfl (aa (aa ar)) (by kernel_rfl) rfl ?_
 refine aD (i := 4) rfl ah (aM 0 eW rfl rfl rfl) aw aw rfl (aa (aa ar)) (by kernel_rfl) rfl ?_
 refine dm (i := 2) rfl rfl rfl (br rfl ent_166) (by kernel_rfl) rfl ?_
 refine aS rfl ent_166 (c_rwide r.base) rfl ?_
 refine ae ?_
 refine dC aw ?_
 refine aD (i := 5) rfl ah (fM rfl rfl (by omega) (by omega)) aw aw rfl (aa (aa ar)) (by kernel_rfl) rfl ?_
 refine aD (i := 6) rfl ah (ai rfl) aw aw rfl (aa (aa ar)) (by kernel_rfl) rfl ?_
 refine cB (by kernel_rfl) ?_
 refine aj ?_
 refine ao ?_
 refine ab ?_
 refine ap (ak rfl) rfl rfl ?_
 refine ap (y_min rfl rfl) rfl rfl ?_
 refine ap (y_shl rfl rfl (by omega)) rfl rfl ?_
 refine ap (bF rfl rfl) rfl rfl ?_
 refine aC (t := 16) rfl (fun h4_3 => ?_) (fun h4_3 => ?_)
 refine ae ?_
 refine aj ?_
 refine ay rfl ?_
 refine ao ?_
 refine ab ?_
 refine ap (ak rfl) rfl rfl ?_
 refine ap (y_shl rfl rfl (by omega)) rfl rfl ?_
 refine ap (ai rfl) rfl rfl ?_
 refine ae ?_
 refine aj ?_
 refine aF ?_
 refine aA ?_
 refine aJ (ts := [2]) rfl rfl rfl (fun w hw => ?_)
 exact ⟨by rw [bj, if_neg (fun h => h hz), if_pos (by have := hsz.1.1 h4_3; omega), hsz.2 (hsz.1.1 h4_3), hk]; rfl, hw.base⟩
 refine ae ?_
 refine aj ?_
 refine au rfl ?_
 refine aH ?_
 refine aj ?_
 refine ao ?_
 refine ab ?_
 refine ap (ai rfl) rfl rfl ?_
 refine ae ?_
 refine aj ?_
 refine aF ?_
 refine aJ (ts := [2]) rfl rfl rfl (fun w hw => ?_)
 exact ⟨by rw [bj, if_neg (fun h => h hz), if_neg (by have := fun e => h4_3 (hsz.1.2 e); omega)]; rfl, hw.base⟩

theorem c_addr_Add (a : Ad) (d : Int) (h0 : 0 ≤ a.lo ∧ a.lo ≤ 18446744073709551615) (h1 : 0 ≤ a.hi) (hd : 0 ≤ d ∧ d ≤ 18446744073709551615) : RC Tryz.prog 167 #[.agg (dN a).toArray, .int .u64 d] [] (α := Unit) (fun _ => .tuple #[.agg (dN (cD a d).1).toArray, .bool (cD a d).2]) (fun _ => []) := by
 refine bi (args := [.agg (dN a).toArray, .int .u64 d]) 45 Tryz.func167 rfl rfl rfl (fun w0 => ?_)
 refine ao ?_
 refine ab ?_
 refine bE rfl rfl rfl (fun b1 => ?_)
 refine bz aN rfl rfl (fun b2 => ?_)
 refine ap (ai rfl) rfl rfl ?_
 refine ae ?_
 refine aj ?_
 refine ao ?_
 refine ao ?_
 refine ab ?_
 refine ap (aK 1 aN rfl rfl rfl rfl) rfl rfl ?_
 refine aS rfl ig (eC a h0.1) rfl ?_
 refine ap (cv rfl rfl) rfl rfl ?_
 refine aC (t := 11) rfl (fun h1_2 => ?_) (fun h1_2 => ?_)
 refine ae ?_
 refine aj ?_
 refine ay rfl ?_
 refine ao ?_
 refine ab ?_
 refine ap (bN rfl (e6)) rfl rfl ?_
 refine aT aN rfl rfl rfl .z rfl rfl rfl rfl ?_
 refine ap (ai rfl) rfl rfl ?_
 refine ae ?_
 refine aj ?_
 refine aF ?_
 refine aA ?_
 refine dp (rs := [.cell 4 29, .tmp 5]) rfl (bA 0 aN rfl rfl rfl rfl (cC rfl bR)) rfl (fun w hw => ?_)
 focus first
   | (have hA : cD a d = (ad0, false) := if_pos h1_2
      exact ⟨(), by rw [hA]; rfl, hw.base, (hw.weak (List.nil_sublist _) (fun s hs => hs)).toNews⟩)
   | (have hA : cD a d = (ad0, false) := by rw [cD, if_neg h1_2, if_pos (by first | exact .inl (hc.symm ▸ h7_1) | exact .inr (hs.symm ▸ h7_5))]
      exact ⟨(), by rw [hA]; rfl, hw.base, (hw.weak (List.nil_sublist _) (fun s hs => hs)).toNews⟩)
   | (have hA : cD a d = (g8 a d, true) := by rw [cD, if_neg h1_2, if_neg (fun h => h.elim (fun e => h7_1 (hc ▸ e)) (fun e => h7_5 (hs ▸ e)))]
      exact ⟨(), by rw [hA, hs]; rfl, hw.base, (hw.weak (List.nil_sublist _) (fun s hs => hs)).toNews⟩)
   | (trace_state; fail)
 refine ae ?_
 refine aj ?_
 refine au rfl ?_
 refine aH ?_
 refine aj ?_
 refine ao ?_
 refine ab ?_
 refine ap (aB cW rfl) rfl rfl ?_
 refine ap (aM 1 cP rfl rfl rfl) rfl rfl ?_
 refine ap (ak rfl) rfl rfl ?_
 refine ap (y_add64 Tryz.func215 (by kernel_rfl) (by kernel_rfl) (by kernel_rfl) (by kernel_rfl) rfl rfl rfl h0.1 hd.1 (by decide)) rfl rfl ?_
 refine bV (t := 17) (.tuple #[.int .u64 (loS a d), .int .u64 (loC a d)]) rfl rfl ?_
 refine ap (ak rfl) rfl rfl ?_
 refine ap (aI rfl rfl) rfl rfl ?_
 refine ap (aI rfl rfl) rfl rfl ?_
 refine ap (ai rfl) rfl rfl ?_
 refine ap (ai rfl) rfl rfl ?_
 refine ae ?_
 refine aj ?_
 refine ao ?_
 refine ab ?_
 refine ap (aB dc rfl) rfl rfl ?_
 refine ap (aM 1 gk rfl rfl rfl) rfl rfl ?_
 refine ap (aB dG rfl) rfl rfl ?_
 refine ap (aM 1 cP rfl rfl rfl) rfl rfl ?_
 refine ap (ak rfl) rfl rfl ?_
 refine ap (bN rfl (bu_29_0_1_2 _ _ _)) rfl rfl ?_
 refine bz aN rfl rfl (fun b3 => ?_)
 refine aT aN rfl rfl rfl .z rfl rfl rfl rfl ?_
 refine ae ?_
 refine aj ?_
 refine ao ?_
 refine ao ?_
 refine ab ?_
 refine ap (aB dc rfl) rfl rfl ?_
 refine ap (aM 2 gk rfl rfl rfl) rfl rfl ?_
 refine bk (t := 27) rfl (fun h5_1 => ?_) (fun h5_1 => ?_)
 have hs : g8 a d = ⟨a.six, hiS a d, loS a d⟩ := if_pos h5_1
 have hc : carA a d = hiC a d := if_pos h5_1
 refine ae ?_
 refine aj ?_
 refine ay rfl ?_
 refine ab ?_
 refine ap (aB dG rfl) rfl rfl ?_
 refine ap (aM 2 cP rfl rfl rfl) rfl rfl ?_
 refine ap (ak rfl) rfl rfl ?_
 refine ap (y_add64 Tryz.func215 (by kernel_rfl) (by kernel_rfl) (by kernel_rfl) (by kernel_rfl) rfl rfl rfl h1 (by decide) (loC_rng h0 hd)) rfl rfl ?_
 refine bV (t := 32) (.tuple #[.int .u64 (hiS a d), .int .u64 (hiC a d)]) rfl rfl ?_
 refine ap (ak rfl) rfl rfl ?_
 refine ap (aI rfl rfl) rfl rfl ?_
 refine ap (aI rfl rfl) rfl rfl ?_
 refine ap (aB dG rfl) rfl rfl ?_
 refine aT cP rfl rfl rfl .z rfl rfl rfl rfl ?_
 refine ap (ai rfl) rfl rfl ?_
 refine ae ?_
 refine aj ?_
 refine ao ?_
 refine ao ?_
 refine ab ?_
 refine ap (ak rfl) rfl rfl ?_
 refine ap (cv rfl rfl) rfl rfl ?_
 refine aC (t := 37) rfl (fun h7_1 => ?_) (fun h7_1 => ?_)
 refine ap (ak rfl) rfl rfl ?_
 refine aO rfl rfl rfl rfl ?_
 refine aO rfl rfl rfl rfl ?_
 refine aO rfl rfl rfl rfl ?_
 refine ap (aX rfl rfl) rfl rfl ?_
 refine ae ?_
 refine aj ?_
 refine ay rfl ?_
 refine ao ?_
 refine ab ?_
 refine ap (bN rfl (e6)) rfl rfl ?_
 refine aT aN rfl rfl rfl (.s (.z)) rfl rfl rfl rfl ?_
 refine ap (ai rfl) rfl rfl ?_
 refine ae ?_
 refine aj ?_
 refine aF ?_
 refine aA ?_
 refine dp (rs := [.cell 4 29, .tmp 5]) rfl (bA 1 aN rfl rfl rfl rfl (cC rfl bR)) rfl (fun w hw => ?_)
 focus first
   | (have hA : cD a d = (ad0, false) := if_pos h1_2
      exact ⟨(), by rw [hA]; rfl, hw.base, (hw.weak (List.nil_sublist _) (fun s hs => hs)).toNews⟩)
   | (have hA : cD a d = (ad0, false) := by rw [cD, if_neg h1_2, if_pos (by first | exact .inl (hc.symm ▸ h7_1) | exact .inr (hs.symm ▸ h7_5))]
      exact ⟨(), by rw [hA]; rfl, hw.base, (hw.weak (List.nil_sublist _) (fun s hs => hs)).toNews⟩)
   | (have hA : cD a d = (g8 a d, true) := by rw [cD, if_neg h1_2, if_neg (fun h => h.elim (fun e => h7_1 (hc ▸ e)) (fun e => h7_5 (hs ▸ e)))]
      exact ⟨(), by rw [hA, hs]; rfl, hw.base, (hw.weak (List.nil_sublist _) (fun s hs => hs)).toNews⟩)
   | (trace_state; fail)
 refine ap (ak rfl) rfl rfl ?_
 refine az rfl rfl ?_
 refine ap (aK 0 aN rfl rfl rfl rfl) rfl rfl ?_
 refine az rfl rfl ?_
 refine aS rfl ig (eC ⟨a.six, hiS a d, loS a d⟩ (loS_pos a d)) rfl ?_
 refine az rfl rfl ?_
 refine ap (cv rfl rfl) rfl rfl ?_
 refine aC (t := 41) rfl (fun h7_5 => ?_) (fun h7_5 => ?_)
 refine ap (aW rfl rfl) rfl rfl ?_
 refine ae ?_
 refine aj ?_
 refine ay rfl ?_
 refine ao ?_
 refine ab ?_
 refine ap (bN rfl (e6)) rfl rfl ?_
 refine aT aN rfl rfl rfl (.s (.z)) rfl rfl rfl rfl ?_
 refine ap (ai rfl) rfl rfl ?_
 refine ae ?_
 refine aj ?_
 refine aF ?_
 refine aA ?_
 refine dp (rs := [.cell 4 29, .tmp 5]) rfl (bA 1 aN rfl rfl rfl rfl (cC rfl bR)) rfl (fun w hw => ?_)
 focus first
   | (have hA : cD a d = (ad0, false) := if_pos h1_2
      exact ⟨(), by rw [hA]; rfl, hw.base, (hw.weak (List.nil_sublist _) (fun s hs => hs)).toNews⟩)
   | (have hA : cD a d = (ad0, false) := by rw [cD, if_neg h1_2, if_pos (by first | exact .inl (hc.symm ▸ h7_1) | exact .inr (hs.symm ▸ h7_5))]
      exact ⟨(), by rw [hA]; rfl, hw.base, (hw.weak (List.nil_sublist _) (fun s hs => hs)).toNews⟩)
   | (have hA : cD a d = (g8 a d, true) := by rw [cD, if_neg h1_2, if_neg (fun h => h.elim (fun e => h7_1 (hc ▸ e)) (fun e => h7_5 (hs ▸ e)))]
      exact ⟨(), by rw [hA, hs]; rfl, hw.base, (hw.weak (List.nil_sublist _) (fun s hs => hs)).toNews⟩)
   | (trace_state; fail)
 refine ap (aW rfl rfl) rfl rfl ?_
 refine ae ?_
 refine aj ?_
 refine au rfl ?_
 refine aH ?_
 refine aj ?_
 refine ao ?_
 refine ab ?_
 refine ap (aK 0 aN rfl rfl rfl rfl) rfl rfl ?_
 refine aT aN rfl rfl rfl (.s (.z)) rfl rfl rfl rfl ?_
 refine ap (ai rfl) rfl rfl ?_
 refine ae ?_
 refine aj ?_
 refine aF ?_
 refine dp (rs := [.cell 4 29, .tmp 5]) rfl (bA 1 aN rfl rfl rfl rfl (cC rfl bR)) rfl (fun w hw => ?_)
 focus first
   | (have hA : cD a d = (ad0, false) := if_pos h1_2
      exact ⟨(), by rw [hA]; rfl, hw.base, (hw.weak (List.nil_sublist _) (fun s hs => hs)).toNews⟩)
   | (have hA : cD a d = (ad0, false) := by rw [cD, if_neg h1_2, if_pos (by first | exact .inl (hc.symm ▸ h7_1) | exact .inr (hs.symm ▸ h7_5))]
      exact ⟨(), by rw [hA]; rfl, hw.base, (hw.weak (List.nil_sublist _) (fun s hs => hs)).toNews⟩)
   | (have hA : cD a d = (g8 a d, true) := by rw [cD, if_neg h1_2, if_neg (fun h => h.elim (fun e => h7_1 (hc ▸ e)) (fun e => h7_5 (hs ▸ e)))]
      exact ⟨(), by rw [hA, hs]; rfl, hw.base, (hw.weak (List.nil_sublist _) (fun s hs => hs)).toNews⟩)
   | (trace_state; fail)
 have hs : g8 a d = ⟨a.six, a.hi, loS a d⟩ := if_neg (by rw [h5_1]; decide)
 have hc : carA a d = loC a d := if_neg (by rw [h5_1]; decide)
 refine ae ?_
 refine aj ?_
 refine au rfl ?_
 refine aH ?_
 refine aj ?_
 refine ao ?_
 refine ao ?_
 refine ab ?_
 refine ap (ak rfl) rfl rfl ?_
 refine ap (cv rfl rfl) rfl rfl ?_
 refine aC (t := 37) rfl (fun h7_1 => ?_) (fun h7_1 => ?_)
 refine ap (ak rfl) rfl rfl ?_
 refine aO rfl rfl rfl rfl ?_
 refine aO rfl rfl rfl rfl ?_
 refine aO rfl rfl rfl rfl ?_
 refine ap (aX rfl rfl) rfl rfl ?_
 refine ae ?_
 refine aj ?_
 refine ay rfl ?_
 refine ao ?_
 refine ab ?_
 refine ap (bN rfl (e6)) rfl rfl ?_
 refine aT aN rfl rfl rfl (.s (.z)) rfl rfl rfl rfl ?_
 refine ap (ai rfl) rfl rfl ?_
 refine ae ?_
 refine aj ?_
 refine aF ?_
 refine aA ?_
 refine dp (rs := [.cell 4 29, .tmp 5]) rfl (bA 1 aN rfl rfl rfl rfl (cC rfl bR)) rfl (fun w hw => ?_)
 focus first
   | (have hA : cD a d = (ad0, false) := if_pos h1_2
      exact ⟨(), by rw [hA]; rfl, hw.base, (hw.weak (List.nil_sublist _) (fun s hs => hs)).toNews⟩)
   | (have hA : cD a d = (ad0, false) := by rw [cD, if_neg h1_2, if_pos (by first | exact .inl (hc.symm ▸ h7_1) | exact .inr (hs.symm ▸ h7_5))]
      exact ⟨(), by rw [hA]; rfl, hw.base, (hw.weak (List.nil_sublist _) (fun s hs => hs)).toNews⟩)
   | (have hA : cD a d = (g8 a d, true) := by rw [cD, if_neg h1_2, if_neg (fun h => h.elim (fun e => h7_1 (hc ▸ e)) (fun e => h7_5 (hs ▸ e)))]
      exact ⟨(), by rw [hA, hs]; rfl, hw.base, (hw.weak (List.nil_sublist _) (fun s hs => hs)).toNews⟩)
   | (trace_state; fail)
 refine ap (ak rfl) rfl rfl ?_
 refine az rfl rfl ?_
 refine ap (aK 0 aN rfl rfl rfl rfl) rfl rfl ?_
 refine az rfl rfl ?_
 refine aS rfl ig (eC ⟨a.six, a.hi, loS a d⟩ (loS_pos a d)) rfl ?_
 refine az rfl rfl ?_
 refine ap (cv rfl rfl) rfl rfl ?_
 refine aC (t := 41) rfl (fun h7_5 => ?_) (fun h7_5 => ?_)
 refine ap (aW rfl rfl) rfl rfl ?_
 refine ae ?_
 refine aj ?_
 refine ay rfl ?_
 refine ao ?_
 refine ab ?_
 refine ap (bN rfl (e6)) rfl rfl ?_
 refine aT aN rfl rfl rfl (.s (.z)) rfl rfl rfl rfl ?_
 refine ap (ai rfl) rfl rfl ?_
 refine ae ?_
 refine aj ?_
 refine aF ?_
 refine aA ?_
 refine dp (rs := [.cell 4 29, .tmp 5]) rfl (bA 1 aN rfl rfl rfl rfl (cC rfl bR)) rfl (fun w hw => ?_)
 focus first
   | (have hA : cD a d = (ad0, false) := if_pos h1_2
      exact ⟨(), by rw [hA]; rfl, hw.base, (hw.weak (List.nil_sublist _) (fun s hs => hs)).toNews⟩)
   | (have hA : cD a d = (ad0, false) := by rw [cD, if_neg h1_2, if_pos (by first | exact .inl (hc.symm ▸ h7_1) | exact .inr (hs.symm ▸ h7_5))]
      exact ⟨(), by rw [hA]; rfl, hw.base, (hw.weak (List.nil_sublist _) (fun s hs => hs)).toNews⟩)
   | (have hA : cD a d = (g8 a d, true) := by rw [cD, if_neg h1_2, if_neg (fun h => h.elim (fun e => h7_1 (hc ▸ e)) (fun e => h7_5 (hs ▸ e)))]
      exact ⟨(), by rw [hA, hs]; rfl, hw.base, (hw.weak (List.nil_sublist _) (fun s hs => hs)).toNews⟩)
   | (trace_state; fail)
 refine ap (aW rfl rfl) rfl rfl ?_
 refine ae ?_
 refine aj ?_
 refine au rfl ?_
 refine aH ?_
 refine aj ?_
 refine ao ?_
 refine ab ?_
 refine ap (aK 0 aN rfl rfl rfl rfl) rfl rfl ?_
 refine aT aN rfl rfl rfl (.s (.z)) rfl rfl rfl rfl ?_
 refine ap (ai rfl) rfl rfl ?_
 refine ae ?_
 refine aj ?_
 refine aF ?_
 refine dp (rs := [.cell 4 29, .tmp 5]) rfl (bA 1 aN rfl rfl rfl rfl (cC rfl bR)) rfl (fun w hw => ?_)
 focus first
   | (have hA : cD a d = (ad0, false) := if_pos h1_2
      exact ⟨(), by rw [hA]; rfl, hw.base, (hw.weak (List.nil_sublist _) (fun s hs => hs)).toNews⟩)
   | (have hA : cD a d = (ad0, false) := by rw [cD, if_neg h1_2, if_pos (by first | exact .inl (hc.symm ▸ h7_1) | exact .inr (hs.symm ▸ h7_5))]
      exact ⟨(), by rw [hA]; rfl, hw.base, (hw.weak (List.nil_sublist _) (fun s hs => hs)).toNews⟩)
   | (have hA : cD a d = (g8 a d, true) := by rw [cD, if_neg h1_2, if_neg (fun h => h.elim (fun e => h7_1 (hc ▸ e)) (fun e => h7_5 (hs ▸ e)))]
      exact ⟨(), by rw [hA, hs]; rfl, hw.base, (hw.weak (List.nil_sublist _) (fun s hs => hs)).toNews⟩)
   | (trace_state; fail)
end Go.Proofs.YtnpdgmoeoidppaaGreat

/- ranges: masks and bits -/
namespace Go.Proofs.YtnpdgmoeoidppaaGreat
open Go.RowKit Go.Shelf
set_option linter.unusedVariables false
set_option linter.unusedSimpArgs false

theorem and_mask (x b k : Nat) : x &&& ((2 ^ b - 1) * 2 ^ k) = (x / 2 ^ k % 2 ^ b) * 2 ^ k := by
  apply Nat.eq_of_testBit_eq
  intro i
  rw [Nat.testBit_and, Nat.testBit_mul_two_pow, Nat.testBit_mul_two_pow, Nat.testBit_two_pow_sub_one, Nat.testBit_mod_two_pow, Nat.testBit_div_two_pow]
  by_cases h : k ≤ i
  · simp only [h, decide_true, Bool.true_and]
    rw [show i - k + k = i by omega, Bool.and_comm]
  · simp [h]
/-- The first m of a word's n bits. -/
def eV (n m x : Nat) : Nat := x / 2 ^ (n - m) * 2 ^ (n - m)
/-- A word's bit, from the highest one on. -/
def fT (n x i : Nat) : Nat := x / 2 ^ (n - 1 - i) % 2
theorem bit_test (n x i : Nat) : fT n x i = if x.testBit (n - 1 - i) = true then 1 else 0 := by
  rw [fT, Nat.testBit_eq_decide_div_mod_eq]
  have : x / 2 ^ (n - 1 - i) % 2 < 2 := Nat.mod_lt _ (by decide)
  by_cases h : x / 2 ^ (n - 1 - i) % 2 = 1
  · simp [h]
  · simp [h]; omega
theorem bit_eq {n x y i : Nat} : fT n x i = fT n y i ↔ x.testBit (n - 1 - i) = y.testBit (n - 1 - i) := by
  rw [bit_test, bit_test]
  cases x.testBit (n - 1 - i) <;> cases y.testBit (n - 1 - i) <;> simp
theorem bit_zero {n x i : Nat} : fT n x i = 0 ↔ x.testBit (n - 1 - i) = false := by
  rw [bit_test]
  cases x.testBit (n - 1 - i) <;> simp
theorem gQ {n m x i : Nat} : (eV n m x).testBit i = (decide (n - m ≤ i) && x.testBit i) := by
  rw [eV, Nat.testBit_mul_two_pow, Nat.testBit_div_two_pow]
  by_cases h : n - m ≤ i
  · rw [show i - (n - m) + (n - m) = i by omega]
  · simp [h]
theorem cut_self {n m x : Nat} (hm : m ≤ n) : eV n m x = x ↔ ∀ i, m ≤ i → i < n → fT n x i = 0 := by
  constructor
  · intro h i h1 h2
    rw [bit_zero, ← h, gQ]
    have : ¬ n - m ≤ n - 1 - i := by omega
    simp [this]
  · intro h
    apply Nat.eq_of_testBit_eq
    intro j
    rw [gQ]
    by_cases hj : n - m ≤ j
    · simp [hj]
    · have h0 := bit_zero.1 (h (n - 1 - j) (by omega) (by omega))
      rw [show n - 1 - (n - 1 - j) = j by omega] at h0
      rw [h0]; simp
theorem cut_same {n m x y : Nat} (hx : x < 2 ^ n) (hy : y < 2 ^ n) (hm : m ≤ n) (hc : eV n m y = y) : eV n m x = y ↔ ∀ i, i < m → fT n y i = fT n x i := by
  constructor
  · intro h i hi
    rw [bit_eq, ← h, gQ]
    have : n - m ≤ n - 1 - i := by omega
    simp [this]
  · intro h
    apply Nat.eq_of_testBit_eq
    intro j
    rw [gQ]
    by_cases hj : n - m ≤ j
    · by_cases hn : j < n
      · have h0 := bit_eq.1 (h (n - 1 - j) (by omega))
        rw [show n - 1 - (n - 1 - j) = j by omega] at h0
        rw [h0]; simp [hj]
      · rw [Nat.testBit_lt_two_pow (Nat.lt_of_lt_of_le hx (Nat.pow_le_pow_right (by decide) (by omega))), Nat.testBit_lt_two_pow (Nat.lt_of_lt_of_le hy (Nat.pow_le_pow_right (by decide) (by omega)))]; simp
    · rw [← hc, gQ]; simp [hj]
theorem msk_nat {m n : Nat} (h : m ≤ n) : ep m n = (((2 ^ m - 1) * 2 ^ (n - m) : Nat) : Int) := by
  have h1 : 1 ≤ 2 ^ m := Nat.one_le_two_pow
  have h2 : (((2 ^ m - 1 : Nat) : Int)) = 2 ^ m - 1 := by rw [Int.natCast_sub h1, Int.natCast_pow]; rfl
  unfold ep
  by_cases h0 : m = 0
  · subst h0; simp
  · rw [if_neg (by omega)]
    by_cases hn : n ≤ m
    · obtain rfl : m = n := by omega
      rw [if_pos (by omega), Int.natCast_mul, h2, Nat.sub_self]; simp
    · rw [if_neg (by omega), Int.natCast_mul, h2, Int.natCast_pow]
      rw [Int.toNat_natCast, show ((n : Int) - (m : Int)).toNat = n - m by omega]; rfl
theorem andI_nat {a b : Nat} (ha : a < 18446744073709551616) (hb : b < 18446744073709551616) : andI a b = ((a &&& b : Nat) : Int) := by
  have hle : a &&& b ≤ a := Nat.and_le_left
  show IntKind.u64.wrap _ = _
  have e : (BitVec.ofInt IntKind.u64.bits (a : Int) &&& BitVec.ofInt IntKind.u64.bits (b : Int)).toNat = a &&& b := by
    rw [BitVec.toNat_and, BitVec.toNat_ofInt, BitVec.toNat_ofInt]
    show ((a : Int) % (18446744073709551616 : Nat)).toNat &&& ((b : Int) % (18446744073709551616 : Nat)).toNat = _
    rw [show ((a : Int) % (18446744073709551616 : Nat)).toNat = a by omega, show ((b : Int) % (18446744073709551616 : Nat)).toNat = b by omega]
  rw [e]
  exact dy (by omega) (by omega)
theorem and_cut {n m x : Nat} (hn : n ≤ 64) (hm : m ≤ n) (hx : x < 2 ^ n) : andI x (ep m n) = (eV n m x : Int) := by
  have h64 : (2 : Nat) ^ 64 = 18446744073709551616 := by decide
  have hp : 2 ^ n ≤ 2 ^ 64 := Nat.pow_le_pow_right (by decide) hn
  have hmk : (2 ^ m - 1) * 2 ^ (n - m) < 2 ^ n := by
    have : 2 ^ m * 2 ^ (n - m) = 2 ^ n := by rw [← Nat.pow_add]; congr 1; omega
    have h1 : 1 ≤ 2 ^ m := Nat.one_le_two_pow
    have h2 : 0 < 2 ^ (n - m) := Nat.two_pow_pos _
    rw [← this]
    exact Nat.mul_lt_mul_of_pos_right (by omega) h2
  rw [msk_nat hm, andI_nat (by omega) (by omega), and_mask, eV, Nat.mod_eq_of_lt]
  rw [Nat.div_lt_iff_lt_mul (Nat.two_pow_pos _), ← Nat.pow_add]
  rw [show m + (n - m) = n by omega]; exact hx

theorem gG {a : Ad} {m : Nat} (h6 : a.six = true) (hm : m ≤ 128) (h1 : 0 ≤ a.hi ∧ a.hi ≤ 18446744073709551615) (h2 : 0 ≤ a.lo ∧ a.lo ≤ 18446744073709551615) :
    gc a m = ⟨a.six, (eV 64 (min m 64) a.hi.toNat : Nat), (eV 64 (m - 64) a.lo.toNat : Nat)⟩ := by
  have h64 : (2 : Nat) ^ 64 = 18446744073709551616 := by decide
  have e1 : ep (m : Int) 64 = ep ((min m 64 : Nat) : Int) (64 : Nat) := by
    by_cases h : m ≤ 64
    · rw [Nat.min_eq_left h]; rfl
    · have p1 : ep (m : Int) 64 = 2 ^ (64 : Int).toNat - 1 := by rw [ep, if_neg (by omega), if_pos (by omega)]
      rw [Nat.min_eq_right (by omega), p1]; decide +kernel
  have e2 : ep ((m : Int) - 64) 64 = ep ((m - 64 : Nat) : Int) (64 : Nat) := by
    by_cases h : m ≤ 64
    · rw [ep, ep, if_pos (by omega), if_pos (by omega)]
    · congr 1; omega
  have g1 : a.hi = ((a.hi.toNat : Nat) : Int) := by omega
  have g2 : a.lo = ((a.lo.toNat : Nat) : Int) := by omega
  rw [gc, if_pos h6, e1, e2]
  congr 1
  · conv => lhs; rw [g1]
    exact and_cut (by decide) (Nat.min_le_right _ _) (by omega)
  · conv => lhs; rw [g2]
    exact and_cut (by decide) (by omega) (by omega)
theorem f5 {a : Ad} {m : Nat} (h6 : a.six = false) (hm : m ≤ 32) (h2 : 0 ≤ a.lo ∧ a.lo < 4294967296) : gc a m = ⟨a.six, a.hi, (eV 32 m a.lo.toNat : Nat)⟩ := by
  have h32 : (2 : Nat) ^ 32 = 4294967296 := by decide
  have g2 : a.lo = ((a.lo.toNat : Nat) : Int) := by omega
  rw [gc, if_neg (by rw [h6]; decide)]
  congr 1
  conv => lhs; rw [g2]
  exact and_cut (n := 32) (by decide) hm (by omega)
/-- An address' bit, from its highest one on. -/
def ec (a : Ad) (i : Nat) : Nat := if a.six = true then (if i < 64 then fT 64 a.hi.toNat i else fT 64 a.lo.toNat (i - 64)) else fT 32 a.lo.toNat i

end Go.Proofs.YtnpdgmoeoidppaaGreat
