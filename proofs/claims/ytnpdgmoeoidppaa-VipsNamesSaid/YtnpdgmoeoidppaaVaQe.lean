import Derived.Test.YtnpdgmoeoidppaaLsQe
import Derived.Test.YtnpdgmoeoidppaaLxQe
/- ranges of addresses -/
namespace Go.Proofs.Ytnpdgmoeoidppaa
open Go.RowKit Go.Shelf
set_option linter.unusedVariables false
set_option linter.unusedSimpArgs false

theorem d5 : Try.prog.built 62 [] = some [.bool false, .int .u64 0, .int .u64 0].toArray := by kernel_rfl
theorem bu_62_0_1_2 (x0 : Bool) (x1 : Int) (x2 : Int) : Try.prog.built 62 [(0, .bool x0), (1, .int .u64 x1), (2, .int .u64 x2)] = some [.bool x0, .int .u64 x1, .int .u64 x2].toArray := by kernel_rfl
theorem ent_109 : Enters Try.prog 109 := enters_of Try.func109 (by kernel_rfl) rfl
theorem ent_120 : Enters Try.prog 120 := enters_of Try.func120 (by kernel_rfl) rfl
theorem eI : Enters Try.prog 152 := enters_of Try.func152 (by kernel_rfl) rfl
theorem ent_77 : Enters Try.prog 77 := enters_of Try.func77 (by kernel_rfl) rfl
theorem di : FA Try.prog 64 0 0 := fun b o w => by kernel_rfl
theorem fF : FA Try.prog 64 1 3 := fun b o w => by kernel_rfl
theorem cc : TyI Try.prog 64 true 4 32 (.agg #[.bool false, .int .u64 0, .int .u64 0, .int .i64 0]) := TyI.mk' (by kernel_rfl) (fun _ => by kernel_rfl)

/-- A range: its base, its bits. -/
structure Rg where
  base : Ad
  bits : Int
def eb (r : Rg) : List Value := [.bool r.base.six, .int .u64 r.base.hi, .int .u64 r.base.lo, .int .i64 r.bits]
theorem enc_rg : Enc eb 4 := ⟨fun _ => rfl, fun _ => rfl⟩
def rg0 : Rg := ⟨ad0, 0⟩
def RgOk (r : Rg) : Prop := AdOk r.base ∧ -9223372036854775808 ≤ r.bits ∧ r.bits ≤ 9223372036854775807
def dM (a : Ad) : Int := if a.six = true then 128 else 32
theorem wideA_le (a : Ad) : 32 ≤ dM a ∧ dM a ≤ 128 := by unfold dM; split <;> omega
def fp (b n : Int) : Int := if b ≤ 0 then 0 else if n ≤ b then 2 ^ n.toNat - 1 else (2 ^ b.toNat - 1) * 2 ^ (n - b).toNat
def mskW (b n : Int) : Int := IntKind.u64.wrap (IntKind.u64.wrap (IntKind.u64.wrap (1 * 2 ^ min b.toNat IntKind.u64.bits) - 1) * 2 ^ min (n - b).toNat IntKind.u64.bits)
def mskF (n : Int) : Int := IntKind.u64.wrap (IntKind.u64.wrap (1 * 2 ^ min n.toNat IntKind.u64.bits) - 1)
theorem msk_full {n : Int} (hn : n = 32 ∨ n = 64) : mskF n = 2 ^ n.toNat - 1 := by
  rcases hn with rfl | rfl <;> decide +kernel
theorem msk_all : ∀ k : Fin 64, 0 < k.val → (k.val < 32 → mskW (k.val : Int) 32 = fp (k.val : Int) 32) ∧ mskW (k.val : Int) 64 = fp (k.val : Int) 64 := by decide +kernel
theorem msk_mid {b n : Int} (hn : n = 32 ∨ n = 64) (h : 0 < b) (h2 : b < n) : mskW b n = fp b n := by
  obtain ⟨k, rfl⟩ : ∃ k : Nat, b = k := ⟨b.toNat, by omega⟩
  have := msk_all ⟨k, by omega⟩ (by show 0 < k; omega)
  rcases hn with rfl | rfl
  · exact this.1 (by show k < 32; omega)
  · exact this.2
def andI (a b : Int) : Int := bits .and .u64 a b
def headA (a : Ad) (b : Int) : Ad := if a.six = true then ⟨a.six, andI a.hi (fp b 64), andI a.lo (fp (b - 64) 64)⟩ else ⟨a.six, a.hi, andI a.lo (fp b 32)⟩
def dQ (r : Rg) : Int := if cZ r.base ≠ 0 ∨ r.bits < 0 ∨ dM r.base < r.bits ∨ headA r.base r.bits ≠ r.base then 2 else 0
theorem rg_zero {r : Rg} (h : dQ r = 0) : cZ r.base = 0 ∧ 0 ≤ r.bits ∧ r.bits ≤ dM r.base ∧ headA r.base r.bits = r.base := by
  unfold dQ at h
  split at h
  · exact absurd h (by decide)
  · rename_i q
    refine ⟨Decidable.not_not.1 (fun e => q (.inl e)), by have := fun e => q (.inr (.inl e)); omega, by have := fun e => q (.inr (.inr (.inl e))); omega, Decidable.not_not.1 (fun e => q (.inr (.inr (.inr e))))⟩
def cN (r : Rg) (a : Ad) : Bool := decide (dQ r = 0) && (decide (cZ a = 0) && (decide (a.six = r.base.six) && decide (headA a r.bits = r.base)))
def cv (r : Rg) : Nat := if dQ r ≠ 0 then 0 else if dM r.base - r.bits < 16 then 2 ^ (dM r.base - r.bits).toNat else 65536
theorem sz_all : ∀ k : Fin 129, (IntKind.i64.wrap (1 * 2 ^ min (if (30 : Int) < (k.val : Int) then (30 : Int) else (k.val : Int)).toNat IntKind.i64.bits) < 65536 ↔ k.val < 16) ∧ (k.val < 16 → IntKind.i64.wrap (1 * 2 ^ min ((k.val : Int)).toNat IntKind.i64.bits) = 2 ^ k.val) := by decide +kernel
theorem fq (r : Rg) : cv r ≤ 65536 := by
  unfold cv
  split
  · omega
  · split
    · rename_i h
      have : (dM r.base - r.bits).toNat ≤ 15 := by omega
      calc 2 ^ (dM r.base - r.bits).toNat ≤ 2 ^ 15 := Nat.pow_le_pow_right (by decide) this
        _ ≤ 65536 := by decide
    · omega
def loS (a : Ad) (d : Int) : Int := (a.lo + d + 0) % 18446744073709551616
def loC (a : Ad) (d : Int) : Int := (a.lo + d + 0) / 18446744073709551616
def hiS (a : Ad) (d : Int) : Int := (a.hi + 0 + loC a d) % 18446744073709551616
def hiC (a : Ad) (d : Int) : Int := (a.hi + 0 + loC a d) / 18446744073709551616
def sumA (a : Ad) (d : Int) : Ad := if a.six = true then ⟨a.six, hiS a d, loS a d⟩ else ⟨a.six, a.hi, loS a d⟩
def carA (a : Ad) (d : Int) : Int := if a.six = true then hiC a d else loC a d
theorem loS_pos (a : Ad) (d : Int) : 0 ≤ loS a d := by unfold loS; omega
theorem loC_rng {a : Ad} {d : Int} (h0 : 0 ≤ a.lo ∧ a.lo ≤ 18446744073709551615) (hd : 0 ≤ d ∧ d ≤ 18446744073709551615) : 0 ≤ loC a d ∧ loC a d ≤ 1 := by unfold loC; omega
def bT (a : Ad) (d : Int) : Ad × Bool := if cZ a ≠ 0 then (ad0, false) else if carA a d ≠ 0 ∨ cZ (sumA a d) ≠ 0 then (ad0, false) else (sumA a d, true)
def atR (r : Rg) (i : Int) : Ad × Bool := if i < 0 ∨ (cv r : Int) ≤ i then (ad0, false) else bT r.base i
def er (r : Rg) : List Ad := (List.range (cv r)).map fun i : Nat => (bT r.base i).1
def eU (r : Rg) (res : List Rg) : Nat := ((er r).filter fun a => !(res.any fun x => cN x a)).length
theorem ad0_lo : (0 : Int) ≤ ad0.lo := by decide
theorem addA_lo (a : Ad) (d : Int) : 0 ≤ (bT a d).1.lo := by
  have h : 0 ≤ loS a d := loS_pos a d
  unfold bT
  split
  · exact ad0_lo
  · split
    · exact ad0_lo
    · unfold sumA; split <;> exact h
theorem eN (r : Rg) : (er r).length = cv r := by rw [er, List.length_map, List.length_range]

theorem c_rwide (a : Ad) : cI Try.prog 109 #[.agg (dC a).toArray] (.int .i64 (dM a)) := by
 intro w0
 refine aX (ok0 := no) (S := []) (args := [.agg (dC a).toArray]) 5 Try.func109 rfl rfl rfl (by simp) (by simp) ?_
 refine ao ?_
 refine aa ?_
 refine bx rfl rfl rfl (fun b1 => ?_)
 refine ap (ah rfl) rfl rfl ?_
 refine ae ?_
 refine aj ?_
 refine ao ?_
 refine ao ?_
 refine aa ?_
 refine ap (aB dH rfl) rfl rfl ?_
 refine ap (aK 0 ty_4 rfl rfl rfl) rfl rfl ?_
 refine bp (t := 4) rfl (fun h1_1 => ?_) (fun h1_1 => ?_)
 refine ae ?_
 refine aj ?_
 refine ay rfl ?_
 refine ao ?_
 refine aa ?_
 refine ap (ah rfl) rfl rfl ?_
 refine ae ?_
 refine aj ?_
 refine aC ?_
 refine aA ?_
 refine aJ (ts := [2]) rfl rfl rfl (fun w hw => ?_)
 exact ⟨by rw [dM, if_pos h1_1]; rfl, hw.base⟩
 refine ae ?_
 refine aj ?_
 refine av rfl ?_
 refine aG ?_
 refine aj ?_
 refine ao ?_
 refine aa ?_
 refine ap (ah rfl) rfl rfl ?_
 refine ae ?_
 refine aj ?_
 refine aC ?_
 refine aJ (ts := [2]) rfl rfl rfl (fun w hw => ?_)
 exact ⟨by rw [dM, if_neg (by rw [h1_1]; decide)]; rfl, hw.base⟩

theorem c_mask (b n : Int) (hn : n = 32 ∨ n = 64) : cI Try.prog 152 #[.int .i64 b, .int .i64 n] (.int .u64 (fp b n)) := by
 intro w0
 refine aX (ok0 := no) (S := []) (args := [.int .i64 b, .int .i64 n]) 22 Try.func152 rfl rfl rfl (by simp) (by simp) ?_
 refine ao ?_
 refine aa ?_
 refine ap (ah rfl) rfl rfl ?_
 refine ae ?_
 refine aj ?_
 refine ao ?_
 refine aS ?_
 refine ao ?_
 refine aa ?_
 refine ap (ak rfl) rfl rfl ?_
 refine ap (y_leq rfl rfl) rfl rfl ?_
 refine aD (t := 7) rfl (fun h1_1 => ?_) (fun h1_1 => ?_)
 refine ap (ah rfl) rfl rfl ?_
 refine ae ?_
 refine aj ?_
 refine ay rfl ?_
 refine ao ?_
 refine aa ?_
 refine ap (ah rfl) rfl rfl ?_
 refine ae ?_
 refine aj ?_
 refine aC ?_
 refine aU ?_
 refine aA ?_
 refine aJ (ts := [4]) rfl rfl rfl (fun w hw => ?_)
 exact ⟨by rw [fp, if_pos (by omega)]; rfl, hw.base⟩
 refine ap (ah rfl) rfl rfl ?_
 refine ae ?_
 refine aj ?_
 refine av rfl ?_
 refine ao ?_
 refine aa ?_
 refine ap (ak rfl) rfl rfl ?_
 refine ap (ak rfl) rfl rfl ?_
 refine ap (y_geq rfl rfl) rfl rfl ?_
 refine aD (t := 11) rfl (fun h3_2 => ?_) (fun h3_2 => ?_)
 refine ap (ah rfl) rfl rfl ?_
 refine ae ?_
 refine aj ?_
 refine ay rfl ?_
 refine ao ?_
 refine aa ?_
 refine ap (ak rfl) rfl rfl ?_
 refine ap (y_shl rfl rfl (by omega)) rfl rfl ?_
 refine ap (y_sub rfl rfl) rfl rfl ?_
 refine ap (ah rfl) rfl rfl ?_
 refine ae ?_
 refine aj ?_
 refine aC ?_
 refine aU ?_
 refine aA ?_
 refine aJ (ts := [4]) rfl rfl rfl (fun w hw => ?_)
 exact ⟨by rw [fp, if_neg (by omega), if_pos (by omega), ← msk_full hn]; rfl, hw.base⟩
 refine ap (ah rfl) rfl rfl ?_
 refine ae ?_
 refine aj ?_
 refine av rfl ?_
 refine aG ?_
 refine bA ?_
 refine aj ?_
 refine ao ?_
 refine aa ?_
 refine ap (ak rfl) rfl rfl ?_
 refine ap (y_shl rfl rfl (by omega)) rfl rfl ?_
 refine ap (y_sub rfl rfl) rfl rfl ?_
 refine ap (ak rfl) rfl rfl ?_
 refine ap (ak rfl) rfl rfl ?_
 refine ap (y_subi rfl rfl (by omega) (by omega)) rfl rfl ?_
 refine ap (y_shl rfl rfl (by omega)) rfl rfl ?_
 refine ap (ah rfl) rfl rfl ?_
 refine ae ?_
 refine aj ?_
 refine aC ?_
 refine aJ (ts := [4]) rfl rfl rfl (fun w hw => ?_)
 exact ⟨by rw [← msk_mid hn (by omega) (by omega)]; rfl, hw.base⟩

set_option maxRecDepth 100000 in
theorem c_head (a : Ad) (b : Int) (hb : 0 ≤ b ∧ b ≤ 128) : RC Try.prog 120 #[.agg (dC a).toArray, .int .i64 b] [] (α := Unit) (fun _ => .agg (dC (headA a b)).toArray) (fun _ => []) := by
 refine a6 (args := [.agg (dC a).toArray, .int .i64 b]) 29 Try.func120 rfl rfl rfl (fun w0 => ?_)
 refine ao ?_
 refine aa ?_
 refine bx rfl rfl rfl (fun b1 => ?_)
 refine bc aF rfl rfl (fun b2 => ?_)
 refine ae ?_
 refine aj ?_
 refine ao ?_
 refine ao ?_
 refine aa ?_
 refine ap (aB dH rfl) rfl rfl ?_
 refine ap (aK 1 ty_4 rfl rfl rfl) rfl rfl ?_
 refine bp (t := 6) rfl (fun h1_1 => ?_) (fun h1_1 => ?_)
 refine ap (bG rfl) rfl rfl ?_
 refine ae ?_
 refine aj ?_
 refine av rfl ?_
 refine aG ?_
 refine aj ?_
 refine ao ?_
 refine dw 6 rfl mixed ?_
 refine au (i := 0) rfl ab (aB dO rfl) ar ar rfl (ai aq) (by kernel_rfl) rfl ?_
 refine au (i := 1) rfl ab (aK 1 dh rfl rfl rfl) ar ar rfl (ai aq) (by kernel_rfl) rfl ?_
 refine au (i := 2) rfl ab (ak rfl) ar ar rfl (ai aq) (by kernel_rfl) rfl ?_
 refine cD (i := 3) rfl rfl rfl (bb rfl eI) (by kernel_rfl) rfl ?_
 refine aR rfl eI (c_mask _ _ (by first | exact .inl rfl | exact .inr rfl)) rfl ?_
 refine ae ?_
 refine cX ar ?_
 refine au (i := 4) rfl ab (y_and rfl rfl) ar ar rfl (ai aq) (by kernel_rfl) rfl ?_
 refine au (i := 5) rfl ab (aB dO rfl) ar ar rfl (ai aq) (by kernel_rfl) rfl ?_
 refine cD (i := 6) rfl rfl rfl (fun _ _ _ => a8 (by kernel_rfl)) (by kernel_rfl) rfl ?_
 refine aH dh rfl rfl rfl (.s (.z)) rfl rfl rfl rfl ?_
 refine ae ?_
 refine e_tail rfl ?_
 refine cj (by kernel_rfl) ?_
 refine aj ?_
 refine ao ?_
 refine dw 7 rfl mixed ?_
 refine au (i := 0) rfl ab (aB dJ rfl) ar ar rfl (ai aq) (by kernel_rfl) rfl ?_
 refine au (i := 1) rfl ab (aK 1 dh rfl rfl rfl) ar ar rfl (ai aq) (by kernel_rfl) rfl ?_
 refine au (i := 2) rfl ab (ak rfl) ar ar rfl (ai aq) (by kernel_rfl) rfl ?_
 refine au (i := 3) rfl ab (y_subi rfl rfl (by omega) (by omega)) ar ar rfl (ai aq) (by kernel_rfl) rfl ?_
 refine cD (i := 4) rfl rfl rfl (bb rfl eI) (by kernel_rfl) rfl ?_
 refine aR rfl eI (c_mask _ _ (by first | exact .inl rfl | exact .inr rfl)) rfl ?_
 refine ae ?_
 refine cX ar ?_
 refine au (i := 5) rfl ab (y_and rfl rfl) ar ar rfl (ai aq) (by kernel_rfl) rfl ?_
 refine au (i := 6) rfl ab (aB dJ rfl) ar ar rfl (ai aq) (by kernel_rfl) rfl ?_
 refine cD (i := 7) rfl rfl rfl (fun _ _ _ => a8 (by kernel_rfl)) (by kernel_rfl) rfl ?_
 refine aH dh rfl rfl rfl (.s (.z)) rfl rfl rfl rfl ?_
 refine ae ?_
 refine e_tail rfl ?_
 refine cj (by kernel_rfl) ?_
 refine aj ?_
 refine ao ?_
 refine aa ?_
 refine ap (aM 1 aF rfl rfl rfl rfl) rfl rfl ?_
 refine aH aF rfl rfl rfl .z rfl rfl rfl rfl ?_
 refine ae ?_
 refine aj ?_
 refine aC ?_
 refine de (rs := [.cell 4 62]) rfl (bh 0 aF rfl rfl rfl rfl bz) rfl (fun w hw => ?_)
 exact ⟨(), by rw [headA, if_pos h1_1]; rfl, hw.base, (hw.weak (List.nil_sublist _) (fun s hs => hs)).toNews⟩
 refine ap (bG rfl) rfl rfl ?_
 refine ae ?_
 refine aj ?_
 refine ay rfl ?_
 refine ao ?_
 refine dw 6 rfl mixed ?_
 refine au (i := 0) rfl ab (aB dJ rfl) ar ar rfl (ai (ai aq)) (by kernel_rfl) rfl ?_
 refine au (i := 1) rfl ab (aK 1 dh rfl rfl rfl) ar ar rfl (ai (ai aq)) (by kernel_rfl) rfl ?_
 refine au (i := 2) rfl ab (ak rfl) ar ar rfl (ai (ai aq)) (by kernel_rfl) rfl ?_
 refine cD (i := 3) rfl rfl rfl (bb rfl eI) (by kernel_rfl) rfl ?_
 refine aR rfl eI (c_mask _ _ (by first | exact .inl rfl | exact .inr rfl)) rfl ?_
 refine ae ?_
 refine cX ar ?_
 refine au (i := 4) rfl ab (y_and rfl rfl) ar ar rfl (ai (ai aq)) (by kernel_rfl) rfl ?_
 refine au (i := 5) rfl ab (aB dJ rfl) ar ar rfl (ai (ai aq)) (by kernel_rfl) rfl ?_
 refine cD (i := 6) rfl rfl rfl (fun _ _ _ => a8 (by kernel_rfl)) (by kernel_rfl) rfl ?_
 refine aH dh rfl rfl rfl (.s (.z)) rfl rfl rfl rfl ?_
 refine ae ?_
 refine e_tail rfl ?_
 refine cj (by kernel_rfl) ?_
 refine aj ?_
 refine ao ?_
 refine aa ?_
 refine ap (aM 1 aF rfl rfl rfl rfl) rfl rfl ?_
 refine aH aF rfl rfl rfl .z rfl rfl rfl rfl ?_
 refine ae ?_
 refine aj ?_
 refine aC ?_
 refine aA ?_
 refine de (rs := [.cell 4 62]) rfl (bh 0 aF rfl rfl rfl rfl bz) rfl (fun w hw => ?_)
 exact ⟨(), by rw [headA, if_neg (by rw [h1_1]; decide)]; rfl, hw.base, (hw.weak (List.nil_sublist _) (fun s hs => hs)).toNews⟩

set_option maxRecDepth 100000 in
theorem c_rCheck (r : Rg) (h0 : 0 ≤ r.base.lo) : cI Try.prog 77 #[.agg (eb r).toArray] (.int .i64 (dQ r)) := by
 intro w0
 refine aX (ok0 := no) (S := []) (args := [.agg (eb r).toArray]) 30 Try.func77 rfl rfl rfl (by simp) (by simp) ?_
 refine ao ?_
 refine aa ?_
 refine bx rfl rfl rfl (fun b1 => ?_)
 refine ap (ah rfl) rfl rfl ?_
 refine ae ?_
 refine aj ?_
 refine ao ?_
 refine ao ?_
 refine dw 27 rfl mixed ?_
 refine au (i := 0) rfl ab (aB di rfl) ar ar rfl (ai (ai aq)) (by kernel_rfl) rfl ?_
 refine au (i := 1) rfl ab (aM 0 aF rfl rfl rfl rfl) ar ar rfl (ai (ai aq)) (by kernel_rfl) rfl ?_
 refine cD (i := 2) rfl rfl rfl (bb rfl ee) (by kernel_rfl) rfl ?_
 refine aR rfl ee (c5 r.base h0) rfl ?_
 refine ae ?_
 refine cX ar ?_
 refine au (i := 3) rfl ab (cQ rfl rfl) ar ar rfl (ai (ai aq)) (by kernel_rfl) rfl ?_
 refine cS (t := 6) rfl (fun h1_3 => ?_) (fun h1_3 => ?_)
 refine au (i := 4) rfl ab (ak rfl) ar ar rfl (ai (ai aq)) (by kernel_rfl) rfl ?_
 refine aP (i := 5) rfl (ax rfl rfl rfl) ar rfl (ai (ai aq)) (by kernel_rfl) rfl ?_
 refine aP (i := 6) rfl (ax rfl rfl rfl) ar rfl (ai (ai aq)) (by kernel_rfl) rfl ?_
 refine aP (i := 7) rfl (ax rfl rfl rfl) ar rfl (ai (ai aq)) (by kernel_rfl) rfl ?_
 refine au (i := 8) rfl ab (aQ rfl rfl) ar ar rfl (ai (ai aq)) (by kernel_rfl) rfl ?_
 refine au (i := 9) rfl ab (ak rfl) ar ar rfl (ai (ai aq)) (by kernel_rfl) rfl ?_
 refine aP (i := 10) rfl (ax rfl rfl rfl) ar rfl (ai (ai aq)) (by kernel_rfl) rfl ?_
 refine aP (i := 11) rfl (ax rfl rfl rfl) ar rfl (ai (ai aq)) (by kernel_rfl) rfl ?_
 refine aP (i := 12) rfl (ax rfl rfl rfl) ar rfl (ai (ai aq)) (by kernel_rfl) rfl ?_
 refine aP (i := 13) rfl (ax rfl rfl rfl) ar rfl (ai (ai aq)) (by kernel_rfl) rfl ?_
 refine aP (i := 14) rfl (ax rfl rfl rfl) ar rfl (ai (ai aq)) (by kernel_rfl) rfl ?_
 refine aP (i := 15) rfl (ax rfl rfl rfl) ar rfl (ai (ai aq)) (by kernel_rfl) rfl ?_
 refine au (i := 16) rfl ab (aQ rfl rfl) ar ar rfl (ai (ai aq)) (by kernel_rfl) rfl ?_
 refine au (i := 17) rfl ab (ak rfl) ar ar rfl (ai (ai aq)) (by kernel_rfl) rfl ?_
 refine aP (i := 18) rfl (ax rfl rfl rfl) ar rfl (ai (ai aq)) (by kernel_rfl) rfl ?_
 refine aP (i := 19) rfl (ax rfl rfl rfl) ar rfl (ai (ai aq)) (by kernel_rfl) rfl ?_
 refine aP (i := 20) rfl (ax rfl rfl rfl) ar rfl (ai (ai aq)) (by kernel_rfl) rfl ?_
 refine aP (i := 21) rfl (ax rfl rfl rfl) ar rfl (ai (ai aq)) (by kernel_rfl) rfl ?_
 refine aP (i := 23) rfl (ax rfl rfl rfl) ar rfl (ai (ai aq)) (by kernel_rfl) rfl ?_
 refine aP (i := 24) rfl (ax rfl rfl rfl) ar rfl (ai (ai aq)) (by kernel_rfl) rfl ?_
 refine aP (i := 22) rfl (ax rfl rfl rfl) ar rfl (ai (ai aq)) (by kernel_rfl) rfl ?_
 refine aP (i := 25) rfl (ax rfl rfl rfl) ar rfl (ai (ai aq)) (by kernel_rfl) rfl ?_
 refine au (i := 26) rfl ab (aQ rfl rfl) ar ar rfl (ai (ai aq)) (by kernel_rfl) rfl ?_
 refine cj (by kernel_rfl) ?_
 refine aj ?_
 refine ay rfl ?_
 refine ao ?_
 refine aa ?_
 refine ap (ah rfl) rfl rfl ?_
 refine ae ?_
 refine aj ?_
 refine aC ?_
 refine aA ?_
 refine aJ (ts := [2]) rfl rfl rfl (fun w hw => ?_)
 focus first
   | (exact ⟨by rw [dQ, if_pos (by first | exact .inl h1_3 | exact .inr (.inl h1_7) | exact .inr (.inr (.inl h1_15)) | exact .inr (.inr (.inr h1_25)))]; rfl, hw.base⟩)
   | (exact ⟨by rw [dQ, if_neg (fun h => h.elim h1_3 (fun h => h.elim h1_7 (fun h => h.elim h1_15 h1_25)))]; rfl, hw.base⟩)
   | (trace_state; fail)
 refine au (i := 4) rfl ab (ak rfl) ar ar rfl (ai (ai aq)) (by kernel_rfl) rfl ?_
 refine au (i := 5) rfl (aW rfl rfl) (aB fF rfl) ar ar rfl (ai (ai aq)) (by kernel_rfl) rfl ?_
 refine au (i := 6) rfl (aW rfl rfl) (aK 0 ew rfl rfl rfl) ar ar rfl (ai (ai aq)) (by kernel_rfl) rfl ?_
 refine au (i := 7) rfl (aW rfl rfl) (cE rfl rfl) ar ar rfl (ai (ai aq)) (by kernel_rfl) rfl ?_
 refine cS (t := 10) rfl (fun h1_7 => ?_) (fun h1_7 => ?_)
 refine au (i := 8) rfl ab (a2 rfl rfl) ar ar rfl (ai (ai aq)) (by kernel_rfl) rfl ?_
 refine au (i := 9) rfl ab (ak rfl) ar ar rfl (ai (ai aq)) (by kernel_rfl) rfl ?_
 refine aP (i := 10) rfl (ax rfl rfl rfl) ar rfl (ai (ai aq)) (by kernel_rfl) rfl ?_
 refine aP (i := 11) rfl (ax rfl rfl rfl) ar rfl (ai (ai aq)) (by kernel_rfl) rfl ?_
 refine aP (i := 12) rfl (ax rfl rfl rfl) ar rfl (ai (ai aq)) (by kernel_rfl) rfl ?_
 refine aP (i := 13) rfl (ax rfl rfl rfl) ar rfl (ai (ai aq)) (by kernel_rfl) rfl ?_
 refine aP (i := 14) rfl (ax rfl rfl rfl) ar rfl (ai (ai aq)) (by kernel_rfl) rfl ?_
 refine aP (i := 15) rfl (ax rfl rfl rfl) ar rfl (ai (ai aq)) (by kernel_rfl) rfl ?_
 refine au (i := 16) rfl ab (aQ rfl rfl) ar ar rfl (ai (ai aq)) (by kernel_rfl) rfl ?_
 refine au (i := 17) rfl ab (ak rfl) ar ar rfl (ai (ai aq)) (by kernel_rfl) rfl ?_
 refine aP (i := 18) rfl (ax rfl rfl rfl) ar rfl (ai (ai aq)) (by kernel_rfl) rfl ?_
 refine aP (i := 19) rfl (ax rfl rfl rfl) ar rfl (ai (ai aq)) (by kernel_rfl) rfl ?_
 refine aP (i := 20) rfl (ax rfl rfl rfl) ar rfl (ai (ai aq)) (by kernel_rfl) rfl ?_
 refine aP (i := 21) rfl (ax rfl rfl rfl) ar rfl (ai (ai aq)) (by kernel_rfl) rfl ?_
 refine aP (i := 23) rfl (ax rfl rfl rfl) ar rfl (ai (ai aq)) (by kernel_rfl) rfl ?_
 refine aP (i := 24) rfl (ax rfl rfl rfl) ar rfl (ai (ai aq)) (by kernel_rfl) rfl ?_
 refine aP (i := 22) rfl (ax rfl rfl rfl) ar rfl (ai (ai aq)) (by kernel_rfl) rfl ?_
 refine aP (i := 25) rfl (ax rfl rfl rfl) ar rfl (ai (ai aq)) (by kernel_rfl) rfl ?_
 refine au (i := 26) rfl ab (aQ rfl rfl) ar ar rfl (ai (ai aq)) (by kernel_rfl) rfl ?_
 refine cj (by kernel_rfl) ?_
 refine aj ?_
 refine ay rfl ?_
 refine ao ?_
 refine aa ?_
 refine ap (ah rfl) rfl rfl ?_
 refine ae ?_
 refine aj ?_
 refine aC ?_
 refine aA ?_
 refine aJ (ts := [2]) rfl rfl rfl (fun w hw => ?_)
 focus first
   | (exact ⟨by rw [dQ, if_pos (by first | exact .inl h1_3 | exact .inr (.inl h1_7) | exact .inr (.inr (.inl h1_15)) | exact .inr (.inr (.inr h1_25)))]; rfl, hw.base⟩)
   | (exact ⟨by rw [dQ, if_neg (fun h => h.elim h1_3 (fun h => h.elim h1_7 (fun h => h.elim h1_15 h1_25)))]; rfl, hw.base⟩)
   | (trace_state; fail)
 refine au (i := 8) rfl ab (a2 rfl rfl) ar ar rfl (ai (ai aq)) (by kernel_rfl) rfl ?_
 refine au (i := 9) rfl ab (ak rfl) ar ar rfl (ai (ai aq)) (by kernel_rfl) rfl ?_
 refine au (i := 10) rfl (aW rfl rfl) (aB fF rfl) ar ar rfl (ai (ai aq)) (by kernel_rfl) rfl ?_
 refine au (i := 11) rfl (aW rfl rfl) (aK 0 ew rfl rfl rfl) ar ar rfl (ai (ai aq)) (by kernel_rfl) rfl ?_
 refine au (i := 12) rfl (aW rfl rfl) (aB di rfl) ar ar rfl (ai (ai aq)) (by kernel_rfl) rfl ?_
 refine au (i := 13) rfl (aW rfl rfl) (aM 0 aF rfl rfl rfl rfl) ar ar rfl (ai (ai aq)) (by kernel_rfl) rfl ?_
 refine cD (i := 14) rfl rfl rfl (bb rfl ent_109) (by kernel_rfl) rfl ?_
 refine az rfl rfl ?_
 refine aR rfl ent_109 (c_rwide r.base) rfl ?_
 refine ae ?_
 refine cX ar ?_
 refine au (i := 15) rfl (aW rfl rfl) (y_gtr rfl rfl) ar ar rfl (ai (ai aq)) (by kernel_rfl) rfl ?_
 refine cS (t := 18) rfl (fun h1_15 => ?_) (fun h1_15 => ?_)
 refine au (i := 16) rfl ab (a2 rfl rfl) ar ar rfl (ai (ai aq)) (by kernel_rfl) rfl ?_
 refine au (i := 17) rfl ab (ak rfl) ar ar rfl (ai (ai aq)) (by kernel_rfl) rfl ?_
 refine aP (i := 18) rfl (ax rfl rfl rfl) ar rfl (ai (ai aq)) (by kernel_rfl) rfl ?_
 refine aP (i := 19) rfl (ax rfl rfl rfl) ar rfl (ai (ai aq)) (by kernel_rfl) rfl ?_
 refine aP (i := 20) rfl (ax rfl rfl rfl) ar rfl (ai (ai aq)) (by kernel_rfl) rfl ?_
 refine aP (i := 21) rfl (ax rfl rfl rfl) ar rfl (ai (ai aq)) (by kernel_rfl) rfl ?_
 refine aP (i := 23) rfl (ax rfl rfl rfl) ar rfl (ai (ai aq)) (by kernel_rfl) rfl ?_
 refine aP (i := 24) rfl (ax rfl rfl rfl) ar rfl (ai (ai aq)) (by kernel_rfl) rfl ?_
 refine aP (i := 22) rfl (ax rfl rfl rfl) ar rfl (ai (ai aq)) (by kernel_rfl) rfl ?_
 refine aP (i := 25) rfl (ax rfl rfl rfl) ar rfl (ai (ai aq)) (by kernel_rfl) rfl ?_
 refine au (i := 26) rfl ab (aQ rfl rfl) ar ar rfl (ai (ai aq)) (by kernel_rfl) rfl ?_
 refine cj (by kernel_rfl) ?_
 refine aj ?_
 refine ay rfl ?_
 refine ao ?_
 refine aa ?_
 refine ap (ah rfl) rfl rfl ?_
 refine ae ?_
 refine aj ?_
 refine aC ?_
 refine aA ?_
 refine aJ (ts := [2]) rfl rfl rfl (fun w hw => ?_)
 focus first
   | (exact ⟨by rw [dQ, if_pos (by first | exact .inl h1_3 | exact .inr (.inl h1_7) | exact .inr (.inr (.inl h1_15)) | exact .inr (.inr (.inr h1_25)))]; rfl, hw.base⟩)
   | (exact ⟨by rw [dQ, if_neg (fun h => h.elim h1_3 (fun h => h.elim h1_7 (fun h => h.elim h1_15 h1_25)))]; rfl, hw.base⟩)
   | (trace_state; fail)
 refine au (i := 16) rfl ab (a2 rfl rfl) ar ar rfl (ai (ai aq)) (by kernel_rfl) rfl ?_
 refine au (i := 17) rfl ab (ak rfl) ar ar rfl (ai (ai aq)) (by kernel_rfl) rfl ?_
 refine au (i := 18) rfl (aW rfl rfl) (aB di rfl) ar ar rfl (ai (ai aq)) (by kernel_rfl) rfl ?_
 refine au (i := 19) rfl (aW rfl rfl) (aM 0 aF rfl rfl rfl rfl) ar ar rfl (ai (ai aq)) (by kernel_rfl) rfl ?_
 refine au (i := 20) rfl (aW rfl rfl) (aB fF rfl) ar ar rfl (ai (ai aq)) (by kernel_rfl) rfl ?_
 refine au (i := 21) rfl (aW rfl rfl) (aK 0 ew rfl rfl rfl) ar ar rfl (ai (ai aq)) (by kernel_rfl) rfl ?_
 refine au (i := 23) rfl (aW rfl rfl) (aB di rfl) ar ar rfl (ai (ai aq)) (by kernel_rfl) rfl ?_
 refine au (i := 24) rfl (aW rfl rfl) (aM 0 aF rfl rfl rfl rfl) ar ar rfl (ai (ai aq)) (by kernel_rfl) rfl ?_
 refine cD (i := 22) rfl rfl rfl (bb rfl ent_120) (by kernel_rfl) rfl ?_
 refine az rfl rfl ?_
 refine aR rfl ent_120 (rc_pure (c_head r.base r.bits (by have := wideA_le r.base; omega))) rfl ?_
 refine ae ?_
 refine cX ar ?_
 refine au (i := 25) rfl (aW rfl rfl) (y_nestd (by kernel_rfl) rfl rfl (eqd_ad _ _) rfl) ar ar rfl (ai (ai aq)) (by kernel_rfl) rfl ?_
 refine cS (t := 28) rfl (fun h1_25 => ?_) (fun h1_25 => ?_)
 refine au (i := 26) rfl ab (a2 rfl rfl) ar ar rfl (ai (ai aq)) (by kernel_rfl) rfl ?_
 refine cj (by kernel_rfl) ?_
 refine aj ?_
 refine ay rfl ?_
 refine ao ?_
 refine aa ?_
 refine ap (ah rfl) rfl rfl ?_
 refine ae ?_
 refine aj ?_
 refine aC ?_
 refine aA ?_
 refine aJ (ts := [2]) rfl rfl rfl (fun w hw => ?_)
 focus first
   | (exact ⟨by rw [dQ, if_pos (by first | exact .inl h1_3 | exact .inr (.inl h1_7) | exact .inr (.inr (.inl h1_15)) | exact .inr (.inr (.inr h1_25)))]; rfl, hw.base⟩)
   | (exact ⟨by rw [dQ, if_neg (fun h => h.elim h1_3 (fun h => h.elim h1_7 (fun h => h.elim h1_15 h1_25)))]; rfl, hw.base⟩)
   | (trace_state; fail)
 refine au (i := 26) rfl ab (a2 rfl rfl) ar ar rfl (ai (ai aq)) (by kernel_rfl) rfl ?_
 refine cj (by kernel_rfl) ?_
 refine aj ?_
 refine av rfl ?_
 refine aG ?_
 refine aj ?_
 refine ao ?_
 refine aa ?_
 refine ap (ah rfl) rfl rfl ?_
 refine ae ?_
 refine aj ?_
 refine aC ?_
 refine aJ (ts := [2]) rfl rfl rfl (fun w hw => ?_)
 focus first
   | (exact ⟨by rw [dQ, if_pos (by first | exact .inl h1_3 | exact .inr (.inl h1_7) | exact .inr (.inr (.inl h1_15)) | exact .inr (.inr (.inr h1_25)))]; rfl, hw.base⟩)
   | (exact ⟨by rw [dQ, if_neg (fun h => h.elim h1_3 (fun h => h.elim h1_7 (fun h => h.elim h1_15 h1_25)))]; rfl, hw.base⟩)
   | (trace_state; fail)

set_option maxRecDepth 100000 in
theorem c_rHas (r : Rg) (a : Ad) (h0 : 0 ≤ r.base.lo) (h1 : 0 ≤ a.lo) : cI Try.prog 102 #[.agg (eb r).toArray, .agg (dC a).toArray] (.bool (cN r a)) := by
 intro w0
 refine aX (ok0 := no) (S := []) (args := [.agg (eb r).toArray, .agg (dC a).toArray]) 30 Try.func102 rfl rfl rfl (by simp) (by simp) ?_
 refine ao ?_
 refine aa ?_
 refine bx rfl rfl rfl (fun b1 => ?_)
 refine bx rfl rfl rfl (fun b2 => ?_)
 refine ap (ah rfl) rfl rfl ?_
 refine ae ?_
 refine aj ?_
 refine ao ?_
 refine dw 26 rfl mixed ?_
 refine au (i := 0) rfl ab (aM 1 cc rfl rfl rfl rfl) ar ar rfl (ai aq) (by kernel_rfl) rfl ?_
 refine cD (i := 1) rfl rfl rfl (bb rfl ent_77) (by kernel_rfl) rfl ?_
 refine aR rfl ent_77 (c_rCheck r h0) rfl ?_
 refine ae ?_
 refine cX ar ?_
 refine au (i := 2) rfl ab (cH rfl rfl) ar ar rfl (ai aq) (by kernel_rfl) rfl ?_
 refine cS (t := 7) rfl (fun h1_2 => ?_) (fun h1_2 => ?_)
 refine au (i := 3) rfl ab (ak rfl) ar ar rfl (ai aq) (by kernel_rfl) rfl ?_
 refine au (i := 4) rfl (aW rfl rfl) (aM 0 aF rfl rfl rfl rfl) ar ar rfl (ai aq) (by kernel_rfl) rfl ?_
 refine cD (i := 5) rfl rfl rfl (bb rfl ee) (by kernel_rfl) rfl ?_
 refine az rfl rfl ?_
 refine aR rfl ee (c5 a h1) rfl ?_
 refine ae ?_
 refine cX ar ?_
 refine au (i := 6) rfl (aW rfl rfl) (cH rfl rfl) ar ar rfl (ai aq) (by kernel_rfl) rfl ?_
 refine cS (t := 11) rfl (fun h1_6 => ?_) (fun h1_6 => ?_)
 refine au (i := 7) rfl ab (aQ rfl rfl) ar ar rfl (ai aq) (by kernel_rfl) rfl ?_
 refine au (i := 8) rfl ab (ak rfl) ar ar rfl (ai aq) (by kernel_rfl) rfl ?_
 refine au (i := 9) rfl (aW rfl rfl) (aB dH rfl) ar ar rfl (ai aq) (by kernel_rfl) rfl ?_
 refine au (i := 10) rfl (aW rfl rfl) (aK 0 ty_4 rfl rfl rfl) ar ar rfl (ai aq) (by kernel_rfl) rfl ?_
 refine au (i := 11) rfl (aW rfl rfl) (aB di rfl) ar ar rfl (ai aq) (by kernel_rfl) rfl ?_
 refine au (i := 12) rfl (aW rfl rfl) (aB dH rfl) ar ar rfl (ai aq) (by kernel_rfl) rfl ?_
 refine au (i := 13) rfl (aW rfl rfl) (aK 1 ty_4 rfl rfl rfl) ar ar rfl (ai aq) (by kernel_rfl) rfl ?_
 refine au (i := 14) rfl (aW rfl rfl) (y_eqlb Try.underlying4 rfl rfl) ar ar rfl (ai aq) (by kernel_rfl) rfl ?_
 refine cS (t := 19) rfl (fun h1_14 => ?_) (fun h1_14 => ?_)
 refine au (i := 15) rfl ab (aQ rfl rfl) ar ar rfl (ai aq) (by kernel_rfl) rfl ?_
 refine au (i := 16) rfl ab (ak rfl) ar ar rfl (ai aq) (by kernel_rfl) rfl ?_
 refine au (i := 17) rfl (aW rfl rfl) (aM 0 aF rfl rfl rfl rfl) ar ar rfl (ai aq) (by kernel_rfl) rfl ?_
 refine au (i := 18) rfl (aW rfl rfl) (aB fF rfl) ar ar rfl (ai aq) (by kernel_rfl) rfl ?_
 refine au (i := 19) rfl (aW rfl rfl) (aK 1 ew rfl rfl rfl) ar ar rfl (ai aq) (by kernel_rfl) rfl ?_
 refine au (i := 21) rfl (aW rfl rfl) (aB di rfl) ar ar rfl (ai aq) (by kernel_rfl) rfl ?_
 refine au (i := 22) rfl (aW rfl rfl) (aM 1 aF rfl rfl rfl rfl) ar ar rfl (ai aq) (by kernel_rfl) rfl ?_
 refine cD (i := 20) rfl rfl rfl (bb rfl ent_120) (by kernel_rfl) rfl ?_
 refine az rfl rfl ?_
 refine aR rfl ent_120 (rc_pure (c_head a r.bits (by have h9 := rg_zero h1_2; have := wideA_le r.base; omega))) rfl ?_
 refine ae ?_
 refine cX ar ?_
 refine au (i := 23) rfl (aW rfl rfl) (y_eqst (by kernel_rfl) rfl rfl (eqd_ad _ _) rfl) ar ar rfl (ai aq) (by kernel_rfl) rfl ?_
 refine au (i := 24) rfl ab (aQ rfl rfl) ar ar rfl (ai aq) (by kernel_rfl) rfl ?_
 refine au (i := 25) rfl ab (ah rfl) ar ar rfl (ai aq) (by kernel_rfl) rfl ?_
 refine cj (by kernel_rfl) ?_
 refine aj ?_
 refine aC ?_
 refine aJ (ts := [4]) rfl rfl rfl (fun w hw => ?_)
 refine ⟨?_, hw.base⟩
 show Ending.returned (.bool _) = _
 congr 2
 focus first
   | (rw [cN, decide_eq_false h1_2]; rfl)
   | (rw [cN, decide_eq_true h1_2, decide_eq_false h1_6]; rfl)
   | (rw [cN, decide_eq_true h1_2, decide_eq_true h1_6, decide_eq_false h1_14]; rfl)
   | (rw [cN, decide_eq_true h1_2, decide_eq_true h1_6, decide_eq_true h1_14]; rfl)
   | (trace_state; fail)
 refine au (i := 15) rfl ab (aQ rfl rfl) ar ar rfl (ai aq) (by kernel_rfl) rfl ?_
 refine au (i := 16) rfl ab (ak rfl) ar ar rfl (ai aq) (by kernel_rfl) rfl ?_
 refine aP (i := 17) rfl (ax rfl rfl rfl) ar rfl (ai aq) (by kernel_rfl) rfl ?_
 refine aP (i := 18) rfl (ax rfl rfl rfl) ar rfl (ai aq) (by kernel_rfl) rfl ?_
 refine aP (i := 19) rfl (ax rfl rfl rfl) ar rfl (ai aq) (by kernel_rfl) rfl ?_
 refine aP (i := 21) rfl (ax rfl rfl rfl) ar rfl (ai aq) (by kernel_rfl) rfl ?_
 refine aP (i := 22) rfl (ax rfl rfl rfl) ar rfl (ai aq) (by kernel_rfl) rfl ?_
 refine aP (i := 20) rfl (ax rfl rfl rfl) ar rfl (ai aq) (by kernel_rfl) rfl ?_
 refine aP (i := 23) rfl (ax rfl rfl rfl) ar rfl (ai aq) (by kernel_rfl) rfl ?_
 refine au (i := 24) rfl ab (a2 rfl rfl) ar ar rfl (ai aq) (by kernel_rfl) rfl ?_
 refine au (i := 25) rfl ab (ah rfl) ar ar rfl (ai aq) (by kernel_rfl) rfl ?_
 refine cj (by kernel_rfl) ?_
 refine aj ?_
 refine aC ?_
 refine aJ (ts := [4]) rfl rfl rfl (fun w hw => ?_)
 refine ⟨?_, hw.base⟩
 show Ending.returned (.bool _) = _
 congr 2
 focus first
   | (rw [cN, decide_eq_false h1_2]; rfl)
   | (rw [cN, decide_eq_true h1_2, decide_eq_false h1_6]; rfl)
   | (rw [cN, decide_eq_true h1_2, decide_eq_true h1_6, decide_eq_false h1_14]; rfl)
   | (rw [cN, decide_eq_true h1_2, decide_eq_true h1_6, decide_eq_true h1_14]; rfl)
   | (trace_state; fail)
 refine au (i := 7) rfl ab (aQ rfl rfl) ar ar rfl (ai aq) (by kernel_rfl) rfl ?_
 refine au (i := 8) rfl ab (ak rfl) ar ar rfl (ai aq) (by kernel_rfl) rfl ?_
 refine aP (i := 9) rfl (ax rfl rfl rfl) ar rfl (ai aq) (by kernel_rfl) rfl ?_
 refine aP (i := 10) rfl (ax rfl rfl rfl) ar rfl (ai aq) (by kernel_rfl) rfl ?_
 refine aP (i := 11) rfl (ax rfl rfl rfl) ar rfl (ai aq) (by kernel_rfl) rfl ?_
 refine aP (i := 12) rfl (ax rfl rfl rfl) ar rfl (ai aq) (by kernel_rfl) rfl ?_
 refine aP (i := 13) rfl (ax rfl rfl rfl) ar rfl (ai aq) (by kernel_rfl) rfl ?_
 refine aP (i := 14) rfl (ax rfl rfl rfl) ar rfl (ai aq) (by kernel_rfl) rfl ?_
 refine au (i := 15) rfl ab (a2 rfl rfl) ar ar rfl (ai aq) (by kernel_rfl) rfl ?_
 refine au (i := 16) rfl ab (ak rfl) ar ar rfl (ai aq) (by kernel_rfl) rfl ?_
 refine aP (i := 17) rfl (ax rfl rfl rfl) ar rfl (ai aq) (by kernel_rfl) rfl ?_
 refine aP (i := 18) rfl (ax rfl rfl rfl) ar rfl (ai aq) (by kernel_rfl) rfl ?_
 refine aP (i := 19) rfl (ax rfl rfl rfl) ar rfl (ai aq) (by kernel_rfl) rfl ?_
 refine aP (i := 21) rfl (ax rfl rfl rfl) ar rfl (ai aq) (by kernel_rfl) rfl ?_
 refine aP (i := 22) rfl (ax rfl rfl rfl) ar rfl (ai aq) (by kernel_rfl) rfl ?_
 refine aP (i := 20) rfl (ax rfl rfl rfl) ar rfl (ai aq) (by kernel_rfl) rfl ?_
 refine aP (i := 23) rfl (ax rfl rfl rfl) ar rfl (ai aq) (by kernel_rfl) rfl ?_
 refine au (i := 24) rfl ab (a2 rfl rfl) ar ar rfl (ai aq) (by kernel_rfl) rfl ?_
 refine au (i := 25) rfl ab (ah rfl) ar ar rfl (ai aq) (by kernel_rfl) rfl ?_
 refine cj (by kernel_rfl) ?_
 refine aj ?_
 refine aC ?_
 refine aJ (ts := [4]) rfl rfl rfl (fun w hw => ?_)
 refine ⟨?_, hw.base⟩
 show Ending.returned (.bool _) = _
 congr 2
 focus first
   | (rw [cN, decide_eq_false h1_2]; rfl)
   | (rw [cN, decide_eq_true h1_2, decide_eq_false h1_6]; rfl)
   | (rw [cN, decide_eq_true h1_2, decide_eq_true h1_6, decide_eq_false h1_14]; rfl)
   | (rw [cN, decide_eq_true h1_2, decide_eq_true h1_6, decide_eq_true h1_14]; rfl)
   | (trace_state; fail)
 refine au (i := 3) rfl ab (ak rfl) ar ar rfl (ai aq) (by kernel_rfl) rfl ?_
 refine aP (i := 4) rfl (ax rfl rfl rfl) ar rfl (ai aq) (by kernel_rfl) rfl ?_
 refine aP (i := 5) rfl (ax rfl rfl rfl) ar rfl (ai aq) (by kernel_rfl) rfl ?_
 refine aP (i := 6) rfl (ax rfl rfl rfl) ar rfl (ai aq) (by kernel_rfl) rfl ?_
 refine au (i := 7) rfl ab (a2 rfl rfl) ar ar rfl (ai aq) (by kernel_rfl) rfl ?_
 refine au (i := 8) rfl ab (ak rfl) ar ar rfl (ai aq) (by kernel_rfl) rfl ?_
 refine aP (i := 9) rfl (ax rfl rfl rfl) ar rfl (ai aq) (by kernel_rfl) rfl ?_
 refine aP (i := 10) rfl (ax rfl rfl rfl) ar rfl (ai aq) (by kernel_rfl) rfl ?_
 refine aP (i := 11) rfl (ax rfl rfl rfl) ar rfl (ai aq) (by kernel_rfl) rfl ?_
 refine aP (i := 12) rfl (ax rfl rfl rfl) ar rfl (ai aq) (by kernel_rfl) rfl ?_
 refine aP (i := 13) rfl (ax rfl rfl rfl) ar rfl (ai aq) (by kernel_rfl) rfl ?_
 refine aP (i := 14) rfl (ax rfl rfl rfl) ar rfl (ai aq) (by kernel_rfl) rfl ?_
 refine au (i := 15) rfl ab (a2 rfl rfl) ar ar rfl (ai aq) (by kernel_rfl) rfl ?_
 refine au (i := 16) rfl ab (ak rfl) ar ar rfl (ai aq) (by kernel_rfl) rfl ?_
 refine aP (i := 17) rfl (ax rfl rfl rfl) ar rfl (ai aq) (by kernel_rfl) rfl ?_
 refine aP (i := 18) rfl (ax rfl rfl rfl) ar rfl (ai aq) (by kernel_rfl) rfl ?_
 refine aP (i := 19) rfl (ax rfl rfl rfl) ar rfl (ai aq) (by kernel_rfl) rfl ?_
 refine aP (i := 21) rfl (ax rfl rfl rfl) ar rfl (ai aq) (by kernel_rfl) rfl ?_
 refine aP (i := 22) rfl (ax rfl rfl rfl) ar rfl (ai aq) (by kernel_rfl) rfl ?_
 refine aP (i := 20) rfl (ax rfl rfl rfl) ar rfl (ai aq) (by kernel_rfl) rfl ?_
 refine aP (i := 23) rfl (ax rfl rfl rfl) ar rfl (ai aq) (by kernel_rfl) rfl ?_
 refine au (i := 24) rfl ab (a2 rfl rfl) ar ar rfl (ai aq) (by kernel_rfl) rfl ?_
 refine au (i := 25) rfl ab (ah rfl) ar ar rfl (ai aq) (by kernel_rfl) rfl ?_
 refine cj (by kernel_rfl) ?_
 refine aj ?_
 refine aC ?_
 refine aJ (ts := [4]) rfl rfl rfl (fun w hw => ?_)
 refine ⟨?_, hw.base⟩
 show Ending.returned (.bool _) = _
 congr 2
 focus first
   | (rw [cN, decide_eq_false h1_2]; rfl)
   | (rw [cN, decide_eq_true h1_2, decide_eq_false h1_6]; rfl)
   | (rw [cN, decide_eq_true h1_2, decide_eq_true h1_6, decide_eq_false h1_14]; rfl)
   | (rw [cN, decide_eq_true h1_2, decide_eq_true h1_6, decide_eq_true h1_14]; rfl)
   | (trace_state; fail)

set_option maxRecDepth 100000 in
theorem c_rSize (r : Rg) (h0 : 0 ≤ r.base.lo) : cI Try.prog 68 #[.agg (eb r).toArray] (.int .i64 (cv r)) := by
 intro w0
 refine aX (ok0 := no) (S := []) (args := [.agg (eb r).toArray]) 19 Try.func68 rfl rfl rfl (by simp) (by simp) ?_
 refine ao ?_
 refine aa ?_
 refine bx rfl rfl rfl (fun b1 => ?_)
 refine ap (ah rfl) rfl rfl ?_
 refine ae ?_
 refine aj ?_
 refine ao ?_
 refine ao ?_
 refine aa ?_
 refine ap (aM 0 cc rfl rfl rfl rfl) rfl rfl ?_
 refine aR rfl ent_77 (c_rCheck r h0) rfl ?_
 refine ap (cQ rfl rfl) rfl rfl ?_
 refine aD (t := 6) rfl (fun h1_2 => ?_) (fun h1_2 => ?_)
 refine ae ?_
 refine aj ?_
 refine ay rfl ?_
 refine ao ?_
 refine aa ?_
 refine ap (ah rfl) rfl rfl ?_
 refine ae ?_
 refine aj ?_
 refine aC ?_
 refine aA ?_
 refine aJ (ts := [2]) rfl rfl rfl (fun w hw => ?_)
 exact ⟨by rw [cv, if_pos h1_2]; rfl, hw.base⟩
 refine ae ?_
 refine aj ?_
 refine av rfl ?_
 refine aG ?_
 refine aj ?_
 refine ao ?_
 refine ao ?_
 have hz : dQ r = 0 := Decidable.not_not.1 h1_2
 obtain ⟨hz1, hz2, hz3, hz4⟩ := rg_zero hz
 have hwl := wideA_le r.base
 obtain ⟨k, hk⟩ : ∃ k : Nat, dM r.base - r.bits = k := ⟨(dM r.base - r.bits).toNat, by omega⟩
 have hsz := sz_all ⟨k, by omega⟩
 dsimp only at hsz
 rw [← hk] at hsz
 refine dw 7 rfl mixed ?_
 refine au (i := 0) rfl ab (aB di rfl) ar ar rfl (ai (ai aq)) (by kernel_rfl) rfl ?_
 refine au (i := 1) rfl ab (aM 0 aF rfl rfl rfl rfl) ar ar rfl (ai (ai aq)) (by kernel_rfl) rfl ?_
 refine au (i := 3) rfl ab (aB fF rfl) ar ar rfl (ai (ai aq)) (by kernel_rfl) rfl ?_
 refine au (i := 4) rfl ab (aK 0 ew rfl rfl rfl) ar ar rfl (ai (ai aq)) (by kernel_rfl) rfl ?_
 refine cD (i := 2) rfl rfl rfl (bb rfl ent_109) (by kernel_rfl) rfl ?_
 refine aR rfl ent_109 (c_rwide r.base) rfl ?_
 refine ae ?_
 refine cX ar ?_
 refine au (i := 5) rfl ab (y_subi rfl rfl (by omega) (by omega)) ar ar rfl (ai (ai aq)) (by kernel_rfl) rfl ?_
 refine au (i := 6) rfl ab (ah rfl) ar ar rfl (ai (ai aq)) (by kernel_rfl) rfl ?_
 refine cj (by kernel_rfl) ?_
 refine aj ?_
 refine ao ?_
 refine aa ?_
 refine ap (ak rfl) rfl rfl ?_
 refine ap (y_min rfl rfl) rfl rfl ?_
 refine ap (y_shl rfl rfl (by omega)) rfl rfl ?_
 refine ap (cE rfl rfl) rfl rfl ?_
 refine aD (t := 16) rfl (fun h4_3 => ?_) (fun h4_3 => ?_)
 refine ae ?_
 refine aj ?_
 refine ay rfl ?_
 refine ao ?_
 refine aa ?_
 refine ap (ak rfl) rfl rfl ?_
 refine ap (y_shl rfl rfl (by omega)) rfl rfl ?_
 refine ap (ah rfl) rfl rfl ?_
 refine ae ?_
 refine aj ?_
 refine aC ?_
 refine aA ?_
 refine aJ (ts := [2]) rfl rfl rfl (fun w hw => ?_)
 exact ⟨by rw [cv, if_neg (fun h => h hz), if_pos (by have := hsz.1.1 h4_3; omega), hsz.2 (hsz.1.1 h4_3), hk]; rfl, hw.base⟩
 refine ae ?_
 refine aj ?_
 refine av rfl ?_
 refine aG ?_
 refine aj ?_
 refine ao ?_
 refine aa ?_
 refine ap (ah rfl) rfl rfl ?_
 refine ae ?_
 refine aj ?_
 refine aC ?_
 refine aJ (ts := [2]) rfl rfl rfl (fun w hw => ?_)
 exact ⟨by rw [cv, if_neg (fun h => h hz), if_neg (by have := fun e => h4_3 (hsz.1.2 e); omega)]; rfl, hw.base⟩

theorem c_addr_Add (a : Ad) (d : Int) (h0 : 0 ≤ a.lo ∧ a.lo ≤ 18446744073709551615) (h1 : 0 ≤ a.hi) (hd : 0 ≤ d ∧ d ≤ 18446744073709551615) : RC Try.prog 110 #[.agg (dC a).toArray, .int .u64 d] [] (α := Unit) (fun _ => .tuple #[.agg (dC (bT a d).1).toArray, .bool (bT a d).2]) (fun _ => []) := by
 refine a6 (args := [.agg (dC a).toArray, .int .u64 d]) 45 Try.func110 rfl rfl rfl (fun w0 => ?_)
 refine ao ?_
 refine aa ?_
 refine bx rfl rfl rfl (fun b1 => ?_)
 refine bc aF rfl rfl (fun b2 => ?_)
 refine ap (ah rfl) rfl rfl ?_
 refine ae ?_
 refine aj ?_
 refine ao ?_
 refine ao ?_
 refine aa ?_
 refine ap (aM 1 aF rfl rfl rfl rfl) rfl rfl ?_
 refine aR rfl ee (c5 a h0.1) rfl ?_
 refine ap (cQ rfl rfl) rfl rfl ?_
 refine aD (t := 11) rfl (fun h1_2 => ?_) (fun h1_2 => ?_)
 refine ae ?_
 refine aj ?_
 refine ay rfl ?_
 refine ao ?_
 refine aa ?_
 refine ap (bl rfl (d5)) rfl rfl ?_
 refine aH aF rfl rfl rfl .z rfl rfl rfl rfl ?_
 refine ap (ah rfl) rfl rfl ?_
 refine ae ?_
 refine aj ?_
 refine aC ?_
 refine aA ?_
 refine de (rs := [.cell 4 62, .tmp 5]) rfl (bh 0 aF rfl rfl rfl rfl (co rfl bz)) rfl (fun w hw => ?_)
 focus first
   | (have hA : bT a d = (ad0, false) := if_pos h1_2
      exact ⟨(), by rw [hA]; rfl, hw.base, (hw.weak (List.nil_sublist _) (fun s hs => hs)).toNews⟩)
   | (have hA : bT a d = (ad0, false) := by rw [bT, if_neg h1_2, if_pos (by first | exact .inl (hc.symm ▸ h7_1) | exact .inr (hs.symm ▸ h7_5))]
      exact ⟨(), by rw [hA]; rfl, hw.base, (hw.weak (List.nil_sublist _) (fun s hs => hs)).toNews⟩)
   | (have hA : bT a d = (sumA a d, true) := by rw [bT, if_neg h1_2, if_neg (fun h => h.elim (fun e => h7_1 (hc ▸ e)) (fun e => h7_5 (hs ▸ e)))]
      exact ⟨(), by rw [hA, hs]; rfl, hw.base, (hw.weak (List.nil_sublist _) (fun s hs => hs)).toNews⟩)
   | (trace_state; fail)
 refine ae ?_
 refine aj ?_
 refine av rfl ?_
 refine aG ?_
 refine aj ?_
 refine ao ?_
 refine aa ?_
 refine ap (aB dJ rfl) rfl rfl ?_
 refine ap (aK 1 dh rfl rfl rfl) rfl rfl ?_
 refine ap (ak rfl) rfl rfl ?_
 refine ap (y_add64 Try.func148 (by kernel_rfl) (by kernel_rfl) (by kernel_rfl) (by kernel_rfl) rfl rfl rfl h0.1 hd.1 (by decide)) rfl rfl ?_
 refine bv (t := 17) (.tuple #[.int .u64 (loS a d), .int .u64 (loC a d)]) rfl rfl ?_
 refine ap (ak rfl) rfl rfl ?_
 refine ap (aw rfl rfl) rfl rfl ?_
 refine ap (aw rfl rfl) rfl rfl ?_
 refine ap (ah rfl) rfl rfl ?_
 refine ap (ah rfl) rfl rfl ?_
 refine ae ?_
 refine aj ?_
 refine ao ?_
 refine aa ?_
 refine ap (aB dH rfl) rfl rfl ?_
 refine ap (aK 1 ty_4 rfl rfl rfl) rfl rfl ?_
 refine ap (aB dO rfl) rfl rfl ?_
 refine ap (aK 1 dh rfl rfl rfl) rfl rfl ?_
 refine ap (ak rfl) rfl rfl ?_
 refine ap (bl rfl (bu_62_0_1_2 _ _ _)) rfl rfl ?_
 refine bc aF rfl rfl (fun b3 => ?_)
 refine aH aF rfl rfl rfl .z rfl rfl rfl rfl ?_
 refine ae ?_
 refine aj ?_
 refine ao ?_
 refine ao ?_
 refine aa ?_
 refine ap (aB dH rfl) rfl rfl ?_
 refine ap (aK 2 ty_4 rfl rfl rfl) rfl rfl ?_
 refine bp (t := 27) rfl (fun h5_1 => ?_) (fun h5_1 => ?_)
 have hs : sumA a d = ⟨a.six, hiS a d, loS a d⟩ := if_pos h5_1
 have hc : carA a d = hiC a d := if_pos h5_1
 refine ae ?_
 refine aj ?_
 refine ay rfl ?_
 refine aa ?_
 refine ap (aB dO rfl) rfl rfl ?_
 refine ap (aK 2 dh rfl rfl rfl) rfl rfl ?_
 refine ap (ak rfl) rfl rfl ?_
 refine ap (y_add64 Try.func148 (by kernel_rfl) (by kernel_rfl) (by kernel_rfl) (by kernel_rfl) rfl rfl rfl h1 (by decide) (loC_rng h0 hd)) rfl rfl ?_
 refine bv (t := 32) (.tuple #[.int .u64 (hiS a d), .int .u64 (hiC a d)]) rfl rfl ?_
 refine ap (ak rfl) rfl rfl ?_
 refine ap (aw rfl rfl) rfl rfl ?_
 refine ap (aw rfl rfl) rfl rfl ?_
 refine ap (aB dO rfl) rfl rfl ?_
 refine aH dh rfl rfl rfl .z rfl rfl rfl rfl ?_
 refine ap (ah rfl) rfl rfl ?_
 refine ae ?_
 refine aj ?_
 refine ao ?_
 refine ao ?_
 refine aa ?_
 refine ap (ak rfl) rfl rfl ?_
 refine ap (cQ rfl rfl) rfl rfl ?_
 refine aD (t := 37) rfl (fun h7_1 => ?_) (fun h7_1 => ?_)
 refine ap (ak rfl) rfl rfl ?_
 refine bg rfl rfl rfl rfl ?_
 refine bg rfl rfl rfl rfl ?_
 refine bg rfl rfl rfl rfl ?_
 refine ap (aQ rfl rfl) rfl rfl ?_
 refine ae ?_
 refine aj ?_
 refine ay rfl ?_
 refine ao ?_
 refine aa ?_
 refine ap (bl rfl (d5)) rfl rfl ?_
 refine aH aF rfl rfl rfl (.s (.z)) rfl rfl rfl rfl ?_
 refine ap (ah rfl) rfl rfl ?_
 refine ae ?_
 refine aj ?_
 refine aC ?_
 refine aA ?_
 refine de (rs := [.cell 4 62, .tmp 5]) rfl (bh 1 aF rfl rfl rfl rfl (co rfl bz)) rfl (fun w hw => ?_)
 focus first
   | (have hA : bT a d = (ad0, false) := if_pos h1_2
      exact ⟨(), by rw [hA]; rfl, hw.base, (hw.weak (List.nil_sublist _) (fun s hs => hs)).toNews⟩)
   | (have hA : bT a d = (ad0, false) := by rw [bT, if_neg h1_2, if_pos (by first | exact .inl (hc.symm ▸ h7_1) | exact .inr (hs.symm ▸ h7_5))]
      exact ⟨(), by rw [hA]; rfl, hw.base, (hw.weak (List.nil_sublist _) (fun s hs => hs)).toNews⟩)
   | (have hA : bT a d = (sumA a d, true) := by rw [bT, if_neg h1_2, if_neg (fun h => h.elim (fun e => h7_1 (hc ▸ e)) (fun e => h7_5 (hs ▸ e)))]
      exact ⟨(), by rw [hA, hs]; rfl, hw.base, (hw.weak (List.nil_sublist _) (fun s hs => hs)).toNews⟩)
   | (trace_state; fail)
 refine ap (ak rfl) rfl rfl ?_
 refine az rfl rfl ?_
 refine ap (aM 0 aF rfl rfl rfl rfl) rfl rfl ?_
 refine az rfl rfl ?_
 refine aR rfl ee (c5 ⟨a.six, hiS a d, loS a d⟩ (loS_pos a d)) rfl ?_
 refine az rfl rfl ?_
 refine ap (cQ rfl rfl) rfl rfl ?_
 refine aD (t := 41) rfl (fun h7_5 => ?_) (fun h7_5 => ?_)
 refine ap (a2 rfl rfl) rfl rfl ?_
 refine ae ?_
 refine aj ?_
 refine ay rfl ?_
 refine ao ?_
 refine aa ?_
 refine ap (bl rfl (d5)) rfl rfl ?_
 refine aH aF rfl rfl rfl (.s (.z)) rfl rfl rfl rfl ?_
 refine ap (ah rfl) rfl rfl ?_
 refine ae ?_
 refine aj ?_
 refine aC ?_
 refine aA ?_
 refine de (rs := [.cell 4 62, .tmp 5]) rfl (bh 1 aF rfl rfl rfl rfl (co rfl bz)) rfl (fun w hw => ?_)
 focus first
   | (have hA : bT a d = (ad0, false) := if_pos h1_2
      exact ⟨(), by rw [hA]; rfl, hw.base, (hw.weak (List.nil_sublist _) (fun s hs => hs)).toNews⟩)
   | (have hA : bT a d = (ad0, false) := by rw [bT, if_neg h1_2, if_pos (by first | exact .inl (hc.symm ▸ h7_1) | exact .inr (hs.symm ▸ h7_5))]
      exact ⟨(), by rw [hA]; rfl, hw.base, (hw.weak (List.nil_sublist _) (fun s hs => hs)).toNews⟩)
   | (have hA : bT a d = (sumA a d, true) := by rw [bT, if_neg h1_2, if_neg (fun h => h.elim (fun e => h7_1 (hc ▸ e)) (fun e => h7_5 (hs ▸ e)))]
      exact ⟨(), by rw [hA, hs]; rfl, hw.base, (hw.weak (List.nil_sublist _) (fun s hs => hs)).toNews⟩)
   | (trace_state; fail)
 refine ap (a2 rfl rfl) rfl rfl ?_
 refine ae ?_
 refine aj ?_
 refine av rfl ?_
 refine aG ?_
 refine aj ?_
 refine ao ?_
 refine aa ?_
 refine ap (aM 0 aF rfl rfl rfl rfl) rfl rfl ?_
 refine aH aF rfl rfl rfl (.s (.z)) rfl rfl rfl rfl ?_
 refine ap (ah rfl) rfl rfl ?_
 refine ae ?_
 refine aj ?_
 refine aC ?_
 refine de (rs := [.cell 4 62, .tmp 5]) rfl (bh 1 aF rfl rfl rfl rfl (co rfl bz)) rfl (fun w hw => ?_)
 focus first
   | (have hA : bT a d = (ad0, false) := if_pos h1_2
      exact ⟨(), by rw [hA]; rfl, hw.base, (hw.weak (List.nil_sublist _) (fun s hs => hs)).toNews⟩)
   | (have hA : bT a d = (ad0, false) := by rw [bT, if_neg h1_2, if_pos (by first | exact .inl (hc.symm ▸ h7_1) | exact .inr (hs.symm ▸ h7_5))]
      exact ⟨(), by rw [hA]; rfl, hw.base, (hw.weak (List.nil_sublist _) (fun s hs => hs)).toNews⟩)
   | (have hA : bT a d = (sumA a d, true) := by rw [bT, if_neg h1_2, if_neg (fun h => h.elim (fun e => h7_1 (hc ▸ e)) (fun e => h7_5 (hs ▸ e)))]
      exact ⟨(), by rw [hA, hs]; rfl, hw.base, (hw.weak (List.nil_sublist _) (fun s hs => hs)).toNews⟩)
   | (trace_state; fail)
 have hs : sumA a d = ⟨a.six, a.hi, loS a d⟩ := if_neg (by rw [h5_1]; decide)
 have hc : carA a d = loC a d := if_neg (by rw [h5_1]; decide)
 refine ae ?_
 refine aj ?_
 refine av rfl ?_
 refine aG ?_
 refine aj ?_
 refine ao ?_
 refine ao ?_
 refine aa ?_
 refine ap (ak rfl) rfl rfl ?_
 refine ap (cQ rfl rfl) rfl rfl ?_
 refine aD (t := 37) rfl (fun h7_1 => ?_) (fun h7_1 => ?_)
 refine ap (ak rfl) rfl rfl ?_
 refine bg rfl rfl rfl rfl ?_
 refine bg rfl rfl rfl rfl ?_
 refine bg rfl rfl rfl rfl ?_
 refine ap (aQ rfl rfl) rfl rfl ?_
 refine ae ?_
 refine aj ?_
 refine ay rfl ?_
 refine ao ?_
 refine aa ?_
 refine ap (bl rfl (d5)) rfl rfl ?_
 refine aH aF rfl rfl rfl (.s (.z)) rfl rfl rfl rfl ?_
 refine ap (ah rfl) rfl rfl ?_
 refine ae ?_
 refine aj ?_
 refine aC ?_
 refine aA ?_
 refine de (rs := [.cell 4 62, .tmp 5]) rfl (bh 1 aF rfl rfl rfl rfl (co rfl bz)) rfl (fun w hw => ?_)
 focus first
   | (have hA : bT a d = (ad0, false) := if_pos h1_2
      exact ⟨(), by rw [hA]; rfl, hw.base, (hw.weak (List.nil_sublist _) (fun s hs => hs)).toNews⟩)
   | (have hA : bT a d = (ad0, false) := by rw [bT, if_neg h1_2, if_pos (by first | exact .inl (hc.symm ▸ h7_1) | exact .inr (hs.symm ▸ h7_5))]
      exact ⟨(), by rw [hA]; rfl, hw.base, (hw.weak (List.nil_sublist _) (fun s hs => hs)).toNews⟩)
   | (have hA : bT a d = (sumA a d, true) := by rw [bT, if_neg h1_2, if_neg (fun h => h.elim (fun e => h7_1 (hc ▸ e)) (fun e => h7_5 (hs ▸ e)))]
      exact ⟨(), by rw [hA, hs]; rfl, hw.base, (hw.weak (List.nil_sublist _) (fun s hs => hs)).toNews⟩)
   | (trace_state; fail)
 refine ap (ak rfl) rfl rfl ?_
 refine az rfl rfl ?_
 refine ap (aM 0 aF rfl rfl rfl rfl) rfl rfl ?_
 refine az rfl rfl ?_
 refine aR rfl ee (c5 ⟨a.six, a.hi, loS a d⟩ (loS_pos a d)) rfl ?_
 refine az rfl rfl ?_
 refine ap (cQ rfl rfl) rfl rfl ?_
 refine aD (t := 41) rfl (fun h7_5 => ?_) (fun h7_5 => ?_)
 refine ap (a2 rfl rfl) rfl rfl ?_
 refine ae ?_
 refine aj ?_
 refine ay rfl ?_
 refine ao ?_
 refine aa ?_
 refine ap (bl rfl (d5)) rfl rfl ?_
 refine aH aF rfl rfl rfl (.s (.z)) rfl rfl rfl rfl ?_
 refine ap (ah rfl) rfl rfl ?_
 refine ae ?_
 refine aj ?_
 refine aC ?_
 refine aA ?_
 refine de (rs := [.cell 4 62, .tmp 5]) rfl (bh 1 aF rfl rfl rfl rfl (co rfl bz)) rfl (fun w hw => ?_)
 focus first
   | (have hA : bT a d = (ad0, false) := if_pos h1_2
      exact ⟨(), by rw [hA]; rfl, hw.base, (hw.weak (List.nil_sublist _) (fun s hs => hs)).toNews⟩)
   | (have hA : bT a d = (ad0, false) := by rw [bT, if_neg h1_2, if_pos (by first | exact .inl (hc.symm ▸ h7_1) | exact .inr (hs.symm ▸ h7_5))]
      exact ⟨(), by rw [hA]; rfl, hw.base, (hw.weak (List.nil_sublist _) (fun s hs => hs)).toNews⟩)
   | (have hA : bT a d = (sumA a d, true) := by rw [bT, if_neg h1_2, if_neg (fun h => h.elim (fun e => h7_1 (hc ▸ e)) (fun e => h7_5 (hs ▸ e)))]
      exact ⟨(), by rw [hA, hs]; rfl, hw.base, (hw.weak (List.nil_sublist _) (fun s hs => hs)).toNews⟩)
   | (trace_state; fail)
 refine ap (a2 rfl rfl) rfl rfl ?_
 refine ae ?_
 refine aj ?_
 refine av rfl ?_
 refine aG ?_
 refine aj ?_
 refine ao ?_
 refine aa ?_
 refine ap (aM 0 aF rfl rfl rfl rfl) rfl rfl ?_
 refine aH aF rfl rfl rfl (.s (.z)) rfl rfl rfl rfl ?_
 refine ap (ah rfl) rfl rfl ?_
 refine ae ?_
 refine aj ?_
 refine aC ?_
 refine de (rs := [.cell 4 62, .tmp 5]) rfl (bh 1 aF rfl rfl rfl rfl (co rfl bz)) rfl (fun w hw => ?_)
 focus first
   | (have hA : bT a d = (ad0, false) := if_pos h1_2
      exact ⟨(), by rw [hA]; rfl, hw.base, (hw.weak (List.nil_sublist _) (fun s hs => hs)).toNews⟩)
   | (have hA : bT a d = (ad0, false) := by rw [bT, if_neg h1_2, if_pos (by first | exact .inl (hc.symm ▸ h7_1) | exact .inr (hs.symm ▸ h7_5))]
      exact ⟨(), by rw [hA]; rfl, hw.base, (hw.weak (List.nil_sublist _) (fun s hs => hs)).toNews⟩)
   | (have hA : bT a d = (sumA a d, true) := by rw [bT, if_neg h1_2, if_neg (fun h => h.elim (fun e => h7_1 (hc ▸ e)) (fun e => h7_5 (hs ▸ e)))]
      exact ⟨(), by rw [hA, hs]; rfl, hw.base, (hw.weak (List.nil_sublist _) (fun s hs => hs)).toNews⟩)
   | (trace_state; fail)
end Go.Proofs.Ytnpdgmoeoidppaa
