import Derived.Test.YtnpdgmoeoidppaaLsQd
import Derived.Test.YtnpdgmoeoidppaaLxQd
/- ranges of addresses -/
namespace Go.Proofs.Ytnpdgmoeoidppaa
open Go.RowKit Go.Shelf
set_option linter.unusedVariables false
set_option linter.unusedSimpArgs false

theorem cS : Try.prog.built 62 [] = some [.bool false, .int .u64 0, .int .u64 0].toArray := by kernel_rfl
theorem bu_62_0_1_2 (x0 : Bool) (x1 : Int) (x2 : Int) : Try.prog.built 62 [(0, .bool x0), (1, .int .u64 x1), (2, .int .u64 x2)] = some [.bool x0, .int .u64 x1, .int .u64 x2].toArray := by kernel_rfl
theorem ent_109 : Enters Try.prog 109 := enters_of Try.func109 (by kernel_rfl) rfl
theorem ent_120 : Enters Try.prog 120 := enters_of Try.func120 (by kernel_rfl) rfl
theorem dN : Enters Try.prog 152 := enters_of Try.func152 (by kernel_rfl) rfl
theorem ent_77 : Enters Try.prog 77 := enters_of Try.func77 (by kernel_rfl) rfl
theorem cw : FA Try.prog 64 0 0 := fun b o w => by kernel_rfl
theorem eg : FA Try.prog 64 1 3 := fun b o w => by kernel_rfl
theorem bA : TyI Try.prog 64 true 4 32 (.agg #[.bool false, .int .u64 0, .int .u64 0, .int .i64 0]) := TyI.mk' (by kernel_rfl) (fun _ => by kernel_rfl)

/-- A range: its base, its bits. -/
structure Rg where
  base : Ad
  bits : Int
def dC (r : Rg) : List Value := [.bool r.base.six, .int .u64 r.base.hi, .int .u64 r.base.lo, .int .i64 r.bits]
theorem enc_rg : Enc dC 4 := ⟨fun _ => rfl, fun _ => rfl⟩
def rg0 : Rg := ⟨ad0, 0⟩
def RgOk (r : Rg) : Prop := AdOk r.base ∧ -9223372036854775808 ≤ r.bits ∧ r.bits ≤ 9223372036854775807
def cQ (a : Ad) : Int := if a.six = true then 128 else 32
theorem wideA_le (a : Ad) : 32 ≤ cQ a ∧ cQ a ≤ 128 := by unfold cQ; split <;> omega
def ef (b n : Int) : Int := if b ≤ 0 then 0 else if n ≤ b then 2 ^ n.toNat - 1 else (2 ^ b.toNat - 1) * 2 ^ (n - b).toNat
def mskW (b n : Int) : Int := IntKind.u64.wrap (IntKind.u64.wrap (IntKind.u64.wrap (1 * 2 ^ min b.toNat IntKind.u64.bits) - 1) * 2 ^ min (n - b).toNat IntKind.u64.bits)
def mskF (n : Int) : Int := IntKind.u64.wrap (IntKind.u64.wrap (1 * 2 ^ min n.toNat IntKind.u64.bits) - 1)
theorem msk_full {n : Int} (hn : n = 32 ∨ n = 64) : mskF n = 2 ^ n.toNat - 1 := by
  rcases hn with rfl | rfl <;> decide +kernel
theorem msk_all : ∀ k : Fin 64, 0 < k.val → (k.val < 32 → mskW (k.val : Int) 32 = ef (k.val : Int) 32) ∧ mskW (k.val : Int) 64 = ef (k.val : Int) 64 := by decide +kernel
theorem msk_mid {b n : Int} (hn : n = 32 ∨ n = 64) (h : 0 < b) (h2 : b < n) : mskW b n = ef b n := by
  obtain ⟨k, rfl⟩ : ∃ k : Nat, b = k := ⟨b.toNat, by omega⟩
  have := msk_all ⟨k, by omega⟩ (by show 0 < k; omega)
  rcases hn with rfl | rfl
  · exact this.1 (by show k < 32; omega)
  · exact this.2
def andI (a b : Int) : Int := bits .and .u64 a b
def headA (a : Ad) (b : Int) : Ad := if a.six = true then ⟨a.six, andI a.hi (ef b 64), andI a.lo (ef (b - 64) 64)⟩ else ⟨a.six, a.hi, andI a.lo (ef b 32)⟩
def cY (r : Rg) : Int := if bV r.base ≠ 0 ∨ r.bits < 0 ∨ cQ r.base < r.bits ∨ headA r.base r.bits ≠ r.base then 2 else 0
theorem rg_zero {r : Rg} (h : cY r = 0) : bV r.base = 0 ∧ 0 ≤ r.bits ∧ r.bits ≤ cQ r.base ∧ headA r.base r.bits = r.base := by
  unfold cY at h
  split at h
  · exact absurd h (by decide)
  · rename_i q
    refine ⟨Decidable.not_not.1 (fun e => q (.inl e)), by have := fun e => q (.inr (.inl e)); omega, by have := fun e => q (.inr (.inr (.inl e))); omega, Decidable.not_not.1 (fun e => q (.inr (.inr (.inr e))))⟩
def bO (r : Rg) (a : Ad) : Bool := decide (cY r = 0) && (decide (bV a = 0) && (decide (a.six = r.base.six) && decide (headA a r.bits = r.base)))
def bF (r : Rg) : Nat := if cY r ≠ 0 then 0 else if cQ r.base - r.bits < 16 then 2 ^ (cQ r.base - r.bits).toNat else 65536
theorem sz_all : ∀ k : Fin 129, (IntKind.i64.wrap (1 * 2 ^ min (if (30 : Int) < (k.val : Int) then (30 : Int) else (k.val : Int)).toNat IntKind.i64.bits) < 65536 ↔ k.val < 16) ∧ (k.val < 16 → IntKind.i64.wrap (1 * 2 ^ min ((k.val : Int)).toNat IntKind.i64.bits) = 2 ^ k.val) := by decide +kernel
theorem eh (r : Rg) : bF r ≤ 65536 := by
  unfold bF
  split
  · omega
  · split
    · rename_i h
      have : (cQ r.base - r.bits).toNat ≤ 15 := by omega
      calc 2 ^ (cQ r.base - r.bits).toNat ≤ 2 ^ 15 := Nat.pow_le_pow_right (by decide) this
        _ ≤ 65536 := by decide
    · omega
def loS (a : Ad) (d : Int) : Int := (a.lo + d + 0) % 18446744073709551616
def loC (a : Ad) (d : Int) : Int := (a.lo + d + 0) / 18446744073709551616
def hiS (a : Ad) (d : Int) : Int := (a.hi + 0 + loC a d) % 18446744073709551616
def hiC (a : Ad) (d : Int) : Int := (a.hi + 0 + loC a d) / 18446744073709551616
def sumA (a : Ad) (d : Int) : Ad := if a.six = true then ⟨a.six, hiS a d, loS a d⟩ else ⟨a.six, a.hi, loS a d⟩
def carA (a : Ad) (d : Int) : Int := if a.six = true then hiC a d else loC a d
theorem loS_pos (a : Ad) (d : Int) : 0 ≤ loS a d := by unfold loS; omega
theorem loC_rng {a : Ad} {d : Int} (h0 : 0 ≤ a.lo ∧ a.lo ≤ 18446744073709551615) (hd : 0 ≤ d ∧ d ≤ 18446744073709551615) : 0 ≤ loC a d ∧ loC a d ≤ 1 := by unfold loC; omega
def bq (a : Ad) (d : Int) : Ad × Bool := if bV a ≠ 0 then (ad0, false) else if carA a d ≠ 0 ∨ bV (sumA a d) ≠ 0 then (ad0, false) else (sumA a d, true)
def atR (r : Rg) (i : Int) : Ad × Bool := if i < 0 ∨ (bF r : Int) ≤ i then (ad0, false) else bq r.base i
def dp (r : Rg) : List Ad := (List.range (bF r)).map fun i : Nat => (bq r.base i).1
def dX (r : Rg) (res : List Rg) : Nat := ((dp r).filter fun a => !(res.any fun x => bO x a)).length
theorem ad0_lo : (0 : Int) ≤ ad0.lo := by decide
theorem addA_lo (a : Ad) (d : Int) : 0 ≤ (bq a d).1.lo := by
  have h : 0 ≤ loS a d := loS_pos a d
  unfold bq
  split
  · exact ad0_lo
  · split
    · exact ad0_lo
    · unfold sumA; split <;> exact h
theorem dQ (r : Rg) : (dp r).length = bF r := by rw [dp, List.length_map, List.length_range]

theorem c_rwide (a : Ad) : cx Try.prog 109 #[.agg (c5 a).toArray] (.int .i64 (cQ a)) := by
 intro w0
 refine aV (ok0 := no) (S := []) (args := [.agg (c5 a).toArray]) 5 Try.func109 rfl rfl rfl (by simp) (by simp) ?_
 refine ak ?_
 refine aa ?_
 refine bj rfl rfl rfl (fun b1 => ?_)
 refine ap (ai rfl) rfl rfl ?_
 refine ae ?_
 refine aj ?_
 refine ak ?_
 refine ak ?_
 refine aa ?_
 refine ap (aB da rfl) rfl rfl ?_
 refine ap (aF 0 ty_4 rfl rfl rfl) rfl rfl ?_
 refine bg (t := 4) rfl (fun h1_1 => ?_) (fun h1_1 => ?_)
 refine ae ?_
 refine aj ?_
 refine ax rfl ?_
 refine ak ?_
 refine aa ?_
 refine ap (ai rfl) rfl rfl ?_
 refine ae ?_
 refine aj ?_
 refine aC ?_
 refine aw ?_
 refine aI (ts := [2]) rfl rfl rfl (fun w hw => ?_)
 exact ⟨by rw [cQ, if_pos h1_1]; rfl, hw.base⟩
 refine ae ?_
 refine aj ?_
 refine ay rfl ?_
 refine aM ?_
 refine aj ?_
 refine ak ?_
 refine aa ?_
 refine ap (ai rfl) rfl rfl ?_
 refine ae ?_
 refine aj ?_
 refine aC ?_
 refine aI (ts := [2]) rfl rfl rfl (fun w hw => ?_)
 exact ⟨by rw [cQ, if_neg (by rw [h1_1]; decide)]; rfl, hw.base⟩

theorem c_mask (b n : Int) (hn : n = 32 ∨ n = 64) : cx Try.prog 152 #[.int .i64 b, .int .i64 n] (.int .u64 (ef b n)) := by
 intro w0
 refine aV (ok0 := no) (S := []) (args := [.int .i64 b, .int .i64 n]) 22 Try.func152 rfl rfl rfl (by simp) (by simp) ?_
 refine ak ?_
 refine aa ?_
 refine ap (ai rfl) rfl rfl ?_
 refine ae ?_
 refine aj ?_
 refine ak ?_
 refine aR ?_
 refine ak ?_
 refine aa ?_
 refine ap (ao rfl) rfl rfl ?_
 refine ap (y_leq rfl rfl) rfl rfl ?_
 refine aH (t := 7) rfl (fun h1_1 => ?_) (fun h1_1 => ?_)
 refine ap (ai rfl) rfl rfl ?_
 refine ae ?_
 refine aj ?_
 refine ax rfl ?_
 refine ak ?_
 refine aa ?_
 refine ap (ai rfl) rfl rfl ?_
 refine ae ?_
 refine aj ?_
 refine aC ?_
 refine aS ?_
 refine aw ?_
 refine aI (ts := [4]) rfl rfl rfl (fun w hw => ?_)
 exact ⟨by rw [ef, if_pos (by omega)]; rfl, hw.base⟩
 refine ap (ai rfl) rfl rfl ?_
 refine ae ?_
 refine aj ?_
 refine ay rfl ?_
 refine ak ?_
 refine aa ?_
 refine ap (ao rfl) rfl rfl ?_
 refine ap (ao rfl) rfl rfl ?_
 refine ap (y_geq rfl rfl) rfl rfl ?_
 refine aH (t := 11) rfl (fun h3_2 => ?_) (fun h3_2 => ?_)
 refine ap (ai rfl) rfl rfl ?_
 refine ae ?_
 refine aj ?_
 refine ax rfl ?_
 refine ak ?_
 refine aa ?_
 refine ap (ao rfl) rfl rfl ?_
 refine ap (y_shl rfl rfl (by omega)) rfl rfl ?_
 refine ap (y_sub rfl rfl) rfl rfl ?_
 refine ap (ai rfl) rfl rfl ?_
 refine ae ?_
 refine aj ?_
 refine aC ?_
 refine aS ?_
 refine aw ?_
 refine aI (ts := [4]) rfl rfl rfl (fun w hw => ?_)
 exact ⟨by rw [ef, if_neg (by omega), if_pos (by omega), ← msk_full hn]; rfl, hw.base⟩
 refine ap (ai rfl) rfl rfl ?_
 refine ae ?_
 refine aj ?_
 refine ay rfl ?_
 refine aM ?_
 refine bz ?_
 refine aj ?_
 refine ak ?_
 refine aa ?_
 refine ap (ao rfl) rfl rfl ?_
 refine ap (y_shl rfl rfl (by omega)) rfl rfl ?_
 refine ap (y_sub rfl rfl) rfl rfl ?_
 refine ap (ao rfl) rfl rfl ?_
 refine ap (ao rfl) rfl rfl ?_
 refine ap (y_subi rfl rfl (by omega) (by omega)) rfl rfl ?_
 refine ap (y_shl rfl rfl (by omega)) rfl rfl ?_
 refine ap (ai rfl) rfl rfl ?_
 refine ae ?_
 refine aj ?_
 refine aC ?_
 refine aI (ts := [4]) rfl rfl rfl (fun w hw => ?_)
 exact ⟨by rw [← msk_mid hn (by omega) (by omega)]; rfl, hw.base⟩

set_option maxRecDepth 100000 in
theorem c_head (a : Ad) (b : Int) (hb : 0 ≤ b ∧ b ≤ 128) : RC Try.prog 120 #[.agg (c5 a).toArray, .int .i64 b] [] (α := Unit) (fun _ => .agg (c5 (headA a b)).toArray) (fun _ => []) := by
 refine aY (args := [.agg (c5 a).toArray, .int .i64 b]) 29 Try.func120 rfl rfl rfl (fun w0 => ?_)
 refine ak ?_
 refine aa ?_
 refine bj rfl rfl rfl (fun b1 => ?_)
 refine a0 aD rfl rfl (fun b2 => ?_)
 refine ae ?_
 refine aj ?_
 refine ak ?_
 refine ak ?_
 refine aa ?_
 refine ap (aB da rfl) rfl rfl ?_
 refine ap (aF 1 ty_4 rfl rfl rfl) rfl rfl ?_
 refine bg (t := 6) rfl (fun h1_1 => ?_) (fun h1_1 => ?_)
 refine ap (bJ rfl) rfl rfl ?_
 refine ae ?_
 refine aj ?_
 refine ay rfl ?_
 refine aM ?_
 refine aj ?_
 refine ak ?_
 refine dd 6 rfl cq ?_
 refine ar (i := 0) rfl ab (aB dJ rfl) av av rfl (ah aq) (by kernel_rfl) rfl ?_
 refine ar (i := 1) rfl ab (aF 1 dr rfl rfl rfl) av av rfl (ah aq) (by kernel_rfl) rfl ?_
 refine ar (i := 2) rfl ab (ao rfl) av av rfl (ah aq) (by kernel_rfl) rfl ?_
 refine cA (i := 3) rfl rfl rfl (bd rfl dN) (by kernel_rfl) rfl ?_
 refine aO rfl dN (c_mask _ _ (by first | exact .inl rfl | exact .inr rfl)) rfl ?_
 refine ae ?_
 refine dq av ?_
 refine ar (i := 4) rfl ab (y_and rfl rfl) av av rfl (ah aq) (by kernel_rfl) rfl ?_
 refine ar (i := 5) rfl ab (aB dJ rfl) av av rfl (ah aq) (by kernel_rfl) rfl ?_
 refine cA (i := 6) rfl rfl rfl (fun _ _ _ => bb (by kernel_rfl)) (by kernel_rfl) rfl ?_
 refine aE dr rfl rfl rfl (.s (.z)) rfl rfl rfl rfl ?_
 refine ae ?_
 refine e_tail rfl ?_
 refine bK (by kernel_rfl) ?_
 refine aj ?_
 refine ak ?_
 refine dd 7 rfl cq ?_
 refine ar (i := 0) rfl ab (aB dL rfl) av av rfl (ah aq) (by kernel_rfl) rfl ?_
 refine ar (i := 1) rfl ab (aF 1 dr rfl rfl rfl) av av rfl (ah aq) (by kernel_rfl) rfl ?_
 refine ar (i := 2) rfl ab (ao rfl) av av rfl (ah aq) (by kernel_rfl) rfl ?_
 refine ar (i := 3) rfl ab (y_subi rfl rfl (by omega) (by omega)) av av rfl (ah aq) (by kernel_rfl) rfl ?_
 refine cA (i := 4) rfl rfl rfl (bd rfl dN) (by kernel_rfl) rfl ?_
 refine aO rfl dN (c_mask _ _ (by first | exact .inl rfl | exact .inr rfl)) rfl ?_
 refine ae ?_
 refine dq av ?_
 refine ar (i := 5) rfl ab (y_and rfl rfl) av av rfl (ah aq) (by kernel_rfl) rfl ?_
 refine ar (i := 6) rfl ab (aB dL rfl) av av rfl (ah aq) (by kernel_rfl) rfl ?_
 refine cA (i := 7) rfl rfl rfl (fun _ _ _ => bb (by kernel_rfl)) (by kernel_rfl) rfl ?_
 refine aE dr rfl rfl rfl (.s (.z)) rfl rfl rfl rfl ?_
 refine ae ?_
 refine e_tail rfl ?_
 refine bK (by kernel_rfl) ?_
 refine aj ?_
 refine ak ?_
 refine aa ?_
 refine ap (aJ 1 aD rfl rfl rfl rfl) rfl rfl ?_
 refine aE aD rfl rfl rfl .z rfl rfl rfl rfl ?_
 refine ae ?_
 refine aj ?_
 refine aC ?_
 refine cO (rs := [.cell 4 62]) rfl (aZ 0 aD rfl rfl rfl rfl bi) rfl (fun w hw => ?_)
 exact ⟨(), by rw [headA, if_pos h1_1]; rfl, hw.base, (hw.weak (List.nil_sublist _) (fun s hs => hs)).toNews⟩
 refine ap (bJ rfl) rfl rfl ?_
 refine ae ?_
 refine aj ?_
 refine ax rfl ?_
 refine ak ?_
 refine dd 6 rfl cq ?_
 refine ar (i := 0) rfl ab (aB dL rfl) av av rfl (ah (ah aq)) (by kernel_rfl) rfl ?_
 refine ar (i := 1) rfl ab (aF 1 dr rfl rfl rfl) av av rfl (ah (ah aq)) (by kernel_rfl) rfl ?_
 refine ar (i := 2) rfl ab (ao rfl) av av rfl (ah (ah aq)) (by kernel_rfl) rfl ?_
 refine cA (i := 3) rfl rfl rfl (bd rfl dN) (by kernel_rfl) rfl ?_
 refine aO rfl dN (c_mask _ _ (by first | exact .inl rfl | exact .inr rfl)) rfl ?_
 refine ae ?_
 refine dq av ?_
 refine ar (i := 4) rfl ab (y_and rfl rfl) av av rfl (ah (ah aq)) (by kernel_rfl) rfl ?_
 refine ar (i := 5) rfl ab (aB dL rfl) av av rfl (ah (ah aq)) (by kernel_rfl) rfl ?_
 refine cA (i := 6) rfl rfl rfl (fun _ _ _ => bb (by kernel_rfl)) (by kernel_rfl) rfl ?_
 refine aE dr rfl rfl rfl (.s (.z)) rfl rfl rfl rfl ?_
 refine ae ?_
 refine e_tail rfl ?_
 refine bK (by kernel_rfl) ?_
 refine aj ?_
 refine ak ?_
 refine aa ?_
 refine ap (aJ 1 aD rfl rfl rfl rfl) rfl rfl ?_
 refine aE aD rfl rfl rfl .z rfl rfl rfl rfl ?_
 refine ae ?_
 refine aj ?_
 refine aC ?_
 refine aw ?_
 refine cO (rs := [.cell 4 62]) rfl (aZ 0 aD rfl rfl rfl rfl bi) rfl (fun w hw => ?_)
 exact ⟨(), by rw [headA, if_neg (by rw [h1_1]; decide)]; rfl, hw.base, (hw.weak (List.nil_sublist _) (fun s hs => hs)).toNews⟩

set_option maxRecDepth 100000 in
theorem c_rCheck (r : Rg) (h0 : 0 ≤ r.base.lo) : cx Try.prog 77 #[.agg (dC r).toArray] (.int .i64 (cY r)) := by
 intro w0
 refine aV (ok0 := no) (S := []) (args := [.agg (dC r).toArray]) 30 Try.func77 rfl rfl rfl (by simp) (by simp) ?_
 refine ak ?_
 refine aa ?_
 refine bj rfl rfl rfl (fun b1 => ?_)
 refine ap (ai rfl) rfl rfl ?_
 refine ae ?_
 refine aj ?_
 refine ak ?_
 refine ak ?_
 refine dd 27 rfl cq ?_
 refine ar (i := 0) rfl ab (aB cw rfl) av av rfl (ah (ah aq)) (by kernel_rfl) rfl ?_
 refine ar (i := 1) rfl ab (aJ 0 aD rfl rfl rfl rfl) av av rfl (ah (ah aq)) (by kernel_rfl) rfl ?_
 refine cA (i := 2) rfl rfl rfl (bd rfl db) (by kernel_rfl) rfl ?_
 refine aO rfl db (cc r.base h0) rfl ?_
 refine ae ?_
 refine dq av ?_
 refine ar (i := 3) rfl ab (cN rfl rfl) av av rfl (ah (ah aq)) (by kernel_rfl) rfl ?_
 refine co (t := 6) rfl (fun h1_3 => ?_) (fun h1_3 => ?_)
 refine ar (i := 4) rfl ab (ao rfl) av av rfl (ah (ah aq)) (by kernel_rfl) rfl ?_
 refine aG (i := 5) rfl (au rfl rfl rfl) av rfl (ah (ah aq)) (by kernel_rfl) rfl ?_
 refine aG (i := 6) rfl (au rfl rfl rfl) av rfl (ah (ah aq)) (by kernel_rfl) rfl ?_
 refine aG (i := 7) rfl (au rfl rfl rfl) av rfl (ah (ah aq)) (by kernel_rfl) rfl ?_
 refine ar (i := 8) rfl ab (aL rfl rfl) av av rfl (ah (ah aq)) (by kernel_rfl) rfl ?_
 refine ar (i := 9) rfl ab (ao rfl) av av rfl (ah (ah aq)) (by kernel_rfl) rfl ?_
 refine aG (i := 10) rfl (au rfl rfl rfl) av rfl (ah (ah aq)) (by kernel_rfl) rfl ?_
 refine aG (i := 11) rfl (au rfl rfl rfl) av rfl (ah (ah aq)) (by kernel_rfl) rfl ?_
 refine aG (i := 12) rfl (au rfl rfl rfl) av rfl (ah (ah aq)) (by kernel_rfl) rfl ?_
 refine aG (i := 13) rfl (au rfl rfl rfl) av rfl (ah (ah aq)) (by kernel_rfl) rfl ?_
 refine aG (i := 14) rfl (au rfl rfl rfl) av rfl (ah (ah aq)) (by kernel_rfl) rfl ?_
 refine aG (i := 15) rfl (au rfl rfl rfl) av rfl (ah (ah aq)) (by kernel_rfl) rfl ?_
 refine ar (i := 16) rfl ab (aL rfl rfl) av av rfl (ah (ah aq)) (by kernel_rfl) rfl ?_
 refine ar (i := 17) rfl ab (ao rfl) av av rfl (ah (ah aq)) (by kernel_rfl) rfl ?_
 refine aG (i := 18) rfl (au rfl rfl rfl) av rfl (ah (ah aq)) (by kernel_rfl) rfl ?_
 refine aG (i := 19) rfl (au rfl rfl rfl) av rfl (ah (ah aq)) (by kernel_rfl) rfl ?_
 refine aG (i := 20) rfl (au rfl rfl rfl) av rfl (ah (ah aq)) (by kernel_rfl) rfl ?_
 refine aG (i := 21) rfl (au rfl rfl rfl) av rfl (ah (ah aq)) (by kernel_rfl) rfl ?_
 refine aG (i := 23) rfl (au rfl rfl rfl) av rfl (ah (ah aq)) (by kernel_rfl) rfl ?_
 refine aG (i := 24) rfl (au rfl rfl rfl) av rfl (ah (ah aq)) (by kernel_rfl) rfl ?_
 refine aG (i := 22) rfl (au rfl rfl rfl) av rfl (ah (ah aq)) (by kernel_rfl) rfl ?_
 refine aG (i := 25) rfl (au rfl rfl rfl) av rfl (ah (ah aq)) (by kernel_rfl) rfl ?_
 refine ar (i := 26) rfl ab (aL rfl rfl) av av rfl (ah (ah aq)) (by kernel_rfl) rfl ?_
 refine bK (by kernel_rfl) ?_
 refine aj ?_
 refine ax rfl ?_
 refine ak ?_
 refine aa ?_
 refine ap (ai rfl) rfl rfl ?_
 refine ae ?_
 refine aj ?_
 refine aC ?_
 refine aw ?_
 refine aI (ts := [2]) rfl rfl rfl (fun w hw => ?_)
 focus first
   | (exact ⟨by rw [cY, if_pos (by first | exact .inl h1_3 | exact .inr (.inl h1_7) | exact .inr (.inr (.inl h1_15)) | exact .inr (.inr (.inr h1_25)))]; rfl, hw.base⟩)
   | (exact ⟨by rw [cY, if_neg (fun h => h.elim h1_3 (fun h => h.elim h1_7 (fun h => h.elim h1_15 h1_25)))]; rfl, hw.base⟩)
   | (trace_state; fail)
 refine ar (i := 4) rfl ab (ao rfl) av av rfl (ah (ah aq)) (by kernel_rfl) rfl ?_
 refine ar (i := 5) rfl (aN rfl rfl) (aB eg rfl) av av rfl (ah (ah aq)) (by kernel_rfl) rfl ?_
 refine ar (i := 6) rfl (aN rfl rfl) (aF 0 ed rfl rfl rfl) av av rfl (ah (ah aq)) (by kernel_rfl) rfl ?_
 refine ar (i := 7) rfl (aN rfl rfl) (cG rfl rfl) av av rfl (ah (ah aq)) (by kernel_rfl) rfl ?_
 refine co (t := 10) rfl (fun h1_7 => ?_) (fun h1_7 => ?_)
 refine ar (i := 8) rfl ab (aU rfl rfl) av av rfl (ah (ah aq)) (by kernel_rfl) rfl ?_
 refine ar (i := 9) rfl ab (ao rfl) av av rfl (ah (ah aq)) (by kernel_rfl) rfl ?_
 refine aG (i := 10) rfl (au rfl rfl rfl) av rfl (ah (ah aq)) (by kernel_rfl) rfl ?_
 refine aG (i := 11) rfl (au rfl rfl rfl) av rfl (ah (ah aq)) (by kernel_rfl) rfl ?_
 refine aG (i := 12) rfl (au rfl rfl rfl) av rfl (ah (ah aq)) (by kernel_rfl) rfl ?_
 refine aG (i := 13) rfl (au rfl rfl rfl) av rfl (ah (ah aq)) (by kernel_rfl) rfl ?_
 refine aG (i := 14) rfl (au rfl rfl rfl) av rfl (ah (ah aq)) (by kernel_rfl) rfl ?_
 refine aG (i := 15) rfl (au rfl rfl rfl) av rfl (ah (ah aq)) (by kernel_rfl) rfl ?_
 refine ar (i := 16) rfl ab (aL rfl rfl) av av rfl (ah (ah aq)) (by kernel_rfl) rfl ?_
 refine ar (i := 17) rfl ab (ao rfl) av av rfl (ah (ah aq)) (by kernel_rfl) rfl ?_
 refine aG (i := 18) rfl (au rfl rfl rfl) av rfl (ah (ah aq)) (by kernel_rfl) rfl ?_
 refine aG (i := 19) rfl (au rfl rfl rfl) av rfl (ah (ah aq)) (by kernel_rfl) rfl ?_
 refine aG (i := 20) rfl (au rfl rfl rfl) av rfl (ah (ah aq)) (by kernel_rfl) rfl ?_
 refine aG (i := 21) rfl (au rfl rfl rfl) av rfl (ah (ah aq)) (by kernel_rfl) rfl ?_
 refine aG (i := 23) rfl (au rfl rfl rfl) av rfl (ah (ah aq)) (by kernel_rfl) rfl ?_
 refine aG (i := 24) rfl (au rfl rfl rfl) av rfl (ah (ah aq)) (by kernel_rfl) rfl ?_
 refine aG (i := 22) rfl (au rfl rfl rfl) av rfl (ah (ah aq)) (by kernel_rfl) rfl ?_
 refine aG (i := 25) rfl (au rfl rfl rfl) av rfl (ah (ah aq)) (by kernel_rfl) rfl ?_
 refine ar (i := 26) rfl ab (aL rfl rfl) av av rfl (ah (ah aq)) (by kernel_rfl) rfl ?_
 refine bK (by kernel_rfl) ?_
 refine aj ?_
 refine ax rfl ?_
 refine ak ?_
 refine aa ?_
 refine ap (ai rfl) rfl rfl ?_
 refine ae ?_
 refine aj ?_
 refine aC ?_
 refine aw ?_
 refine aI (ts := [2]) rfl rfl rfl (fun w hw => ?_)
 focus first
   | (exact ⟨by rw [cY, if_pos (by first | exact .inl h1_3 | exact .inr (.inl h1_7) | exact .inr (.inr (.inl h1_15)) | exact .inr (.inr (.inr h1_25)))]; rfl, hw.base⟩)
   | (exact ⟨by rw [cY, if_neg (fun h => h.elim h1_3 (fun h => h.elim h1_7 (fun h => h.elim h1_15 h1_25)))]; rfl, hw.base⟩)
   | (trace_state; fail)
 refine ar (i := 8) rfl ab (aU rfl rfl) av av rfl (ah (ah aq)) (by kernel_rfl) rfl ?_
 refine ar (i := 9) rfl ab (ao rfl) av av rfl (ah (ah aq)) (by kernel_rfl) rfl ?_
 refine ar (i := 10) rfl (aN rfl rfl) (aB eg rfl) av av rfl (ah (ah aq)) (by kernel_rfl) rfl ?_
 refine ar (i := 11) rfl (aN rfl rfl) (aF 0 ed rfl rfl rfl) av av rfl (ah (ah aq)) (by kernel_rfl) rfl ?_
 refine ar (i := 12) rfl (aN rfl rfl) (aB cw rfl) av av rfl (ah (ah aq)) (by kernel_rfl) rfl ?_
 refine ar (i := 13) rfl (aN rfl rfl) (aJ 0 aD rfl rfl rfl rfl) av av rfl (ah (ah aq)) (by kernel_rfl) rfl ?_
 refine cA (i := 14) rfl rfl rfl (bd rfl ent_109) (by kernel_rfl) rfl ?_
 refine az rfl rfl ?_
 refine aO rfl ent_109 (c_rwide r.base) rfl ?_
 refine ae ?_
 refine dq av ?_
 refine ar (i := 15) rfl (aN rfl rfl) (y_gtr rfl rfl) av av rfl (ah (ah aq)) (by kernel_rfl) rfl ?_
 refine co (t := 18) rfl (fun h1_15 => ?_) (fun h1_15 => ?_)
 refine ar (i := 16) rfl ab (aU rfl rfl) av av rfl (ah (ah aq)) (by kernel_rfl) rfl ?_
 refine ar (i := 17) rfl ab (ao rfl) av av rfl (ah (ah aq)) (by kernel_rfl) rfl ?_
 refine aG (i := 18) rfl (au rfl rfl rfl) av rfl (ah (ah aq)) (by kernel_rfl) rfl ?_
 refine aG (i := 19) rfl (au rfl rfl rfl) av rfl (ah (ah aq)) (by kernel_rfl) rfl ?_
 refine aG (i := 20) rfl (au rfl rfl rfl) av rfl (ah (ah aq)) (by kernel_rfl) rfl ?_
 refine aG (i := 21) rfl (au rfl rfl rfl) av rfl (ah (ah aq)) (by kernel_rfl) rfl ?_
 refine aG (i := 23) rfl (au rfl rfl rfl) av rfl (ah (ah aq)) (by kernel_rfl) rfl ?_
 refine aG (i := 24) rfl (au rfl rfl rfl) av rfl (ah (ah aq)) (by kernel_rfl) rfl ?_
 refine aG (i := 22) rfl (au rfl rfl rfl) av rfl (ah (ah aq)) (by kernel_rfl) rfl ?_
 refine aG (i := 25) rfl (au rfl rfl rfl) av rfl (ah (ah aq)) (by kernel_rfl) rfl ?_
 refine ar (i := 26) rfl ab (aL rfl rfl) av av rfl (ah (ah aq)) (by kernel_rfl) rfl ?_
 refine bK (by kernel_rfl) ?_
 refine aj ?_
 refine ax rfl ?_
 refine ak ?_
 refine aa ?_
 refine ap (ai rfl) rfl rfl ?_
 refine ae ?_
 refine aj ?_
 refine aC ?_
 refine aw ?_
 refine aI (ts := [2]) rfl rfl rfl (fun w hw => ?_)
 focus first
   | (exact ⟨by rw [cY, if_pos (by first | exact .inl h1_3 | exact .inr (.inl h1_7) | exact .inr (.inr (.inl h1_15)) | exact .inr (.inr (.inr h1_25)))]; rfl, hw.base⟩)
   | (exact ⟨by rw [cY, if_neg (fun h => h.elim h1_3 (fun h => h.elim h1_7 (fun h => h.elim h1_15 h1_25)))]; rfl, hw.base⟩)
   | (trace_state; fail)
 refine ar (i := 16) rfl ab (aU rfl rfl) av av rfl (ah (ah aq)) (by kernel_rfl) rfl ?_
 refine ar (i := 17) rfl ab (ao rfl) av av rfl (ah (ah aq)) (by kernel_rfl) rfl ?_
 refine ar (i := 18) rfl (aN rfl rfl) (aB cw rfl) av av rfl (ah (ah aq)) (by kernel_rfl) rfl ?_
 refine ar (i := 19) rfl (aN rfl rfl) (aJ 0 aD rfl rfl rfl rfl) av av rfl (ah (ah aq)) (by kernel_rfl) rfl ?_
 refine ar (i := 20) rfl (aN rfl rfl) (aB eg rfl) av av rfl (ah (ah aq)) (by kernel_rfl) rfl ?_
 refine ar (i := 21) rfl (aN rfl rfl) (aF 0 ed rfl rfl rfl) av av rfl (ah (ah aq)) (by kernel_rfl) rfl ?_
 refine ar (i := 23) rfl (aN rfl rfl) (aB cw rfl) av av rfl (ah (ah aq)) (by kernel_rfl) rfl ?_
 refine ar (i := 24) rfl (aN rfl rfl) (aJ 0 aD rfl rfl rfl rfl) av av rfl (ah (ah aq)) (by kernel_rfl) rfl ?_
 refine cA (i := 22) rfl rfl rfl (bd rfl ent_120) (by kernel_rfl) rfl ?_
 refine az rfl rfl ?_
 refine aO rfl ent_120 (b8 (c_head r.base r.bits (by have := wideA_le r.base; omega))) rfl ?_
 refine ae ?_
 refine dq av ?_
 refine ar (i := 25) rfl (aN rfl rfl) (y_nestd (by kernel_rfl) rfl rfl (eqd_ad _ _) rfl) av av rfl (ah (ah aq)) (by kernel_rfl) rfl ?_
 refine co (t := 28) rfl (fun h1_25 => ?_) (fun h1_25 => ?_)
 refine ar (i := 26) rfl ab (aU rfl rfl) av av rfl (ah (ah aq)) (by kernel_rfl) rfl ?_
 refine bK (by kernel_rfl) ?_
 refine aj ?_
 refine ax rfl ?_
 refine ak ?_
 refine aa ?_
 refine ap (ai rfl) rfl rfl ?_
 refine ae ?_
 refine aj ?_
 refine aC ?_
 refine aw ?_
 refine aI (ts := [2]) rfl rfl rfl (fun w hw => ?_)
 focus first
   | (exact ⟨by rw [cY, if_pos (by first | exact .inl h1_3 | exact .inr (.inl h1_7) | exact .inr (.inr (.inl h1_15)) | exact .inr (.inr (.inr h1_25)))]; rfl, hw.base⟩)
   | (exact ⟨by rw [cY, if_neg (fun h => h.elim h1_3 (fun h => h.elim h1_7 (fun h => h.elim h1_15 h1_25)))]; rfl, hw.base⟩)
   | (trace_state; fail)
 refine ar (i := 26) rfl ab (aU rfl rfl) av av rfl (ah (ah aq)) (by kernel_rfl) rfl ?_
 refine bK (by kernel_rfl) ?_
 refine aj ?_
 refine ay rfl ?_
 refine aM ?_
 refine aj ?_
 refine ak ?_
 refine aa ?_
 refine ap (ai rfl) rfl rfl ?_
 refine ae ?_
 refine aj ?_
 refine aC ?_
 refine aI (ts := [2]) rfl rfl rfl (fun w hw => ?_)
 focus first
   | (exact ⟨by rw [cY, if_pos (by first | exact .inl h1_3 | exact .inr (.inl h1_7) | exact .inr (.inr (.inl h1_15)) | exact .inr (.inr (.inr h1_25)))]; rfl, hw.base⟩)
   | (exact ⟨by rw [cY, if_neg (fun h => h.elim h1_3 (fun h => h.elim h1_7 (fun h => h.elim h1_15 h1_25)))]; rfl, hw.base⟩)
   | (trace_state; fail)

set_option maxRecDepth 100000 in
theorem c_rHas (r : Rg) (a : Ad) (h0 : 0 ≤ r.base.lo) (h1 : 0 ≤ a.lo) : cx Try.prog 102 #[.agg (dC r).toArray, .agg (c5 a).toArray] (.bool (bO r a)) := by
 intro w0
 refine aV (ok0 := no) (S := []) (args := [.agg (dC r).toArray, .agg (c5 a).toArray]) 30 Try.func102 rfl rfl rfl (by simp) (by simp) ?_
 refine ak ?_
 refine aa ?_
 refine bj rfl rfl rfl (fun b1 => ?_)
 refine bj rfl rfl rfl (fun b2 => ?_)
 refine ap (ai rfl) rfl rfl ?_
 refine ae ?_
 refine aj ?_
 refine ak ?_
 refine dd 26 rfl cq ?_
 refine ar (i := 0) rfl ab (aJ 1 bA rfl rfl rfl rfl) av av rfl (ah aq) (by kernel_rfl) rfl ?_
 refine cA (i := 1) rfl rfl rfl (bd rfl ent_77) (by kernel_rfl) rfl ?_
 refine aO rfl ent_77 (c_rCheck r h0) rfl ?_
 refine ae ?_
 refine dq av ?_
 refine ar (i := 2) rfl ab (ct rfl rfl) av av rfl (ah aq) (by kernel_rfl) rfl ?_
 refine co (t := 7) rfl (fun h1_2 => ?_) (fun h1_2 => ?_)
 refine ar (i := 3) rfl ab (ao rfl) av av rfl (ah aq) (by kernel_rfl) rfl ?_
 refine ar (i := 4) rfl (aN rfl rfl) (aJ 0 aD rfl rfl rfl rfl) av av rfl (ah aq) (by kernel_rfl) rfl ?_
 refine cA (i := 5) rfl rfl rfl (bd rfl db) (by kernel_rfl) rfl ?_
 refine az rfl rfl ?_
 refine aO rfl db (cc a h1) rfl ?_
 refine ae ?_
 refine dq av ?_
 refine ar (i := 6) rfl (aN rfl rfl) (ct rfl rfl) av av rfl (ah aq) (by kernel_rfl) rfl ?_
 refine co (t := 11) rfl (fun h1_6 => ?_) (fun h1_6 => ?_)
 refine ar (i := 7) rfl ab (aL rfl rfl) av av rfl (ah aq) (by kernel_rfl) rfl ?_
 refine ar (i := 8) rfl ab (ao rfl) av av rfl (ah aq) (by kernel_rfl) rfl ?_
 refine ar (i := 9) rfl (aN rfl rfl) (aB da rfl) av av rfl (ah aq) (by kernel_rfl) rfl ?_
 refine ar (i := 10) rfl (aN rfl rfl) (aF 0 ty_4 rfl rfl rfl) av av rfl (ah aq) (by kernel_rfl) rfl ?_
 refine ar (i := 11) rfl (aN rfl rfl) (aB cw rfl) av av rfl (ah aq) (by kernel_rfl) rfl ?_
 refine ar (i := 12) rfl (aN rfl rfl) (aB da rfl) av av rfl (ah aq) (by kernel_rfl) rfl ?_
 refine ar (i := 13) rfl (aN rfl rfl) (aF 1 ty_4 rfl rfl rfl) av av rfl (ah aq) (by kernel_rfl) rfl ?_
 refine ar (i := 14) rfl (aN rfl rfl) (y_eqlb Try.underlying4 rfl rfl) av av rfl (ah aq) (by kernel_rfl) rfl ?_
 refine co (t := 19) rfl (fun h1_14 => ?_) (fun h1_14 => ?_)
 refine ar (i := 15) rfl ab (aL rfl rfl) av av rfl (ah aq) (by kernel_rfl) rfl ?_
 refine ar (i := 16) rfl ab (ao rfl) av av rfl (ah aq) (by kernel_rfl) rfl ?_
 refine ar (i := 17) rfl (aN rfl rfl) (aJ 0 aD rfl rfl rfl rfl) av av rfl (ah aq) (by kernel_rfl) rfl ?_
 refine ar (i := 18) rfl (aN rfl rfl) (aB eg rfl) av av rfl (ah aq) (by kernel_rfl) rfl ?_
 refine ar (i := 19) rfl (aN rfl rfl) (aF 1 ed rfl rfl rfl) av av rfl (ah aq) (by kernel_rfl) rfl ?_
 refine ar (i := 21) rfl (aN rfl rfl) (aB cw rfl) av av rfl (ah aq) (by kernel_rfl) rfl ?_
 refine ar (i := 22) rfl (aN rfl rfl) (aJ 1 aD rfl rfl rfl rfl) av av rfl (ah aq) (by kernel_rfl) rfl ?_
 refine cA (i := 20) rfl rfl rfl (bd rfl ent_120) (by kernel_rfl) rfl ?_
 refine az rfl rfl ?_
 refine aO rfl ent_120 (b8 (c_head a r.bits (by have h9 := rg_zero h1_2; have := wideA_le r.base; omega))) rfl ?_
 refine ae ?_
 refine dq av ?_
 refine ar (i := 23) rfl (aN rfl rfl) (y_eqst (by kernel_rfl) rfl rfl (eqd_ad _ _) rfl) av av rfl (ah aq) (by kernel_rfl) rfl ?_
 refine ar (i := 24) rfl ab (aL rfl rfl) av av rfl (ah aq) (by kernel_rfl) rfl ?_
 refine ar (i := 25) rfl ab (ai rfl) av av rfl (ah aq) (by kernel_rfl) rfl ?_
 refine bK (by kernel_rfl) ?_
 refine aj ?_
 refine aC ?_
 refine aI (ts := [4]) rfl rfl rfl (fun w hw => ?_)
 refine ⟨?_, hw.base⟩
 show Ending.returned (.bool _) = _
 congr 2
 focus first
   | (rw [bO, decide_eq_false h1_2]; rfl)
   | (rw [bO, decide_eq_true h1_2, decide_eq_false h1_6]; rfl)
   | (rw [bO, decide_eq_true h1_2, decide_eq_true h1_6, decide_eq_false h1_14]; rfl)
   | (rw [bO, decide_eq_true h1_2, decide_eq_true h1_6, decide_eq_true h1_14]; rfl)
   | (trace_state; fail)
 refine ar (i := 15) rfl ab (aL rfl rfl) av av rfl (ah aq) (by kernel_rfl) rfl ?_
 refine ar (i := 16) rfl ab (ao rfl) av av rfl (ah aq) (by kernel_rfl) rfl ?_
 refine aG (i := 17) rfl (au rfl rfl rfl) av rfl (ah aq) (by kernel_rfl) rfl ?_
 refine aG (i := 18) rfl (au rfl rfl rfl) av rfl (ah aq) (by kernel_rfl) rfl ?_
 refine aG (i := 19) rfl (au rfl rfl rfl) av rfl (ah aq) (by kernel_rfl) rfl ?_
 refine aG (i := 21) rfl (au rfl rfl rfl) av rfl (ah aq) (by kernel_rfl) rfl ?_
 refine aG (i := 22) rfl (au rfl rfl rfl) av rfl (ah aq) (by kernel_rfl) rfl ?_
 refine aG (i := 20) rfl (au rfl rfl rfl) av rfl (ah aq) (by kernel_rfl) rfl ?_
 refine aG (i := 23) rfl (au rfl rfl rfl) av rfl (ah aq) (by kernel_rfl) rfl ?_
 refine ar (i := 24) rfl ab (aU rfl rfl) av av rfl (ah aq) (by kernel_rfl) rfl ?_
 refine ar (i := 25) rfl ab (ai rfl) av av rfl (ah aq) (by kernel_rfl) rfl ?_
 refine bK (by kernel_rfl) ?_
 refine aj ?_
 refine aC ?_
 refine aI (ts := [4]) rfl rfl rfl (fun w hw => ?_)
 refine ⟨?_, hw.base⟩
 show Ending.returned (.bool _) = _
 congr 2
 focus first
   | (rw [bO, decide_eq_false h1_2]; rfl)
   | (rw [bO, decide_eq_true h1_2, decide_eq_false h1_6]; rfl)
   | (rw [bO, decide_eq_true h1_2, decide_eq_true h1_6, decide_eq_false h1_14]; rfl)
   | (rw [bO, decide_eq_true h1_2, decide_eq_true h1_6, decide_eq_true h1_14]; rfl)
   | (trace_state; fail)
 refine ar (i := 7) rfl ab (aL rfl rfl) av av rfl (ah aq) (by kernel_rfl) rfl ?_
 refine ar (i := 8) rfl ab (ao rfl) av av rfl (ah aq) (by kernel_rfl) rfl ?_
 refine aG (i := 9) rfl (au rfl rfl rfl) av rfl (ah aq) (by kernel_rfl) rfl ?_
 refine aG (i := 10) rfl (au rfl rfl rfl) av rfl (ah aq) (by kernel_rfl) rfl ?_
 refine aG (i := 11) rfl (au rfl rfl rfl) av rfl (ah aq) (by kernel_rfl) rfl ?_
 refine aG (i := 12) rfl (au rfl rfl rfl) av rfl (ah aq) (by kernel_rfl) rfl ?_
 refine aG (i := 13) rfl (au rfl rfl rfl) av rfl (ah aq) (by kernel_rfl) rfl ?_
 refine aG (i := 14) rfl (au rfl rfl rfl) av rfl (ah aq) (by kernel_rfl) rfl ?_
 refine ar (i := 15) rfl ab (aU rfl rfl) av av rfl (ah aq) (by kernel_rfl) rfl ?_
 refine ar (i := 16) rfl ab (ao rfl) av av rfl (ah aq) (by kernel_rfl) rfl ?_
 refine aG (i := 17) rfl (au rfl rfl rfl) av rfl (ah aq) (by kernel_rfl) rfl ?_
 refine aG (i := 18) rfl (au rfl rfl rfl) av rfl (ah aq) (by kernel_rfl) rfl ?_
 refine aG (i := 19) rfl (au rfl rfl rfl) av rfl (ah aq) (by kernel_rfl) rfl ?_
 refine aG (i := 21) rfl (au rfl rfl rfl) av rfl (ah aq) (by kernel_rfl) rfl ?_
 refine aG (i := 22) rfl (au rfl rfl rfl) av rfl (ah aq) (by kernel_rfl) rfl ?_
 refine aG (i := 20) rfl (au rfl rfl rfl) av rfl (ah aq) (by kernel_rfl) rfl ?_
 refine aG (i := 23) rfl (au rfl rfl rfl) av rfl (ah aq) (by kernel_rfl) rfl ?_
 refine ar (i := 24) rfl ab (aU rfl rfl) av av rfl (ah aq) (by kernel_rfl) rfl ?_
 refine ar (i := 25) rfl ab (ai rfl) av av rfl (ah aq) (by kernel_rfl) rfl ?_
 refine bK (by kernel_rfl) ?_
 refine aj ?_
 refine aC ?_
 refine aI (ts := [4]) rfl rfl rfl (fun w hw => ?_)
 refine ⟨?_, hw.base⟩
 show Ending.returned (.bool _) = _
 congr 2
 focus first
   | (rw [bO, decide_eq_false h1_2]; rfl)
   | (rw [bO, decide_eq_true h1_2, decide_eq_false h1_6]; rfl)
   | (rw [bO, decide_eq_true h1_2, decide_eq_true h1_6, decide_eq_false h1_14]; rfl)
   | (rw [bO, decide_eq_true h1_2, decide_eq_true h1_6, decide_eq_true h1_14]; rfl)
   | (trace_state; fail)
 refine ar (i := 3) rfl ab (ao rfl) av av rfl (ah aq) (by kernel_rfl) rfl ?_
 refine aG (i := 4) rfl (au rfl rfl rfl) av rfl (ah aq) (by kernel_rfl) rfl ?_
 refine aG (i := 5) rfl (au rfl rfl rfl) av rfl (ah aq) (by kernel_rfl) rfl ?_
 refine aG (i := 6) rfl (au rfl rfl rfl) av rfl (ah aq) (by kernel_rfl) rfl ?_
 refine ar (i := 7) rfl ab (aU rfl rfl) av av rfl (ah aq) (by kernel_rfl) rfl ?_
 refine ar (i := 8) rfl ab (ao rfl) av av rfl (ah aq) (by kernel_rfl) rfl ?_
 refine aG (i := 9) rfl (au rfl rfl rfl) av rfl (ah aq) (by kernel_rfl) rfl ?_
 refine aG (i := 10) rfl (au rfl rfl rfl) av rfl (ah aq) (by kernel_rfl) rfl ?_
 refine aG (i := 11) rfl (au rfl rfl rfl) av rfl (ah aq) (by kernel_rfl) rfl ?_
 refine aG (i := 12) rfl (au rfl rfl rfl) av rfl (ah aq) (by kernel_rfl) rfl ?_
 refine aG (i := 13) rfl (au rfl rfl rfl) av rfl (ah aq) (by kernel_rfl) rfl ?_
 refine aG (i := 14) rfl (au rfl rfl rfl) av rfl (ah aq) (by kernel_rfl) rfl ?_
 refine ar (i := 15) rfl ab (aU rfl rfl) av av rfl (ah aq) (by kernel_rfl) rfl ?_
 refine ar (i := 16) rfl ab (ao rfl) av av rfl (ah aq) (by kernel_rfl) rfl ?_
 refine aG (i := 17) rfl (au rfl rfl rfl) av rfl (ah aq) (by kernel_rfl) rfl ?_
 refine aG (i := 18) rfl (au rfl rfl rfl) av rfl (ah aq) (by kernel_rfl) rfl ?_
 refine aG (i := 19) rfl (au rfl rfl rfl) av rfl (ah aq) (by kernel_rfl) rfl ?_
 refine aG (i := 21) rfl (au rfl rfl rfl) av rfl (ah aq) (by kernel_rfl) rfl ?_
 refine aG (i := 22) rfl (au rfl rfl rfl) av rfl (ah aq) (by kernel_rfl) rfl ?_
 refine aG (i := 20) rfl (au rfl rfl rfl) av rfl (ah aq) (by kernel_rfl) rfl ?_
 refine aG (i := 23) rfl (au rfl rfl rfl) av rfl (ah aq) (by kernel_rfl) rfl ?_
 refine ar (i := 24) rfl ab (aU rfl rfl) av av rfl (ah aq) (by kernel_rfl) rfl ?_
 refine ar (i := 25) rfl ab (ai rfl) av av rfl (ah aq) (by kernel_rfl) rfl ?_
 refine bK (by kernel_rfl) ?_
 refine aj ?_
 refine aC ?_
 refine aI (ts := [4]) rfl rfl rfl (fun w hw => ?_)
 refine ⟨?_, hw.base⟩
 show Ending.returned (.bool _) = _
 congr 2
 focus first
   | (rw [bO, decide_eq_false h1_2]; rfl)
   | (rw [bO, decide_eq_true h1_2, decide_eq_false h1_6]; rfl)
   | (rw [bO, decide_eq_true h1_2, decide_eq_true h1_6, decide_eq_false h1_14]; rfl)
   | (rw [bO, decide_eq_true h1_2, decide_eq_true h1_6, decide_eq_true h1_14]; rfl)
   | (trace_state; fail)

set_option maxRecDepth 100000 in
theorem c_rSize (r : Rg) (h0 : 0 ≤ r.base.lo) : cx Try.prog 68 #[.agg (dC r).toArray] (.int .i64 (bF r)) := by
 intro w0
 refine aV (ok0 := no) (S := []) (args := [.agg (dC r).toArray]) 19 Try.func68 rfl rfl rfl (by simp) (by simp) ?_
 refine ak ?_
 refine aa ?_
 refine bj rfl rfl rfl (fun b1 => ?_)
 refine ap (ai rfl) rfl rfl ?_
 refine ae ?_
 refine aj ?_
 refine ak ?_
 refine ak ?_
 refine aa ?_
 refine ap (aJ 0 bA rfl rfl rfl rfl) rfl rfl ?_
 refine aO rfl ent_77 (c_rCheck r h0) rfl ?_
 refine ap (cN rfl rfl) rfl rfl ?_
 refine aH (t := 6) rfl (fun h1_2 => ?_) (fun h1_2 => ?_)
 refine ae ?_
 refine aj ?_
 refine ax rfl ?_
 refine ak ?_
 refine aa ?_
 refine ap (ai rfl) rfl rfl ?_
 refine ae ?_
 refine aj ?_
 refine aC ?_
 refine aw ?_
 refine aI (ts := [2]) rfl rfl rfl (fun w hw => ?_)
 exact ⟨by rw [bF, if_pos h1_2]; rfl, hw.base⟩
 refine ae ?_
 refine aj ?_
 refine ay rfl ?_
 refine aM ?_
 refine aj ?_
 refine ak ?_
 refine ak ?_
 have hz : cY r = 0 := Decidable.not_not.1 h1_2
 obtain ⟨hz1, hz2, hz3, hz4⟩ := rg_zero hz
 have hwl := wideA_le r.base
 obtain ⟨k, hk⟩ : ∃ k : Nat, cQ r.base - r.bits = k := ⟨(cQ r.base - r.bits).toNat, by omega⟩
 have hsz := sz_all ⟨k, by omega⟩
 dsimp only at hsz
 rw [← hk] at hsz
 refine dd 7 rfl cq ?_
 refine ar (i := 0) rfl ab (aB cw rfl) av av rfl (ah (ah aq)) (by kernel_rfl) rfl ?_
 refine ar (i := 1) rfl ab (aJ 0 aD rfl rfl rfl rfl) av av rfl (ah (ah aq)) (by kernel_rfl) rfl ?_
 refine ar (i := 3) rfl ab (aB eg rfl) av av rfl (ah (ah aq)) (by kernel_rfl) rfl ?_
 refine ar (i := 4) rfl ab (aF 0 ed rfl rfl rfl) av av rfl (ah (ah aq)) (by kernel_rfl) rfl ?_
 refine cA (i := 2) rfl rfl rfl (bd rfl ent_109) (by kernel_rfl) rfl ?_
 refine aO rfl ent_109 (c_rwide r.base) rfl ?_
 refine ae ?_
 refine dq av ?_
 refine ar (i := 5) rfl ab (y_subi rfl rfl (by omega) (by omega)) av av rfl (ah (ah aq)) (by kernel_rfl) rfl ?_
 refine ar (i := 6) rfl ab (ai rfl) av av rfl (ah (ah aq)) (by kernel_rfl) rfl ?_
 refine bK (by kernel_rfl) ?_
 refine aj ?_
 refine ak ?_
 refine aa ?_
 refine ap (ao rfl) rfl rfl ?_
 refine ap (y_min rfl rfl) rfl rfl ?_
 refine ap (y_shl rfl rfl (by omega)) rfl rfl ?_
 refine ap (cG rfl rfl) rfl rfl ?_
 refine aH (t := 16) rfl (fun h4_3 => ?_) (fun h4_3 => ?_)
 refine ae ?_
 refine aj ?_
 refine ax rfl ?_
 refine ak ?_
 refine aa ?_
 refine ap (ao rfl) rfl rfl ?_
 refine ap (y_shl rfl rfl (by omega)) rfl rfl ?_
 refine ap (ai rfl) rfl rfl ?_
 refine ae ?_
 refine aj ?_
 refine aC ?_
 refine aw ?_
 refine aI (ts := [2]) rfl rfl rfl (fun w hw => ?_)
 exact ⟨by rw [bF, if_neg (fun h => h hz), if_pos (by have := hsz.1.1 h4_3; omega), hsz.2 (hsz.1.1 h4_3), hk]; rfl, hw.base⟩
 refine ae ?_
 refine aj ?_
 refine ay rfl ?_
 refine aM ?_
 refine aj ?_
 refine ak ?_
 refine aa ?_
 refine ap (ai rfl) rfl rfl ?_
 refine ae ?_
 refine aj ?_
 refine aC ?_
 refine aI (ts := [2]) rfl rfl rfl (fun w hw => ?_)
 exact ⟨by rw [bF, if_neg (fun h => h hz), if_neg (by have := fun e => h4_3 (hsz.1.2 e); omega)]; rfl, hw.base⟩

theorem c_addr_Add (a : Ad) (d : Int) (h0 : 0 ≤ a.lo ∧ a.lo ≤ 18446744073709551615) (h1 : 0 ≤ a.hi) (hd : 0 ≤ d ∧ d ≤ 18446744073709551615) : RC Try.prog 110 #[.agg (c5 a).toArray, .int .u64 d] [] (α := Unit) (fun _ => .tuple #[.agg (c5 (bq a d).1).toArray, .bool (bq a d).2]) (fun _ => []) := by
 refine aY (args := [.agg (c5 a).toArray, .int .u64 d]) 45 Try.func110 rfl rfl rfl (fun w0 => ?_)
 refine ak ?_
 refine aa ?_
 refine bj rfl rfl rfl (fun b1 => ?_)
 refine a0 aD rfl rfl (fun b2 => ?_)
 refine ap (ai rfl) rfl rfl ?_
 refine ae ?_
 refine aj ?_
 refine ak ?_
 refine ak ?_
 refine aa ?_
 refine ap (aJ 1 aD rfl rfl rfl rfl) rfl rfl ?_
 refine aO rfl db (cc a h0.1) rfl ?_
 refine ap (cN rfl rfl) rfl rfl ?_
 refine aH (t := 11) rfl (fun h1_2 => ?_) (fun h1_2 => ?_)
 refine ae ?_
 refine aj ?_
 refine ax rfl ?_
 refine ak ?_
 refine aa ?_
 refine ap (a5 rfl (cS)) rfl rfl ?_
 refine aE aD rfl rfl rfl .z rfl rfl rfl rfl ?_
 refine ap (ai rfl) rfl rfl ?_
 refine ae ?_
 refine aj ?_
 refine aC ?_
 refine aw ?_
 refine cO (rs := [.cell 4 62, .tmp 5]) rfl (aZ 0 aD rfl rfl rfl rfl (ck rfl bi)) rfl (fun w hw => ?_)
 focus first
   | (have hA : bq a d = (ad0, false) := if_pos h1_2
      exact ⟨(), by rw [hA]; rfl, hw.base, (hw.weak (List.nil_sublist _) (fun s hs => hs)).toNews⟩)
   | (have hA : bq a d = (ad0, false) := by rw [bq, if_neg h1_2, if_pos (by first | exact .inl (hc.symm ▸ h7_1) | exact .inr (hs.symm ▸ h7_5))]
      exact ⟨(), by rw [hA]; rfl, hw.base, (hw.weak (List.nil_sublist _) (fun s hs => hs)).toNews⟩)
   | (have hA : bq a d = (sumA a d, true) := by rw [bq, if_neg h1_2, if_neg (fun h => h.elim (fun e => h7_1 (hc ▸ e)) (fun e => h7_5 (hs ▸ e)))]
      exact ⟨(), by rw [hA, hs]; rfl, hw.base, (hw.weak (List.nil_sublist _) (fun s hs => hs)).toNews⟩)
   | (trace_state; fail)
 refine ae ?_
 refine aj ?_
 refine ay rfl ?_
 refine aM ?_
 refine aj ?_
 refine ak ?_
 refine aa ?_
 refine ap (aB dL rfl) rfl rfl ?_
 refine ap (aF 1 dr rfl rfl rfl) rfl rfl ?_
 refine ap (ao rfl) rfl rfl ?_
 refine ap (y_add64 Try.func148 (by kernel_rfl) (by kernel_rfl) (by kernel_rfl) (by kernel_rfl) rfl rfl rfl h0.1 hd.1 (by decide)) rfl rfl ?_
 refine bD (t := 17) (.tuple #[.int .u64 (loS a d), .int .u64 (loC a d)]) rfl rfl ?_
 refine ap (ao rfl) rfl rfl ?_
 refine ap (aA rfl rfl) rfl rfl ?_
 refine ap (aA rfl rfl) rfl rfl ?_
 refine ap (ai rfl) rfl rfl ?_
 refine ap (ai rfl) rfl rfl ?_
 refine ae ?_
 refine aj ?_
 refine ak ?_
 refine aa ?_
 refine ap (aB da rfl) rfl rfl ?_
 refine ap (aF 1 ty_4 rfl rfl rfl) rfl rfl ?_
 refine ap (aB dJ rfl) rfl rfl ?_
 refine ap (aF 1 dr rfl rfl rfl) rfl rfl ?_
 refine ap (ao rfl) rfl rfl ?_
 refine ap (a5 rfl (bu_62_0_1_2 _ _ _)) rfl rfl ?_
 refine a0 aD rfl rfl (fun b3 => ?_)
 refine aE aD rfl rfl rfl .z rfl rfl rfl rfl ?_
 refine ae ?_
 refine aj ?_
 refine ak ?_
 refine ak ?_
 refine aa ?_
 refine ap (aB da rfl) rfl rfl ?_
 refine ap (aF 2 ty_4 rfl rfl rfl) rfl rfl ?_
 refine bg (t := 27) rfl (fun h5_1 => ?_) (fun h5_1 => ?_)
 have hs : sumA a d = ⟨a.six, hiS a d, loS a d⟩ := if_pos h5_1
 have hc : carA a d = hiC a d := if_pos h5_1
 refine ae ?_
 refine aj ?_
 refine ax rfl ?_
 refine aa ?_
 refine ap (aB dJ rfl) rfl rfl ?_
 refine ap (aF 2 dr rfl rfl rfl) rfl rfl ?_
 refine ap (ao rfl) rfl rfl ?_
 refine ap (y_add64 Try.func148 (by kernel_rfl) (by kernel_rfl) (by kernel_rfl) (by kernel_rfl) rfl rfl rfl h1 (by decide) (loC_rng h0 hd)) rfl rfl ?_
 refine bD (t := 32) (.tuple #[.int .u64 (hiS a d), .int .u64 (hiC a d)]) rfl rfl ?_
 refine ap (ao rfl) rfl rfl ?_
 refine ap (aA rfl rfl) rfl rfl ?_
 refine ap (aA rfl rfl) rfl rfl ?_
 refine ap (aB dJ rfl) rfl rfl ?_
 refine aE dr rfl rfl rfl .z rfl rfl rfl rfl ?_
 refine ap (ai rfl) rfl rfl ?_
 refine ae ?_
 refine aj ?_
 refine ak ?_
 refine ak ?_
 refine aa ?_
 refine ap (ao rfl) rfl rfl ?_
 refine ap (cN rfl rfl) rfl rfl ?_
 refine aH (t := 37) rfl (fun h7_1 => ?_) (fun h7_1 => ?_)
 refine ap (ao rfl) rfl rfl ?_
 refine aW rfl rfl rfl rfl ?_
 refine aW rfl rfl rfl rfl ?_
 refine aW rfl rfl rfl rfl ?_
 refine ap (aL rfl rfl) rfl rfl ?_
 refine ae ?_
 refine aj ?_
 refine ax rfl ?_
 refine ak ?_
 refine aa ?_
 refine ap (a5 rfl (cS)) rfl rfl ?_
 refine aE aD rfl rfl rfl (.s (.z)) rfl rfl rfl rfl ?_
 refine ap (ai rfl) rfl rfl ?_
 refine ae ?_
 refine aj ?_
 refine aC ?_
 refine aw ?_
 refine cO (rs := [.cell 4 62, .tmp 5]) rfl (aZ 1 aD rfl rfl rfl rfl (ck rfl bi)) rfl (fun w hw => ?_)
 focus first
   | (have hA : bq a d = (ad0, false) := if_pos h1_2
      exact ⟨(), by rw [hA]; rfl, hw.base, (hw.weak (List.nil_sublist _) (fun s hs => hs)).toNews⟩)
   | (have hA : bq a d = (ad0, false) := by rw [bq, if_neg h1_2, if_pos (by first | exact .inl (hc.symm ▸ h7_1) | exact .inr (hs.symm ▸ h7_5))]
      exact ⟨(), by rw [hA]; rfl, hw.base, (hw.weak (List.nil_sublist _) (fun s hs => hs)).toNews⟩)
   | (have hA : bq a d = (sumA a d, true) := by rw [bq, if_neg h1_2, if_neg (fun h => h.elim (fun e => h7_1 (hc ▸ e)) (fun e => h7_5 (hs ▸ e)))]
      exact ⟨(), by rw [hA, hs]; rfl, hw.base, (hw.weak (List.nil_sublist _) (fun s hs => hs)).toNews⟩)
   | (trace_state; fail)
 refine ap (ao rfl) rfl rfl ?_
 refine az rfl rfl ?_
 refine ap (aJ 0 aD rfl rfl rfl rfl) rfl rfl ?_
 refine az rfl rfl ?_
 refine aO rfl db (cc ⟨a.six, hiS a d, loS a d⟩ (loS_pos a d)) rfl ?_
 refine az rfl rfl ?_
 refine ap (cN rfl rfl) rfl rfl ?_
 refine aH (t := 41) rfl (fun h7_5 => ?_) (fun h7_5 => ?_)
 refine ap (aU rfl rfl) rfl rfl ?_
 refine ae ?_
 refine aj ?_
 refine ax rfl ?_
 refine ak ?_
 refine aa ?_
 refine ap (a5 rfl (cS)) rfl rfl ?_
 refine aE aD rfl rfl rfl (.s (.z)) rfl rfl rfl rfl ?_
 refine ap (ai rfl) rfl rfl ?_
 refine ae ?_
 refine aj ?_
 refine aC ?_
 refine aw ?_
 refine cO (rs := [.cell 4 62, .tmp 5]) rfl (aZ 1 aD rfl rfl rfl rfl (ck rfl bi)) rfl (fun w hw => ?_)
 focus first
   | (have hA : bq a d = (ad0, false) := if_pos h1_2
      exact ⟨(), by rw [hA]; rfl, hw.base, (hw.weak (List.nil_sublist _) (fun s hs => hs)).toNews⟩)
   | (have hA : bq a d = (ad0, false) := by rw [bq, if_neg h1_2, if_pos (by first | exact .inl (hc.symm ▸ h7_1) | exact .inr (hs.symm ▸ h7_5))]
      exact ⟨(), by rw [hA]; rfl, hw.base, (hw.weak (List.nil_sublist _) (fun s hs => hs)).toNews⟩)
   | (have hA : bq a d = (sumA a d, true) := by rw [bq, if_neg h1_2, if_neg (fun h => h.elim (fun e => h7_1 (hc ▸ e)) (fun e => h7_5 (hs ▸ e)))]
      exact ⟨(), by rw [hA, hs]; rfl, hw.base, (hw.weak (List.nil_sublist _) (fun s hs => hs)).toNews⟩)
   | (trace_state; fail)
 refine ap (aU rfl rfl) rfl rfl ?_
 refine ae ?_
 refine aj ?_
 refine ay rfl ?_
 refine aM ?_
 refine aj ?_
 refine ak ?_
 refine aa ?_
 refine ap (aJ 0 aD rfl rfl rfl rfl) rfl rfl ?_
 refine aE aD rfl rfl rfl (.s (.z)) rfl rfl rfl rfl ?_
 refine ap (ai rfl) rfl rfl ?_
 refine ae ?_
 refine aj ?_
 refine aC ?_
 refine cO (rs := [.cell 4 62, .tmp 5]) rfl (aZ 1 aD rfl rfl rfl rfl (ck rfl bi)) rfl (fun w hw => ?_)
 focus first
   | (have hA : bq a d = (ad0, false) := if_pos h1_2
      exact ⟨(), by rw [hA]; rfl, hw.base, (hw.weak (List.nil_sublist _) (fun s hs => hs)).toNews⟩)
   | (have hA : bq a d = (ad0, false) := by rw [bq, if_neg h1_2, if_pos (by first | exact .inl (hc.symm ▸ h7_1) | exact .inr (hs.symm ▸ h7_5))]
      exact ⟨(), by rw [hA]; rfl, hw.base, (hw.weak (List.nil_sublist _) (fun s hs => hs)).toNews⟩)
   | (have hA : bq a d = (sumA a d, true) := by rw [bq, if_neg h1_2, if_neg (fun h => h.elim (fun e => h7_1 (hc ▸ e)) (fun e => h7_5 (hs ▸ e)))]
      exact ⟨(), by rw [hA, hs]; rfl, hw.base, (hw.weak (List.nil_sublist _) (fun s hs => hs)).toNews⟩)
   | (trace_state; fail)
 have hs : sumA a d = ⟨a.six, a.hi, loS a d⟩ := if_neg (by rw [h5_1]; decide)
 have hc : carA a d = loC a d := if_neg (by rw [h5_1]; decide)
 refine ae ?_
 refine aj ?_
 refine ay rfl ?_
 refine aM ?_
 refine aj ?_
 refine ak ?_
 refine ak ?_
 refine aa ?_
 refine ap (ao rfl) rfl rfl ?_
 refine ap (cN rfl rfl) rfl rfl ?_
 refine aH (t := 37) rfl (fun h7_1 => ?_) (fun h7_1 => ?_)
 refine ap (ao rfl) rfl rfl ?_
 refine aW rfl rfl rfl rfl ?_
 refine aW rfl rfl rfl rfl ?_
 refine aW rfl rfl rfl rfl ?_
 refine ap (aL rfl rfl) rfl rfl ?_
 refine ae ?_
 refine aj ?_
 refine ax rfl ?_
 refine ak ?_
 refine aa ?_
 refine ap (a5 rfl (cS)) rfl rfl ?_
 refine aE aD rfl rfl rfl (.s (.z)) rfl rfl rfl rfl ?_
 refine ap (ai rfl) rfl rfl ?_
 refine ae ?_
 refine aj ?_
 refine aC ?_
 refine aw ?_
 refine cO (rs := [.cell 4 62, .tmp 5]) rfl (aZ 1 aD rfl rfl rfl rfl (ck rfl bi)) rfl (fun w hw => ?_)
 focus first
   | (have hA : bq a d = (ad0, false) := if_pos h1_2
      exact ⟨(), by rw [hA]; rfl, hw.base, (hw.weak (List.nil_sublist _) (fun s hs => hs)).toNews⟩)
   | (have hA : bq a d = (ad0, false) := by rw [bq, if_neg h1_2, if_pos (by first | exact .inl (hc.symm ▸ h7_1) | exact .inr (hs.symm ▸ h7_5))]
      exact ⟨(), by rw [hA]; rfl, hw.base, (hw.weak (List.nil_sublist _) (fun s hs => hs)).toNews⟩)
   | (have hA : bq a d = (sumA a d, true) := by rw [bq, if_neg h1_2, if_neg (fun h => h.elim (fun e => h7_1 (hc ▸ e)) (fun e => h7_5 (hs ▸ e)))]
      exact ⟨(), by rw [hA, hs]; rfl, hw.base, (hw.weak (List.nil_sublist _) (fun s hs => hs)).toNews⟩)
   | (trace_state; fail)
 refine ap (ao rfl) rfl rfl ?_
 refine az rfl rfl ?_
 refine ap (aJ 0 aD rfl rfl rfl rfl) rfl rfl ?_
 refine az rfl rfl ?_
 refine aO rfl db (cc ⟨a.six, a.hi, loS a d⟩ (loS_pos a d)) rfl ?_
 refine az rfl rfl ?_
 refine ap (cN rfl rfl) rfl rfl ?_
 refine aH (t := 41) rfl (fun h7_5 => ?_) (fun h7_5 => ?_)
 refine ap (aU rfl rfl) rfl rfl ?_
 refine ae ?_
 refine aj ?_
 refine ax rfl ?_
 refine ak ?_
 refine aa ?_
 refine ap (a5 rfl (cS)) rfl rfl ?_
 refine aE aD rfl rfl rfl (.s (.z)) rfl rfl rfl rfl ?_
 refine ap (ai rfl) rfl rfl ?_
 refine ae ?_
 refine aj ?_
 refine aC ?_
 refine aw ?_
 refine cO (rs := [.cell 4 62, .tmp 5]) rfl (aZ 1 aD rfl rfl rfl rfl (ck rfl bi)) rfl (fun w hw => ?_)
 focus first
   | (have hA : bq a d = (ad0, false) := if_pos h1_2
      exact ⟨(), by rw [hA]; rfl, hw.base, (hw.weak (List.nil_sublist _) (fun s hs => hs)).toNews⟩)
   | (have hA : bq a d = (ad0, false) := by rw [bq, if_neg h1_2, if_pos (by first | exact .inl (hc.symm ▸ h7_1) | exact .inr (hs.symm ▸ h7_5))]
      exact ⟨(), by rw [hA]; rfl, hw.base, (hw.weak (List.nil_sublist _) (fun s hs => hs)).toNews⟩)
   | (have hA : bq a d = (sumA a d, true) := by rw [bq, if_neg h1_2, if_neg (fun h => h.elim (fun e => h7_1 (hc ▸ e)) (fun e => h7_5 (hs ▸ e)))]
      exact ⟨(), by rw [hA, hs]; rfl, hw.base, (hw.weak (List.nil_sublist _) (fun s hs => hs)).toNews⟩)
   | (trace_state; fail)
 refine ap (aU rfl rfl) rfl rfl ?_
 refine ae ?_
 refine aj ?_
 refine ay rfl ?_
 refine aM ?_
 refine aj ?_
 refine ak ?_
 refine aa ?_
 refine ap (aJ 0 aD rfl rfl rfl rfl) rfl rfl ?_
 refine aE aD rfl rfl rfl (.s (.z)) rfl rfl rfl rfl ?_
 refine ap (ai rfl) rfl rfl ?_
 refine ae ?_
 refine aj ?_
 refine aC ?_
 refine cO (rs := [.cell 4 62, .tmp 5]) rfl (aZ 1 aD rfl rfl rfl rfl (ck rfl bi)) rfl (fun w hw => ?_)
 focus first
   | (have hA : bq a d = (ad0, false) := if_pos h1_2
      exact ⟨(), by rw [hA]; rfl, hw.base, (hw.weak (List.nil_sublist _) (fun s hs => hs)).toNews⟩)
   | (have hA : bq a d = (ad0, false) := by rw [bq, if_neg h1_2, if_pos (by first | exact .inl (hc.symm ▸ h7_1) | exact .inr (hs.symm ▸ h7_5))]
      exact ⟨(), by rw [hA]; rfl, hw.base, (hw.weak (List.nil_sublist _) (fun s hs => hs)).toNews⟩)
   | (have hA : bq a d = (sumA a d, true) := by rw [bq, if_neg h1_2, if_neg (fun h => h.elim (fun e => h7_1 (hc ▸ e)) (fun e => h7_5 (hs ▸ e)))]
      exact ⟨(), by rw [hA, hs]; rfl, hw.base, (hw.weak (List.nil_sublist _) (fun s hs => hs)).toNews⟩)
   | (trace_state; fail)
end Go.Proofs.Ytnpdgmoeoidppaa
