import Derived.Test.YtnpdgmoeoidppaaGreatLxQh
/- ranges of addresses -/
namespace Go.Proofs.YtnpdgmoeoidppaaGreat
open Go.RowKit Go.Shelf
set_option linter.unusedVariables false
set_option linter.unusedSimpArgs false

theorem eJ : Tryz.prog.built 29 [] = some [.bool false, .int .u64 0, .int .u64 0].toArray := by kernel_rfl
theorem bu_29_0_1_2 (x0 : Bool) (x1 : Int) (x2 : Int) : Tryz.prog.built 29 [(0, .bool x0), (1, .int .u64 x1), (2, .int .u64 x2)] = some [.bool x0, .int .u64 x1, .int .u64 x2].toArray := by kernel_rfl
theorem ent_110 : Enters Tryz.prog 110 := enters_of Tryz.func110 (by kernel_rfl) rfl
theorem ent_166 : Enters Tryz.prog 166 := enters_of Tryz.func166 (by kernel_rfl) rfl
theorem ent_179 : Enters Tryz.prog 179 := enters_of Tryz.func179 (by kernel_rfl) rfl
theorem fL : Enters Tryz.prog 220 := enters_of Tryz.func220 (by kernel_rfl) rfl
theorem cg : FA Tryz.prog 64 0 0 := fun b o w => by kernel_rfl
theorem dM : FA Tryz.prog 64 1 3 := fun b o w => by kernel_rfl
theorem bR : TyI Tryz.prog 64 true 4 32 (.agg #[.bool false, .int .u64 0, .int .u64 0, .int .i64 0]) := TyI.mk' (by kernel_rfl) (fun _ => by kernel_rfl)

/-- A range: its base, its bits. -/
structure Rg where
  base : Ad
  bits : Int
def dJ (r : Rg) : List Value := [.bool r.base.six, .int .u64 r.base.hi, .int .u64 r.base.lo, .int .i64 r.bits]
theorem fC : Enc dJ 4 := ⟨fun _ => rfl, fun _ => rfl⟩
def rg0 : Rg := ⟨ad0, 0⟩
def RgOk (r : Rg) : Prop := fg r.base ∧ -9223372036854775808 ≤ r.bits ∧ r.bits ≤ 9223372036854775807
def bO (a : Ad) : Int := if a.six = true then 128 else 32
theorem eO (a : Ad) : 32 ≤ bO a ∧ bO a ≤ 128 := by unfold bO; split <;> omega
def dm (b n : Int) : Int := if b ≤ 0 then 0 else if n ≤ b then 2 ^ n.toNat - 1 else (2 ^ b.toNat - 1) * 2 ^ (n - b).toNat
def mskW (b n : Int) : Int := IntKind.u64.wrap (IntKind.u64.wrap (IntKind.u64.wrap (1 * 2 ^ min b.toNat IntKind.u64.bits) - 1) * 2 ^ min (n - b).toNat IntKind.u64.bits)
def mskF (n : Int) : Int := IntKind.u64.wrap (IntKind.u64.wrap (1 * 2 ^ min n.toNat IntKind.u64.bits) - 1)
theorem msk_full {n : Int} (hn : n = 32 ∨ n = 64) : mskF n = 2 ^ n.toNat - 1 := by
  rcases hn with rfl | rfl <;> decide +kernel
theorem msk_all : ∀ k : Fin 64, 0 < k.val → (k.val < 32 → mskW (k.val : Int) 32 = dm (k.val : Int) 32) ∧ mskW (k.val : Int) 64 = dm (k.val : Int) 64 := by decide +kernel
theorem msk_mid {b n : Int} (hn : n = 32 ∨ n = 64) (h : 0 < b) (h2 : b < n) : mskW b n = dm b n := by
  obtain ⟨k, rfl⟩ : ∃ k : Nat, b = k := ⟨b.toNat, by omega⟩
  have := msk_all ⟨k, by omega⟩ (by show 0 < k; omega)
  rcases hn with rfl | rfl
  · exact this.1 (by show k < 32; omega)
  · exact this.2
def andI (a b : Int) : Int := bits .and .u64 a b
def eP (a : Ad) (b : Int) : Ad := if a.six = true then ⟨a.six, andI a.hi (dm b 64), andI a.lo (dm (b - 64) 64)⟩ else ⟨a.six, a.hi, andI a.lo (dm b 32)⟩
def bY (r : Rg) : Int := if bK r.base ≠ 0 ∨ r.bits < 0 ∨ bO r.base < r.bits ∨ eP r.base r.bits ≠ r.base then 2 else 0
theorem eS {r : Rg} (h : bY r = 0) : bK r.base = 0 ∧ 0 ≤ r.bits ∧ r.bits ≤ bO r.base ∧ eP r.base r.bits = r.base := by
  unfold bY at h
  split at h
  · exact absurd h (by decide)
  · rename_i q
    refine ⟨Decidable.not_not.1 (fun e => q (.inl e)), by have := fun e => q (.inr (.inl e)); omega, by have := fun e => q (.inr (.inr (.inl e))); omega, Decidable.not_not.1 (fun e => q (.inr (.inr (.inr e))))⟩
def bE (r : Rg) (a : Ad) : Bool := decide (bY r = 0) && (decide (bK a = 0) && (decide (a.six = r.base.six) && decide (eP a r.bits = r.base)))
def bk (r : Rg) : Nat := if bY r ≠ 0 then 0 else if bO r.base - r.bits < 16 then 2 ^ (bO r.base - r.bits).toNat else 65536
theorem sz_all : ∀ k : Fin 129, (IntKind.i64.wrap (1 * 2 ^ min (if (30 : Int) < (k.val : Int) then (30 : Int) else (k.val : Int)).toNat IntKind.i64.bits) < 65536 ↔ k.val < 16) ∧ (k.val < 16 → IntKind.i64.wrap (1 * 2 ^ min ((k.val : Int)).toNat IntKind.i64.bits) = 2 ^ k.val) := by decide +kernel
theorem dB (r : Rg) : bk r ≤ 65536 := by
  unfold bk
  split
  · omega
  · split
    · rename_i h
      have : (bO r.base - r.bits).toNat ≤ 15 := by omega
      calc 2 ^ (bO r.base - r.bits).toNat ≤ 2 ^ 15 := Nat.pow_le_pow_right (by decide) this
        _ ≤ 65536 := by decide
    · omega
def loS (a : Ad) (d : Int) : Int := (a.lo + d + 0) % 18446744073709551616
def loC (a : Ad) (d : Int) : Int := (a.lo + d + 0) / 18446744073709551616
def hiS (a : Ad) (d : Int) : Int := (a.hi + 0 + loC a d) % 18446744073709551616
def hiC (a : Ad) (d : Int) : Int := (a.hi + 0 + loC a d) / 18446744073709551616
def fR (a : Ad) (d : Int) : Ad := if a.six = true then ⟨a.six, hiS a d, loS a d⟩ else ⟨a.six, a.hi, loS a d⟩
def carA (a : Ad) (d : Int) : Int := if a.six = true then hiC a d else loC a d
theorem loS_pos (a : Ad) (d : Int) : 0 ≤ loS a d := by unfold loS; omega
theorem loC_rng {a : Ad} {d : Int} (h0 : 0 ≤ a.lo ∧ a.lo ≤ 18446744073709551615) (hd : 0 ≤ d ∧ d ≤ 18446744073709551615) : 0 ≤ loC a d ∧ loC a d ≤ 1 := by unfold loC; omega
def bU (a : Ad) (d : Int) : Ad × Bool := if bK a ≠ 0 then (ad0, false) else if carA a d ≠ 0 ∨ bK (fR a d) ≠ 0 then (ad0, false) else (fR a d, true)
def atR (r : Rg) (i : Int) : Ad × Bool := if i < 0 ∨ (bk r : Int) ≤ i then (ad0, false) else bU r.base i
def cY (r : Rg) : List Ad := (List.range (bk r)).map fun i : Nat => (bU r.base i).1
def bT (r : Rg) (res : List Rg) : Nat := ((cY r).filter fun a => !(res.any fun x => bE x a)).length
theorem ad0_lo : (0 : Int) ≤ ad0.lo := by decide
theorem addA_lo (a : Ad) (d : Int) : 0 ≤ (bU a d).1.lo := by
  have h : 0 ≤ loS a d := loS_pos a d
  unfold bU
  split
  · exact ad0_lo
  · split
    · exact ad0_lo
    · unfold fR; split <;> exact h
theorem dq (r : Rg) : (cY r).length = bk r := by rw [cY, List.length_map, List.length_range]

theorem c_rwide (a : Ad) : cC Tryz.prog 166 #[.agg (dC a).toArray] (.int .i64 (bO a)) := by
 intro w0
 refine a6 (ok0 := no) (S := []) (args := [.agg (dC a).toArray]) 5 Tryz.func166 rfl rfl rfl (by simp) (by simp) ?_
 refine ao ?_
 refine ab ?_
 refine bx rfl rfl rfl (fun b1 => ?_)
 refine ap (ai rfl) rfl rfl ?_
 refine ae ?_
 refine aj ?_
 refine ao ?_
 refine ao ?_
 refine ab ?_
 refine ap (aD cT rfl) rfl rfl ?_
 refine ap (aM 0 gy rfl rfl rfl) rfl rfl ?_
 refine bl (t := 4) rfl (fun h1_1 => ?_) (fun h1_1 => ?_)
 refine ae ?_
 refine aj ?_
 refine ay rfl ?_
 refine ao ?_
 refine ab ?_
 refine ap (ai rfl) rfl rfl ?_
 refine ae ?_
 refine aj ?_
 refine aH ?_
 refine az ?_
 refine aN (ts := [2]) rfl rfl rfl (fun w hw => ?_)
 exact ⟨by rw [bO, if_pos h1_1]; rfl, hw.base⟩
 refine ae ?_
 refine aj ?_
 refine aw rfl ?_
 refine aL ?_
 refine aj ?_
 refine ao ?_
 refine ab ?_
 refine ap (ai rfl) rfl rfl ?_
 refine ae ?_
 refine aj ?_
 refine aH ?_
 refine aN (ts := [2]) rfl rfl rfl (fun w hw => ?_)
 exact ⟨by rw [bO, if_neg (by rw [h1_1]; decide)]; rfl, hw.base⟩

theorem c_mask (b n : Int) (hn : n = 32 ∨ n = 64) : cC Tryz.prog 220 #[.int .i64 b, .int .i64 n] (.int .u64 (dm b n)) := by
 intro w0
 refine a6 (ok0 := no) (S := []) (args := [.int .i64 b, .int .i64 n]) 22 Tryz.func220 rfl rfl rfl (by simp) (by simp) ?_
 refine ao ?_
 refine ab ?_
 refine ap (ai rfl) rfl rfl ?_
 refine ae ?_
 refine aj ?_
 refine ao ?_
 refine aT ?_
 refine ao ?_
 refine ab ?_
 refine ap (ak rfl) rfl rfl ?_
 refine ap (y_leq rfl rfl) rfl rfl ?_
 refine aG (t := 7) rfl (fun h1_1 => ?_) (fun h1_1 => ?_)
 refine ap (ai rfl) rfl rfl ?_
 refine ae ?_
 refine aj ?_
 refine ay rfl ?_
 refine ao ?_
 refine ab ?_
 refine ap (ai rfl) rfl rfl ?_
 refine ae ?_
 refine aj ?_
 refine aH ?_
 refine aU ?_
 refine az ?_
 refine aN (ts := [4]) rfl rfl rfl (fun w hw => ?_)
 exact ⟨by rw [dm, if_pos (by omega)]; rfl, hw.base⟩
 refine ap (ai rfl) rfl rfl ?_
 refine ae ?_
 refine aj ?_
 refine aw rfl ?_
 refine ao ?_
 refine ab ?_
 refine ap (ak rfl) rfl rfl ?_
 refine ap (ak rfl) rfl rfl ?_
 refine ap (fu rfl rfl) rfl rfl ?_
 refine aG (t := 11) rfl (fun h3_2 => ?_) (fun h3_2 => ?_)
 refine ap (ai rfl) rfl rfl ?_
 refine ae ?_
 refine aj ?_
 refine ay rfl ?_
 refine ao ?_
 refine ab ?_
 refine ap (ak rfl) rfl rfl ?_
 refine ap (y_shl rfl rfl (by omega)) rfl rfl ?_
 refine ap (y_sub rfl rfl) rfl rfl ?_
 refine ap (ai rfl) rfl rfl ?_
 refine ae ?_
 refine aj ?_
 refine aH ?_
 refine aU ?_
 refine az ?_
 refine aN (ts := [4]) rfl rfl rfl (fun w hw => ?_)
 exact ⟨by rw [dm, if_neg (by omega), if_pos (by omega), ← msk_full hn]; rfl, hw.base⟩
 refine ap (ai rfl) rfl rfl ?_
 refine ae ?_
 refine aj ?_
 refine aw rfl ?_
 refine aL ?_
 refine bw ?_
 refine aj ?_
 refine ao ?_
 refine ab ?_
 refine ap (ak rfl) rfl rfl ?_
 refine ap (y_shl rfl rfl (by omega)) rfl rfl ?_
 refine ap (y_sub rfl rfl) rfl rfl ?_
 refine ap (ak rfl) rfl rfl ?_
 refine ap (ak rfl) rfl rfl ?_
 refine ap (fb rfl rfl (by omega) (by omega)) rfl rfl ?_
 refine ap (y_shl rfl rfl (by omega)) rfl rfl ?_
 refine ap (ai rfl) rfl rfl ?_
 refine ae ?_
 refine aj ?_
 refine aH ?_
 refine aN (ts := [4]) rfl rfl rfl (fun w hw => ?_)
 exact ⟨by rw [← msk_mid hn (by omega) (by omega)]; rfl, hw.base⟩

set_option maxRecDepth 100000 in
theorem c_head (a : Ad) (b : Int) (hb : 0 ≤ b ∧ b ≤ 128) : RC Tryz.prog 179 #[.agg (dC a).toArray, .int .i64 b] [] (α := Unit) (fun _ => .agg (dC (eP a b)).toArray) (fun _ => []) := by
 refine bh (args := [.agg (dC a).toArray, .int .i64 b]) 29 Tryz.func179 rfl rfl rfl (fun w0 => ?_)
 refine ao ?_
 refine ab ?_
 refine bx rfl rfl rfl (fun b1 => ?_)
 refine bj aO rfl rfl (fun b2 => ?_)
 refine ae ?_
 refine aj ?_
 refine ao ?_
 refine ao ?_
 refine ab ?_
 refine ap (aD cT rfl) rfl rfl ?_
 refine ap (aM 1 gy rfl rfl rfl) rfl rfl ?_
 refine bl (t := 6) rfl (fun h1_1 => ?_) (fun h1_1 => ?_)
 refine ap (bJ rfl) rfl rfl ?_
 refine ae ?_
 refine aj ?_
 refine aw rfl ?_
 refine aL ?_
 refine aj ?_
 refine ao ?_
 refine dH 6 rfl mixed ?_
 refine aB (i := 0) rfl ah (aD dc rfl) au au rfl (aa aq) (by kernel_rfl) rfl ?_
 refine aB (i := 1) rfl ah (aM 1 co rfl rfl rfl) au au rfl (aa aq) (by kernel_rfl) rfl ?_
 refine aB (i := 2) rfl ah (ak rfl) au au rfl (aa aq) (by kernel_rfl) rfl ?_
 refine cB (i := 3) rfl rfl rfl (a8 rfl fL) (by kernel_rfl) rfl ?_
 refine aR rfl fL (c_mask _ _ (by first | exact .inl rfl | exact .inr rfl)) rfl ?_
 refine ae ?_
 refine cN au ?_
 refine aB (i := 4) rfl ah (y_and rfl rfl) au au rfl (aa aq) (by kernel_rfl) rfl ?_
 refine aB (i := 5) rfl ah (aD dc rfl) au au rfl (aa aq) (by kernel_rfl) rfl ?_
 refine cB (i := 6) rfl rfl rfl (fun _ _ _ => bo (by kernel_rfl)) (by kernel_rfl) rfl ?_
 refine aS co rfl rfl rfl (.s (.z)) rfl rfl rfl rfl ?_
 refine ae ?_
 refine e_tail rfl ?_
 refine cm (by kernel_rfl) ?_
 refine aj ?_
 refine ao ?_
 refine dH 7 rfl mixed ?_
 refine aB (i := 0) rfl ah (aD ce rfl) au au rfl (aa aq) (by kernel_rfl) rfl ?_
 refine aB (i := 1) rfl ah (aM 1 co rfl rfl rfl) au au rfl (aa aq) (by kernel_rfl) rfl ?_
 refine aB (i := 2) rfl ah (ak rfl) au au rfl (aa aq) (by kernel_rfl) rfl ?_
 refine aB (i := 3) rfl ah (fb rfl rfl (by omega) (by omega)) au au rfl (aa aq) (by kernel_rfl) rfl ?_
 refine cB (i := 4) rfl rfl rfl (a8 rfl fL) (by kernel_rfl) rfl ?_
 refine aR rfl fL (c_mask _ _ (by first | exact .inl rfl | exact .inr rfl)) rfl ?_
 refine ae ?_
 refine cN au ?_
 refine aB (i := 5) rfl ah (y_and rfl rfl) au au rfl (aa aq) (by kernel_rfl) rfl ?_
 refine aB (i := 6) rfl ah (aD ce rfl) au au rfl (aa aq) (by kernel_rfl) rfl ?_
 refine cB (i := 7) rfl rfl rfl (fun _ _ _ => bo (by kernel_rfl)) (by kernel_rfl) rfl ?_
 refine aS co rfl rfl rfl (.s (.z)) rfl rfl rfl rfl ?_
 refine ae ?_
 refine e_tail rfl ?_
 refine cm (by kernel_rfl) ?_
 refine aj ?_
 refine ao ?_
 refine ab ?_
 refine ap (aI 1 aO rfl rfl rfl rfl) rfl rfl ?_
 refine aS aO rfl rfl rfl .z rfl rfl rfl rfl ?_
 refine ae ?_
 refine aj ?_
 refine aH ?_
 refine dp (rs := [.cell 4 29]) rfl (bq 0 aO rfl rfl rfl rfl bM) rfl (fun w hw => ?_)
 exact ⟨(), by rw [eP, if_pos h1_1]; rfl, hw.base, (hw.weak (List.nil_sublist _) (fun s hs => hs)).toNews⟩
 refine ap (bJ rfl) rfl rfl ?_
 refine ae ?_
 refine aj ?_
 refine ay rfl ?_
 refine ao ?_
 refine dH 6 rfl mixed ?_
 refine aB (i := 0) rfl ah (aD ce rfl) au au rfl (aa (aa aq)) (by kernel_rfl) rfl ?_
 refine aB (i := 1) rfl ah (aM 1 co rfl rfl rfl) au au rfl (aa (aa aq)) (by kernel_rfl) rfl ?_
 refine aB (i := 2) rfl ah (ak rfl) au au rfl (aa (aa aq)) (by kernel_rfl) rfl ?_
 refine cB (i := 3) rfl rfl rfl (a8 rfl fL) (by kernel_rfl) rfl ?_
 refine aR rfl fL (c_mask _ _ (by first | exact .inl rfl | exact .inr rfl)) rfl ?_
 refine ae ?_
 refine cN au ?_
 refine aB (i := 4) rfl ah (y_and rfl rfl) au au rfl (aa (aa aq)) (by kernel_rfl) rfl ?_
 refine aB (i := 5) rfl ah (aD ce rfl) au au rfl (aa (aa aq)) (by kernel_rfl) rfl ?_
 refine cB (i := 6) rfl rfl rfl (fun _ _ _ => bo (by kernel_rfl)) (by kernel_rfl) rfl ?_
 refine aS co rfl rfl rfl (.s (.z)) rfl rfl rfl rfl ?_
 refine ae ?_
 refine e_tail rfl ?_
 refine cm (by kernel_rfl) ?_
 refine aj ?_
 refine ao ?_
 refine ab ?_
 refine ap (aI 1 aO rfl rfl rfl rfl) rfl rfl ?_
 refine aS aO rfl rfl rfl .z rfl rfl rfl rfl ?_
 refine ae ?_
 refine aj ?_
 refine aH ?_
 refine az ?_
 refine dp (rs := [.cell 4 29]) rfl (bq 0 aO rfl rfl rfl rfl bM) rfl (fun w hw => ?_)
 exact ⟨(), by rw [eP, if_neg (by rw [h1_1]; decide)]; rfl, hw.base, (hw.weak (List.nil_sublist _) (fun s hs => hs)).toNews⟩

set_option maxRecDepth 100000 in
theorem c_rCheck (r : Rg) (h0 : 0 ≤ r.base.lo) : cC Tryz.prog 110 #[.agg (dJ r).toArray] (.int .i64 (bY r)) := by
 intro w0
 refine a6 (ok0 := no) (S := []) (args := [.agg (dJ r).toArray]) 30 Tryz.func110 rfl rfl rfl (by simp) (by simp) ?_
 refine ao ?_
 refine ab ?_
 refine bx rfl rfl rfl (fun b1 => ?_)
 refine ap (ai rfl) rfl rfl ?_
 refine ae ?_
 refine aj ?_
 refine ao ?_
 refine ao ?_
 refine dH 27 rfl mixed ?_
 refine aB (i := 0) rfl ah (aD cg rfl) au au rfl (aa (aa aq)) (by kernel_rfl) rfl ?_
 refine aB (i := 1) rfl ah (aI 0 aO rfl rfl rfl rfl) au au rfl (aa (aa aq)) (by kernel_rfl) rfl ?_
 refine cB (i := 2) rfl rfl rfl (a8 rfl gh) (by kernel_rfl) rfl ?_
 refine aR rfl gh (dx r.base h0) rfl ?_
 refine ae ?_
 refine cN au ?_
 refine aB (i := 3) rfl ah (cc rfl rfl) au au rfl (aa (aa aq)) (by kernel_rfl) rfl ?_
 refine cH (t := 6) rfl (fun h1_3 => ?_) (fun h1_3 => ?_)
 refine aB (i := 4) rfl ah (ak rfl) au au rfl (aa (aa aq)) (by kernel_rfl) rfl ?_
 refine aV (i := 5) rfl (av rfl rfl rfl) au rfl (aa (aa aq)) (by kernel_rfl) rfl ?_
 refine aV (i := 6) rfl (av rfl rfl rfl) au rfl (aa (aa aq)) (by kernel_rfl) rfl ?_
 refine aV (i := 7) rfl (av rfl rfl rfl) au rfl (aa (aa aq)) (by kernel_rfl) rfl ?_
 refine aB (i := 8) rfl ah (aP rfl rfl) au au rfl (aa (aa aq)) (by kernel_rfl) rfl ?_
 refine aB (i := 9) rfl ah (ak rfl) au au rfl (aa (aa aq)) (by kernel_rfl) rfl ?_
 refine aV (i := 10) rfl (av rfl rfl rfl) au rfl (aa (aa aq)) (by kernel_rfl) rfl ?_
 refine aV (i := 11) rfl (av rfl rfl rfl) au rfl (aa (aa aq)) (by kernel_rfl) rfl ?_
 refine aV (i := 12) rfl (av rfl rfl rfl) au rfl (aa (aa aq)) (by kernel_rfl) rfl ?_
 refine aV (i := 13) rfl (av rfl rfl rfl) au rfl (aa (aa aq)) (by kernel_rfl) rfl ?_
 refine aV (i := 14) rfl (av rfl rfl rfl) au rfl (aa (aa aq)) (by kernel_rfl) rfl ?_
 refine aV (i := 15) rfl (av rfl rfl rfl) au rfl (aa (aa aq)) (by kernel_rfl) rfl ?_
 refine aB (i := 16) rfl ah (aP rfl rfl) au au rfl (aa (aa aq)) (by kernel_rfl) rfl ?_
 refine aB (i := 17) rfl ah (ak rfl) au au rfl (aa (aa aq)) (by kernel_rfl) rfl ?_
 refine aV (i := 18) rfl (av rfl rfl rfl) au rfl (aa (aa aq)) (by kernel_rfl) rfl ?_
 refine aV (i := 19) rfl (av rfl rfl rfl) au rfl (aa (aa aq)) (by kernel_rfl) rfl ?_
 refine aV (i := 20) rfl (av rfl rfl rfl) au rfl (aa (aa aq)) (by kernel_rfl) rfl ?_
 refine aV (i := 21) rfl (av rfl rfl rfl) au rfl (aa (aa aq)) (by kernel_rfl) rfl ?_
 refine aV (i := 23) rfl (av rfl rfl rfl) au rfl (aa (aa aq)) (by kernel_rfl) rfl ?_
 refine aV (i := 24) rfl (av rfl rfl rfl) au rfl (aa (aa aq)) (by kernel_rfl) rfl ?_
 refine aV (i := 22) rfl (av rfl rfl rfl) au rfl (aa (aa aq)) (by kernel_rfl) rfl ?_
 refine aV (i := 25) rfl (av rfl rfl rfl) au rfl (aa (aa aq)) (by kernel_rfl) rfl ?_
 refine aB (i := 26) rfl ah (aP rfl rfl) au au rfl (aa (aa aq)) (by kernel_rfl) rfl ?_
 refine cm (by kernel_rfl) ?_
 refine aj ?_
 refine ay rfl ?_
 refine ao ?_
 refine ab ?_
 refine ap (ai rfl) rfl rfl ?_
 refine ae ?_
 refine aj ?_
 refine aH ?_
 refine az ?_
 refine aN (ts := [2]) rfl rfl rfl (fun w hw => ?_)
 focus first
   | (exact ⟨by rw [bY, if_pos (by first | exact .inl h1_3 | exact .inr (.inl h1_7) | exact .inr (.inr (.inl h1_15)) | exact .inr (.inr (.inr h1_25)))]; rfl, hw.base⟩)
   | (exact ⟨by rw [bY, if_neg (fun h => h.elim h1_3 (fun h => h.elim h1_7 (fun h => h.elim h1_15 h1_25)))]; rfl, hw.base⟩)
   | (trace_state; fail)
 refine aB (i := 4) rfl ah (ak rfl) au au rfl (aa (aa aq)) (by kernel_rfl) rfl ?_
 refine aB (i := 5) rfl (ax rfl rfl) (aD dM rfl) au au rfl (aa (aa aq)) (by kernel_rfl) rfl ?_
 refine aB (i := 6) rfl (ax rfl rfl) (aM 0 ed rfl rfl rfl) au au rfl (aa (aa aq)) (by kernel_rfl) rfl ?_
 refine aB (i := 7) rfl (ax rfl rfl) (bQ rfl rfl) au au rfl (aa (aa aq)) (by kernel_rfl) rfl ?_
 refine cH (t := 10) rfl (fun h1_7 => ?_) (fun h1_7 => ?_)
 refine aB (i := 8) rfl ah (aQ rfl rfl) au au rfl (aa (aa aq)) (by kernel_rfl) rfl ?_
 refine aB (i := 9) rfl ah (ak rfl) au au rfl (aa (aa aq)) (by kernel_rfl) rfl ?_
 refine aV (i := 10) rfl (av rfl rfl rfl) au rfl (aa (aa aq)) (by kernel_rfl) rfl ?_
 refine aV (i := 11) rfl (av rfl rfl rfl) au rfl (aa (aa aq)) (by kernel_rfl) rfl ?_
 refine aV (i := 12) rfl (av rfl rfl rfl) au rfl (aa (aa aq)) (by kernel_rfl) rfl ?_
 refine aV (i := 13) rfl (av rfl rfl rfl) au rfl (aa (aa aq)) (by kernel_rfl) rfl ?_
 refine aV (i := 14) rfl (av rfl rfl rfl) au rfl (aa (aa aq)) (by kernel_rfl) rfl ?_
 refine aV (i := 15) rfl (av rfl rfl rfl) au rfl (aa (aa aq)) (by kernel_rfl) rfl ?_
 refine aB (i := 16) rfl ah (aP rfl rfl) au au rfl (aa (aa aq)) (by kernel_rfl) rfl ?_
 refine aB (i := 17) rfl ah (ak rfl) au au rfl (aa (aa aq)) (by kernel_rfl) rfl ?_
 refine aV (i := 18) rfl (av rfl rfl rfl) au rfl (aa (aa aq)) (by kernel_rfl) rfl ?_
 refine aV (i := 19) rfl (av rfl rfl rfl) au rfl (aa (aa aq)) (by kernel_rfl) rfl ?_
 refine aV (i := 20) rfl (av rfl rfl rfl) au rfl (aa (aa aq)) (by kernel_rfl) rfl ?_
 refine aV (i := 21) rfl (av rfl rfl rfl) au rfl (aa (aa aq)) (by kernel_rfl) rfl ?_
 refine aV (i := 23) rfl (av rfl rfl rfl) au rfl (aa (aa aq)) (by kernel_rfl) rfl ?_
 refine aV (i := 24) rfl (av rfl rfl rfl) au rfl (aa (aa aq)) (by kernel_rfl) rfl ?_
 refine aV (i := 22) rfl (av rfl rfl rfl) au rfl (aa (aa aq)) (by kernel_rfl) rfl ?_
 refine aV (i := 25) rfl (av rfl rfl rfl) au rfl (aa (aa aq)) (by kernel_rfl) rfl ?_
 refine aB (i := 26) rfl ah (aP rfl rfl) au au rfl (aa (aa aq)) (by kernel_rfl) rfl ?_
 refine cm (by kernel_rfl) ?_
 refine aj ?_
 refine ay rfl ?_
 refine ao ?_
 refine ab ?_
 refine ap (ai rfl) rfl rfl ?_
 refine ae ?_
 refine aj ?_
 refine aH ?_
 refine az ?_
 refine aN (ts := [2]) rfl rfl rfl (fun w hw => ?_)
 focus first
   | (exact ⟨by rw [bY, if_pos (by first | exact .inl h1_3 | exact .inr (.inl h1_7) | exact .inr (.inr (.inl h1_15)) | exact .inr (.inr (.inr h1_25)))]; rfl, hw.base⟩)
   | (exact ⟨by rw [bY, if_neg (fun h => h.elim h1_3 (fun h => h.elim h1_7 (fun h => h.elim h1_15 h1_25)))]; rfl, hw.base⟩)
   | (trace_state; fail)
 refine aB (i := 8) rfl ah (aQ rfl rfl) au au rfl (aa (aa aq)) (by kernel_rfl) rfl ?_
 refine aB (i := 9) rfl ah (ak rfl) au au rfl (aa (aa aq)) (by kernel_rfl) rfl ?_
 refine aB (i := 10) rfl (ax rfl rfl) (aD dM rfl) au au rfl (aa (aa aq)) (by kernel_rfl) rfl ?_
 refine aB (i := 11) rfl (ax rfl rfl) (aM 0 ed rfl rfl rfl) au au rfl (aa (aa aq)) (by kernel_rfl) rfl ?_
 refine aB (i := 12) rfl (ax rfl rfl) (aD cg rfl) au au rfl (aa (aa aq)) (by kernel_rfl) rfl ?_
 refine aB (i := 13) rfl (ax rfl rfl) (aI 0 aO rfl rfl rfl rfl) au au rfl (aa (aa aq)) (by kernel_rfl) rfl ?_
 refine cB (i := 14) rfl rfl rfl (a8 rfl ent_166) (by kernel_rfl) rfl ?_
 refine aA rfl rfl ?_
 refine aR rfl ent_166 (c_rwide r.base) rfl ?_
 refine ae ?_
 refine cN au ?_
 refine aB (i := 15) rfl (ax rfl rfl) (dU rfl rfl) au au rfl (aa (aa aq)) (by kernel_rfl) rfl ?_
 refine cH (t := 18) rfl (fun h1_15 => ?_) (fun h1_15 => ?_)
 refine aB (i := 16) rfl ah (aQ rfl rfl) au au rfl (aa (aa aq)) (by kernel_rfl) rfl ?_
 refine aB (i := 17) rfl ah (ak rfl) au au rfl (aa (aa aq)) (by kernel_rfl) rfl ?_
 refine aV (i := 18) rfl (av rfl rfl rfl) au rfl (aa (aa aq)) (by kernel_rfl) rfl ?_
 refine aV (i := 19) rfl (av rfl rfl rfl) au rfl (aa (aa aq)) (by kernel_rfl) rfl ?_
 refine aV (i := 20) rfl (av rfl rfl rfl) au rfl (aa (aa aq)) (by kernel_rfl) rfl ?_
 refine aV (i := 21) rfl (av rfl rfl rfl) au rfl (aa (aa aq)) (by kernel_rfl) rfl ?_
 refine aV (i := 23) rfl (av rfl rfl rfl) au rfl (aa (aa aq)) (by kernel_rfl) rfl ?_
 refine aV (i := 24) rfl (av rfl rfl rfl) au rfl (aa (aa aq)) (by kernel_rfl) rfl ?_
 refine aV (i := 22) rfl (av rfl rfl rfl) au rfl (aa (aa aq)) (by kernel_rfl) rfl ?_
 refine aV (i := 25) rfl (av rfl rfl rfl) au rfl (aa (aa aq)) (by kernel_rfl) rfl ?_
 refine aB (i := 26) rfl ah (aP rfl rfl) au au rfl (aa (aa aq)) (by kernel_rfl) rfl ?_
 refine cm (by kernel_rfl) ?_
 refine aj ?_
 refine ay rfl ?_
 refine ao ?_
 refine ab ?_
 refine ap (ai rfl) rfl rfl ?_
 refine ae ?_
 refine aj ?_
 refine aH ?_
 refine az ?_
 refine aN (ts := [2]) rfl rfl rfl (fun w hw => ?_)
 focus first
   | (exact ⟨by rw [bY, if_pos (by first | exact .inl h1_3 | exact .inr (.inl h1_7) | exact .inr (.inr (.inl h1_15)) | exact .inr (.inr (.inr h1_25)))]; rfl, hw.base⟩)
   | (exact ⟨by rw [bY, if_neg (fun h => h.elim h1_3 (fun h => h.elim h1_7 (fun h => h.elim h1_15 h1_25)))]; rfl, hw.base⟩)
   | (trace_state; fail)
 refine aB (i := 16) rfl ah (aQ rfl rfl) au au rfl (aa (aa aq)) (by kernel_rfl) rfl ?_
 refine aB (i := 17) rfl ah (ak rfl) au au rfl (aa (aa aq)) (by kernel_rfl) rfl ?_
 refine aB (i := 18) rfl (ax rfl rfl) (aD cg rfl) au au rfl (aa (aa aq)) (by kernel_rfl) rfl ?_
 refine aB (i := 19) rfl (ax rfl rfl) (aI 0 aO rfl rfl rfl rfl) au au rfl (aa (aa aq)) (by kernel_rfl) rfl ?_
 refine aB (i := 20) rfl (ax rfl rfl) (aD dM rfl) au au rfl (aa (aa aq)) (by kernel_rfl) rfl ?_
 refine aB (i := 21) rfl (ax rfl rfl) (aM 0 ed rfl rfl rfl) au au rfl (aa (aa aq)) (by kernel_rfl) rfl ?_
 refine aB (i := 23) rfl (ax rfl rfl) (aD cg rfl) au au rfl (aa (aa aq)) (by kernel_rfl) rfl ?_
 refine aB (i := 24) rfl (ax rfl rfl) (aI 0 aO rfl rfl rfl rfl) au au rfl (aa (aa aq)) (by kernel_rfl) rfl ?_
 refine cB (i := 22) rfl rfl rfl (a8 rfl ent_179) (by kernel_rfl) rfl ?_
 refine aA rfl rfl ?_
 refine aR rfl ent_179 (rc_pure (c_head r.base r.bits (by have := eO r.base; omega))) rfl ?_
 refine ae ?_
 refine cN au ?_
 refine aB (i := 25) rfl (ax rfl rfl) (y_nestd (by kernel_rfl) rfl rfl (gj _ _) rfl) au au rfl (aa (aa aq)) (by kernel_rfl) rfl ?_
 refine cH (t := 28) rfl (fun h1_25 => ?_) (fun h1_25 => ?_)
 refine aB (i := 26) rfl ah (aQ rfl rfl) au au rfl (aa (aa aq)) (by kernel_rfl) rfl ?_
 refine cm (by kernel_rfl) ?_
 refine aj ?_
 refine ay rfl ?_
 refine ao ?_
 refine ab ?_
 refine ap (ai rfl) rfl rfl ?_
 refine ae ?_
 refine aj ?_
 refine aH ?_
 refine az ?_
 refine aN (ts := [2]) rfl rfl rfl (fun w hw => ?_)
 focus first
   | (exact ⟨by rw [bY, if_pos (by first | exact .inl h1_3 | exact .inr (.inl h1_7) | exact .inr (.inr (.inl h1_15)) | exact .inr (.inr (.inr h1_25)))]; rfl, hw.base⟩)
   | (exact ⟨by rw [bY, if_neg (fun h => h.elim h1_3 (fun h => h.elim h1_7 (fun h => h.elim h1_15 h1_25)))]; rfl, hw.base⟩)
   | (trace_state; fail)
 refine aB (i := 26) rfl ah (aQ rfl rfl) au au rfl (aa (aa aq)) (by kernel_rfl) rfl ?_
 refine cm (by kernel_rfl) ?_
 refine aj ?_
 refine aw rfl ?_
 refine aL ?_
 refine aj ?_
 refine ao ?_
 refine ab ?_
 refine ap (ai rfl) rfl rfl ?_
 refine ae ?_
 refine aj ?_
 refine aH ?_
 refine aN (ts := [2]) rfl rfl rfl (fun w hw => ?_)
 focus first
   | (exact ⟨by rw [bY, if_pos (by first | exact .inl h1_3 | exact .inr (.inl h1_7) | exact .inr (.inr (.inl h1_15)) | exact .inr (.inr (.inr h1_25)))]; rfl, hw.base⟩)
   | (exact ⟨by rw [bY, if_neg (fun h => h.elim h1_3 (fun h => h.elim h1_7 (fun h => h.elim h1_15 h1_25)))]; rfl, hw.base⟩)
   | (trace_state; fail)

set_option maxRecDepth 100000 in
theorem c_rHas (r : Rg) (a : Ad) (h0 : 0 ≤ r.base.lo) (h1 : 0 ≤ a.lo) : cC Tryz.prog 159 #[.agg (dJ r).toArray, .agg (dC a).toArray] (.bool (bE r a)) := by
 intro w0
 refine a6 (ok0 := no) (S := []) (args := [.agg (dJ r).toArray, .agg (dC a).toArray]) 30 Tryz.func159 rfl rfl rfl (by simp) (by simp) ?_
 refine ao ?_
 refine ab ?_
 refine bx rfl rfl rfl (fun b1 => ?_)
 refine bx rfl rfl rfl (fun b2 => ?_)
 refine ap (ai rfl) rfl rfl ?_
 refine ae ?_
 refine aj ?_
 refine ao ?_
 refine dH 26 rfl mixed ?_
 refine aB (i := 0) rfl ah (aI 1 bR rfl rfl rfl rfl) au au rfl (aa aq) (by kernel_rfl) rfl ?_
 refine cB (i := 1) rfl rfl rfl (a8 rfl ent_110) (by kernel_rfl) rfl ?_
 refine aR rfl ent_110 (c_rCheck r h0) rfl ?_
 refine ae ?_
 refine cN au ?_
 refine aB (i := 2) rfl ah (dl rfl rfl) au au rfl (aa aq) (by kernel_rfl) rfl ?_
 refine cH (t := 7) rfl (fun h1_2 => ?_) (fun h1_2 => ?_)
 refine aB (i := 3) rfl ah (ak rfl) au au rfl (aa aq) (by kernel_rfl) rfl ?_
 refine aB (i := 4) rfl (ax rfl rfl) (aI 0 aO rfl rfl rfl rfl) au au rfl (aa aq) (by kernel_rfl) rfl ?_
 refine cB (i := 5) rfl rfl rfl (a8 rfl gh) (by kernel_rfl) rfl ?_
 refine aA rfl rfl ?_
 refine aR rfl gh (dx a h1) rfl ?_
 refine ae ?_
 refine cN au ?_
 refine aB (i := 6) rfl (ax rfl rfl) (dl rfl rfl) au au rfl (aa aq) (by kernel_rfl) rfl ?_
 refine cH (t := 11) rfl (fun h1_6 => ?_) (fun h1_6 => ?_)
 refine aB (i := 7) rfl ah (aP rfl rfl) au au rfl (aa aq) (by kernel_rfl) rfl ?_
 refine aB (i := 8) rfl ah (ak rfl) au au rfl (aa aq) (by kernel_rfl) rfl ?_
 refine aB (i := 9) rfl (ax rfl rfl) (aD cT rfl) au au rfl (aa aq) (by kernel_rfl) rfl ?_
 refine aB (i := 10) rfl (ax rfl rfl) (aM 0 gy rfl rfl rfl) au au rfl (aa aq) (by kernel_rfl) rfl ?_
 refine aB (i := 11) rfl (ax rfl rfl) (aD cg rfl) au au rfl (aa aq) (by kernel_rfl) rfl ?_
 refine aB (i := 12) rfl (ax rfl rfl) (aD cT rfl) au au rfl (aa aq) (by kernel_rfl) rfl ?_
 refine aB (i := 13) rfl (ax rfl rfl) (aM 1 gy rfl rfl rfl) au au rfl (aa aq) (by kernel_rfl) rfl ?_
 refine aB (i := 14) rfl (ax rfl rfl) (y_eqlb Tryz.underlying4 rfl rfl) au au rfl (aa aq) (by kernel_rfl) rfl ?_
 refine cH (t := 19) rfl (fun h1_14 => ?_) (fun h1_14 => ?_)
 refine aB (i := 15) rfl ah (aP rfl rfl) au au rfl (aa aq) (by kernel_rfl) rfl ?_
 refine aB (i := 16) rfl ah (ak rfl) au au rfl (aa aq) (by kernel_rfl) rfl ?_
 refine aB (i := 17) rfl (ax rfl rfl) (aI 0 aO rfl rfl rfl rfl) au au rfl (aa aq) (by kernel_rfl) rfl ?_
 refine aB (i := 18) rfl (ax rfl rfl) (aD dM rfl) au au rfl (aa aq) (by kernel_rfl) rfl ?_
 refine aB (i := 19) rfl (ax rfl rfl) (aM 1 ed rfl rfl rfl) au au rfl (aa aq) (by kernel_rfl) rfl ?_
 refine aB (i := 21) rfl (ax rfl rfl) (aD cg rfl) au au rfl (aa aq) (by kernel_rfl) rfl ?_
 refine aB (i := 22) rfl (ax rfl rfl) (aI 1 aO rfl rfl rfl rfl) au au rfl (aa aq) (by kernel_rfl) rfl ?_
 refine cB (i := 20) rfl rfl rfl (a8 rfl ent_179) (by kernel_rfl) rfl ?_
 refine aA rfl rfl ?_
 refine aR rfl ent_179 (rc_pure (c_head a r.bits (by have h9 := eS h1_2; have := eO r.base; omega))) rfl ?_
 refine ae ?_
 refine cN au ?_
 refine aB (i := 23) rfl (ax rfl rfl) (y_eqst (by kernel_rfl) rfl rfl (gj _ _) rfl) au au rfl (aa aq) (by kernel_rfl) rfl ?_
 refine aB (i := 24) rfl ah (aP rfl rfl) au au rfl (aa aq) (by kernel_rfl) rfl ?_
 refine aB (i := 25) rfl ah (ai rfl) au au rfl (aa aq) (by kernel_rfl) rfl ?_
 refine cm (by kernel_rfl) ?_
 refine aj ?_
 refine aH ?_
 refine aN (ts := [4]) rfl rfl rfl (fun w hw => ?_)
 refine ⟨?_, hw.base⟩
 show Ending.returned (.bool _) = _
 congr 2
 focus first
   | (rw [bE, decide_eq_false h1_2]; rfl)
   | (rw [bE, decide_eq_true h1_2, decide_eq_false h1_6]; rfl)
   | (rw [bE, decide_eq_true h1_2, decide_eq_true h1_6, decide_eq_false h1_14]; rfl)
   | (rw [bE, decide_eq_true h1_2, decide_eq_true h1_6, decide_eq_true h1_14]; rfl)
   | (trace_state; fail)
 refine aB (i := 15) rfl ah (aP rfl rfl) au au rfl (aa aq) (by kernel_rfl) rfl ?_
 refine aB (i := 16) rfl ah (ak rfl) au au rfl (aa aq) (by kernel_rfl) rfl ?_
 refine aV (i := 17) rfl (av rfl rfl rfl) au rfl (aa aq) (by kernel_rfl) rfl ?_
 refine aV (i := 18) rfl (av rfl rfl rfl) au rfl (aa aq) (by kernel_rfl) rfl ?_
 refine aV (i := 19) rfl (av rfl rfl rfl) au rfl (aa aq) (by kernel_rfl) rfl ?_
 refine aV (i := 21) rfl (av rfl rfl rfl) au rfl (aa aq) (by kernel_rfl) rfl ?_
 refine aV (i := 22) rfl (av rfl rfl rfl) au rfl (aa aq) (by kernel_rfl) rfl ?_
 refine aV (i := 20) rfl (av rfl rfl rfl) au rfl (aa aq) (by kernel_rfl) rfl ?_
 refine aV (i := 23) rfl (av rfl rfl rfl) au rfl (aa aq) (by kernel_rfl) rfl ?_
 refine aB (i := 24) rfl ah (aQ rfl rfl) au au rfl (aa aq) (by kernel_rfl) rfl ?_
 refine aB (i := 25) rfl ah (ai rfl) au au rfl (aa aq) (by kernel_rfl) rfl ?_
 refine cm (by kernel_rfl) ?_
 refine aj ?_
 refine aH ?_
 refine aN (ts := [4]) rfl rfl rfl (fun w hw => ?_)
 refine ⟨?_, hw.base⟩
 show Ending.returned (.bool _) = _
 congr 2
 focus first
   | (rw [bE, decide_eq_false h1_2]; rfl)
   | (rw [bE, decide_eq_true h1_2, decide_eq_false h1_6]; rfl)
   | (rw [bE, decide_eq_true h1_2, decide_eq_true h1_6, decide_eq_false h1_14]; rfl)
   | (rw [bE, decide_eq_true h1_2, decide_eq_true h1_6, decide_eq_true h1_14]; rfl)
   | (trace_state; fail)
 refine aB (i := 7) rfl ah (aP rfl rfl) au au rfl (aa aq) (by kernel_rfl) rfl ?_
 refine aB (i := 8) rfl ah (ak rfl) au au rfl (aa aq) (by kernel_rfl) rfl ?_
 refine aV (i := 9) rfl (av rfl rfl rfl) au rfl (aa aq) (by kernel_rfl) rfl ?_
 refine aV (i := 10) rfl (av rfl rfl rfl) au rfl (aa aq) (by kernel_rfl) rfl ?_
 refine aV (i := 11) rfl (av rfl rfl rfl) au rfl (aa aq) (by kernel_rfl) rfl ?_
 refine aV (i := 12) rfl (av rfl rfl rfl) au rfl (aa aq) (by kernel_rfl) rfl ?_
 refine aV (i := 13) rfl (av rfl rfl rfl) au rfl (aa aq) (by kernel_rfl) rfl ?_
 refine aV (i := 14) rfl (av rfl rfl rfl) au rfl (aa aq) (by kernel_rfl) rfl ?_
 refine aB (i := 15) rfl ah (aQ rfl rfl) au au rfl (aa aq) (by kernel_rfl) rfl ?_
 refine aB (i := 16) rfl ah (ak rfl) au au rfl (aa aq) (by kernel_rfl) rfl ?_
 refine aV (i := 17) rfl (av rfl rfl rfl) au rfl (aa aq) (by kernel_rfl) rfl ?_
 refine aV (i := 18) rfl (av rfl rfl rfl) au rfl (aa aq) (by kernel_rfl) rfl ?_
 refine aV (i := 19) rfl (av rfl rfl rfl) au rfl (aa aq) (by kernel_rfl) rfl ?_
 refine aV (i := 21) rfl (av rfl rfl rfl) au rfl (aa aq) (by kernel_rfl) rfl ?_
 refine aV (i := 22) rfl (av rfl rfl rfl) au rfl (aa aq) (by kernel_rfl) rfl ?_
 refine aV (i := 20) rfl (av rfl rfl rfl) au rfl (aa aq) (by kernel_rfl) rfl ?_
 refine aV (i := 23) rfl (av rfl rfl rfl) au rfl (aa aq) (by kernel_rfl) rfl ?_
 refine aB (i := 24) rfl ah (aQ rfl rfl) au au rfl (aa aq) (by kernel_rfl) rfl ?_
 refine aB (i := 25) rfl ah (ai rfl) au au rfl (aa aq) (by kernel_rfl) rfl ?_
 refine cm (by kernel_rfl) ?_
 refine aj ?_
 refine aH ?_
 refine aN (ts := [4]) rfl rfl rfl (fun w hw => ?_)
 refine ⟨?_, hw.base⟩
 show Ending.returned (.bool _) = _
 congr 2
 focus first
   | (rw [bE, decide_eq_false h1_2]; rfl)
   | (rw [bE, decide_eq_true h1_2, decide_eq_false h1_6]; rfl)
   | (rw [bE, decide_eq_true h1_2, decide_eq_true h1_6, decide_eq_false h1_14]; rfl)
   | (rw [bE, decide_eq_true h1_2, decide_eq_true h1_6, decide_eq_true h1_14]; rfl)
   | (trace_state; fail)
 refine aB (i := 3) rfl ah (ak rfl) au au rfl (aa aq) (by kernel_rfl) rfl ?_
 refine aV (i := 4) rfl (av rfl rfl rfl) au rfl (aa aq) (by kernel_rfl) rfl ?_
 refine aV (i := 5) rfl (av rfl rfl rfl) au rfl (aa aq) (by kernel_rfl) rfl ?_
 refine aV (i := 6) rfl (av rfl rfl rfl) au rfl (aa aq) (by kernel_rfl) rfl ?_
 refine aB (i := 7) rfl ah (aQ rfl rfl) au au rfl (aa aq) (by kernel_rfl) rfl ?_
 refine aB (i := 8) rfl ah (ak rfl) au au rfl (aa aq) (by kernel_rfl) rfl ?_
 refine aV (i := 9) rfl (av rfl rfl rfl) au rfl (aa aq) (by kernel_rfl) rfl ?_
 refine aV (i := 10) rfl (av rfl rfl rfl) au rfl (aa aq) (by kernel_rfl) rfl ?_
 refine aV (i := 11) rfl (av rfl rfl rfl) au rfl (aa aq) (by kernel_rfl) rfl ?_
 refine aV (i := 12) rfl (av rfl rfl rfl) au rfl (aa aq) (by kernel_rfl) rfl ?_
 refine aV (i := 13) rfl (av rfl rfl rfl) au rfl (aa aq) (by kernel_rfl) rfl ?_
 refine aV (i := 14) rfl (av rfl rfl rfl) au rfl (aa aq) (by kernel_rfl) rfl ?_
 refine aB (i := 15) rfl ah (aQ rfl rfl) au au rfl (aa aq) (by kernel_rfl) rfl ?_
 refine aB (i := 16) rfl ah (ak rfl) au au rfl (aa aq) (by kernel_rfl) rfl ?_
 refine aV (i := 17) rfl (av rfl rfl rfl) au rfl (aa aq) (by kernel_rfl) rfl ?_
 refine aV (i := 18) rfl (av rfl rfl rfl) au rfl (aa aq) (by kernel_rfl) rfl ?_
 refine aV (i := 19) rfl (av rfl rfl rfl) au rfl (aa aq) (by kernel_rfl) rfl ?_
 refine aV (i := 21) rfl (av rfl rfl rfl) au rfl (aa aq) (by kernel_rfl) rfl ?_
 refine aV (i := 22) rfl (av rfl rfl rfl) au rfl (aa aq) (by kernel_rfl) rfl ?_
 refine aV (i := 20) rfl (av rfl rfl rfl) au rfl (aa aq) (by kernel_rfl) rfl ?_
 refine aV (i := 23) rfl (av rfl rfl rfl) au rfl (aa aq) (by kernel_rfl) rfl ?_
 refine aB (i := 24) rfl ah (aQ rfl rfl) au au rfl (aa aq) (by kernel_rfl) rfl ?_
 refine aB (i := 25) rfl ah (ai rfl) au au rfl (aa aq) (by kernel_rfl) rfl ?_
 refine cm (by kernel_rfl) ?_
 refine aj ?_
 refine aH ?_
 refine aN (ts := [4]) rfl rfl rfl (fun w hw => ?_)
 refine ⟨?_, hw.base⟩
 show Ending.returned (.bool _) = _
 congr 2
 focus first
   | (rw [bE, decide_eq_false h1_2]; rfl)
   | (rw [bE, decide_eq_true h1_2, decide_eq_false h1_6]; rfl)
   | (rw [bE, decide_eq_true h1_2, decide_eq_true h1_6, decide_eq_false h1_14]; rfl)
   | (rw [bE, decide_eq_true h1_2, decide_eq_true h1_6, decide_eq_true h1_14]; rfl)
   | (trace_state; fail)

set_option maxRecDepth 100000 in
theorem c_rSize (r : Rg) (h0 : 0 ≤ r.base.lo) : cC Tryz.prog 97 #[.agg (dJ r).toArray] (.int .i64 (bk r)) := by
 intro w0
 refine a6 (ok0 := no) (S := []) (args := [.agg (dJ r).toArray]) 19 Tryz.func97 rfl rfl rfl (by simp) (by simp) ?_
 refine ao ?_
 refine ab ?_
 refine bx rfl rfl rfl (fun b1 => ?_)
 refine ap (ai rfl) rfl rfl ?_
 refine ae ?_
 refine aj ?_
 refine ao ?_
 refine ao ?_
 refine ab ?_
 refine ap (aI 0 bR rfl rfl rfl rfl) rfl rfl ?_
 refine aR rfl ent_110 (c_rCheck r h0) rfl ?_
 refine ap (cc rfl rfl) rfl rfl ?_
 refine aG (t := 6) rfl (fun h1_2 => ?_) (fun h1_2 => ?_)
 refine ae ?_
 refine aj ?_
 refine ay rfl ?_
 refine ao ?_
 refine ab ?_
 refine ap (ai rfl) rfl rfl ?_
 refine ae ?_
 refine aj ?_
 refine aH ?_
 refine az ?_
 refine aN (ts := [2]) rfl rfl rfl (fun w hw => ?_)
 exact ⟨by rw [bk, if_pos h1_2]; rfl, hw.base⟩
 refine ae ?_
 refine aj ?_
 refine aw rfl ?_
 refine aL ?_
 refine aj ?_
 refine ao ?_
 refine ao ?_
 have hz : bY r = 0 := Decidable.not_not.1 h1_2
 obtain ⟨hz1, hz2, hz3, hz4⟩ := eS hz
 have hwl := eO r.base
 obtain ⟨k, hk⟩ : ∃ k : Nat, bO r.base - r.bits = k := ⟨(bO r.base - r.bits).toNat, by omega⟩
 have hsz := sz_all ⟨k, by omega⟩
 dsimp only at hsz
 rw [← hk] at hsz
 refine dH 7 rfl mixed ?_
 refine aB (i := 0) rfl ah (aD cg rfl) au au rfl (aa (aa aq)) (by kernel_rfl) rfl ?_
 refine aB (i := 1) rfl ah (aI 0 aO rfl rfl rfl rfl) au au rfl (aa (aa aq)) (by kernel_rfl) rfl ?_
 refine aB (i := 3) rfl ah (aD dM rfl) au au rfl (aa (aa aq)) (by kernel_rfl) rfl ?_
 refine aB (i := 4) rfl ah (aM 0 ed rfl rfl rfl) au au rfl (aa (aa aq)) (by kernel_rfl) rfl ?_
 refine cB (i := 2) rfl rfl rfl (a8 rfl ent_166) (by kernel_rfl) rfl ?_
 refine aR rfl ent_166 (c_rwide r.base) rfl ?_
 refine ae ?_
 refine cN au ?_
 refine aB (i := 5) rfl ah (fb rfl rfl (by omega) (by omega)) au au rfl (aa (aa aq)) (by kernel_rfl) rfl ?_
 refine aB (i := 6) rfl ah (ai rfl) au au rfl (aa (aa aq)) (by kernel_rfl) rfl ?_
 refine cm (by kernel_rfl) ?_
 refine aj ?_
 refine ao ?_
 refine ab ?_
 refine ap (ak rfl) rfl rfl ?_
 refine ap (y_min rfl rfl) rfl rfl ?_
 refine ap (y_shl rfl rfl (by omega)) rfl rfl ?_
 refine ap (bQ rfl rfl) rfl rfl ?_
 refine aG (t := 16) rfl (fun h4_3 => ?_) (fun h4_3 => ?_)
 refine ae ?_
 refine aj ?_
 refine ay rfl ?_
 refine ao ?_
 refine ab ?_
 refine ap (ak rfl) rfl rfl ?_
 refine ap (y_shl rfl rfl (by omega)) rfl rfl ?_
 refine ap (ai rfl) rfl rfl ?_
 refine ae ?_
 refine aj ?_
 refine aH ?_
 refine az ?_
 refine aN (ts := [2]) rfl rfl rfl (fun w hw => ?_)
 exact ⟨by rw [bk, if_neg (fun h => h hz), if_pos (by have := hsz.1.1 h4_3; omega), hsz.2 (hsz.1.1 h4_3), hk]; rfl, hw.base⟩
 refine ae ?_
 refine aj ?_
 refine aw rfl ?_
 refine aL ?_
 refine aj ?_
 refine ao ?_
 refine ab ?_
 refine ap (ai rfl) rfl rfl ?_
 refine ae ?_
 refine aj ?_
 refine aH ?_
 refine aN (ts := [2]) rfl rfl rfl (fun w hw => ?_)
 exact ⟨by rw [bk, if_neg (fun h => h hz), if_neg (by have := fun e => h4_3 (hsz.1.2 e); omega)]; rfl, hw.base⟩

theorem c_addr_Add (a : Ad) (d : Int) (h0 : 0 ≤ a.lo ∧ a.lo ≤ 18446744073709551615) (h1 : 0 ≤ a.hi) (hd : 0 ≤ d ∧ d ≤ 18446744073709551615) : RC Tryz.prog 167 #[.agg (dC a).toArray, .int .u64 d] [] (α := Unit) (fun _ => .tuple #[.agg (dC (bU a d).1).toArray, .bool (bU a d).2]) (fun _ => []) := by
 refine bh (args := [.agg (dC a).toArray, .int .u64 d]) 45 Tryz.func167 rfl rfl rfl (fun w0 => ?_)
 refine ao ?_
 refine ab ?_
 refine bx rfl rfl rfl (fun b1 => ?_)
 refine bj aO rfl rfl (fun b2 => ?_)
 refine ap (ai rfl) rfl rfl ?_
 refine ae ?_
 refine aj ?_
 refine ao ?_
 refine ao ?_
 refine ab ?_
 refine ap (aI 1 aO rfl rfl rfl rfl) rfl rfl ?_
 refine aR rfl gh (dx a h0.1) rfl ?_
 refine ap (cc rfl rfl) rfl rfl ?_
 refine aG (t := 11) rfl (fun h1_2 => ?_) (fun h1_2 => ?_)
 refine ae ?_
 refine aj ?_
 refine ay rfl ?_
 refine ao ?_
 refine ab ?_
 refine ap (bN rfl (eJ)) rfl rfl ?_
 refine aS aO rfl rfl rfl .z rfl rfl rfl rfl ?_
 refine ap (ai rfl) rfl rfl ?_
 refine ae ?_
 refine aj ?_
 refine aH ?_
 refine az ?_
 refine dp (rs := [.cell 4 29, .tmp 5]) rfl (bq 0 aO rfl rfl rfl rfl (cE rfl bM)) rfl (fun w hw => ?_)
 focus first
   | (have hA : bU a d = (ad0, false) := if_pos h1_2
      exact ⟨(), by rw [hA]; rfl, hw.base, (hw.weak (List.nil_sublist _) (fun s hs => hs)).toNews⟩)
   | (have hA : bU a d = (ad0, false) := by rw [bU, if_neg h1_2, if_pos (by first | exact .inl (hc.symm ▸ h7_1) | exact .inr (hs.symm ▸ h7_5))]
      exact ⟨(), by rw [hA]; rfl, hw.base, (hw.weak (List.nil_sublist _) (fun s hs => hs)).toNews⟩)
   | (have hA : bU a d = (fR a d, true) := by rw [bU, if_neg h1_2, if_neg (fun h => h.elim (fun e => h7_1 (hc ▸ e)) (fun e => h7_5 (hs ▸ e)))]
      exact ⟨(), by rw [hA, hs]; rfl, hw.base, (hw.weak (List.nil_sublist _) (fun s hs => hs)).toNews⟩)
   | (trace_state; fail)
 refine ae ?_
 refine aj ?_
 refine aw rfl ?_
 refine aL ?_
 refine aj ?_
 refine ao ?_
 refine ab ?_
 refine ap (aD ce rfl) rfl rfl ?_
 refine ap (aM 1 co rfl rfl rfl) rfl rfl ?_
 refine ap (ak rfl) rfl rfl ?_
 refine ap (y_add64 Tryz.func215 (by kernel_rfl) (by kernel_rfl) (by kernel_rfl) (by kernel_rfl) rfl rfl rfl h0.1 hd.1 (by decide)) rfl rfl ?_
 refine bW (t := 17) (.tuple #[.int .u64 (loS a d), .int .u64 (loC a d)]) rfl rfl ?_
 refine ap (ak rfl) rfl rfl ?_
 refine ap (aJ rfl rfl) rfl rfl ?_
 refine ap (aJ rfl rfl) rfl rfl ?_
 refine ap (ai rfl) rfl rfl ?_
 refine ap (ai rfl) rfl rfl ?_
 refine ae ?_
 refine aj ?_
 refine ao ?_
 refine ab ?_
 refine ap (aD cT rfl) rfl rfl ?_
 refine ap (aM 1 gy rfl rfl rfl) rfl rfl ?_
 refine ap (aD dc rfl) rfl rfl ?_
 refine ap (aM 1 co rfl rfl rfl) rfl rfl ?_
 refine ap (ak rfl) rfl rfl ?_
 refine ap (bN rfl (bu_29_0_1_2 _ _ _)) rfl rfl ?_
 refine bj aO rfl rfl (fun b3 => ?_)
 refine aS aO rfl rfl rfl .z rfl rfl rfl rfl ?_
 refine ae ?_
 refine aj ?_
 refine ao ?_
 refine ao ?_
 refine ab ?_
 refine ap (aD cT rfl) rfl rfl ?_
 refine ap (aM 2 gy rfl rfl rfl) rfl rfl ?_
 refine bl (t := 27) rfl (fun h5_1 => ?_) (fun h5_1 => ?_)
 have hs : fR a d = ⟨a.six, hiS a d, loS a d⟩ := if_pos h5_1
 have hc : carA a d = hiC a d := if_pos h5_1
 refine ae ?_
 refine aj ?_
 refine ay rfl ?_
 refine ab ?_
 refine ap (aD dc rfl) rfl rfl ?_
 refine ap (aM 2 co rfl rfl rfl) rfl rfl ?_
 refine ap (ak rfl) rfl rfl ?_
 refine ap (y_add64 Tryz.func215 (by kernel_rfl) (by kernel_rfl) (by kernel_rfl) (by kernel_rfl) rfl rfl rfl h1 (by decide) (loC_rng h0 hd)) rfl rfl ?_
 refine bW (t := 32) (.tuple #[.int .u64 (hiS a d), .int .u64 (hiC a d)]) rfl rfl ?_
 refine ap (ak rfl) rfl rfl ?_
 refine ap (aJ rfl rfl) rfl rfl ?_
 refine ap (aJ rfl rfl) rfl rfl ?_
 refine ap (aD dc rfl) rfl rfl ?_
 refine aS co rfl rfl rfl .z rfl rfl rfl rfl ?_
 refine ap (ai rfl) rfl rfl ?_
 refine ae ?_
 refine aj ?_
 refine ao ?_
 refine ao ?_
 refine ab ?_
 refine ap (ak rfl) rfl rfl ?_
 refine ap (cc rfl rfl) rfl rfl ?_
 refine aG (t := 37) rfl (fun h7_1 => ?_) (fun h7_1 => ?_)
 refine ap (ak rfl) rfl rfl ?_
 refine aK rfl rfl rfl rfl ?_
 refine aK rfl rfl rfl rfl ?_
 refine aK rfl rfl rfl rfl ?_
 refine ap (aP rfl rfl) rfl rfl ?_
 refine ae ?_
 refine aj ?_
 refine ay rfl ?_
 refine ao ?_
 refine ab ?_
 refine ap (bN rfl (eJ)) rfl rfl ?_
 refine aS aO rfl rfl rfl (.s (.z)) rfl rfl rfl rfl ?_
 refine ap (ai rfl) rfl rfl ?_
 refine ae ?_
 refine aj ?_
 refine aH ?_
 refine az ?_
 refine dp (rs := [.cell 4 29, .tmp 5]) rfl (bq 1 aO rfl rfl rfl rfl (cE rfl bM)) rfl (fun w hw => ?_)
 focus first
   | (have hA : bU a d = (ad0, false) := if_pos h1_2
      exact ⟨(), by rw [hA]; rfl, hw.base, (hw.weak (List.nil_sublist _) (fun s hs => hs)).toNews⟩)
   | (have hA : bU a d = (ad0, false) := by rw [bU, if_neg h1_2, if_pos (by first | exact .inl (hc.symm ▸ h7_1) | exact .inr (hs.symm ▸ h7_5))]
      exact ⟨(), by rw [hA]; rfl, hw.base, (hw.weak (List.nil_sublist _) (fun s hs => hs)).toNews⟩)
   | (have hA : bU a d = (fR a d, true) := by rw [bU, if_neg h1_2, if_neg (fun h => h.elim (fun e => h7_1 (hc ▸ e)) (fun e => h7_5 (hs ▸ e)))]
      exact ⟨(), by rw [hA, hs]; rfl, hw.base, (hw.weak (List.nil_sublist _) (fun s hs => hs)).toNews⟩)
   | (trace_state; fail)
 refine ap (ak rfl) rfl rfl ?_
 refine aA rfl rfl ?_
 refine ap (aI 0 aO rfl rfl rfl rfl) rfl rfl ?_
 refine aA rfl rfl ?_
 refine aR rfl gh (dx ⟨a.six, hiS a d, loS a d⟩ (loS_pos a d)) rfl ?_
 refine aA rfl rfl ?_
 refine ap (cc rfl rfl) rfl rfl ?_
 refine aG (t := 41) rfl (fun h7_5 => ?_) (fun h7_5 => ?_)
 refine ap (aQ rfl rfl) rfl rfl ?_
 refine ae ?_
 refine aj ?_
 refine ay rfl ?_
 refine ao ?_
 refine ab ?_
 refine ap (bN rfl (eJ)) rfl rfl ?_
 refine aS aO rfl rfl rfl (.s (.z)) rfl rfl rfl rfl ?_
 refine ap (ai rfl) rfl rfl ?_
 refine ae ?_
 refine aj ?_
 refine aH ?_
 refine az ?_
 refine dp (rs := [.cell 4 29, .tmp 5]) rfl (bq 1 aO rfl rfl rfl rfl (cE rfl bM)) rfl (fun w hw => ?_)
 focus first
   | (have hA : bU a d = (ad0, false) := if_pos h1_2
      exact ⟨(), by rw [hA]; rfl, hw.base, (hw.weak (List.nil_sublist _) (fun s hs => hs)).toNews⟩)
   | (have hA : bU a d = (ad0, false) := by rw [bU, if_neg h1_2, if_pos (by first | exact .inl (hc.symm ▸ h7_1) | exact .inr (hs.symm ▸ h7_5))]
      exact ⟨(), by rw [hA]; rfl, hw.base, (hw.weak (List.nil_sublist _) (fun s hs => hs)).toNews⟩)
   | (have hA : bU a d = (fR a d, true) := by rw [bU, if_neg h1_2, if_neg (fun h => h.elim (fun e => h7_1 (hc ▸ e)) (fun e => h7_5 (hs ▸ e)))]
      exact ⟨(), by rw [hA, hs]; rfl, hw.base, (hw.weak (List.nil_sublist _) (fun s hs => hs)).toNews⟩)
   | (trace_state; fail)
 refine ap (aQ rfl rfl) rfl rfl ?_
 refine ae ?_
 refine aj ?_
 refine aw rfl ?_
 refine aL ?_
 refine aj ?_
 refine ao ?_
 refine ab ?_
 refine ap (aI 0 aO rfl rfl rfl rfl) rfl rfl ?_
 refine aS aO rfl rfl rfl (.s (.z)) rfl rfl rfl rfl ?_
 refine ap (ai rfl) rfl rfl ?_
 refine ae ?_
 refine aj ?_
 refine aH ?_
 refine dp (rs := [.cell 4 29, .tmp 5]) rfl (bq 1 aO rfl rfl rfl rfl (cE rfl bM)) rfl (fun w hw => ?_)
 focus first
   | (have hA : bU a d = (ad0, false) := if_pos h1_2
      exact ⟨(), by rw [hA]; rfl, hw.base, (hw.weak (List.nil_sublist _) (fun s hs => hs)).toNews⟩)
   | (have hA : bU a d = (ad0, false) := by rw [bU, if_neg h1_2, if_pos (by first | exact .inl (hc.symm ▸ h7_1) | exact .inr (hs.symm ▸ h7_5))]
      exact ⟨(), by rw [hA]; rfl, hw.base, (hw.weak (List.nil_sublist _) (fun s hs => hs)).toNews⟩)
   | (have hA : bU a d = (fR a d, true) := by rw [bU, if_neg h1_2, if_neg (fun h => h.elim (fun e => h7_1 (hc ▸ e)) (fun e => h7_5 (hs ▸ e)))]
      exact ⟨(), by rw [hA, hs]; rfl, hw.base, (hw.weak (List.nil_sublist _) (fun s hs => hs)).toNews⟩)
   | (trace_state; fail)
 have hs : fR a d = ⟨a.six, a.hi, loS a d⟩ := if_neg (by rw [h5_1]; decide)
 have hc : carA a d = loC a d := if_neg (by rw [h5_1]; decide)
 refine ae ?_
 refine aj ?_
 refine aw rfl ?_
 refine aL ?_
 refine aj ?_
 refine ao ?_
 refine ao ?_
 refine ab ?_
 refine ap (ak rfl) rfl rfl ?_
 refine ap (cc rfl rfl) rfl rfl ?_
 refine aG (t := 37) rfl (fun h7_1 => ?_) (fun h7_1 => ?_)
 refine ap (ak rfl) rfl rfl ?_
 refine aK rfl rfl rfl rfl ?_
 refine aK rfl rfl rfl rfl ?_
 refine aK rfl rfl rfl rfl ?_
 refine ap (aP rfl rfl) rfl rfl ?_
 refine ae ?_
 refine aj ?_
 refine ay rfl ?_
 refine ao ?_
 refine ab ?_
 refine ap (bN rfl (eJ)) rfl rfl ?_
 refine aS aO rfl rfl rfl (.s (.z)) rfl rfl rfl rfl ?_
 refine ap (ai rfl) rfl rfl ?_
 refine ae ?_
 refine aj ?_
 refine aH ?_
 refine az ?_
 refine dp (rs := [.cell 4 29, .tmp 5]) rfl (bq 1 aO rfl rfl rfl rfl (cE rfl bM)) rfl (fun w hw => ?_)
 focus first
   | (have hA : bU a d = (ad0, false) := if_pos h1_2
      exact ⟨(), by rw [hA]; rfl, hw.base, (hw.weak (List.nil_sublist _) (fun s hs => hs)).toNews⟩)
   | (have hA : bU a d = (ad0, false) := by rw [bU, if_neg h1_2, if_pos (by first | exact .inl (hc.symm ▸ h7_1) | exact .inr (hs.symm ▸ h7_5))]
      exact ⟨(), by rw [hA]; rfl, hw.base, (hw.weak (List.nil_sublist _) (fun s hs => hs)).toNews⟩)
   | (have hA : bU a d = (fR a d, true) := by rw [bU, if_neg h1_2, if_neg (fun h => h.elim (fun e => h7_1 (hc ▸ e)) (fun e => h7_5 (hs ▸ e)))]
      exact ⟨(), by rw [hA, hs]; rfl, hw.base, (hw.weak (List.nil_sublist _) (fun s hs => hs)).toNews⟩)
   | (trace_state; fail)
 refine ap (ak rfl) rfl rfl ?_
 refine aA rfl rfl ?_
 refine ap (aI 0 aO rfl rfl rfl rfl) rfl rfl ?_
 refine aA rfl rfl ?_
 refine aR rfl gh (dx ⟨a.six, a.hi, loS a d⟩ (loS_pos a d)) rfl ?_
 refine aA rfl rfl ?_
 refine ap (cc rfl rfl) rfl rfl ?_
 refine aG (t := 41) rfl (fun h7_5 => ?_) (fun h7_5 => ?_)
 refine ap (aQ rfl rfl) rfl rfl ?_
 refine ae ?_
 refine aj ?_
 refine ay rfl ?_
 refine ao ?_
 refine ab ?_
 refine ap (bN rfl (eJ)) rfl rfl ?_
 refine aS aO rfl rfl rfl (.s (.z)) rfl rfl rfl rfl ?_
 refine ap (ai rfl) rfl rfl ?_
 refine ae ?_
 refine aj ?_
 refine aH ?_
 refine az ?_
 refine dp (rs := [.cell 4 29, .tmp 5]) rfl (bq 1 aO rfl rfl rfl rfl (cE rfl bM)) rfl (fun w hw => ?_)
 focus first
   | (have hA : bU a d = (ad0, false) := if_pos h1_2
      exact ⟨(), by rw [hA]; rfl, hw.base, (hw.weak (List.nil_sublist _) (fun s hs => hs)).toNews⟩)
   | (have hA : bU a d = (ad0, false) := by rw [bU, if_neg h1_2, if_pos (by first | exact .inl (hc.symm ▸ h7_1) | exact .inr (hs.symm ▸ h7_5))]
      exact ⟨(), by rw [hA]; rfl, hw.base, (hw.weak (List.nil_sublist _) (fun s hs => hs)).toNews⟩)
   | (have hA : bU a d = (fR a d, true) := by rw [bU, if_neg h1_2, if_neg (fun h => h.elim (fun e => h7_1 (hc ▸ e)) (fun e => h7_5 (hs ▸ e)))]
      exact ⟨(), by rw [hA, hs]; rfl, hw.base, (hw.weak (List.nil_sublist _) (fun s hs => hs)).toNews⟩)
   | (trace_state; fail)
 refine ap (aQ rfl rfl) rfl rfl ?_
 refine ae ?_
 refine aj ?_
 refine aw rfl ?_
 refine aL ?_
 refine aj ?_
 refine ao ?_
 refine ab ?_
 refine ap (aI 0 aO rfl rfl rfl rfl) rfl rfl ?_
 refine aS aO rfl rfl rfl (.s (.z)) rfl rfl rfl rfl ?_
 refine ap (ai rfl) rfl rfl ?_
 refine ae ?_
 refine aj ?_
 refine aH ?_
 refine dp (rs := [.cell 4 29, .tmp 5]) rfl (bq 1 aO rfl rfl rfl rfl (cE rfl bM)) rfl (fun w hw => ?_)
 focus first
   | (have hA : bU a d = (ad0, false) := if_pos h1_2
      exact ⟨(), by rw [hA]; rfl, hw.base, (hw.weak (List.nil_sublist _) (fun s hs => hs)).toNews⟩)
   | (have hA : bU a d = (ad0, false) := by rw [bU, if_neg h1_2, if_pos (by first | exact .inl (hc.symm ▸ h7_1) | exact .inr (hs.symm ▸ h7_5))]
      exact ⟨(), by rw [hA]; rfl, hw.base, (hw.weak (List.nil_sublist _) (fun s hs => hs)).toNews⟩)
   | (have hA : bU a d = (fR a d, true) := by rw [bU, if_neg h1_2, if_neg (fun h => h.elim (fun e => h7_1 (hc ▸ e)) (fun e => h7_5 (hs ▸ e)))]
      exact ⟨(), by rw [hA, hs]; rfl, hw.base, (hw.weak (List.nil_sublist _) (fun s hs => hs)).toNews⟩)
   | (trace_state; fail)
end Go.Proofs.YtnpdgmoeoidppaaGreat

/- ranges: masks and bits -/
namespace Go.Proofs.YtnpdgmoeoidppaaGreat
open Go.RowKit Go.Shelf
set_option linter.unusedVariables false
set_option linter.unusedSimpArgs false

theorem and_mask (x b k : Nat) : x &&& ((2 ^ b - 1) * 2 ^ k) = (x / 2 ^ k % 2 ^ b) * 2 ^ k := by
  apply Nat.eq_of_testBit_eq
  intro i
  rw [Nat.testBit_and, Nat.testBit_mul_two_pow, Nat.testBit_mul_two_pow, Nat.testBit_two_pow_sub_one, Nat.testBit_mod_two_pow, Nat.testBit_div_two_pow]
  by_cases h : k ≤ i
  · simp only [h, decide_true, Bool.true_and]
    rw [show i - k + k = i by omega, Bool.and_comm]
  · simp [h]
/-- The first m of a word's n bits. -/
def dS (n m x : Nat) : Nat := x / 2 ^ (n - m) * 2 ^ (n - m)
/-- A word's bit, from the highest one on. -/
def eK (n x i : Nat) : Nat := x / 2 ^ (n - 1 - i) % 2
theorem bit_test (n x i : Nat) : eK n x i = if x.testBit (n - 1 - i) = true then 1 else 0 := by
  rw [eK, Nat.testBit_eq_decide_div_mod_eq]
  have : x / 2 ^ (n - 1 - i) % 2 < 2 := Nat.mod_lt _ (by decide)
  by_cases h : x / 2 ^ (n - 1 - i) % 2 = 1
  · simp [h]
  · simp [h]; omega
theorem bit_eq {n x y i : Nat} : eK n x i = eK n y i ↔ x.testBit (n - 1 - i) = y.testBit (n - 1 - i) := by
  rw [bit_test, bit_test]
  cases x.testBit (n - 1 - i) <;> cases y.testBit (n - 1 - i) <;> simp
theorem bit_zero {n x i : Nat} : eK n x i = 0 ↔ x.testBit (n - 1 - i) = false := by
  rw [bit_test]
  cases x.testBit (n - 1 - i) <;> simp
theorem fB {n m x i : Nat} : (dS n m x).testBit i = (decide (n - m ≤ i) && x.testBit i) := by
  rw [dS, Nat.testBit_mul_two_pow, Nat.testBit_div_two_pow]
  by_cases h : n - m ≤ i
  · rw [show i - (n - m) + (n - m) = i by omega]
  · simp [h]
theorem cut_self {n m x : Nat} (hm : m ≤ n) : dS n m x = x ↔ ∀ i, m ≤ i → i < n → eK n x i = 0 := by
  constructor
  · intro h i h1 h2
    rw [bit_zero, ← h, fB]
    have : ¬ n - m ≤ n - 1 - i := by omega
    simp [this]
  · intro h
    apply Nat.eq_of_testBit_eq
    intro j
    rw [fB]
    by_cases hj : n - m ≤ j
    · simp [hj]
    · have h0 := bit_zero.1 (h (n - 1 - j) (by omega) (by omega))
      rw [show n - 1 - (n - 1 - j) = j by omega] at h0
      rw [h0]; simp
theorem cut_same {n m x y : Nat} (hx : x < 2 ^ n) (hy : y < 2 ^ n) (hm : m ≤ n) (hc : dS n m y = y) : dS n m x = y ↔ ∀ i, i < m → eK n y i = eK n x i := by
  constructor
  · intro h i hi
    rw [bit_eq, ← h, fB]
    have : n - m ≤ n - 1 - i := by omega
    simp [this]
  · intro h
    apply Nat.eq_of_testBit_eq
    intro j
    rw [fB]
    by_cases hj : n - m ≤ j
    · by_cases hn : j < n
      · have h0 := bit_eq.1 (h (n - 1 - j) (by omega))
        rw [show n - 1 - (n - 1 - j) = j by omega] at h0
        rw [h0]; simp [hj]
      · rw [Nat.testBit_lt_two_pow (Nat.lt_of_lt_of_le hx (Nat.pow_le_pow_right (by decide) (by omega))), Nat.testBit_lt_two_pow (Nat.lt_of_lt_of_le hy (Nat.pow_le_pow_right (by decide) (by omega)))]; simp
    · rw [← hc, fB]; simp [hj]
theorem msk_nat {m n : Nat} (h : m ≤ n) : dm m n = (((2 ^ m - 1) * 2 ^ (n - m) : Nat) : Int) := by
  have h1 : 1 ≤ 2 ^ m := Nat.one_le_two_pow
  have h2 : (((2 ^ m - 1 : Nat) : Int)) = 2 ^ m - 1 := by rw [Int.natCast_sub h1, Int.natCast_pow]; rfl
  unfold dm
  by_cases h0 : m = 0
  · subst h0; simp
  · rw [if_neg (by omega)]
    by_cases hn : n ≤ m
    · obtain rfl : m = n := by omega
      rw [if_pos (by omega), Int.natCast_mul, h2, Nat.sub_self]; simp
    · rw [if_neg (by omega), Int.natCast_mul, h2, Int.natCast_pow]
      rw [Int.toNat_natCast, show ((n : Int) - (m : Int)).toNat = n - m by omega]; rfl
theorem andI_nat {a b : Nat} (ha : a < 18446744073709551616) (hb : b < 18446744073709551616) : andI a b = ((a &&& b : Nat) : Int) := by
  have hle : a &&& b ≤ a := Nat.and_le_left
  show IntKind.u64.wrap _ = _
  have e : (BitVec.ofInt IntKind.u64.bits (a : Int) &&& BitVec.ofInt IntKind.u64.bits (b : Int)).toNat = a &&& b := by
    rw [BitVec.toNat_and, BitVec.toNat_ofInt, BitVec.toNat_ofInt]
    show ((a : Int) % (18446744073709551616 : Nat)).toNat &&& ((b : Int) % (18446744073709551616 : Nat)).toNat = _
    rw [show ((a : Int) % (18446744073709551616 : Nat)).toNat = a by omega, show ((b : Int) % (18446744073709551616 : Nat)).toNat = b by omega]
  rw [e]
  exact cL (by omega) (by omega)
theorem and_cut {n m x : Nat} (hn : n ≤ 64) (hm : m ≤ n) (hx : x < 2 ^ n) : andI x (dm m n) = (dS n m x : Int) := by
  have h64 : (2 : Nat) ^ 64 = 18446744073709551616 := by decide
  have hp : 2 ^ n ≤ 2 ^ 64 := Nat.pow_le_pow_right (by decide) hn
  have hmk : (2 ^ m - 1) * 2 ^ (n - m) < 2 ^ n := by
    have : 2 ^ m * 2 ^ (n - m) = 2 ^ n := by rw [← Nat.pow_add]; congr 1; omega
    have h1 : 1 ≤ 2 ^ m := Nat.one_le_two_pow
    have h2 : 0 < 2 ^ (n - m) := Nat.two_pow_pos _
    rw [← this]
    exact Nat.mul_lt_mul_of_pos_right (by omega) h2
  rw [msk_nat hm, andI_nat (by omega) (by omega), and_mask, dS, Nat.mod_eq_of_lt]
  rw [Nat.div_lt_iff_lt_mul (Nat.two_pow_pos _), ← Nat.pow_add]
  rw [show m + (n - m) = n by omega]; exact hx

theorem fE {a : Ad} {m : Nat} (h6 : a.six = true) (hm : m ≤ 128) (h1 : 0 ≤ a.hi ∧ a.hi ≤ 18446744073709551615) (h2 : 0 ≤ a.lo ∧ a.lo ≤ 18446744073709551615) :
    eP a m = ⟨a.six, (dS 64 (min m 64) a.hi.toNat : Nat), (dS 64 (m - 64) a.lo.toNat : Nat)⟩ := by
  have h64 : (2 : Nat) ^ 64 = 18446744073709551616 := by decide
  have e1 : dm (m : Int) 64 = dm ((min m 64 : Nat) : Int) (64 : Nat) := by
    by_cases h : m ≤ 64
    · rw [Nat.min_eq_left h]; rfl
    · have p1 : dm (m : Int) 64 = 2 ^ (64 : Int).toNat - 1 := by rw [dm, if_neg (by omega), if_pos (by omega)]
      rw [Nat.min_eq_right (by omega), p1]; decide +kernel
  have e2 : dm ((m : Int) - 64) 64 = dm ((m - 64 : Nat) : Int) (64 : Nat) := by
    by_cases h : m ≤ 64
    · rw [dm, dm, if_pos (by omega), if_pos (by omega)]
    · congr 1; omega
  have g1 : a.hi = ((a.hi.toNat : Nat) : Int) := by omega
  have g2 : a.lo = ((a.lo.toNat : Nat) : Int) := by omega
  rw [eP, if_pos h6, e1, e2]
  congr 1
  · conv => lhs; rw [g1]
    exact and_cut (by decide) (Nat.min_le_right _ _) (by omega)
  · conv => lhs; rw [g2]
    exact and_cut (by decide) (by omega) (by omega)
theorem eN {a : Ad} {m : Nat} (h6 : a.six = false) (hm : m ≤ 32) (h2 : 0 ≤ a.lo ∧ a.lo < 4294967296) : eP a m = ⟨a.six, a.hi, (dS 32 m a.lo.toNat : Nat)⟩ := by
  have h32 : (2 : Nat) ^ 32 = 4294967296 := by decide
  have g2 : a.lo = ((a.lo.toNat : Nat) : Int) := by omega
  rw [eP, if_neg (by rw [h6]; decide)]
  congr 1
  conv => lhs; rw [g2]
  exact and_cut (n := 32) (by decide) hm (by omega)
/-- An address' bit, from its highest one on. -/
def de (a : Ad) (i : Nat) : Nat := if a.six = true then (if i < 64 then eK 64 a.hi.toNat i else eK 64 a.lo.toNat (i - 64)) else eK 32 a.lo.toNat i

end Go.Proofs.YtnpdgmoeoidppaaGreat
