import Derived.Test.YtnpdgmoeoidppaaGreatVkQt
import Derived.Test.YtnpdgmoeoidppaaGreatLxQt
/- ranges: places, who is free -/
namespace Go.Proofs.YtnpdgmoeoidppaaGreat
open Go.RowKit Go.Shelf
set_option linter.unusedVariables false
set_option linter.unusedSimpArgs false

theorem ent_156 : Enters Tryz.prog 156 := enters_of Tryz.func156 (by kernel_rfl) rfl
theorem ent_157 : Enters Tryz.prog 157 := enters_of Tryz.func157 (by kernel_rfl) rfl
theorem ent_158 : Enters Tryz.prog 158 := enters_of Tryz.func158 (by kernel_rfl) rfl
theorem ent_159 : Enters Tryz.prog 159 := enters_of Tryz.func159 (by kernel_rfl) rfl
theorem ent_167 : Enters Tryz.prog 167 := enters_of Tryz.func167 (by kernel_rfl) rfl
theorem ent_168 : Enters Tryz.prog 168 := enters_of Tryz.func168 (by kernel_rfl) rfl
theorem ent_212 : Enters Tryz.prog 212 := enters_of Tryz.func212 (by kernel_rfl) rfl
theorem ent_213 : Enters Tryz.prog 213 := enters_of Tryz.func213 (by kernel_rfl) rfl
theorem ent_97 : Enters Tryz.prog 97 := enters_of Tryz.func97 (by kernel_rfl) rfl
theorem fZ : TyI Tryz.prog 65 false 1 24 (.slice none 0 0) := TyI.mk' (by kernel_rfl) (fun _ => by kernel_rfl)

def encA1 (a : Ad) : List Value := [.agg (dN a).toArray]
theorem iv {r : Rg} {k : Nat} (h : k < bj r) : (dQ r).getD k ad0 = (cD r.base k).1 := by
  rw [List.getD_eq_getElem?_getD, dQ, List.getElem?_map, List.getElem?_range h]; rfl
theorem RgOk.lo {r : Rg} (h : RgOk r) : 0 ≤ r.base.lo ∧ r.base.lo ≤ 18446744073709551615 := ⟨h.1.2.2.1, h.1.2.2.2⟩
theorem RgOk.hi {r : Rg} (h : RgOk r) : 0 ≤ r.base.hi := h.1.1
/-- Is an address in none that is reserved? -/
def dJ (res : List Rg) (a : Ad) : Bool := !(res.any fun x => ci x a)
theorem free_snoc {res : List Rg} {pre : List Ad} {a : Ad} : ((pre ++ [a]).filter (dJ res)).length = (pre.filter (dJ res)).length + if dJ res a = true then 1 else 0 := by
  rw [List.filter_append, List.length_append, List.filter_cons]
  cases dJ res a <;> rfl
theorem any_no {res : List Rg} {a : Ad} (h : ∀ q, q < res.length → ci (res.getD q hU) a = false) : (res.any fun x => ci x a) = false := by
  rw [Bool.eq_false_iff]
  intro e
  obtain ⟨x, hx, h2⟩ := List.any_eq_true.1 e
  obtain ⟨q, hq, rfl⟩ := List.mem_iff_getElem.1 hx
  have := h q hq
  rw [List.getD_eq_getElem?_getD, List.getElem?_eq_getElem hq, Option.getD_some, h2] at this
  cases this
theorem any_yes {res : List Rg} {a : Ad} {k : Nat} (hk : k < res.length) (h : ci (res.getD k hU) a = true) : (res.any fun x => ci x a) = true := List.any_eq_true.2 ⟨_, bX hk, h⟩
theorem free_le (r : Rg) (res : List Rg) : dv r res ≤ 65536 := Nat.le_trans (List.length_filter_le _ _) (by rw [eM]; exact eD r)

theorem c_rAt (r : Rg) (i : Int) (hr : RgOk r) (hi : -9223372036854775808 ≤ i ∧ i ≤ 9223372036854775807) : RC Tryz.prog 98 #[.agg (dR r).toArray, .int .i64 i] [] (α := Unit) (fun _ => .tuple #[.agg (dN (atR r i).1).toArray, .bool (atR r i).2]) (fun _ => []) := by
 refine bi (args := [.agg (dR r).toArray, .int .i64 i]) 22 Tryz.func98 rfl rfl rfl (fun w0 => ?_)
 refine ao ?_
 refine ab ?_
 refine bE rfl rfl rfl (fun b1 => ?_)
 refine bz aN rfl rfl (fun b2 => ?_)
 refine ap (ai rfl) rfl rfl ?_
 refine ae ?_
 refine aj ?_
 refine ao ?_
 refine ao ?_
 refine ab ?_
 refine ap (ak rfl) rfl rfl ?_
 refine ap (bF rfl rfl) rfl rfl ?_
 refine aC (t := 7) rfl (fun h1_1 => ?_) (fun h1_1 => ?_)
 refine ap (ak rfl) rfl rfl ?_
 refine aO rfl rfl rfl rfl ?_
 refine aO rfl rfl rfl rfl ?_
 refine aO rfl rfl rfl rfl ?_
 refine aO rfl rfl rfl rfl ?_
 refine ap (aX rfl rfl) rfl rfl ?_
 refine ae ?_
 refine aj ?_
 refine ay rfl ?_
 refine ao ?_
 refine ab ?_
 refine ap (bN rfl (e6)) rfl rfl ?_
 refine aT aN rfl rfl rfl .z rfl rfl rfl rfl ?_
 refine ap (ai rfl) rfl rfl ?_
 refine ae ?_
 refine aj ?_
 refine aF ?_
 refine aA ?_
 refine dp (rs := [.cell 4 29, .tmp 5]) rfl (bA 0 aN rfl rfl rfl rfl (cC rfl bR)) rfl (fun w hw => ?_)
 focus first
   | (have hA : atR r i = (ad0, false) := if_pos (by first | exact .inl h1_1 | exact .inr (by omega))
      exact ⟨(), by rw [hA]; rfl, hw.base, (hw.weak (List.nil_sublist _) (fun s hs => hs)).toNews⟩)
   | (have hA : atR r i = cD r.base i := if_neg (fun h => by omega)
      exact ⟨(), by rw [hA]; rfl, hw.base, (hw.weak (List.nil_sublist _) (fun s hs => hs)).toNews⟩)
   | (trace_state; fail)
 refine ap (ak rfl) rfl rfl ?_
 refine az rfl rfl ?_
 refine ap (ak rfl) rfl rfl ?_
 refine az rfl rfl ?_
 refine ap (aK 1 cm rfl rfl rfl rfl) rfl rfl ?_
 refine az rfl rfl ?_
 refine aS rfl ent_97 (c_rSize r hr.lo.1) rfl ?_
 refine az rfl rfl ?_
 refine ap (gF rfl rfl) rfl rfl ?_
 refine aC (t := 12) rfl (fun h1_6 => ?_) (fun h1_6 => ?_)
 refine ap (aW rfl rfl) rfl rfl ?_
 refine ae ?_
 refine aj ?_
 refine ay rfl ?_
 refine ao ?_
 refine ab ?_
 refine ap (bN rfl (e6)) rfl rfl ?_
 refine aT aN rfl rfl rfl .z rfl rfl rfl rfl ?_
 refine ap (ai rfl) rfl rfl ?_
 refine ae ?_
 refine aj ?_
 refine aF ?_
 refine aA ?_
 refine dp (rs := [.cell 4 29, .tmp 5]) rfl (bA 0 aN rfl rfl rfl rfl (cC rfl bR)) rfl (fun w hw => ?_)
 focus first
   | (have hA : atR r i = (ad0, false) := if_pos (by first | exact .inl h1_1 | exact .inr (by omega))
      exact ⟨(), by rw [hA]; rfl, hw.base, (hw.weak (List.nil_sublist _) (fun s hs => hs)).toNews⟩)
   | (have hA : atR r i = cD r.base i := if_neg (fun h => by omega)
      exact ⟨(), by rw [hA]; rfl, hw.base, (hw.weak (List.nil_sublist _) (fun s hs => hs)).toNews⟩)
   | (trace_state; fail)
 refine ap (aW rfl rfl) rfl rfl ?_
 refine ae ?_
 refine aj ?_
 refine au rfl ?_
 refine aH ?_
 refine aj ?_
 refine ao ?_
 refine ab ?_
 have hsz := eD r
 refine ap (aB db rfl) rfl rfl ?_
 refine ap (aK 1 aN rfl rfl rfl rfl) rfl rfl ?_
 refine ap (ak rfl) rfl rfl ?_
 refine ap (dS Tryz.underlying3 Tryz.underlying27 rfl (dy (by omega) (by omega))) rfl rfl ?_
 refine bv rfl ent_167 rfl (c_addr_Add r.base i hr.lo hr.hi (by omega)) (fun w hw => bf) ?_
 refine ap (aI rfl rfl) rfl rfl ?_
 refine ap (aI rfl rfl) rfl rfl ?_
 refine aT aN rfl rfl rfl .z rfl rfl rfl rfl ?_
 refine ap (ai rfl) rfl rfl ?_
 refine ae ?_
 refine aj ?_
 refine aF ?_
 refine dp (rs := [.cell 4 29, .tmp 5]) rfl (bA 0 aN rfl rfl rfl rfl (cC rfl bR)) rfl (fun w hw => ?_)
 focus first
   | (have hA : atR r i = (ad0, false) := if_pos (by first | exact .inl h1_1 | exact .inr (by omega))
      exact ⟨(), by rw [hA]; rfl, hw.base, (hw.weak (List.nil_sublist _) (fun s hs => hs)).toNews⟩)
   | (have hA : atR r i = cD r.base i := if_neg (fun h => by omega)
      exact ⟨(), by rw [hA]; rfl, hw.base, (hw.weak (List.nil_sublist _) (fun s hs => hs)).toNews⟩)
   | (trace_state; fail)

theorem c_each (r : Rg) : RC Tryz.prog 156 #[.agg (dR r).toArray] [] (α := Nat) (fun p => .func (.func 212) #[] #[.pointer (some ⟨p, 0, none⟩)]) (fun p => [Ch.row p (dR r) 64]) := by
 refine bi (args := [.agg (dR r).toArray]) 4 Tryz.func156 rfl rfl rfl (fun w0 => ?_)
 refine ao ?_
 refine ab ?_
 refine bE rfl rfl rfl (fun b1 => ?_)
 refine ap (ai rfl) rfl rfl ?_
 refine ae ?_
 refine aj ?_
 refine ao ?_
 refine ab ?_
 refine ap (ee rfl rfl) rfl rfl ?_
 refine ap (ai rfl) rfl rfl ?_
 refine ae ?_
 refine aj ?_
 refine aF ?_
 refine aJ (ts := [2]) rfl rfl rfl (fun w hw => ?_)
 exact ⟨b1, rfl, hw.base, (hw.weak (.cons_cons _ .slnil) (fun s hs => hs)).toNews⟩

theorem c_each1 (r : Rg) (p : Nat) (hr : RgOk r) : Iter Tryz.prog 212 [.pointer (some ⟨p, 0, none⟩)] [Ch.row p (dR r) 64] encA1 (dQ r) := by
 refine iter_of_W 24 Tryz.func212 rfl rfl rfl (fun lr σ I Ix C Sc hy g0 hg0 w0 => ?_)
 refine ao ?_
 refine ab ?_
 refine ap (dD 0 cm rfl rfl rfl rfl) rfl rfl ?_
 refine aS rfl ent_97 (c_rSize r hr.lo.1) rfl ?_
 refine ap (ak rfl) rfl rfl ?_
 refine ae ?_
 refine aj ?_
 refine aP ?_
 refine d6 (σ := Nat × σ) [3, 4, 5, 8, 9, 10, 11, 12, 13, 14, 15, 16, 17, 18, 19, 20, 21, 22, 23] (fun s => s.1 ≤ bj r ∧ I ((dQ r).take s.1) s.2) (fun s => bj r - s.1) (fun s => [(8, .int .i64 s.1)]) (fun s => C s.2) ((0, g0)) ?_ ⟨rfl, trivial⟩ rfl (fun s hI => ?_)
 exact ⟨Nat.zero_le _, hg0⟩
 obtain ⟨k, g⟩ := s
 obtain ⟨hk, hI⟩ := hI
 dsimp only at hk hI ⊢
 refine ao ?_
 refine ab ?_
 refine ap (bF rfl rfl) rfl rfl ?_
 refine aC (t := 9) rfl (fun h1_0 => ?_) (fun h1_0 => ?_)
 have hkl : k < bj r := by omega
 have hsl := eD r
 have hx2 := iter_split (dQ r) ad0 k (by rw [eM]; exact hkl)
 rw [iv hkl] at hx2
 refine ae ?_
 refine aj ?_
 refine ao ?_
 refine ay rfl ?_
 refine aH ?_
 refine aj ?_
 refine ao ?_
 refine aP ?_
 refine ao ?_
 refine ab ?_
 refine ap (ak rfl) rfl rfl ?_
 refine ap (ai rfl) rfl rfl ?_
 refine ae ?_
 refine aj ?_
 refine ao ?_
 refine ab ?_
 refine ap (aB db rfl) rfl rfl ?_
 refine ap (dD 0 aN rfl rfl rfl rfl) rfl rfl ?_
 refine ap (ak rfl) rfl rfl ?_
 refine ap (dS Tryz.underlying3 Tryz.underlying27 rfl (dy (by omega) (by omega))) rfl rfl ?_
 refine bv rfl ent_167 rfl (c_addr_Add r.base k hr.lo hr.hi (by omega)) (fun w hw => bf) ?_
 refine ap (ak rfl) rfl rfl ?_
 refine ap (aI rfl rfl) rfl rfl ?_
 refine ap (aI rfl rfl) rfl rfl ?_
 refine bz aN rfl rfl (fun b1 => ?_)
 refine aT aN rfl rfl rfl .z rfl rfl rfl rfl ?_
 refine ap (ai rfl) rfl rfl ?_
 refine ae ?_
 refine aj ?_
 refine ao ?_
 refine ab ?_
 refine ap (ak rfl) rfl rfl ?_
 refine ap (aK 0 aN rfl rfl rfl rfl) rfl rfl ?_
 refine iC rfl rfl (hy _ (cD r.base k).1 _ g hx2 hI) (fun _ => (.s (.z))) (fun s hs => List.mem_append_right _ hs) rfl (fun g' hT => ?_) (fun g' hF => ?_)
 refine ap (bJ rfl) rfl rfl ?_
 refine ae ?_
 refine aj ?_
 refine au rfl ?_
 refine aH ?_
 refine bq ?_
 refine aj ?_
 refine ab ?_
 refine ap (bg rfl rfl (by omega) (by omega)) rfl rfl ?_
 refine ap (ak rfl) rfl rfl ?_
 refine ae ?_
 have hpl := bH (dQ r) ad0 k (by rw [eM]; exact hkl)
 rw [iv hkl] at hpl
 refine bo ((k + 1, g')) ?_ ?_ ⟨rfl, trivial⟩ (by repeat (first | exact trivial | refine ⟨rfl, ?_⟩)) (bS 1)
 exact ⟨by show k + 1 ≤ _; omega, by show I ((dQ r).take (k + 1)) g'; rw [hpl]; exact hT⟩
 show bj r - (k + 1) < bj r - k
 omega
 refine ap (bJ rfl) rfl rfl ?_
 refine ae ?_
 refine aj ?_
 refine ay rfl ?_
 refine aF ?_
 refine aL ?_
 refine aA ?_
 refine bu ?_
 refine aL ?_
 refine aJ (ts := []) rfl rfl rfl (fun w hw => ?_)
 exact fY _ (.inr ⟨_, _, by rw [List.append_assoc]; exact hx2, hF⟩) (hw.weak (.cons _ (.cons_cons _ .slnil)) (fun s hs => hs))
 refine ae ?_
 refine aj ?_
 refine ao ?_
 refine au rfl ?_
 refine bC ?_
 refine aY ?_
 refine aU ?_
 refine a8 ?_
 refine i5 (ts := []) rfl rfl rfl (fun w hw => ?_)
 have hkk : k = bj r := by omega
 rw [hkk, ← eM r, List.take_length] at hI
 exact fY _ (.inl hI) hw

theorem c_hasF (x : Rg) (a : Ad) (b : Nat) (h0 : 0 ≤ x.base.lo) (h1 : 0 ≤ a.lo) : RC Tryz.prog 158 #[.agg (dR x).toArray, .pointer (some ⟨b, 0, none⟩)] [Ch.row b (dN a) 29] (α := Unit) (fun _ => .bool (ci x a)) (fun _ => []) := by
 refine bi (args := [.agg (dR x).toArray, .pointer (some ⟨b, 0, none⟩)]) 7 Tryz.func158 rfl rfl rfl (fun w0 => ?_)
 refine ao ?_
 refine ab ?_
 refine bE rfl rfl rfl (fun b1 => ?_)
 refine ap (ai rfl) rfl rfl ?_
 refine ae ?_
 refine aj ?_
 refine ao ?_
 refine ab ?_
 refine ap (aK 0 cm rfl rfl rfl rfl) rfl rfl ?_
 refine ap (dD 0 aN rfl rfl rfl rfl) rfl rfl ?_
 refine aS rfl ent_159 (c_rHas x a h0 h1) rfl ?_
 refine ap (ai rfl) rfl rfl ?_
 refine ae ?_
 refine aj ?_
 refine aF ?_
 refine aJ (ts := [3]) rfl rfl rfl (fun w hw => ?_)
 exact ⟨(), rfl, hw.base, (hw.weak (List.nil_sublist _) (fun s hs => hs)).toNews⟩

theorem c_ixfF (res : List Rg) (A : Option Addr) (c : Nat) (a : Ad) (b : Nat) (hr : ∀ x ∈ res, RgOk x) (ha : 0 ≤ a.lo) (hl : res.length ≤ 4398046510976) : RC Tryz.prog 213 #[.slice A res.length c, .func (.func 158) #[] #[.pointer (some ⟨b, 0, none⟩)]] [Ch.rd A 4 dR res, Ch.row b (dN a) 29] (α := {i : Int // 0 ≤ i ↔ (res.any fun x => ci x a) = true}) (fun i => .int .i64 i.1) (fun i => []) := by
 refine bi (args := [.slice A res.length c, .func (.func 158) #[] #[.pointer (some ⟨b, 0, none⟩)]]) 19 Tryz.func213 rfl rfl rfl (fun w0 => ?_)
 refine ao ?_
 refine ab ?_
 refine ap (ai rfl) rfl rfl ?_
 refine ae ?_
 refine aj ?_
 refine ao ?_
 refine ao ?_
 refine ab ?_
 refine ap (ak rfl) rfl rfl ?_
 refine ap (bM Tryz.underlying65 rfl) rfl rfl ?_
 refine ap (ak rfl) rfl rfl ?_
 refine ae ?_
 refine aj ?_
 refine aP ?_
 refine b8 (σ := Nat) [4, 5, 8, 9, 10, 11, 12, 13, 14, 15, 16, 17, 18] (fun k => k ≤ res.length ∧ ∀ q, q < k → ci (res.getD q hU) a = false) (fun k => res.length - k) (fun k => [(8, .int .i64 k)]) (0) ?_ ⟨rfl, trivial⟩ (fun k hI => ?_)
 exact ⟨Nat.zero_le _, nofun⟩
 refine ao ?_
 refine ab ?_
 refine ap (bF rfl rfl) rfl rfl ?_
 refine aC (t := 9) rfl (fun h2_0 => ?_) (fun h2_0 => ?_)
 have hk : k < res.length := by omega
 refine ae ?_
 refine aj ?_
 refine ao ?_
 refine ay rfl ?_
 refine aH ?_
 refine aj ?_
 refine ao ?_
 refine aP ?_
 refine ao ?_
 refine ab ?_
 refine ap (ak rfl) rfl rfl ?_
 refine ap (ai rfl) rfl rfl ?_
 refine ae ?_
 refine aj ?_
 refine ao ?_
 refine ab ?_
 refine ap (ak rfl) rfl rfl ?_
 refine ap (ak rfl) rfl rfl ?_
 refine ap (ak rfl) rfl rfl ?_
 refine ap (bP  Tryz.underlying65 cm rfl rfl (bY 0 rfl) rfl (by omega)) rfl rfl ?_
 refine ap (dV fO hU cm rfl (bY 0 rfl) (by omega) rfl rfl rfl) rfl rfl ?_
 refine o_callvq rfl rfl rfl ent_158 rfl (c_hasF (res.getD k hU) a b (hr _ (bX hk)).lo.1 ha) (fun w hw => (aQ (cI 1 rfl hw) bf)) ?_
 refine bk (t := 16) rfl (fun h4_5 => ?_) (fun h4_5 => ?_)
 refine ae ?_
 refine aj ?_
 refine ay rfl ?_
 refine ao ?_
 refine ab ?_
 refine ap (ak rfl) rfl rfl ?_
 refine ap (ai rfl) rfl rfl ?_
 refine ae ?_
 refine aj ?_
 refine aF ?_
 refine aL ?_
 refine aA ?_
 refine bu ?_
 refine aL ?_
 refine aA ?_
 refine aJ (ts := [4]) rfl rfl rfl (fun w hw => ?_)
 exact ⟨⟨k, fun _ => any_yes hk h4_5, fun _ => Int.natCast_nonneg k⟩, rfl, hw.base, (hw.weak (List.nil_sublist _) (fun s hs => hs)).toNews⟩
 refine ae ?_
 refine aj ?_
 refine au rfl ?_
 refine aH ?_
 refine bq ?_
 refine aj ?_
 refine ab ?_
 refine ap (bg rfl rfl (by omega) (by omega)) rfl rfl ?_
 refine ap (ak rfl) rfl rfl ?_
 refine ae ?_
 refine bo (k + 1) ?_ ?_ ⟨rfl, trivial⟩ (by repeat (first | exact trivial | refine ⟨rfl, ?_⟩)) aw
 refine ⟨by omega, fun q hq => ?_⟩
 by_cases e : q = k
 · rw [e]; exact h4_5
 · exact hI.2 q (by omega)
 omega
 refine ae ?_
 refine aj ?_
 refine ao ?_
 refine au rfl ?_
 refine bC ?_
 refine aY ?_
 refine aU ?_
 refine a8 ?_
 refine aj ?_
 refine ao ?_
 refine ab ?_
 refine ap (ai rfl) rfl rfl ?_
 refine ae ?_
 refine aj ?_
 refine aF ?_
 refine aJ (ts := [4]) rfl rfl rfl (fun w hw => ?_)
 have hno := any_no (res := res) (a := a) (fun q hq => hI.2 q (by omega))
 exact ⟨⟨-1, fun h => absurd h (by decide), fun h => by rw [hno] at h; cases h⟩, rfl, hw.base, (hw.weak (List.nil_sublist _) (fun s hs => hs)).toNews⟩

theorem c_cntF (res : List Rg) (A : Option Addr) (c : Nat) (a : Ad) (b : Nat) (hr : ∀ x ∈ res, RgOk x) (ha : 0 ≤ a.lo) (hl : res.length ≤ 4398046510976) : RC Tryz.prog 157 #[.slice A res.length c, .func (.func 158) #[] #[.pointer (some ⟨b, 0, none⟩)]] [Ch.rd A 4 dR res, Ch.row b (dN a) 29] (α := Unit) (fun _ => .bool (res.any fun x => ci x a)) (fun _ => []) := by
 refine bi (args := [.slice A res.length c, .func (.func 158) #[] #[.pointer (some ⟨b, 0, none⟩)]]) 9 Tryz.func157 rfl rfl rfl (fun w0 => ?_)
 refine ao ?_
 refine ab ?_
 refine ap (ai rfl) rfl rfl ?_
 refine ae ?_
 refine aj ?_
 refine ao ?_
 refine ab ?_
 refine ap (ak rfl) rfl rfl ?_
 refine ap (ak rfl) rfl rfl ?_
 refine gK rfl ent_213 rfl (c_ixfF res A c a b hr ha hl) (fun w hw => (aQ (cI 0 rfl hw) (aQ (cI 1 rfl hw) bf))) (fun ⟨i, hi⟩ => ?_)
 refine ap (gF rfl rfl) rfl rfl ?_
 refine ap (ai rfl) rfl rfl ?_
 refine ae ?_
 refine aj ?_
 refine aF ?_
 refine aJ (ts := [4]) rfl rfl rfl (fun w hw => ?_)
 refine ⟨(), ?_, hw.base, (hw.weak (List.nil_sublist _) (fun s hs => hs)).toNews⟩
 show Ending.returned (.bool _) = _
 congr 2
 show decide (0 ≤ i) = _
 rw [Bool.eq_iff_iff, decide_eq_true_iff]; exact hi

theorem c_hasV (x : Rg) (a : Ad) (b : Nat) (h0 : 0 ≤ x.base.lo) (h1 : 0 ≤ a.lo) : RC Tryz.prog 168 #[.agg (dR x).toArray, .pointer (some ⟨b, 0, none⟩)] [Ch.row b (dN a) 29] (α := Unit) (fun _ => .bool (ci x a)) (fun _ => []) := by
 refine bi (args := [.agg (dR x).toArray, .pointer (some ⟨b, 0, none⟩)]) 7 Tryz.func168 rfl rfl rfl (fun w0 => ?_)
 refine ao ?_
 refine ab ?_
 refine bE rfl rfl rfl (fun b1 => ?_)
 refine ap (ai rfl) rfl rfl ?_
 refine ae ?_
 refine aj ?_
 refine ao ?_
 refine ab ?_
 refine ap (aK 0 cm rfl rfl rfl rfl) rfl rfl ?_
 refine ap (dD 0 aN rfl rfl rfl rfl) rfl rfl ?_
 refine aS rfl ent_159 (c_rHas x a h0 h1) rfl ?_
 refine ap (ai rfl) rfl rfl ?_
 refine ae ?_
 refine aj ?_
 refine aF ?_
 refine aJ (ts := [3]) rfl rfl rfl (fun w hw => ?_)
 exact ⟨(), rfl, hw.base, (hw.weak (List.nil_sublist _) (fun s hs => hs)).toNews⟩

theorem c_ixfV (res : List Rg) (A : Option Addr) (c : Nat) (a : Ad) (b : Nat) (hr : ∀ x ∈ res, RgOk x) (ha : 0 ≤ a.lo) (hl : res.length ≤ 4398046510976) : RC Tryz.prog 213 #[.slice A res.length c, .func (.func 168) #[] #[.pointer (some ⟨b, 0, none⟩)]] [Ch.rd A 4 dR res, Ch.row b (dN a) 29] (α := {i : Int // 0 ≤ i ↔ (res.any fun x => ci x a) = true}) (fun i => .int .i64 i.1) (fun i => []) := by
 refine bi (args := [.slice A res.length c, .func (.func 168) #[] #[.pointer (some ⟨b, 0, none⟩)]]) 19 Tryz.func213 rfl rfl rfl (fun w0 => ?_)
 refine ao ?_
 refine ab ?_
 refine ap (ai rfl) rfl rfl ?_
 refine ae ?_
 refine aj ?_
 refine ao ?_
 refine ao ?_
 refine ab ?_
 refine ap (ak rfl) rfl rfl ?_
 refine ap (bM Tryz.underlying65 rfl) rfl rfl ?_
 refine ap (ak rfl) rfl rfl ?_
 refine ae ?_
 refine aj ?_
 refine aP ?_
 refine b8 (σ := Nat) [4, 5, 8, 9, 10, 11, 12, 13, 14, 15, 16, 17, 18] (fun k => k ≤ res.length ∧ ∀ q, q < k → ci (res.getD q hU) a = false) (fun k => res.length - k) (fun k => [(8, .int .i64 k)]) (0) ?_ ⟨rfl, trivial⟩ (fun k hI => ?_)
 exact ⟨Nat.zero_le _, nofun⟩
 refine ao ?_
 refine ab ?_
 refine ap (bF rfl rfl) rfl rfl ?_
 refine aC (t := 9) rfl (fun h2_0 => ?_) (fun h2_0 => ?_)
 have hk : k < res.length := by omega
 refine ae ?_
 refine aj ?_
 refine ao ?_
 refine ay rfl ?_
 refine aH ?_
 refine aj ?_
 refine ao ?_
 refine aP ?_
 refine ao ?_
 refine ab ?_
 refine ap (ak rfl) rfl rfl ?_
 refine ap (ai rfl) rfl rfl ?_
 refine ae ?_
 refine aj ?_
 refine ao ?_
 refine ab ?_
 refine ap (ak rfl) rfl rfl ?_
 refine ap (ak rfl) rfl rfl ?_
 refine ap (ak rfl) rfl rfl ?_
 refine ap (bP  Tryz.underlying65 cm rfl rfl (bY 0 rfl) rfl (by omega)) rfl rfl ?_
 refine ap (dV fO hU cm rfl (bY 0 rfl) (by omega) rfl rfl rfl) rfl rfl ?_
 refine o_callvq rfl rfl rfl ent_168 rfl (c_hasV (res.getD k hU) a b (hr _ (bX hk)).lo.1 ha) (fun w hw => (aQ (cI 1 rfl hw) bf)) ?_
 refine bk (t := 16) rfl (fun h4_5 => ?_) (fun h4_5 => ?_)
 refine ae ?_
 refine aj ?_
 refine ay rfl ?_
 refine ao ?_
 refine ab ?_
 refine ap (ak rfl) rfl rfl ?_
 refine ap (ai rfl) rfl rfl ?_
 refine ae ?_
 refine aj ?_
 refine aF ?_
 refine aL ?_
 refine aA ?_
 refine bu ?_
 refine aL ?_
 refine aA ?_
 refine aJ (ts := [4]) rfl rfl rfl (fun w hw => ?_)
 exact ⟨⟨k, fun _ => any_yes hk h4_5, fun _ => Int.natCast_nonneg k⟩, rfl, hw.base, (hw.weak (List.nil_sublist _) (fun s hs => hs)).toNews⟩
 refine ae ?_
 refine aj ?_
 refine au rfl ?_
 refine aH ?_
 refine bq ?_
 refine aj ?_
 refine ab ?_
 refine ap (bg rfl rfl (by omega) (by omega)) rfl rfl ?_
 refine ap (ak rfl) rfl rfl ?_
 refine ae ?_
 refine bo (k + 1) ?_ ?_ ⟨rfl, trivial⟩ (by repeat (first | exact trivial | refine ⟨rfl, ?_⟩)) aw
 refine ⟨by omega, fun q hq => ?_⟩
 by_cases e : q = k
 · rw [e]; exact h4_5
 · exact hI.2 q (by omega)
 omega
 refine ae ?_
 refine aj ?_
 refine ao ?_
 refine au rfl ?_
 refine bC ?_
 refine aY ?_
 refine aU ?_
 refine a8 ?_
 refine aj ?_
 refine ao ?_
 refine ab ?_
 refine ap (ai rfl) rfl rfl ?_
 refine ae ?_
 refine aj ?_
 refine aF ?_
 refine aJ (ts := [4]) rfl rfl rfl (fun w hw => ?_)
 have hno := any_no (res := res) (a := a) (fun q hq => hI.2 q (by omega))
 exact ⟨⟨-1, fun h => absurd h (by decide), fun h => by rw [hno] at h; cases h⟩, rfl, hw.base, (hw.weak (List.nil_sublist _) (fun s hs => hs)).toNews⟩

theorem c_cntV (res : List Rg) (A : Option Addr) (c : Nat) (a : Ad) (b : Nat) (hr : ∀ x ∈ res, RgOk x) (ha : 0 ≤ a.lo) (hl : res.length ≤ 4398046510976) : RC Tryz.prog 157 #[.slice A res.length c, .func (.func 168) #[] #[.pointer (some ⟨b, 0, none⟩)]] [Ch.rd A 4 dR res, Ch.row b (dN a) 29] (α := Unit) (fun _ => .bool (res.any fun x => ci x a)) (fun _ => []) := by
 refine bi (args := [.slice A res.length c, .func (.func 168) #[] #[.pointer (some ⟨b, 0, none⟩)]]) 9 Tryz.func157 rfl rfl rfl (fun w0 => ?_)
 refine ao ?_
 refine ab ?_
 refine ap (ai rfl) rfl rfl ?_
 refine ae ?_
 refine aj ?_
 refine ao ?_
 refine ab ?_
 refine ap (ak rfl) rfl rfl ?_
 refine ap (ak rfl) rfl rfl ?_
 refine gK rfl ent_213 rfl (c_ixfV res A c a b hr ha hl) (fun w hw => (aQ (cI 0 rfl hw) (aQ (cI 1 rfl hw) bf))) (fun ⟨i, hi⟩ => ?_)
 refine ap (gF rfl rfl) rfl rfl ?_
 refine ap (ai rfl) rfl rfl ?_
 refine ae ?_
 refine aj ?_
 refine aF ?_
 refine aJ (ts := [4]) rfl rfl rfl (fun w hw => ?_)
 refine ⟨(), ?_, hw.base, (hw.weak (List.nil_sublist _) (fun s hs => hs)).toNews⟩
 show Ending.returned (.bool _) = _
 congr 2
 show decide (0 ≤ i) = _
 rw [Bool.eq_iff_iff, decide_eq_true_iff]; exact hi

theorem iP (rg : Rg) (res : List Rg) (A : Option Addr) (c : Nat) (hr : RgOk rg) (hrs : ∀ x ∈ res, RgOk x) (hl : res.length ≤ 4398046510976) : RC Tryz.prog 91 #[.agg (dR rg).toArray, .slice A res.length c] [Ch.rd A 4 dR res] (α := Unit) (fun _ => .int .i64 (dv rg res)) (fun _ => []) := by
 refine iH (args := [.agg (dR rg).toArray, .slice A res.length c]) 17 Tryz.func91 rfl rfl rfl (fun w0 => ?_)
 refine ao ?_
 refine ab ?_
 refine bE rfl rfl rfl (fun b1 => ?_)
 refine bE rfl rfl rfl (fun b2 => ?_)
 refine ap (ai rfl) rfl rfl ?_
 refine ae ?_
 refine aj ?_
 refine ao ?_
 refine ab ?_
 refine bz eW rfl rfl (fun b3 => ?_)
 refine aT eW rfl rfl rfl .z rfl rfl rfl rfl ?_
 refine ae ?_
 refine aj ?_
 refine ao ?_
 refine ao ?_
 refine ab ?_
 refine ap (aK 2 cm rfl rfl rfl rfl) rfl rfl ?_
 refine co rfl ent_156 rfl (c_each rg) (fun w hw => bf) (fun p3 => ?_)
 refine cE (fun w h => h.freeze) ?_
 refine ae ?_
 refine aj ?_
 refine aP ?_
 refine w_range (σ := Nat) (fun pre g => g = (pre.filter (dJ res)).length) (fun c pre g => False) (fun g => [Ch.row b3 [.int .i64 (g : Int)] 3, Ch.row b2 [.slice A res.length c] 65, Ch.row b1 (dR rg) 64]) (0) rfl rfl ent_212 (c_each1 rg p3 hr) (List.forall_mem_cons.2 ⟨.head _, nofun⟩) rfl (fun _ => rfl) (rfl) rfl (fun pre e post g hxs hI lr D r hr okb wb => ?_) (fun g D0 hI => ?_) (fun c pre post g D0 hxs hI => ?_)
 subst hI
 have hae : 0 ≤ e.lo := by
   have hm : e ∈ dQ rg := by rw [hxs]; simp
   obtain ⟨i, _, rfl⟩ := List.mem_map.1 hm
   exact addA_lo _ _
 have hpl : pre.length ≤ 65536 := by
   have := eD rg; rw [← eM, hxs, List.length_append] at this; omega
 have hfl : (pre.filter (dJ res)).length ≤ pre.length := List.length_filter_le _ _
 refine ab ?_
 refine bz aN rfl rfl (fun b5 => ?_)
 refine aT aN rfl rfl rfl .z rfl rfl rfl rfl ?_
 refine ae ?_
 refine gW rfl hr (.s (.z)) ?_
 refine aP ?_
 refine ao ?_
 refine ab ?_
 refine ap (aM 4 fZ rfl rfl rfl) rfl rfl ?_
 refine ap (ee rfl rfl) rfl rfl ?_
 refine bv rfl ent_157 rfl (c_cntF res A c e b5 hrs hae hl) (fun w hw => (aQ (cI 1 rfl hw) (aQ (dL 0 rfl hw) bf))) ?_
 refine bk (t := 12) rfl (fun h4_2 => ?_) (fun h4_2 => ?_)
 refine ap (bJ rfl) rfl rfl ?_
 refine ae ?_
 refine aj ?_
 refine au rfl ?_
 refine aH ?_
 refine bq ?_
 refine ib ((pre.filter (dJ res)).length) ?_ (bS 1)
 rw [free_snoc, dJ, h4_2]; rfl
 refine ap (bJ rfl) rfl rfl ?_
 refine ae ?_
 refine aj ?_
 refine ay rfl ?_
 refine ab ?_
 refine ap (aM 3 eW rfl rfl rfl) rfl rfl ?_
 refine ap (bg rfl rfl (by omega) (by omega)) rfl rfl ?_
 refine aT eW rfl rfl rfl (.s (.s (.s (.z)))) rfl rfl rfl rfl ?_
 refine ae ?_
 refine bq ?_
 refine ib ((pre.filter (dJ res)).length + 1) ?_ (bS 1)
 rw [free_snoc, dJ, h4_2]; rfl
 subst hI
 refine bq ?_
 refine aj ?_
 refine ao ?_
 refine ab ?_
 refine ap (aM 1 eW rfl rfl rfl) rfl rfl ?_
 refine ap (ai rfl) rfl rfl ?_
 refine ae ?_
 refine aj ?_
 refine aF ?_
 refine gg ?_
 refine fD .z ?_
 refine eN (rs := [.tmp 4]) rfl (cC rfl bR) (fun w hw => ?_)
 exact ⟨(), by rw [show dv rg res = ((dQ rg).filter (dJ res)).length from rfl]; rfl, hw.base, (hw.weak (List.nil_sublist _) (fun s hs => hs)).toNews⟩
 exact hI.elim
end Go.Proofs.YtnpdgmoeoidppaaGreat

/- Two chunks that are handed on as one. -/
namespace Go.Proofs.YtnpdgmoeoidppaaGreat
open Go.RowKit Go.Shelf
set_option linter.unusedVariables false
def Ch.two (a b : Ch) : Ch := ⟨fun k => a.ok k ∨ b.ok k, fun w => a.P w ∧ b.P w ∧ ∀ k, a.ok k → ¬ b.ok k, fun w w' h hk => ⟨a.st w w' h.1 (fun k q => hk k (.inl q)), b.st w w' h.2.1 (fun k q => hk k (.inr q)), h.2.2⟩⟩
section
variable {ok0 : Nat → Prop} {w0 w : World} {a b : Ch} {L S : List Ch}
theorem Hp.untwo (h : Hp ok0 w0 (Ch.two a b :: L) S w) : Hp ok0 w0 (a :: b :: L) S w := by
  have hp : a.P w ∧ b.P w ∧ ∀ k, a.ok k → ¬ b.ok k := h.own _ List.mem_cons_self
  obtain ⟨hd, hr⟩ := List.pairwise_cons.1 h.dj
  have ht : ∀ c ∈ L, c ∈ Ch.two a b :: L := fun c hc => .tail _ hc
  refine ⟨h.base, ?_, ?_, ?_, ?_, h.sh, h.slt, ?_⟩
  · intro c hc
    rcases List.mem_cons.1 hc with rfl | hc
    · exact hp.1
    · rcases List.mem_cons.1 hc with rfl | hc
      · exact hp.2.1
      · exact h.own c (ht c hc)
  · intro c hc k hk
    rcases List.mem_cons.1 hc with rfl | hc
    · exact h.lt _ List.mem_cons_self k (.inl hk)
    · rcases List.mem_cons.1 hc with rfl | hc
      · exact h.lt _ List.mem_cons_self k (.inr hk)
      · exact h.lt c (ht c hc) k hk
  · intro c hc k hk
    rcases List.mem_cons.1 hc with rfl | hc
    · exact h.ge _ List.mem_cons_self k (.inl hk)
    · rcases List.mem_cons.1 hc with rfl | hc
      · exact h.ge _ List.mem_cons_self k (.inr hk)
      · exact h.ge c (ht c hc) k hk
  · refine List.pairwise_cons.2 ⟨fun c hc k hk => ?_, List.pairwise_cons.2 ⟨fun c hc k hk => hd c hc k (.inr hk), hr⟩⟩
    rcases List.mem_cons.1 hc with rfl | hc
    · exact hp.2.2 k hk
    · exact hd c hc k (.inl hk)
  · intro s hs c hc k hk
    rcases List.mem_cons.1 hc with rfl | hc
    · exact h.sdj s hs _ List.mem_cons_self k (.inl hk)
    · rcases List.mem_cons.1 hc with rfl | hc
      · exact h.sdj s hs _ List.mem_cons_self k (.inr hk)
      · exact h.sdj s hs c (ht c hc) k hk
theorem Hp.two (h : Hp ok0 w0 (a :: b :: L) S w) : Hp ok0 w0 (Ch.two a b :: L) S w := by
  obtain ⟨hd, hr⟩ := List.pairwise_cons.1 h.dj
  obtain ⟨hd2, hr2⟩ := List.pairwise_cons.1 hr
  have ht : ∀ c ∈ L, c ∈ a :: b :: L := fun c hc => .tail _ (.tail _ hc)
  have ha : a ∈ a :: b :: L := .head _
  have hb : b ∈ a :: b :: L := .tail _ (.head _)
  refine ⟨h.base, ?_, ?_, ?_, List.pairwise_cons.2 ⟨fun c hc k hk => hk.elim (hd c (.tail _ hc) k) (hd2 c hc k), hr2⟩, h.sh, h.slt, ?_⟩
  · intro c hc
    rcases List.mem_cons.1 hc with rfl | hc
    · exact ⟨h.own a ha, h.own b hb, hd b (.head _)⟩
    · exact h.own c (ht c hc)
  · intro c hc k hk
    rcases List.mem_cons.1 hc with rfl | hc
    · exact hk.elim (h.lt a ha k) (h.lt b hb k)
    · exact h.lt c (ht c hc) k hk
  · intro c hc k hk
    rcases List.mem_cons.1 hc with rfl | hc
    · exact hk.elim (h.ge a ha k) (h.ge b hb k)
    · exact h.ge c (ht c hc) k hk
  · intro s hs c hc k hk
    rcases List.mem_cons.1 hc with rfl | hc
    · exact hk.elim (h.sdj s hs a ha k) (h.sdj s hs b hb k)
    · exact h.sdj s hs c (ht c hc) k hk
theorem dT (h : (Ch.two a b).P w ∧ ∀ k, (Ch.two a b).ok k → k < w.heap.size) : a.P w ∧ ∀ k, a.ok k → k < w.heap.size := ⟨h.1.1, fun k q => h.2 k (.inl q)⟩
theorem fA (h : (Ch.two a b).P w ∧ ∀ k, (Ch.two a b).ok k → k < w.heap.size) : b.P w ∧ ∀ k, b.ok k → k < w.heap.size := ⟨h.1.2.1, fun k q => h.2 k (.inr q)⟩
end
section
variable {x : Cx} {C : World → Prop} {l : Fr} {L S : List Ch} {Q : Exit → Act → World → Prop} {ops : Array Oper} {fuel m : Nat} {listed : Array Bool}
theorem wv_heap {L' S' : List Ch} (hs : ∀ w, Hp x.ok0 x.w0 L S w → Hp x.ok0 x.w0 L' S' w) (h : WV x C m ops fuel listed l L' S' Q) : WV x C m ops fuel listed l L S Q := fun a w ha hw => h a w ha (hs w hw)
end
section
variable {x : Cx} {l : Fr} {L S : List Ch} {d : Nat} {ty : TypeId} {pos : String} {af : Array Edge} {gd : Option (Nat × Bool)}
variable {α β : Type} {encK : α → Value} {encV : β → Value}
theorem y_lenmp {t kt et : TypeId} {y : Operand} {r : Nat} {m : List (α × β)} (ht : x.P.underlying t = some (.map kt et)) (hy : ev l y = some (.map (some r))) (hm : ∀ w, Hp x.ok0 x.w0 L S w → MpP r encK encV m w) :
    Yv x l L S ⟨some d, .call { callee := .builtin .len, args := #[y], argTypes := #[t] }, ty, pos, af, gd⟩ (.int .i64 m.length) := fun a w ha hw => by
  obtain ⟨es, c, h1, h2, _⟩ := (hm w hw).at_
  have hl : es.size = m.length := by have := congrArg List.length h2; simpa using this
  simp [execOp, resolve, invoke, builtin, Builtin.len_, run_underlying ht, ha.ev hy, goInt, getObj, Sem.run, h1, hl, Result.andThen]
end
section
variable {α β : Type} {encK : α → Value} {encV : β → Value}
theorem mq_mp {r st : Nat} {m : List (α × β)} {a : α} {zv : Value} {v0 : β} {w : World} (hz : zv = encV v0) (h : MqP r encK encV m a zv st w) : MpP r encK encV (m ++ [(a, v0)]) w := by
  obtain ⟨es, h1, h2, h3, h4, h5⟩ := h.at_
  refine ⟨_, _, h1, by simp [h2], by simp [h3, hz], ?_, ?_⟩
  · simp only [Array.toList_push, List.map_append, List.map_cons, List.map_nil]
    rw [List.nodup_append]
    refine ⟨h4, by simp, ?_⟩
    intro b hb c' hc'
    simp at hc'
    obtain ⟨e, he, rfl⟩ := List.mem_map.1 hb
    have := h5 e he
    omega
  · intro e he
    simp only [Array.toList_push, List.mem_append, List.mem_singleton] at he
    rcases he with he | rfl
    · have := h5 e he; omega
    · simp
theorem Hp.anymq {ok0 : Nat → Prop} {w0 w : World} {L L' S : List Ch} {i r st : Nat} {m : List (α × β)} {a : α} {zv : Value} {v0 : β} (h : Hp ok0 w0 L S w) (hz : zv = encV v0) (hi : SetAt L i (Ch.mq r encK encV m a zv st) (Ch.mpany r encK encV) L') : Hp ok0 w0 L' S w :=
  h.turn hi (fun hp => ⟨_, mq_mp hz hp⟩) (fun _ h => h)
end
section
variable {x : Cx} {l : Fr} {L S : List Ch} {Q : Exit → Act → World → Prop} {ops : Array Oper} {rest : List Oper} {d : Nat} {ty : TypeId} {pos : String} {af : Array Edge}
theorem o_callr3 {g : Nat} {ys : List Operand} {tys : Array TypeId} {vs : List Value} {Sx : List Ch} {β : Type} {V : β → Value} {C D E : β → Ch} (has : evs l ys = some vs) (hen : Enters x.P g) (hN : Nat.blt d x.N = true)
    (hc : RC x.P g vs.toArray Sx V (fun o => [C o, D o, E o])) (hr : ∀ w, Hp x.ok0 x.w0 L S w → Rd Sx w)
    (k : ∀ o, WL x ((d, V o) :: l) (C o :: D o :: E o :: L) S ops rest Q) : WL x l L S ops (⟨some d, .call { callee := .value (.func g), args := ys.toArray, argTypes := tys }, ty, pos, af, none⟩ :: rest) Q := gZ has hen hN hc hr k
theorem Hp.toRdV {α : Type} {enc : α → List Value} {ok0 : Nat → Prop} {w0 w : World} {A : Option Addr} {c sz : Nat} {T : TypeId} {xs : List α} {L S : List Ch} (h : Hp ok0 w0 (Ch.ls A c T sz enc xs :: L) S w) : Hp ok0 w0 L (Ch.rd A sz enc xs :: S) w :=
  (h.turn (c' := Ch.rd A sz enc xs) .z sl_rs.1 (sl_rs (w := w)).2).freeze
end
end Go.Proofs.YtnpdgmoeoidppaaGreat
