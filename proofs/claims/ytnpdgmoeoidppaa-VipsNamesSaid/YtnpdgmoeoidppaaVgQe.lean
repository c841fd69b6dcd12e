import Derived.Test.YtnpdgmoeoidppaaVcQe
import Derived.Test.YtnpdgmoeoidppaaLuQe
/- vips: what is held, gone through and sorted -/
namespace Go.Proofs.Ytnpdgmoeoidppaa
open Go.RowKit Go.Shelf
set_option linter.unusedVariables false
set_option linter.unusedSimpArgs false

theorem ent_113 : Enters Try.prog 113 := enters_of Try.func113 (by kernel_rfl) rfl
theorem ent_114 : Enters Try.prog 114 := enters_of Try.func114 (by kernel_rfl) rfl
theorem ent_116 : Enters Try.prog 116 := enters_of Try.func116 (by kernel_rfl) rfl
theorem ent_117 : Enters Try.prog 117 := enters_of Try.func117 (by kernel_rfl) rfl
theorem ent_118 : Enters Try.prog 118 := enters_of Try.func118 (by kernel_rfl) rfl
theorem ent_149 : Enters Try.prog 149 := enters_of Try.func149 (by kernel_rfl) rfl
theorem ent_151 : Enters Try.prog 151 := enters_of Try.func151 (by kernel_rfl) rfl
theorem ent_73 : Enters Try.prog 73 := enters_of Try.func73 (by kernel_rfl) rfl
theorem ent_74 : Enters Try.prog 74 := enters_of Try.func74 (by kernel_rfl) rfl
theorem ent_76 : Enters Try.prog 76 := enters_of Try.func76 (by kernel_rfl) rfl
theorem ty_80 : TyI Try.prog 80 false 1 24 (.slice none 0 0) := TyI.mk' (by kernel_rfl) (fun _ => by kernel_rfl)

def kdA (a : Ad) : Int := if a.six = true then 1 else 0
def orJ : List Int → Int
  | [] => 0
  | x :: r => if x ≠ 0 then x else orJ r
def cmpA (a b : Ad) : Int := orJ [cu (kdA a) (kdA b), cu a.hi b.hi, cu a.lo b.lo]
theorem cmpI_neg (a b : Int) : cu a b < 0 ↔ a < b := by
  unfold cu
  split
  · omega
  · split <;> omega
theorem cmpI_zero (a b : Int) : cu a b = 0 ↔ a = b := by
  unfold cu
  split
  · omega
  · split <;> omega
theorem cmpA_neg (a b : Ad) : cmpA a b < 0 ↔ kdA a < kdA b ∨ (kdA a = kdA b ∧ (a.hi < b.hi ∨ (a.hi = b.hi ∧ a.lo < b.lo))) := by
  have h1 := cmpI_neg (kdA a) (kdA b); have h2 := cmpI_neg a.hi b.hi; have h3 := cmpI_neg a.lo b.lo
  have g1 := cmpI_zero (kdA a) (kdA b); have g2 := cmpI_zero a.hi b.hi; have g3 := cmpI_zero a.lo b.lo
  simp only [cmpA, orJ]
  by_cases c1 : cu (kdA a) (kdA b) = 0
  · rw [if_neg (fun q => q c1)]
    by_cases c2 : cu a.hi b.hi = 0
    · rw [if_neg (fun q => q c2)]
      by_cases c3 : cu a.lo b.lo = 0
      · rw [if_neg (fun q => q c3)]; omega
      · rw [if_pos c3]; omega
    · rw [if_pos c2]; omega
  · rw [if_pos c1]; omega
instance : Inhabited {x : Hd // True} := ⟨⟨eu, trivial⟩⟩
theorem swo_hd : Go.Sort.SWO (α := {x : Hd // True}) (Go.Proofs.ltOf fun x y : {x : Hd // True} => cmpA x.1.ad y.1.ad) where
  irrefl x := by simp only [ltOf, decide_eq_false_iff_not, cmpA_neg]; omega
  trans x y z h1 h2 := by simp only [ltOf, decide_eq_true_eq, cmpA_neg] at *; omega
  ntrans x y z h1 h2 := by simp only [ltOf, decide_eq_false_iff_not, cmpA_neg] at *; omega
def encHd1 (h : Hd) : List Value := [.agg (hdC h).toArray]
def encN1 (s : aL) : List Value := [.string (ba s)]
theorem next_key {α β : Type} {encK : α → Value} {encV : β → Value} {m : List (α × β)} {es : Array MapEntry} {clk : Nat} (h : MpE encK encV m es clk) {ix : List Nat} {e : MapEntry} (he : e ∈ (leftOf es (cr es ix)).toList) (d0 : α × β) : e ∈ es.toList ∧ ∃ i, i < m.length ∧ i ∉ ix ∧ e.born = dz es i ∧ e.key = encK (m.getD i d0).1 := by
  have h1 : e ∈ es.toList ∧ e.born ∉ ix.map (dz es) := by
    have : e ∈ leftOf es (cr es ix) := by simpa using he
    unfold leftOf cr at this
    rw [Array.mem_filter] at this
    exact ⟨by simpa using this.1, by simpa using this.2⟩
  refine ⟨h1.1, ?_⟩
  obtain ⟨i, hi, hie⟩ := List.mem_iff_getElem.1 h1.1
  have hi2 : i < m.length := by rw [← h.len]; exact hi
  have hb : dz es i = e.born := bornAt_eq (by rw [List.getElem?_eq_getElem hi, hie])
  refine ⟨i, hi2, fun hx => h1.2 (List.mem_map.2 ⟨i, hx, hb⟩), hb.symm, ?_⟩
  have hv := congrArg (fun q : List Value => q[i]?) h.key
  simp only [List.getElem?_map] at hv
  rw [List.getElem?_eq_getElem hi, List.getElem?_eq_getElem hi2, hie] at hv
  rw [List.getD_eq_getElem?_getD, List.getElem?_eq_getElem hi2]
  exact Option.some.inj hv
def ec {α β : Type} (m : List (α × β)) (d0 : α × β) (ix : List Nat) : List α := ix.map fun i => (m.getD i d0).1
theorem keys_vals {α β : Type} (m : List (α × β)) (d0 : α × β) (ix : List Nat) : ec m d0 ix = dc (m.map fun p => (p.2, p.1)) (d0.2, d0.1) ix := by
  unfold ec dc
  refine List.map_congr_left fun i _ => ?_
  rw [List.getD_eq_getElem?_getD, List.getD_eq_getElem?_getD, List.getElem?_map]
  cases m[i]? <;> rfl
theorem keys_all {α β : Type} {m : List (α × β)} {d0 : α × β} {ix : List Nat} (hn : ix.Nodup) (hx : ∀ j ∈ ix, j < m.length) (ha : ∀ i, i < m.length → i ∈ ix) : (ec m d0 ix).Perm (m.map (·.1)) := by
  rw [keys_vals]
  have := vals_all (m := m.map fun p => (p.2, p.1)) (d0 := (d0.2, d0.1)) hn (by simpa using hx) (by simpa using ha)
  rw [List.map_map] at this; exact this
theorem keys_snoc {α β : Type} {m : List (α × β)} {d0 : α × β} {ix : List Nat} {i : Nat} : ec m d0 (ix ++ [i]) = ec m d0 ix ++ [(m.getD i d0).1] := by simp [ec]

theorem c_isNaNu (n : Int) : cI Try.prog 151 #[.int .u64 n] (.bool false) := by
 intro w0
 refine aX (ok0 := no) (S := []) (args := [.int .u64 n]) 6 Try.func151 rfl rfl rfl (by simp) (by simp) ?_
 refine ao ?_
 refine aa ?_
 refine ap (ah rfl) rfl rfl ?_
 refine ae ?_
 refine aj ?_
 refine ao ?_
 refine aa ?_
 refine ap (ak rfl) rfl rfl ?_
 refine ap (ak rfl) rfl rfl ?_
 refine ap (cQ rfl rfl) rfl rfl ?_
 refine ap (ah rfl) rfl rfl ?_
 refine ae ?_
 refine aj ?_
 refine aC ?_
 refine aJ (ts := [2]) rfl rfl rfl (fun w hw => ?_)
 exact ⟨by show Ending.returned (.bool _) = _; congr 2; simp, hw.base⟩

theorem c_cmpU (a b : Int) : cI Try.prog 118 #[.int .u64 a, .int .u64 b] (.int .i64 (cu a b)) := by
 intro w0
 refine aX (ok0 := no) (S := []) (args := [.int .u64 a, .int .u64 b]) 20 Try.func118 rfl rfl rfl (by simp) (by simp) ?_
 refine ao ?_
 refine aa ?_
 refine ap (ah rfl) rfl rfl ?_
 refine ae ?_
 refine aj ?_
 refine ao ?_
 refine aa ?_
 refine ap (ak rfl) rfl rfl ?_
 refine aR rfl ent_151 (c_isNaNu _) rfl ?_
 refine bv (t := 8) (.bool false) rfl (congrArg Value.bool rfl) ?_
 refine ap (ah rfl) rfl rfl ?_
 refine ae ?_
 refine aj ?_
 refine ao ?_
 refine aa ?_
 refine ap (ak rfl) rfl rfl ?_
 refine aR rfl ent_151 (c_isNaNu _) rfl ?_
 refine bv (t := 10) (.bool false) rfl (congrArg Value.bool rfl) ?_
 refine ap (ah rfl) rfl rfl ?_
 refine ae ?_
 refine aj ?_
 refine ao ?_
 refine ao ?_
 refine aa ?_
 refine ap (ak rfl) rfl rfl ?_
 refine ae ?_
 refine aj ?_
 refine av rfl ?_
 refine aG ?_
 refine aj ?_
 refine ao ?_
 refine ao ?_
 refine aa ?_
 refine ap (ak rfl) rfl rfl ?_
 refine ae ?_
 refine aj ?_
 refine av rfl ?_
 refine aG ?_
 refine aj ?_
 refine ao ?_
 refine ao ?_
 refine aa ?_
 refine ap (ak rfl) rfl rfl ?_
 refine ap (ak rfl) rfl rfl ?_
 refine ap (cE rfl rfl) rfl rfl ?_
 refine aD (t := 16) rfl (fun h9_2 => ?_) (fun h9_2 => ?_)
 refine ae ?_
 refine aj ?_
 refine ay rfl ?_
 refine ao ?_
 refine aa ?_
 refine ap (ah rfl) rfl rfl ?_
 refine ae ?_
 refine aj ?_
 refine aC ?_
 refine aA ?_
 refine aJ (ts := [4]) rfl rfl rfl (fun w hw => ?_)
 refine ⟨?_, hw.base⟩
 show Ending.returned (.int _ _) = _
 congr 2
 focus first
   | (rw [cu, if_pos h9_2]
      done)
   | (rw [cu, if_neg h9_2, if_pos (by omega)]
      done)
   | (rw [cu, if_neg h9_2, if_neg (by omega)]
      done)
 refine ae ?_
 refine aj ?_
 refine av rfl ?_
 refine aG ?_
 refine aj ?_
 refine ao ?_
 refine ao ?_
 refine aa ?_
 refine ap (ak rfl) rfl rfl ?_
 refine ap (ak rfl) rfl rfl ?_
 refine ap (y_gtr rfl rfl) rfl rfl ?_
 refine aD (t := 19) rfl (fun h11_2 => ?_) (fun h11_2 => ?_)
 refine ae ?_
 refine aj ?_
 refine ay rfl ?_
 refine ao ?_
 refine aa ?_
 refine ap (ah rfl) rfl rfl ?_
 refine ae ?_
 refine aj ?_
 refine aC ?_
 refine aA ?_
 refine aJ (ts := [4]) rfl rfl rfl (fun w hw => ?_)
 refine ⟨?_, hw.base⟩
 show Ending.returned (.int _ _) = _
 congr 2
 focus first
   | (rw [cu, if_pos h9_2]
      done)
   | (rw [cu, if_neg h9_2, if_pos (by omega)]
      done)
   | (rw [cu, if_neg h9_2, if_neg (by omega)]
      done)
 refine ae ?_
 refine aj ?_
 refine av rfl ?_
 refine aG ?_
 refine aj ?_
 refine ao ?_
 refine aa ?_
 refine ap (ah rfl) rfl rfl ?_
 refine ae ?_
 refine aj ?_
 refine aC ?_
 refine aJ (ts := [4]) rfl rfl rfl (fun w hw => ?_)
 refine ⟨?_, hw.base⟩
 show Ending.returned (.int _ _) = _
 congr 2
 focus first
   | (rw [cu, if_pos h9_2]
      done)
   | (rw [cu, if_neg h9_2, if_pos (by omega)]
      done)
   | (rw [cu, if_neg h9_2, if_neg (by omega)]
      done)

theorem c_kind (a : Ad) : cI Try.prog 117 #[.agg (dC a).toArray] (.int .i64 (kdA a)) := by
 intro w0
 refine aX (ok0 := no) (S := []) (args := [.agg (dC a).toArray]) 5 Try.func117 rfl rfl rfl (by simp) (by simp) ?_
 refine ao ?_
 refine aa ?_
 refine bx rfl rfl rfl (fun b1 => ?_)
 refine ap (ah rfl) rfl rfl ?_
 refine ae ?_
 refine aj ?_
 refine ao ?_
 refine ao ?_
 refine aa ?_
 refine ap (aB dH rfl) rfl rfl ?_
 refine ap (aK 0 ty_4 rfl rfl rfl) rfl rfl ?_
 refine bp (t := 4) rfl (fun h1_1 => ?_) (fun h1_1 => ?_)
 refine ae ?_
 refine aj ?_
 refine ay rfl ?_
 refine ao ?_
 refine aa ?_
 refine ap (ah rfl) rfl rfl ?_
 refine ae ?_
 refine aj ?_
 refine aC ?_
 refine aA ?_
 refine aJ (ts := [2]) rfl rfl rfl (fun w hw => ?_)
 refine ⟨?_, hw.base⟩
 show Ending.returned (.int _ _) = _
 congr 2
 focus first
   | (rw [kdA, if_pos h1_1]
      done)
   | (rw [kdA, if_neg (by rw [h1_1]; decide)]
      done)
 refine ae ?_
 refine aj ?_
 refine av rfl ?_
 refine aG ?_
 refine aj ?_
 refine ao ?_
 refine aa ?_
 refine ap (ah rfl) rfl rfl ?_
 refine ae ?_
 refine aj ?_
 refine aC ?_
 refine aJ (ts := [2]) rfl rfl rfl (fun w hw => ?_)
 refine ⟨?_, hw.base⟩
 show Ending.returned (.int _ _) = _
 congr 2
 focus first
   | (rw [kdA, if_pos h1_1]
      done)
   | (rw [kdA, if_neg (by rw [h1_1]; decide)]
      done)

theorem c_OrV (l : List Int) (A : Option Addr) (c : Nat) (hl : l.length ≤ 1000000) : RC Try.prog 116 #[.slice A l.length c] [Ch.rd A 1 enci l] (α := Unit) (fun _ => .int .i64 (orJ l)) (fun _ => []) := by
 refine a6 (args := [.slice A l.length c]) 18 Try.func116 rfl rfl rfl (fun w0 => ?_)
 refine ao ?_
 refine aa ?_
 refine ap (ah rfl) rfl rfl ?_
 refine ae ?_
 refine aj ?_
 refine ao ?_
 refine aa ?_
 refine ap (ah rfl) rfl rfl ?_
 refine ae ?_
 refine aj ?_
 refine ao ?_
 refine ao ?_
 refine aa ?_
 refine ap (ak rfl) rfl rfl ?_
 refine ap (cp Try.underlying41 rfl) rfl rfl ?_
 refine ap (ak rfl) rfl rfl ?_
 refine ae ?_
 refine aj ?_
 refine aS ?_
 refine dI (σ := Nat) [2, 5, 8, 9, 10, 11, 12, 13, 14, 15, 16] (fun k => k ≤ l.length ∧ orJ l = orJ (l.drop k)) (fun k => l.length - k) (fun k => [(8, .int .i64 k)]) (0) ?_ ⟨rfl, trivial⟩ (fun k hI => ?_)
 exact ⟨Nat.zero_le _, rfl⟩
 refine ao ?_
 refine aa ?_
 refine ap (cE rfl rfl) rfl rfl ?_
 refine aD (t := 9) rfl (fun h3_0 => ?_) (fun h3_0 => ?_)
 have hdk := d4 l (0 : Int) k (by omega)
 refine ae ?_
 refine aj ?_
 refine ao ?_
 refine ay rfl ?_
 refine aG ?_
 refine aj ?_
 refine ao ?_
 refine aS ?_
 refine ao ?_
 refine aa ?_
 refine ap (dB  Try.underlying41 ew rfl rfl (ey 0 rfl) rfl (by omega)) rfl rfl ?_
 refine ap (dU enc_i (0 : Int) ew rfl (ey 0 rfl) (by omega) rfl rfl) rfl rfl ?_
 refine ap (ah rfl) rfl rfl ?_
 refine ae ?_
 refine aj ?_
 refine ao ?_
 refine aa ?_
 refine ap (ak rfl) rfl rfl ?_
 refine ap (ak rfl) rfl rfl ?_
 refine ap (cQ rfl rfl) rfl rfl ?_
 refine aD (t := 14) rfl (fun h5_2 => ?_) (fun h5_2 => ?_)
 refine ae ?_
 refine aj ?_
 refine ay rfl ?_
 refine ao ?_
 refine aa ?_
 refine ap (ak rfl) rfl rfl ?_
 refine ap (ah rfl) rfl rfl ?_
 refine ae ?_
 refine aj ?_
 refine aC ?_
 refine aU ?_
 refine aA ?_
 refine bH ?_
 refine aU ?_
 refine aA ?_
 refine aJ (ts := [2]) rfl rfl rfl (fun w hw => ?_)
 have he : orJ l = l.getD k 0 := by rw [hI.2, hdk, orJ, if_pos (by omega)]
 exact ⟨(), by rw [he]; rfl, hw.base, (hw.weak (List.nil_sublist _) (fun s hs => hs)).toNews⟩
 refine ae ?_
 refine aj ?_
 refine av rfl ?_
 refine aG ?_
 refine bA ?_
 refine aj ?_
 refine aa ?_
 refine ap (bQ rfl rfl (by omega) (by omega)) rfl rfl ?_
 refine ap (ak rfl) rfl rfl ?_
 refine ae ?_
 refine bR (k + 1) ?_ ?_ ⟨rfl, trivial⟩ (by repeat (first | exact trivial | refine ⟨rfl, ?_⟩)) ar
 exact ⟨by omega, by rw [hI.2, hdk, orJ, if_neg (by omega)]⟩
 omega
 refine ae ?_
 refine aj ?_
 refine ao ?_
 refine av rfl ?_
 refine ce ?_
 refine bf ?_
 refine a7 ?_
 refine bq ?_
 refine aj ?_
 refine ao ?_
 refine aa ?_
 refine ap (ak rfl) rfl rfl ?_
 refine ap (ah rfl) rfl rfl ?_
 refine ae ?_
 refine aj ?_
 refine aC ?_
 refine aJ (ts := [2]) rfl rfl rfl (fun w hw => ?_)
 have he : orJ l = 0 := by rw [hI.2, List.drop_of_length_le (by omega)]; rfl
 exact ⟨(), by rw [he]; rfl, hw.base, (hw.weak (List.nil_sublist _) (fun s hs => hs)).toNews⟩

set_option maxRecDepth 100000 in
theorem c_addr_Compare (a b : Ad) : cI Try.prog 76 #[.agg (dC a).toArray, .agg (dC b).toArray] (.int .i64 (cmpA a b)) := by
 intro w0
 refine aX (ok0 := no) (S := []) (args := [.agg (dC a).toArray, .agg (dC b).toArray]) 22 Try.func76 rfl rfl rfl (by simp) (by simp) ?_
 refine ao ?_
 refine aa ?_
 refine bx rfl rfl rfl (fun b1 => ?_)
 refine bx rfl rfl rfl (fun b2 => ?_)
 refine ap (ah rfl) rfl rfl ?_
 refine ae ?_
 refine aj ?_
 refine ao ?_
 refine dw 18 rfl mixed ?_
 refine au (i := 0) rfl ab (aM 1 aF rfl rfl rfl rfl) ar ar rfl (ai aq) (by kernel_rfl) rfl ?_
 refine au (i := 2) rfl ab (aM 0 aF rfl rfl rfl rfl) ar ar rfl (ai aq) (by kernel_rfl) rfl ?_
 refine au (i := 5) rfl ab (aB dO rfl) ar ar rfl (ai aq) (by kernel_rfl) rfl ?_
 refine au (i := 6) rfl ab (aK 1 dh rfl rfl rfl) ar ar rfl (ai aq) (by kernel_rfl) rfl ?_
 refine au (i := 7) rfl ab (aB dO rfl) ar ar rfl (ai aq) (by kernel_rfl) rfl ?_
 refine au (i := 8) rfl ab (aK 0 dh rfl rfl rfl) ar ar rfl (ai aq) (by kernel_rfl) rfl ?_
 refine au (i := 10) rfl ab (aB dJ rfl) ar ar rfl (ai aq) (by kernel_rfl) rfl ?_
 refine au (i := 11) rfl ab (aK 1 dh rfl rfl rfl) ar ar rfl (ai aq) (by kernel_rfl) rfl ?_
 refine au (i := 12) rfl ab (aB dJ rfl) ar ar rfl (ai aq) (by kernel_rfl) rfl ?_
 refine au (i := 13) rfl ab (aK 0 dh rfl rfl rfl) ar ar rfl (ai aq) (by kernel_rfl) rfl ?_
 refine cD (i := 1) rfl rfl rfl (bb rfl ent_117) (by kernel_rfl) rfl ?_
 refine aR rfl ent_117 (c_kind _) rfl ?_
 refine ae ?_
 refine cX ar ?_
 refine cD (i := 3) rfl rfl rfl (bb rfl ent_117) (by kernel_rfl) rfl ?_
 refine aR rfl ent_117 (c_kind _) rfl ?_
 refine ae ?_
 refine cX ar ?_
 refine cD (i := 4) rfl rfl rfl (bb rfl ent_87) (by kernel_rfl) rfl ?_
 refine aR rfl ent_87 (c_cmpI _ _) rfl ?_
 refine ae ?_
 refine cX ar ?_
 refine cD (i := 9) rfl rfl rfl (bb rfl ent_118) (by kernel_rfl) rfl ?_
 refine aR rfl ent_118 (c_cmpU _ _) rfl ?_
 refine ae ?_
 refine cX ar ?_
 refine cD (i := 14) rfl rfl rfl (bb rfl ent_118) (by kernel_rfl) rfl ?_
 refine aR rfl ent_118 (c_cmpU _ _) rfl ?_
 refine ae ?_
 refine cX ar ?_
 refine cD (i := 15) rfl rfl rfl (fun _ _ _ => a8 (by kernel_rfl)) (by kernel_rfl) rfl ?_
 refine el (vs := [_, _, _]) ([cu (kdA a) (kdA b), cu a.hi b.hi, cu a.lo b.lo] : List (Int)) enc_i Try.underlying41 ew rfl rfl rfl rfl rfl rfl (fun As3 => ?_)
 refine ae ?_
 refine cX (bU 1) ?_
 refine cD (i := 16) rfl rfl rfl (bb rfl ent_116) (by kernel_rfl) rfl ?_
 refine bi rfl ent_116 rfl (c_OrV [cu (kdA a) (kdA b), cu a.hi b.hi, cu a.lo b.lo] _ _ (by simp)) (fun w hw => (aN (eT 0 rfl hw) aY)) ?_
 refine ae ?_
 refine cX (bU 1) ?_
 refine au (i := 17) rfl ab (ah rfl) (bU 1) ar rfl (ai aq) (by kernel_rfl) rfl ?_
 refine cj (by kernel_rfl) ?_
 refine aj ?_
 refine aC ?_
 refine aJ (ts := [4]) rfl rfl rfl (fun w hw => ?_)
 exact ⟨rfl, hw.base⟩

theorem c_vAll1 (a b : Hd) : cI Try.prog 75 #[.agg (hdC a).toArray, .agg (hdC b).toArray] (.int .i64 (cmpA a.ad b.ad)) := by
 intro w0
 refine aX (ok0 := no) (S := []) (args := [.agg (hdC a).toArray, .agg (hdC b).toArray]) 10 Try.func75 rfl rfl rfl (by simp) (by simp) ?_
 refine ao ?_
 refine aa ?_
 refine bx rfl rfl rfl (fun b1 => ?_)
 refine bx rfl rfl rfl (fun b2 => ?_)
 refine ap (ah rfl) rfl rfl ?_
 refine ae ?_
 refine aj ?_
 refine ao ?_
 refine aa ?_
 refine ap (aB dA rfl) rfl rfl ?_
 refine ap (aM 1 aF rfl rfl rfl rfl) rfl rfl ?_
 refine ap (aB dA rfl) rfl rfl ?_
 refine ap (aM 0 aF rfl rfl rfl rfl) rfl rfl ?_
 refine aR rfl ent_76 (c_addr_Compare a.ad b.ad) rfl ?_
 refine ap (ah rfl) rfl rfl ?_
 refine ae ?_
 refine aj ?_
 refine aC ?_
 refine aJ (ts := [4]) rfl rfl rfl (fun w hw => ?_)
 exact ⟨rfl, hw.base⟩

theorem vals_snoc {α β : Type} {m : List (α × β)} {d0 : α × β} {ix : List Nat} {i : Nat} : dc m d0 (ix ++ [i]) = dc m d0 ix ++ [(m.getD i d0).2] := by simp [dc]
theorem fm {ix : List Nat} {i : Nat} (hn : ix.Nodup) (hi : i ∉ ix) : (ix ++ [i]).Nodup := by
  rw [List.nodup_append]; exact ⟨hn, by simp, fun a ha b hb e => by rw [List.mem_singleton.1 hb] at e; exact hi (e ▸ ha)⟩
theorem fK {ix : List Nat} {i n : Nat} (hx : ∀ j ∈ ix, j < n) (hi : i < n) : ∀ j ∈ ix ++ [i], j < n := fun j hj => (List.mem_append.1 hj).elim (hx j) (fun h => by rw [List.mem_singleton.1 h]; exact hi)
theorem ix_lt {ix : List Nat} {i n : Nat} (hn : ix.Nodup) (hx : ∀ j ∈ ix, j < n) (hin : i ∉ ix) (hi : i < n) : ix.length < n := by
  have := ix_len_le (fm hn hin) (fK hx hi); simp at this; omega
theorem vals_adm9 {α β : Type} {m : List (α × β)} {d0 : α × β} {ix : List Nat} {i : Nat} (hn : ix.Nodup) (hx : ∀ j ∈ ix, j < m.length) (hin : i ∉ ix) (hi : i < m.length) : ∃ rest, ((dc m d0 ix ++ [(m.getD i d0).2]) ++ rest).Perm (m.map (·.2)) := by
  rw [← vals_snoc]; exact vals_adm (fm hn hin) (fK hx hi)

theorem c_MapVal1 (m : List (aL × Hd)) (bm bn : Nat) : fI Try.prog 115 [.pointer (some ⟨bn, 0, none⟩)] [Ch.row bn [.map (some bm)] 109, Ch.mp bm bB bM m] [] [] encHd1 (fun pre => ∃ rest, (pre ++ rest).Perm (m.map (·.2))) (fun xs => xs.Perm (m.map (·.2))) := by
 refine iterG_of_W 15 Try.func115 rfl rfl rfl (fun lr σ I Ix C Sc hy g0 hg0 w0 => ?_)
 refine ao ?_
 refine w_openmp (encK := bB) (encV := bM) 1 rfl (fun es clk hE => ?_)
 refine aa ?_
 refine ap (bd 1 c4 rfl rfl rfl) rfl rfl ?_
 refine o_range 0 rfl Try.underlying109 rfl rfl (fun r => ?_)
 refine ae ?_
 refine aj ?_
 refine aS ?_
 refine w_loopL (σ := List Nat × σ) [4, 7, 8, 9, 10, 11, 12, 13, 14] (fun q => q.1.length ≤ m.length ∧ q.1.Nodup ∧ (∀ j ∈ q.1, j < m.length) ∧ I (dc m ((([] : aL), eu) : aL × Hd) q.1) q.2) (fun q => m.length - q.1.length) (fun q => []) (fun q => [Ch.obj r (.mapIter (some bm) clk (cr es q.1) clk), C q.2]) (([], g0)) ?_ trivial rfl (fun q hI => ?_)
 exact ⟨Nat.zero_le _, .nil, nofun, hg0⟩
 obtain ⟨ix, g⟩ := q
 dsimp only at hI ⊢
 refine ao ?_
 refine aa ?_
 refine o_next 0 rfl rfl hE.lt (fun _ => .z) rfl (fun en hen => ?_) (fun h0 => ?_)
 obtain hns := next_some hE hen ((([] : aL), eu) : aL × Hd)
 obtain ⟨i, hi, hin, hib, hiv⟩ := hns.2
 rw [hib]
 rw [hiv]
 rw [eP]
 refine ap (aw rfl rfl) rfl rfl ?_
 refine bv (t := 8) (.bool true) rfl (congrArg Value.bool rfl) ?_
 refine ae ?_
 refine aj ?_
 refine ao ?_
 refine ay rfl ?_
 refine aG ?_
 refine aj ?_
 refine aS ?_
 refine ao ?_
 refine aa ?_
 refine ap (y_entry (e := en) (sn := cr es ix) 0 0 (by rw [hib, eP]) rfl rfl rfl hns.1 hE.nd) rfl rfl ?_
 refine ap (aw rfl rfl) rfl rfl ?_
 refine bv (t := 10) (.agg (hdC (m.getD i ((([] : aL), eu) : aL × Hd)).2).toArray) rfl hiv ?_
 refine bc br rfl rfl (fun b1 => ?_)
 refine aH br rfl rfl rfl .z rfl rfl rfl rfl ?_
 refine ae ?_
 refine aj ?_
 refine ao ?_
 refine aa ?_
 refine ap (ak rfl) rfl rfl ?_
 refine ap (aM 0 br rfl rfl rfl rfl) rfl rfl ?_
 refine fC rfl rfl (hy _ (m.getD i ((([] : aL), eu) : aL × Hd)).2 g (vals_adm9 hI.2.1 hI.2.2.1 hin hi) hI.2.2.2) (fun _ => (.s (.s (.z)))) (fun s hs => .tail _ (List.mem_append_right _ hs)) rfl (fun g' hT => ?_) (fun g' hF => ?_)
 refine ap (bG rfl) rfl rfl ?_
 refine ae ?_
 refine aj ?_
 refine av rfl ?_
 refine aG ?_
 refine bA ?_
 refine bR ((ix ++ [i], g')) ?_ ?_ trivial (by repeat (first | exact trivial | refine ⟨rfl, ?_⟩)) (bU 1)
 exact ⟨by show (ix ++ [i]).length ≤ _; have := ix_lt hI.2.1 hI.2.2.1 hin hi; simp; omega, fm hI.2.1 hin, fK hI.2.2.1 hi, by show I (dc m ((([] : aL), eu) : aL × Hd) (ix ++ [i])) _; rw [vals_snoc]; exact hT⟩
 show m.length - (ix ++ [i]).length < m.length - ix.length
 have := ix_lt hI.2.1 hI.2.2.1 hin hi
 simp; omega
 refine ap (bG rfl) rfl rfl ?_
 refine ae ?_
 refine aj ?_
 refine ay rfl ?_
 refine aC ?_
 refine aU ?_
 refine bH ?_
 refine aU ?_
 refine aJ (ts := []) rfl rfl rfl (fun w hw => ?_)
 focus first
   | exact cP _ (.inr ⟨_, vals_adm9 hI.2.1 hI.2.2.1 hin hi, hF⟩) (hw.weak (.cons _ (.cons _ (.cons_cons _ .slnil))) (fun s hs => hs))
   | exact cP _ (.inl ⟨_, vals_all hI.2.1 hI.2.2.1 hal, hI.2.2.2⟩) (hw.weak (.cons _ (.cons _ (.cons_cons _ .slnil))) (fun s hs => hs))
   | (trace_state; fail)
 have hal := fun i hi => next_none hE h0 i hi hI.2.2.1
 refine ap (aw rfl rfl) rfl rfl ?_
 refine bv (t := 8) (.bool false) rfl (congrArg Value.bool rfl) ?_
 refine ae ?_
 refine aj ?_
 refine ao ?_
 refine av rfl ?_
 refine ce ?_
 refine bf ?_
 refine a7 ?_
 refine bq ?_
 refine fM (ts := []) rfl rfl rfl (fun w hw => ?_)
 focus first
   | exact cP _ (.inr ⟨_, vals_adm9 hI.2.1 hI.2.2.1 hin hi, hF⟩) (hw.weak (.cons _ (.cons_cons _ .slnil)) (fun s hs => hs))
   | exact cP _ (.inl ⟨_, vals_all hI.2.1 hI.2.2.1 hal, hI.2.2.2⟩) (hw.weak (.cons _ (.cons_cons _ .slnil)) (fun s hs => hs))
   | (trace_state; fail)

theorem c_MapVal (bm : Nat) : RC Try.prog 74 #[.map (some bm)] [] (α := Nat) (fun p => .func (.func 115) #[] #[.pointer (some ⟨p, 0, none⟩)]) (fun p => [Ch.row p [.map (some bm)] 109]) := by
 refine a6 (args := [.map (some bm)]) 4 Try.func74 rfl rfl rfl (fun w0 => ?_)
 refine ao ?_
 refine aa ?_
 refine bx rfl rfl rfl (fun b1 => ?_)
 refine ap (ah rfl) rfl rfl ?_
 refine ae ?_
 refine aj ?_
 refine ao ?_
 refine aa ?_
 refine ap (cO rfl rfl) rfl rfl ?_
 refine ap (ah rfl) rfl rfl ?_
 refine ae ?_
 refine aj ?_
 refine aC ?_
 refine aJ (ts := [2]) rfl rfl rfl (fun w hw => ?_)
 exact ⟨b1, rfl, hw.base, (hw.weak (.cons_cons _ .slnil) (fun s hs => hs)).toNews⟩

theorem c_AppendSeq_hd (gf : Nat) (lb : List Value) (Sx : List Ch) (Adm Fin : List Hd → Prop) (hit : fI Try.prog gf lb Sx [] [] encHd1 Adm Fin) (hen : Enters Try.prog gf) (hb : ∀ pre, Adm pre → pre.length ≤ 1000000) : RC Try.prog 149 #[.slice none 0 0, .func (.func gf) #[] lb.toArray] Sx (α := {p : List Hd × Option Addr × Nat // Fin p.1}) (fun p => .slice p.1.2.1 p.1.1.length p.1.2.2) (fun p => [Ch.ls p.1.2.1 p.1.2.2 121 4 hdC p.1.1]) := by
 refine fy (args := [.slice none 0 0, .func (.func gf) #[] lb.toArray]) 13 Try.func149 rfl rfl rfl (fun w0 => ?_)
 refine ao ?_
 refine aa ?_
 refine bx rfl rfl rfl (fun b1 => ?_)
 refine ap (ah rfl) rfl rfl ?_
 refine ae ?_
 refine aj ?_
 refine ao ?_
 refine ao ?_
 refine aa ?_
 refine ap (ak rfl) rfl rfl ?_
 refine ae ?_
 refine aj ?_
 refine aS ?_
 refine cK (fun w h => h.nilsl 121 4) ?_
 refine w_rangeG (σ := List Hd × Option Addr × Nat) (fun pre g => g.1 = pre) (fun c pre g => False) (fun g => [Ch.ls g.2.1 g.2.2 121 4 hdC g.1, Ch.row b1 [.slice g.2.1 g.1.length g.2.2] 80]) (([], none, 0)) rfl rfl hen (hit) (fun s hs => hs) rfl (fun _ => rfl) (rfl) ar (fun pre e g hxs hI lr D r hr okb wb => ?_) (fun g D0 hI => ?_) (fun c pre g D0 hxs hI => ?_)
 obtain ⟨q, Ax, cx⟩ := g
 dsimp only at hI ⊢
 subst hI
 have hpl := hb _ hxs
 have hpl2 : q.length + 1 ≤ 1000000 := by simpa using hpl
 refine aa ?_
 refine bc br rfl rfl (fun b2 => ?_)
 refine aH br rfl rfl rfl .z rfl rfl rfl rfl ?_
 refine ae ?_
 refine eK rfl hr (.s (.z)) ?_
 refine aS ?_
 refine aa ?_
 refine ap (aK 4 ty_80 rfl rfl rfl) rfl rfl ?_
 refine ap (aM 0 br rfl rfl rfl rfl) rfl rfl ?_
 refine el (vs := [_]) ([e] : List (Hd)) enc_hd Try.underlying80 br rfl rfl rfl rfl rfl rfl (fun As3 => ?_)
 refine eD (enc := hdC) (sz := 4) [e] Try.underlying80 br rfl rfl rfl (fun A c => (.s (.s (.s (.s (.z)))))) (src_L 0 Try.underlying80 rfl) (by simp only [List.length_cons, List.length_nil, Nat.zero_add]; omega) (by simp only [List.length_cons, List.length_nil, Nat.zero_add]; omega) rfl (fun A3 c3 => ?_)
 refine aH ty_80 rfl rfl rfl (.s (.s (.s (.s (.s (.z)))))) rfl rfl rfl rfl ?_
 refine ae ?_
 refine bA ?_
 refine e8 ((q ++ [e], A3, c3)) ?_ (bU 2)
 rfl
 obtain ⟨q, Ax, cx⟩ := g
 obtain ⟨xs, hfx, hI⟩ := hI
 dsimp only at hI ⊢
 subst hI
 refine bA ?_
 refine aj ?_
 refine ao ?_
 refine aa ?_
 refine ap (aK 2 ty_80 rfl rfl rfl) rfl rfl ?_
 refine ap (ah rfl) rfl rfl ?_
 refine ae ?_
 refine aj ?_
 refine aC ?_
 refine dV ?_
 refine dF .z ?_
 refine da (rs := [.tmp 4]) rfl (co rfl bz) (fun w hw => ?_)
 exact ⟨⟨(q, Ax, cx), hfx⟩, rfl, hw.base, (hw.weak (.cons _ (.cons_cons _ (.cons _ .slnil))) (fun s hs => hs)).toNews⟩
 exact hI.elim

theorem c_Collect_hd (gf : Nat) (lb : List Value) (Sx : List Ch) (Adm Fin : List Hd → Prop) (hit : fI Try.prog gf lb Sx [] [] encHd1 Adm Fin) (hen : Enters Try.prog gf) (hb : ∀ pre, Adm pre → pre.length ≤ 1000000) : RC Try.prog 113 #[.func (.func gf) #[] lb.toArray] Sx (α := {p : List Hd × Option Addr × Nat // Fin p.1}) (fun p => .slice p.1.2.1 p.1.1.length p.1.2.2) (fun p => [Ch.ls p.1.2.1 p.1.2.2 121 4 hdC p.1.1]) := by
 refine a6 (args := [.func (.func gf) #[] lb.toArray]) 5 Try.func113 rfl rfl rfl (fun w0 => ?_)
 refine ao ?_
 refine aa ?_
 refine ap (ah rfl) rfl rfl ?_
 refine ae ?_
 refine aj ?_
 refine ao ?_
 refine aa ?_
 refine ap (ak rfl) rfl rfl ?_
 refine bF rfl ent_149 rfl (c_AppendSeq_hd gf lb Sx Adm Fin hit hen hb) (fun w hw s hs => hw.rdS hs) (fun ⟨⟨q, Ax, cx⟩, hfx⟩ => ?_)
 refine ap (ah rfl) rfl rfl ?_
 refine ae ?_
 refine aj ?_
 refine aC ?_
 refine aJ (ts := [2]) rfl rfl rfl (fun w hw => ?_)
 exact ⟨⟨(q, Ax, cx), hfx⟩, rfl, hw.base, (hw.weak (.cons_cons _ .slnil) (fun s hs => hs)).toNews⟩

def sortHd_ren : Go.Shelf.Ren := ⟨fun | 6 => 114 | 15 => 83 | 14 => 150 | 28 => 130 | 29 => 131 | 20 => 164 | 21 => 165 | 22 => 166 | 23 => 167 | 24 => 168 | 25 => 169 | 26 => 170 | 27 => 171 | 46 => 177 | 47 => 154 | 48 => 155 | 49 => 178 | 50 => 179 | 57 => 180 | n => n, fun | 22 => 80 | 24 => 121 | 25 => 137 | 3 => 3 | 39 => 147 | 0 => 0 | 53 => 42 | 55 => 60 | 4 => 4 | 46 => 183 | 45 => 182 | 50 => 90 | 5 => 5 | 9 => 9 | 66 => 214 | 70 => 218 | 76 => 231 | 77 => 232 | n => n, fun | n => n⟩
theorem sortHd : Go.Proofs.SlLaysF0.n6 Try.prog sortHd_ren := {
  mixed := by kernel_rfl,
  f6 := ⟨Try.f114.name, by decide, Try.func114.trans (congrArg some (by kernel_rfl))⟩,
  f14 := ⟨Try.f150.name, by decide, Try.func150.trans (congrArg some (by kernel_rfl))⟩,
  f15 := Try.func83.trans (congrArg some (by kernel_rfl)),
  f20 := ⟨Try.f164.name, by decide, Try.func164.trans (congrArg some (by kernel_rfl))⟩,
  f21 := ⟨Try.f165.name, by decide, Try.func165.trans (congrArg some (by kernel_rfl))⟩,
  f22 := ⟨Try.f166.name, by decide, Try.func166.trans (congrArg some (by kernel_rfl))⟩,
  f23 := ⟨Try.f167.name, by decide, Try.func167.trans (congrArg some (by kernel_rfl))⟩,
  f24 := ⟨Try.f168.name, by decide, Try.func168.trans (congrArg some (by kernel_rfl))⟩,
  f25 := ⟨Try.f169.name, by decide, Try.func169.trans (congrArg some (by kernel_rfl))⟩,
  f26 := ⟨Try.f170.name, by decide, Try.func170.trans (congrArg some (by kernel_rfl))⟩,
  f27 := ⟨Try.f171.name, by decide, Try.func171.trans (congrArg some (by kernel_rfl))⟩,
  f28 := Try.func130.trans (congrArg some (by kernel_rfl)),
  f29 := Try.func131.trans (congrArg some (by kernel_rfl)),
  f46 := ⟨Try.f177.name, by decide, Try.func177.trans (congrArg some (by kernel_rfl))⟩,
  f47 := Try.func154.trans (congrArg some (by kernel_rfl)),
  f48 := Try.func155.trans (congrArg some (by kernel_rfl)),
  f49 := ⟨Try.f178.name, by decide, Try.func178.trans (congrArg some (by kernel_rfl))⟩,
  f50 := ⟨Try.f179.name, by decide, Try.func179.trans (congrArg some (by kernel_rfl))⟩,
  f57 := ⟨Try.f180.name, by decide, Try.func180.trans (congrArg some (by kernel_rfl))⟩,
  t0 := Try.underlying0,
  a0 := Try.isAgg0,
  z0 := Try.sizeOf0,
  v0 := Try.zeroValue0,
  t3 := Try.underlying3,
  a3 := Try.isAgg3,
  z3 := Try.sizeOf3,
  v3 := Try.zeroValue3,
  t4 := Try.underlying4,
  a4 := Try.isAgg4,
  z4 := Try.sizeOf4,
  v4 := Try.zeroValue4,
  t5 := Try.underlying5,
  a5 := Try.isAgg5,
  z5 := Try.sizeOf5,
  v5 := Try.zeroValue5,
  t9 := Try.underlying9,
  a9 := Try.isAgg9,
  z9 := Try.sizeOf9,
  v9 := Try.zeroValue9,
  t22 := Try.underlying80,
  a22 := Try.isAgg80,
  z22 := Try.sizeOf80,
  v22 := Try.zeroValue80,
  t25 := Try.underlying137,
  a25 := Try.isAgg137,
  z25 := Try.sizeOf137,
  v25 := Try.zeroValue137,
  t39 := Try.underlying147,
  a39 := Try.isAgg147,
  z39 := Try.sizeOf147,
  v39 := Try.zeroValue147,
  t45 := Try.underlying182,
  a45 := Try.isAgg182,
  z45 := Try.sizeOf182,
  v45 := Try.zeroValue182,
  t46 := Try.underlying183,
  a46 := Try.isAgg183,
  z46 := Try.sizeOf183,
  v46 := Try.zeroValue183,
  t50 := Try.underlying90,
  a50 := Try.isAgg90,
  z50 := Try.sizeOf90,
  v50 := Try.zeroValue90,
  t53 := Try.underlying42,
  a53 := Try.isAgg42,
  z53 := Try.sizeOf42,
  v53 := Try.zeroValue42,
  t55 := Try.underlying60,
  a55 := Try.isAgg60,
  z55 := Try.sizeOf60,
  v55 := Try.zeroValue60,
  t66 := Try.underlying214,
  a66 := Try.isAgg214,
  z66 := Try.sizeOf214,
  v66 := Try.zeroValue214,
  t70 := Try.underlying218,
  a70 := Try.isAgg218,
  z70 := Try.sizeOf218,
  v70 := Try.zeroValue218,
  t76 := Try.underlying231,
  a76 := Try.isAgg231,
  z76 := Try.sizeOf231,
  v76 := Try.zeroValue231,
  t77 := Try.underlying232,
  a77 := Try.isAgg232,
  z77 := Try.sizeOf232,
  v77 := Try.zeroValue232 }

theorem c_Sort_hd (A : Option Addr) (c : Nat) (xs : List Hd) (hl : xs.length ≤ 1000000) : UC Try.prog 114 #[.slice A xs.length c, .func (.func 75) #[] #[]] [] (Ch.ls A c 121 4 hdC xs) (α := {ys : List Hd // ys.Perm xs ∧ ys.Pairwise fun a b => ¬ cmpA b.ad a.ad < 0}) (fun _ => .tuple #[]) (fun o => Ch.ls A c 121 4 hdC o.1) :=
  uc_sort (p := fun _ => True) sortHd 4 Try.isAgg121 Try.sizeOf121 enc_hd (fun a b : Hd => cmpA a.ad b.ad) swo_hd 75 #[] (enters_of Try.func75 (by kernel_rfl) rfl) (fun x y _ _ => by rw [Array.append_empty]; exact c_vAll1 x y) 121 A c xs (fun _ _ => trivial) (by omega)

theorem c_Sorted_hd (hm : Hm) (bm p : Nat) (hml : hm.length ≤ 1000000) : RC Try.prog 73 #[.func (.func 115) #[] #[.pointer (some ⟨p, 0, none⟩)], .func (.func 75) #[] #[]] [Ch.row p [.map (some bm)] 109, Ch.mp bm bB bM hm] (α := {o : List Hd × Option Addr × Nat // o.1.Perm (hm.map (·.2)) ∧ o.1.Pairwise fun a b => ¬ cmpA b.ad a.ad < 0}) (fun o => .slice o.1.2.1 o.1.1.length o.1.2.2) (fun o => [Ch.ls o.1.2.1 o.1.2.2 121 4 hdC o.1.1]) := by
 refine a6 (args := [.func (.func 115) #[] #[.pointer (some ⟨p, 0, none⟩)], .func (.func 75) #[] #[]]) 12 Try.func73 rfl rfl rfl (fun w0 => ?_)
 have hbm : ∀ pre : List Hd, (∃ rest, (pre ++ rest).Perm (hm.map (·.2))) → pre.length ≤ 1000000 := fun pre ⟨rest, h⟩ => by
   have := h.length_eq
   rw [List.length_append, List.length_map] at this
   omega
 refine ao ?_
 refine aa ?_
 refine ap (ah rfl) rfl rfl ?_
 refine ae ?_
 refine aj ?_
 refine ao ?_
 refine aa ?_
 refine ap (ak rfl) rfl rfl ?_
 refine bF rfl ent_113 rfl (c_Collect_hd 115 [.pointer (some ⟨p, 0, none⟩)] _ _ _ (c_MapVal1 hm bm p) (enters_of Try.func115 (by kernel_rfl) rfl) hbm) (fun w hw => (aN (cL 0 rfl hw) (aN (cL 1 rfl hw) aY))) (fun ⟨⟨q, Ax, cx⟩, hfx⟩ => ?_)
 refine ap (ah rfl) rfl rfl ?_
 refine ae ?_
 refine aj ?_
 refine ao ?_
 refine aa ?_
 refine ap (ak rfl) rfl rfl ?_
 refine ap (ak rfl) rfl rfl ?_
 refine bI rfl ent_114 rfl (c_Sort_hd Ax cx q (by have := hbm q ⟨[], by rw [List.append_nil]; exact hfx⟩; omega)) (fun o => .z) (List.mem_of_getElem? (i := 0) rfl) (fun s hs => nomatch hs) (fun ⟨ys, hyp, hys⟩ => ?_)
 refine ae ?_
 refine aj ?_
 refine ao ?_
 refine aa ?_
 refine ap (ak rfl) rfl rfl ?_
 refine ap (ah rfl) rfl rfl ?_
 refine ae ?_
 refine aj ?_
 refine aC ?_
 refine aJ (ts := [4]) rfl rfl rfl (fun w hw => ?_)
 exact ⟨⟨(ys, Ax, cx), hyp.trans hfx, hys⟩, by rw [← hyp.length_eq]; rfl, hw.base, (hw.weak (.cons_cons _ .slnil) (fun s hs => hs)).toNews⟩

theorem c_vAll (v : Vp) (hm : Hm) (hml : hm.length ≤ 1000000) : RC Try.prog 36 #[.pointer (some ⟨v.b, 0, none⟩)] [Ch.row v.b (vpC v) 113, Ch.mp v.rh bB bM hm] (α := {o : List Hd × Option Addr × Nat // o.1.Perm (hm.map (·.2)) ∧ o.1.Pairwise fun a b => ¬ cmpA b.ad a.ad < 0}) (fun o => .slice o.1.2.1 o.1.1.length o.1.2.2) (fun o => [Ch.ls o.1.2.1 o.1.2.2 121 4 hdC o.1.1]) := by
 refine a6 (args := [.pointer (some ⟨v.b, 0, none⟩)]) 11 Try.func36 rfl rfl rfl (fun w0 => ?_)
 refine ao ?_
 refine aa ?_
 refine ap (ah rfl) rfl rfl ?_
 refine ae ?_
 refine aj ?_
 refine ao ?_
 refine ao ?_
 refine aa ?_
 refine ap (ak rfl) rfl rfl ?_
 refine ap (eB Try.underlying57 rfl rfl) rfl rfl ?_
 refine bv (t := 4) (.bool false) rfl (congrArg Value.bool rfl) ?_
 refine ae ?_
 refine aj ?_
 refine av rfl ?_
 refine aG ?_
 refine aj ?_
 refine ao ?_
 refine aa ?_
 refine ap (ak rfl) rfl rfl ?_
 refine ap (aO rfl) rfl rfl ?_
 refine ap (aB ck rfl) rfl rfl ?_
 refine ap (bd 0 c4 rfl rfl rfl) rfl rfl ?_
 refine bF rfl ent_74 rfl (c_MapVal v.rh) (fun w hw => aY) (fun p0 => ?_)
 refine bF rfl ent_73 rfl (c_Sorted_hd hm v.rh p0 hml) (fun w hw => (aN (d7 0 rfl hw) (aN (cL 1 rfl hw) aY))) (fun ⟨⟨ys, Ax, cx⟩, hyp, hys⟩ => ?_)
 refine ap (ah rfl) rfl rfl ?_
 refine ae ?_
 refine aj ?_
 refine aC ?_
 refine aJ (ts := [2]) rfl rfl rfl (fun w hw => ?_)
 exact ⟨⟨(ys, Ax, cx), hyp, hys⟩, rfl, hw.base, (hw.weak (.cons_cons _ (.cons _ .slnil)) (fun s hs => hs)).toNews⟩
end Go.Proofs.Ytnpdgmoeoidppaa

/- vips: the names held are kept -/
namespace Go.Proofs.Ytnpdgmoeoidppaa
open Go.RowKit Go.Shelf
set_option linter.unusedVariables false
set_option linter.unusedSimpArgs false

theorem keys_adm9 {α β : Type} {m : List (α × β)} {d0 : α × β} {ix : List Nat} {i : Nat} (hn : ix.Nodup) (hx : ∀ j ∈ ix, j < m.length) (hin : i ∉ ix) (hi : i < m.length) : ∃ rest, ((ec m d0 ix ++ [(m.getD i d0).1]) ++ rest).Perm (m.map (·.1)) := by
  rw [← keys_snoc, keys_vals]
  have := vals_adm (m := m.map fun p => (p.2, p.1)) (d0 := (d0.2, d0.1)) (fm hn hin) (fK (by simpa using hx) (by simpa using hi))
  rw [List.map_map] at this; exact this

theorem c_MapKey1 (m : List (aL × Hd)) (bm bn : Nat) : fI Try.prog 106 [.pointer (some ⟨bn, 0, none⟩)] [Ch.row bn [.map (some bm)] 109, Ch.mp bm bB bM m] [] [] encN1 (fun pre => ∃ rest, (pre ++ rest).Perm (m.map (·.1))) (fun xs => xs.Perm (m.map (·.1))) := by
 refine iterG_of_W 14 Try.func106 rfl rfl rfl (fun lr σ I Ix C Sc hy g0 hg0 w0 => ?_)
 refine ao ?_
 refine w_openmp (encK := bB) (encV := bM) 1 rfl (fun es clk hE => ?_)
 refine aa ?_
 refine ap (bd 1 c4 rfl rfl rfl) rfl rfl ?_
 refine o_range 0 rfl Try.underlying109 rfl rfl (fun r => ?_)
 refine ae ?_
 refine aj ?_
 refine aS ?_
 refine w_loopL (σ := List Nat × σ) [3, 6, 7, 8, 9, 10, 11, 12, 13] (fun q => q.1.length ≤ m.length ∧ q.1.Nodup ∧ (∀ j ∈ q.1, j < m.length) ∧ I (ec m ((([] : aL), eu) : aL × Hd) q.1) q.2) (fun q => m.length - q.1.length) (fun q => []) (fun q => [Ch.obj r (.mapIter (some bm) clk (cr es q.1) clk), C q.2]) (([], g0)) ?_ trivial rfl (fun q hI => ?_)
 exact ⟨Nat.zero_le _, .nil, nofun, hg0⟩
 obtain ⟨ix, g⟩ := q
 dsimp only at hI ⊢
 refine ao ?_
 refine aa ?_
 refine o_next 0 rfl rfl hE.lt (fun _ => .z) rfl (fun en hen => ?_) (fun h0 => ?_)
 obtain hns := next_key hE hen ((([] : aL), eu) : aL × Hd)
 obtain ⟨i, hi, hin, hib, hik⟩ := hns.2
 rw [hib]
 rw [hik]
 rw [eP]
 refine ap (aw rfl rfl) rfl rfl ?_
 refine bv (t := 7) (.bool true) rfl (congrArg Value.bool rfl) ?_
 refine ae ?_
 refine aj ?_
 refine ao ?_
 refine ay rfl ?_
 refine aG ?_
 refine aj ?_
 refine aS ?_
 refine ao ?_
 refine aa ?_
 refine ap (y_entry (e := en) (sn := cr es ix) 0 0 (by rw [hib, eP]) rfl rfl rfl hns.1 hE.nd) rfl rfl ?_
 refine ap (aw rfl rfl) rfl rfl ?_
 refine bv (t := 9) (.string (ba (m.getD i ((([] : aL), eu) : aL × Hd)).1)) rfl hik ?_
 refine ap (ah rfl) rfl rfl ?_
 refine ae ?_
 refine aj ?_
 refine ao ?_
 refine aa ?_
 refine ap (ak rfl) rfl rfl ?_
 refine ap (ak rfl) rfl rfl ?_
 refine fC rfl rfl (hy _ (m.getD i ((([] : aL), eu) : aL × Hd)).1 g (keys_adm9 hI.2.1 hI.2.2.1 hin hi) hI.2.2.2) (fun _ => (.s (.z))) (fun s hs => .tail _ (List.mem_append_right _ hs)) rfl (fun g' hT => ?_) (fun g' hF => ?_)
 refine ap (bG rfl) rfl rfl ?_
 refine ae ?_
 refine aj ?_
 refine av rfl ?_
 refine aG ?_
 refine bA ?_
 refine bR ((ix ++ [i], g')) ?_ ?_ trivial (by repeat (first | exact trivial | refine ⟨rfl, ?_⟩)) ar
 exact ⟨by show (ix ++ [i]).length ≤ _; have := ix_lt hI.2.1 hI.2.2.1 hin hi; simp; omega, fm hI.2.1 hin, fK hI.2.2.1 hi, by show I (ec m ((([] : aL), eu) : aL × Hd) (ix ++ [i])) _; rw [keys_snoc]; exact hT⟩
 show m.length - (ix ++ [i]).length < m.length - ix.length
 have := ix_lt hI.2.1 hI.2.2.1 hin hi
 simp; omega
 refine ap (bG rfl) rfl rfl ?_
 refine ae ?_
 refine aj ?_
 refine ay rfl ?_
 refine aC ?_
 refine aU ?_
 refine bH ?_
 refine aU ?_
 refine aJ (ts := []) rfl rfl rfl (fun w hw => ?_)
 focus first
   | exact cP _ (.inr ⟨_, keys_adm9 hI.2.1 hI.2.2.1 hin hi, hF⟩) (hw.weak (.cons _ (.cons_cons _ .slnil)) (fun s hs => hs))
   | exact cP _ (.inl ⟨_, keys_all hI.2.1 hI.2.2.1 hal, hI.2.2.2⟩) (hw.weak (.cons _ (.cons_cons _ .slnil)) (fun s hs => hs))
   | (trace_state; fail)
 have hal := fun i hi => next_none hE h0 i hi hI.2.2.1
 refine ap (aw rfl rfl) rfl rfl ?_
 refine bv (t := 7) (.bool false) rfl (congrArg Value.bool rfl) ?_
 refine ae ?_
 refine aj ?_
 refine ao ?_
 refine av rfl ?_
 refine ce ?_
 refine bf ?_
 refine a7 ?_
 refine bq ?_
 refine fM (ts := []) rfl rfl rfl (fun w hw => ?_)
 focus first
   | exact cP _ (.inr ⟨_, keys_adm9 hI.2.1 hI.2.2.1 hin hi, hF⟩) (hw.weak (.cons _ (.cons_cons _ .slnil)) (fun s hs => hs))
   | exact cP _ (.inl ⟨_, keys_all hI.2.1 hI.2.2.1 hal, hI.2.2.2⟩) (hw.weak (.cons _ (.cons_cons _ .slnil)) (fun s hs => hs))
   | (trace_state; fail)

theorem c_MapKey (bm : Nat) : RC Try.prog 65 #[.map (some bm)] [] (α := Nat) (fun p => .func (.func 106) #[] #[.pointer (some ⟨p, 0, none⟩)]) (fun p => [Ch.row p [.map (some bm)] 109]) := by
 refine a6 (args := [.map (some bm)]) 4 Try.func65 rfl rfl rfl (fun w0 => ?_)
 refine ao ?_
 refine aa ?_
 refine bx rfl rfl rfl (fun b1 => ?_)
 refine ap (ah rfl) rfl rfl ?_
 refine ae ?_
 refine aj ?_
 refine ao ?_
 refine aa ?_
 refine ap (cO rfl rfl) rfl rfl ?_
 refine ap (ah rfl) rfl rfl ?_
 refine ae ?_
 refine aj ?_
 refine aC ?_
 refine aJ (ts := [2]) rfl rfl rfl (fun w hw => ?_)
 exact ⟨b1, rfl, hw.base, (hw.weak (.cons_cons _ .slnil) (fun s hs => hs)).toNews⟩

theorem c_AppendSeq_nm (gf : Nat) (lb : List Value) (Sx : List Ch) (Adm Fin : List aL → Prop) (hit : fI Try.prog gf lb Sx [] [] encN1 Adm Fin) (hen : Enters Try.prog gf) (hb : ∀ pre, Adm pre → pre.length ≤ 1000000) : RC Try.prog 105 #[.slice none 0 0, .func (.func gf) #[] lb.toArray] Sx (α := {p : List aL × Option Addr × Nat // Fin p.1}) (fun p => .slice p.1.2.1 p.1.1.length p.1.2.2) (fun p => [Ch.ls p.1.2.1 p.1.2.2 37 1 dy p.1.1]) := by
 refine fy (args := [.slice none 0 0, .func (.func gf) #[] lb.toArray]) 13 Try.func105 rfl rfl rfl (fun w0 => ?_)
 refine ao ?_
 refine aa ?_
 refine bx rfl rfl rfl (fun b1 => ?_)
 refine ap (ah rfl) rfl rfl ?_
 refine ae ?_
 refine aj ?_
 refine ao ?_
 refine ao ?_
 refine aa ?_
 refine ap (ak rfl) rfl rfl ?_
 refine ae ?_
 refine aj ?_
 refine aS ?_
 refine cK (fun w h => h.nilsl 37 1) ?_
 refine w_rangeG (σ := List aL × Option Addr × Nat) (fun pre g => g.1 = pre) (fun c pre g => False) (fun g => [Ch.ls g.2.1 g.2.2 37 1 dy g.1, Ch.row b1 [.slice g.2.1 g.1.length g.2.2] 25]) (([], none, 0)) rfl rfl hen (hit) (fun s hs => hs) rfl (fun _ => rfl) (rfl) ar (fun pre e g hxs hI lr D r hr okb wb => ?_) (fun g D0 hI => ?_) (fun c pre g D0 hxs hI => ?_)
 obtain ⟨q, Ax, cx⟩ := g
 dsimp only at hI ⊢
 subst hI
 have hpl := hb _ hxs
 have hpl2 : q.length + 1 ≤ 1000000 := by simpa using hpl
 refine aa ?_
 refine ap (ah rfl) rfl rfl ?_
 refine ae ?_
 refine eK rfl hr .z ?_
 refine aS ?_
 refine aa ?_
 refine ap (aK 3 ty_25 rfl rfl rfl) rfl rfl ?_
 refine ap (ak rfl) rfl rfl ?_
 refine el (vs := [_]) ([e] : List (aL)) dx Try.underlying25 bE rfl rfl rfl rfl rfl rfl (fun As2 => ?_)
 refine eD (enc := dy) (sz := 1) [e] Try.underlying25 bE rfl rfl rfl (fun A c => (.s (.s (.s (.z))))) (src_L 0 Try.underlying25 rfl) (by simp only [List.length_cons, List.length_nil, Nat.zero_add]; omega) (by simp only [List.length_cons, List.length_nil, Nat.zero_add]; omega) rfl (fun A2 c2 => ?_)
 refine aH ty_25 rfl rfl rfl (.s (.s (.s (.s (.z))))) rfl rfl rfl rfl ?_
 refine ae ?_
 refine bA ?_
 refine e8 ((q ++ [e], A2, c2)) ?_ (bU 1)
 rfl
 obtain ⟨q, Ax, cx⟩ := g
 obtain ⟨xs, hfx, hI⟩ := hI
 dsimp only at hI ⊢
 subst hI
 refine bA ?_
 refine aj ?_
 refine ao ?_
 refine aa ?_
 refine ap (aK 2 ty_25 rfl rfl rfl) rfl rfl ?_
 refine ap (ah rfl) rfl rfl ?_
 refine ae ?_
 refine aj ?_
 refine aC ?_
 refine dV ?_
 refine dF .z ?_
 refine da (rs := [.tmp 4]) rfl (co rfl bz) (fun w hw => ?_)
 exact ⟨⟨(q, Ax, cx), hfx⟩, rfl, hw.base, (hw.weak (.cons _ (.cons_cons _ (.cons _ .slnil))) (fun s hs => hs)).toNews⟩
 exact hI.elim

theorem c_Collect_nm (gf : Nat) (lb : List Value) (Sx : List Ch) (Adm Fin : List aL → Prop) (hit : fI Try.prog gf lb Sx [] [] encN1 Adm Fin) (hen : Enters Try.prog gf) (hb : ∀ pre, Adm pre → pre.length ≤ 1000000) : RC Try.prog 64 #[.func (.func gf) #[] lb.toArray] Sx (α := {p : List aL × Option Addr × Nat // Fin p.1}) (fun p => .slice p.1.2.1 p.1.1.length p.1.2.2) (fun p => [Ch.ls p.1.2.1 p.1.2.2 37 1 dy p.1.1]) := by
 refine a6 (args := [.func (.func gf) #[] lb.toArray]) 5 Try.func64 rfl rfl rfl (fun w0 => ?_)
 refine ao ?_
 refine aa ?_
 refine ap (ah rfl) rfl rfl ?_
 refine ae ?_
 refine aj ?_
 refine ao ?_
 refine aa ?_
 refine ap (ak rfl) rfl rfl ?_
 refine bF rfl ent_105 rfl (c_AppendSeq_nm gf lb Sx Adm Fin hit hen hb) (fun w hw s hs => hw.rdS hs) (fun ⟨⟨q, Ax, cx⟩, hfx⟩ => ?_)
 refine ap (ah rfl) rfl rfl ?_
 refine ae ?_
 refine aj ?_
 refine aC ?_
 refine aJ (ts := [2]) rfl rfl rfl (fun w hw => ?_)
 exact ⟨⟨(q, Ax, cx), hfx⟩, rfl, hw.base, (hw.weak (.cons_cons _ .slnil) (fun s hs => hs)).toNews⟩
end Go.Proofs.Ytnpdgmoeoidppaa

/- vips: what is kept, in plain words -/
namespace Go.Proofs.Ytnpdgmoeoidppaa
open Go.RowKit Go.Shelf
set_option linter.unusedVariables false
set_option linter.unusedSimpArgs false

def bS (hm : Hm) : Am := hm.map fun p => (p.2.ad, p.1)
structure PInv (hm : Hm) : Prop where
  keys : (hm.map fun p => p.1).Nodup
  ads : (hm.map fun p => p.2.ad).Nodup
  fold : ∀ p ∈ hm, p.1 = aT p.2.host ∧ bZ p.2.host = true
theorem nd_inj {α β : Type} {f : α → β} : ∀ {l : List α}, (l.map f).Nodup → ∀ a ∈ l, ∀ b ∈ l, f a = f b → a = b
  | [], _, a, ha, _, _, _ => by cases ha
  | x :: l, h, a, ha, b, hb, e => by
    rw [List.map_cons, List.nodup_cons] at h
    rcases List.mem_cons.1 ha with e1 | ha2
    · rcases List.mem_cons.1 hb with e2 | hb2
      · rw [e1, e2]
      · exact absurd (List.mem_map.2 ⟨b, hb2, by rw [← e, e1]⟩) h.1
    · rcases List.mem_cons.1 hb with e2 | hb2
      · exact absurd (List.mem_map.2 ⟨a, ha2, by rw [e, e2]⟩) h.1
      · exact nd_inj h.2 a ha2 b hb2 e
theorem nd_snocG {α : Type} {l : List α} {a : α} (hn : l.Nodup) (ha : a ∉ l) : (l ++ [a]).Nodup := by
  rw [List.nodup_append]; exact ⟨hn, by simp, fun x hx b hb e => by rw [List.mem_singleton.1 hb] at e; exact ha (e ▸ hx)⟩
section
variable {α β : Type} [DecidableEq α]
theorem lkp_none_iff {m : List (α × β)} {a : α} : bN m a = none ↔ a ∉ m.map fun p => p.1 := by
  induction m with
  | nil => simp [bN]
  | cons p r ih =>
    obtain ⟨b, u⟩ := p
    rw [bN]
    by_cases e : a = b
    · subst e; simp
    · rw [if_neg e, ih]; simp [e]
theorem ft {m : List (α × β)} {a : α} {v : β} (h : bN m a = some v) : (a, v) ∈ m := by
  induction m with
  | nil => cases h
  | cons p r ih =>
    obtain ⟨b, u⟩ := p
    rw [bN] at h
    by_cases e : a = b
    · rw [if_pos e] at h; cases h; subst e; exact .head _
    · rw [if_neg e] at h; exact .tail _ (ih h)
theorem lkp_some_of {m : List (α × β)} (hn : (m.map fun p => p.1).Nodup) {a : α} {v : β} (h : (a, v) ∈ m) : bN m a = some v := by
  cases hl : bN m a with
  | none => exact absurd (List.mem_map.2 ⟨_, h, rfl⟩) (lkp_none_iff.1 hl)
  | some u =>
    have := nd_inj hn _ (ft hl) _ h rfl
    cases this; rfl
theorem rmv_filter {m : List (α × β)} (h : (m.map fun p => p.1).Nodup) (a : α) : rmv m a = m.filter fun p => decide (p.1 ≠ a) := by
  induction m with
  | nil => rfl
  | cons p r ih =>
    obtain ⟨b, u⟩ := p
    rw [List.map_cons, List.nodup_cons] at h
    rw [rmv, List.filter_cons]
    by_cases e : a = b
    · subst e
      rw [if_pos rfl, if_neg (by simp)]
      symm
      rw [List.filter_eq_self]
      intro q hq
      exact decide_eq_true fun e => h.1 (List.mem_map.2 ⟨q, hq, e⟩)
    · rw [if_neg e, if_pos (by simp; exact fun h => e h.symm), ih h.2]
theorem lkp_upd14 {m : List (α × β)} {a b : α} {v : β} : bN (upd m a v) b = if b = a then some v else bN m b := by
  induction m with
  | nil => simp only [upd, bN]
  | cons p r ih =>
    obtain ⟨c, u⟩ := p
    rw [upd]
    by_cases e : a = c
    · subst e
      rw [if_pos rfl, bN, bN]
      by_cases e2 : b = a
      · rw [if_pos e2, if_pos e2]
      · rw [if_neg e2, if_neg e2, if_neg e2]
    · rw [if_neg e, bN, bN, ih]
      by_cases e2 : b = c
      · subst e2; rw [if_pos rfl, if_pos rfl, if_neg (fun h => e h.symm)]
      · rw [if_neg e2, if_neg e2]
end
theorem amOf_keys (hm : Hm) : ((bS hm).map fun p => p.1) = hm.map fun p => p.2.ad := by rw [bS, List.map_map]; rfl
theorem PInv.filter {hm : Hm} (h : PInv hm) (P : aL × Hd → Bool) : PInv (hm.filter P) :=
  ⟨h.keys.sublist (List.filter_sublist.map _), h.ads.sublist (List.filter_sublist.map _), fun p hp => h.fold p (List.mem_filter.1 hp).1⟩
theorem drop_am {hm : Hm} (h : PInv hm) {key : aL} (hk : (bN hm key).isSome = true) : fA hm (bS hm) key = (hm.filter (fun p => decide (p.1 ≠ key)), bS (hm.filter fun p => decide (p.1 ≠ key))) := by
  obtain ⟨v, hv⟩ := Option.isSome_iff_exists.1 hk
  have hm1 := ft hv
  have h1 : rmv (bS hm) v.ad = bS (hm.filter fun p => decide (p.1 ≠ key)) := by
    rw [rmv_filter (by rw [amOf_keys]; exact h.ads), bS, List.filter_map]
    congr 1
    refine List.filter_congr fun p hp => ?_
    show decide (p.2.ad ≠ v.ad) = decide (p.1 ≠ key)
    rw [decide_eq_decide]
    constructor
    · intro hne e
      have := nd_inj h.keys p hp _ hm1 e
      rw [this] at hne; exact hne rfl
    · intro hne e
      have := nd_inj h.ads p hp _ hm1 e
      rw [this] at hne; exact hne rfl
  rw [fA, hv, rmv_filter h.keys]
  exact Prod.ext rfl h1
def stayM (hosts : List aL) : List (aL × Bool) := hosts.foldl (fun m n => upd m (aT n) true) []
theorem stay_go (k : aL) : ∀ (hosts : List aL) (m : List (aL × Bool)), (bN (hosts.foldl (fun m n => upd m (aT n) true) m) k).getD false = ((bN m k).getD false || decide (k ∈ hosts.map aT))
  | [], m => by simp
  | n :: r, m => by
    rw [List.foldl_cons, stay_go k r, lkp_upd14]
    by_cases e : k = aT n
    · simp [e]
    · rw [if_neg e]; simp [e]
theorem stay_lkp (hosts : List aL) (k : aL) : (bN (stayM hosts) k).getD false = decide (k ∈ hosts.map aT) := by rw [stayM, stay_go]; rfl
theorem stay_snoc (hosts : List aL) (n : aL) : stayM (hosts ++ [n]) = upd (stayM hosts) (aT n) true := by rw [stayM, List.foldl_append]; rfl
def cw (hm : Hm) (hosts pre : List aL) : Hm := hm.filter fun p => decide (p.1 ∈ hosts.map aT) || decide (p.1 ∉ pre)
def stayH (hm : Hm) (hosts : List aL) : Hm := hm.filter fun p => decide (p.1 ∈ hosts.map aT)
theorem keepK_nil (hm : Hm) (hosts : List aL) : cw hm hosts [] = hm := by
  rw [cw, List.filter_eq_self]; intro p _; simp
theorem keepK_all {hm : Hm} {hosts ks : List aL} (h : ∀ p ∈ hm, p.1 ∈ ks) : cw hm hosts ks = stayH hm hosts := by
  refine List.filter_congr fun p hp => ?_
  rw [decide_eq_false (fun q : p.1 ∉ ks => q (h p hp)), Bool.or_false]
theorem keepK_stay {hm : Hm} {hosts pre : List aL} {k : aL} (h : k ∈ hosts.map aT) : cw hm hosts (pre ++ [k]) = cw hm hosts pre := by
  refine List.filter_congr fun p _ => ?_
  by_cases e : p.1 = k
  · rw [e, decide_eq_true h]; rfl
  · congr 1
    rw [decide_eq_decide]; simp [e]
theorem keepK_drop {hm : Hm} (hi : PInv hm) {hosts pre : List aL} {k : aL} (h : k ∉ hosts.map aT) (hp : k ∉ pre) (hk : k ∈ hm.map fun p => p.1) : fA (cw hm hosts pre) (bS (cw hm hosts pre)) k = (cw hm hosts (pre ++ [k]), bS (cw hm hosts (pre ++ [k]))) := by
  obtain ⟨p, hpm, rfl⟩ := List.mem_map.1 hk
  have hin : p ∈ cw hm hosts pre := List.mem_filter.2 ⟨hpm, by rw [decide_eq_true hp, Bool.or_true]⟩
  have hinv := hi.filter fun p => decide (p.1 ∈ hosts.map aT) || decide (p.1 ∉ pre)
  have hs := lkp_some_of hinv.keys (a := p.1) (v := p.2) hin
  have hd := drop_am hinv (key := p.1) (by show (bN (List.filter _ hm) p.1).isSome = true; rw [hs]; rfl)
  have he : (cw hm hosts pre).filter (fun q => decide (q.1 ≠ p.1)) = cw hm hosts (pre ++ [p.1]) := by
    rw [cw, cw, List.filter_filter]
    refine List.filter_congr fun q _ => ?_
    by_cases e : q.1 = p.1
    · rw [e, decide_eq_false h]; simp
    · simp [e]
  rw [← he]; exact hd
theorem give_inv {v : Vp} {hm : Hm} (h : PInv hm) (n : aL) : (bw v hm (bS hm) n).2.2 = bS (bw v hm (bS hm) n).2.1 ∧ PInv (bw v hm (bS hm) n).2.1 ∧ (bw v hm (bS hm) n).2.1.length ≤ hm.length + 1 := by
  by_cases h1 : bZ n = false
  · rw [cA h1]; exact ⟨rfl, h, Nat.le_succ _⟩
  · have h1 : bZ n = true := by simpa using h1
    by_cases h2 : (bN hm (aT n)).isSome = true
    · rw [cG h1 h2]; exact ⟨rfl, h, Nat.le_succ _⟩
    · have h2 : (bN hm (aT n)).isSome = false := by simpa using h2
      by_cases h3 : v.room - hm.length = 0
      · rw [cm h1 h2 h3]; exact ⟨rfl, h, Nat.le_succ _⟩
      · rw [bJ h1 h2 h3 rfl]
        cases hg : bu v (bS hm) n with
        | none => exact ⟨rfl, h, Nat.le_succ _⟩
        | some i =>
          have hf := List.find?_some hg
          have hno := lkp_none_iff.1 (ff hf)
          have hnk := lkp_none_iff.1 (d9 h2)
          rw [amOf_keys] at hno
          refine ⟨by simp [bS, amO, hmO], ⟨?_, ?_, ?_⟩, by simp [hmO]⟩
          · simp only [hmO, List.map_append, List.map_cons, List.map_nil]
            exact nd_snocG h.keys hnk
          · simp only [hmO, List.map_append, List.map_cons, List.map_nil]
            exact nd_snocG h.ads hno
          · intro p hp
            rcases List.mem_append.1 hp with hp | hp
            · exact h.fold p hp
            · rw [List.mem_singleton.1 hp]; exact ⟨rfl, h1⟩
def keepF (v : Vp) (s : Hm × List aL) (n : aL) : Hm × List aL := ((bw v s.1 (bS s.1) n).2.1, if (bw v s.1 (bS s.1) n).1.2 ≠ 0 ∧ aT n ∉ s.2.map aT then s.2 ++ [n] else s.2)
def eS (v : Vp) (hm : Hm) (hosts : List aL) : Hm × List aL := hosts.foldl (keepF v) (hm, [])
theorem e5 (v : Vp) (hm : Hm) (hosts : List aL) (n : aL) : eS v hm (hosts ++ [n]) = keepF v (eS v hm hosts) n := by rw [eS, List.foldl_append]; rfl
def c9 (v : Vp) (hm : Hm) (hosts : List aL) : (List aL × Int) × Hm := if hosts.all bZ = false then (([], 2), hm) else (((eS v (stayH hm hosts) hosts).2, 0), (eS v (stayH hm hosts) hosts).1)

end Go.Proofs.Ytnpdgmoeoidppaa
