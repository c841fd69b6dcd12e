import Derived.Test.YtnpdgmoeoidppaaGreatVcQh
import Derived.Test.YtnpdgmoeoidppaaGreatLuQh
import Derived.Test.YtnpdgmoeoidppaaGreatLzQh
import Derived.Test.YtnpdgmoeoidppaaGreatPaQh
/- vips: what is held, gone through and sorted -/
namespace Go.Proofs.YtnpdgmoeoidppaaGreat
open Go.RowKit Go.Shelf
set_option linter.unusedVariables false
set_option linter.unusedSimpArgs false

theorem ent_100 : Enters Tryz.prog 100 := enters_of Tryz.func100 (by kernel_rfl) rfl
theorem ent_101 : Enters Tryz.prog 101 := enters_of Tryz.func101 (by kernel_rfl) rfl
theorem ent_103 : Enters Tryz.prog 103 := enters_of Tryz.func103 (by kernel_rfl) rfl
theorem ent_169 : Enters Tryz.prog 169 := enters_of Tryz.func169 (by kernel_rfl) rfl
theorem ent_170 : Enters Tryz.prog 170 := enters_of Tryz.func170 (by kernel_rfl) rfl
theorem ent_172 : Enters Tryz.prog 172 := enters_of Tryz.func172 (by kernel_rfl) rfl
theorem ent_174 : Enters Tryz.prog 174 := enters_of Tryz.func174 (by kernel_rfl) rfl
theorem ent_175 : Enters Tryz.prog 175 := enters_of Tryz.func175 (by kernel_rfl) rfl
theorem ent_216 : Enters Tryz.prog 216 := enters_of Tryz.func216 (by kernel_rfl) rfl
theorem ent_219 : Enters Tryz.prog 219 := enters_of Tryz.func219 (by kernel_rfl) rfl
theorem ty_25 : TyI Tryz.prog 25 false 1 24 (.slice none 0 0) := TyI.mk' (by kernel_rfl) (fun _ => by kernel_rfl)

def kdA (a : Ad) : Int := if a.six = true then 1 else 0
def orJ : List Int → Int
  | [] => 0
  | x :: r => if x ≠ 0 then x else orJ r
def cmpA (a b : Ad) : Int := orJ [cU (kdA a) (kdA b), cU a.hi b.hi, cU a.lo b.lo]
theorem cmpI_neg (a b : Int) : cU a b < 0 ↔ a < b := by
  unfold cU
  split
  · omega
  · split <;> omega
theorem cmpI_zero (a b : Int) : cU a b = 0 ↔ a = b := by
  unfold cU
  split
  · omega
  · split <;> omega
theorem cmpA_neg (a b : Ad) : cmpA a b < 0 ↔ kdA a < kdA b ∨ (kdA a = kdA b ∧ (a.hi < b.hi ∨ (a.hi = b.hi ∧ a.lo < b.lo))) := by
  have h1 := cmpI_neg (kdA a) (kdA b); have h2 := cmpI_neg a.hi b.hi; have h3 := cmpI_neg a.lo b.lo
  have g1 := cmpI_zero (kdA a) (kdA b); have g2 := cmpI_zero a.hi b.hi; have g3 := cmpI_zero a.lo b.lo
  simp only [cmpA, orJ]
  by_cases c1 : cU (kdA a) (kdA b) = 0
  · rw [if_neg (fun q => q c1)]
    by_cases c2 : cU a.hi b.hi = 0
    · rw [if_neg (fun q => q c2)]
      by_cases c3 : cU a.lo b.lo = 0
      · rw [if_neg (fun q => q c3)]; omega
      · rw [if_pos c3]; omega
    · rw [if_pos c2]; omega
  · rw [if_pos c1]; omega
instance : Inhabited {x : Hd // True} := ⟨⟨d2, trivial⟩⟩
theorem swo_hd : Go.Sort.SWO (α := {x : Hd // True}) (Go.Proofs.ltOf fun x y : {x : Hd // True} => cmpA x.1.ad y.1.ad) where
  irrefl x := by simp only [ltOf, decide_eq_false_iff_not, cmpA_neg]; omega
  trans x y z h1 h2 := by simp only [ltOf, decide_eq_true_eq, cmpA_neg] at *; omega
  ntrans x y z h1 h2 := by simp only [ltOf, decide_eq_false_iff_not, cmpA_neg] at *; omega
def encHd1 (h : Hd) : List Value := [.agg (hdC h).toArray]
theorem c_isNaNu (n : Int) : cC Tryz.prog 219 #[.int .u64 n] (.bool false) := by
 intro w0
 refine a6 (ok0 := no) (S := []) (args := [.int .u64 n]) 6 Tryz.func219 rfl rfl rfl (by simp) (by simp) ?_
 refine ao ?_
 refine ab ?_
 refine ap (ai rfl) rfl rfl ?_
 refine ae ?_
 refine aj ?_
 refine ao ?_
 refine ab ?_
 refine ap (ak rfl) rfl rfl ?_
 refine ap (ak rfl) rfl rfl ?_
 refine ap (cc rfl rfl) rfl rfl ?_
 refine ap (ai rfl) rfl rfl ?_
 refine ae ?_
 refine aj ?_
 refine aH ?_
 refine aN (ts := [2]) rfl rfl rfl (fun w hw => ?_)
 exact ⟨by show Ending.returned (.bool _) = _; congr 2; simp, hw.base⟩

theorem c_cmpU (a b : Int) : cC Tryz.prog 175 #[.int .u64 a, .int .u64 b] (.int .i64 (cU a b)) := by
 intro w0
 refine a6 (ok0 := no) (S := []) (args := [.int .u64 a, .int .u64 b]) 20 Tryz.func175 rfl rfl rfl (by simp) (by simp) ?_
 refine ao ?_
 refine ab ?_
 refine ap (ai rfl) rfl rfl ?_
 refine ae ?_
 refine aj ?_
 refine ao ?_
 refine ab ?_
 refine ap (ak rfl) rfl rfl ?_
 refine aR rfl ent_219 (c_isNaNu _) rfl ?_
 refine bW (t := 8) (.bool false) rfl (congrArg Value.bool rfl) ?_
 refine ap (ai rfl) rfl rfl ?_
 refine ae ?_
 refine aj ?_
 refine ao ?_
 refine ab ?_
 refine ap (ak rfl) rfl rfl ?_
 refine aR rfl ent_219 (c_isNaNu _) rfl ?_
 refine bW (t := 10) (.bool false) rfl (congrArg Value.bool rfl) ?_
 refine ap (ai rfl) rfl rfl ?_
 refine ae ?_
 refine aj ?_
 refine ao ?_
 refine ao ?_
 refine ab ?_
 refine ap (ak rfl) rfl rfl ?_
 refine ae ?_
 refine aj ?_
 refine aw rfl ?_
 refine aL ?_
 refine aj ?_
 refine ao ?_
 refine ao ?_
 refine ab ?_
 refine ap (ak rfl) rfl rfl ?_
 refine ae ?_
 refine aj ?_
 refine aw rfl ?_
 refine aL ?_
 refine aj ?_
 refine ao ?_
 refine ao ?_
 refine ab ?_
 refine ap (ak rfl) rfl rfl ?_
 refine ap (ak rfl) rfl rfl ?_
 refine ap (bQ rfl rfl) rfl rfl ?_
 refine aG (t := 16) rfl (fun h9_2 => ?_) (fun h9_2 => ?_)
 refine ae ?_
 refine aj ?_
 refine ay rfl ?_
 refine ao ?_
 refine ab ?_
 refine ap (ai rfl) rfl rfl ?_
 refine ae ?_
 refine aj ?_
 refine aH ?_
 refine az ?_
 refine aN (ts := [4]) rfl rfl rfl (fun w hw => ?_)
 refine ⟨?_, hw.base⟩
 show Ending.returned (.int _ _) = _
 congr 2
 focus first
   | (rw [cU, if_pos h9_2]
      done)
   | (rw [cU, if_neg h9_2, if_pos (by omega)]
      done)
   | (rw [cU, if_neg h9_2, if_neg (by omega)]
      done)
 refine ae ?_
 refine aj ?_
 refine aw rfl ?_
 refine aL ?_
 refine aj ?_
 refine ao ?_
 refine ao ?_
 refine ab ?_
 refine ap (ak rfl) rfl rfl ?_
 refine ap (ak rfl) rfl rfl ?_
 refine ap (dU rfl rfl) rfl rfl ?_
 refine aG (t := 19) rfl (fun h11_2 => ?_) (fun h11_2 => ?_)
 refine ae ?_
 refine aj ?_
 refine ay rfl ?_
 refine ao ?_
 refine ab ?_
 refine ap (ai rfl) rfl rfl ?_
 refine ae ?_
 refine aj ?_
 refine aH ?_
 refine az ?_
 refine aN (ts := [4]) rfl rfl rfl (fun w hw => ?_)
 refine ⟨?_, hw.base⟩
 show Ending.returned (.int _ _) = _
 congr 2
 focus first
   | (rw [cU, if_pos h9_2]
      done)
   | (rw [cU, if_neg h9_2, if_pos (by omega)]
      done)
   | (rw [cU, if_neg h9_2, if_neg (by omega)]
      done)
 refine ae ?_
 refine aj ?_
 refine aw rfl ?_
 refine aL ?_
 refine aj ?_
 refine ao ?_
 refine ab ?_
 refine ap (ai rfl) rfl rfl ?_
 refine ae ?_
 refine aj ?_
 refine aH ?_
 refine aN (ts := [4]) rfl rfl rfl (fun w hw => ?_)
 refine ⟨?_, hw.base⟩
 show Ending.returned (.int _ _) = _
 congr 2
 focus first
   | (rw [cU, if_pos h9_2]
      done)
   | (rw [cU, if_neg h9_2, if_pos (by omega)]
      done)
   | (rw [cU, if_neg h9_2, if_neg (by omega)]
      done)

theorem c_kind (a : Ad) : cC Tryz.prog 174 #[.agg (dC a).toArray] (.int .i64 (kdA a)) := by
 intro w0
 refine a6 (ok0 := no) (S := []) (args := [.agg (dC a).toArray]) 5 Tryz.func174 rfl rfl rfl (by simp) (by simp) ?_
 refine ao ?_
 refine ab ?_
 refine bx rfl rfl rfl (fun b1 => ?_)
 refine ap (ai rfl) rfl rfl ?_
 refine ae ?_
 refine aj ?_
 refine ao ?_
 refine ao ?_
 refine ab ?_
 refine ap (aD cT rfl) rfl rfl ?_
 refine ap (aM 0 gy rfl rfl rfl) rfl rfl ?_
 refine bl (t := 4) rfl (fun h1_1 => ?_) (fun h1_1 => ?_)
 refine ae ?_
 refine aj ?_
 refine ay rfl ?_
 refine ao ?_
 refine ab ?_
 refine ap (ai rfl) rfl rfl ?_
 refine ae ?_
 refine aj ?_
 refine aH ?_
 refine az ?_
 refine aN (ts := [2]) rfl rfl rfl (fun w hw => ?_)
 refine ⟨?_, hw.base⟩
 show Ending.returned (.int _ _) = _
 congr 2
 focus first
   | (rw [kdA, if_pos h1_1]
      done)
   | (rw [kdA, if_neg (by rw [h1_1]; decide)]
      done)
 refine ae ?_
 refine aj ?_
 refine aw rfl ?_
 refine aL ?_
 refine aj ?_
 refine ao ?_
 refine ab ?_
 refine ap (ai rfl) rfl rfl ?_
 refine ae ?_
 refine aj ?_
 refine aH ?_
 refine aN (ts := [2]) rfl rfl rfl (fun w hw => ?_)
 refine ⟨?_, hw.base⟩
 show Ending.returned (.int _ _) = _
 congr 2
 focus first
   | (rw [kdA, if_pos h1_1]
      done)
   | (rw [kdA, if_neg (by rw [h1_1]; decide)]
      done)

theorem c_OrV (l : List Int) (A : Option Addr) (c : Nat) (hl : l.length ≤ 1000000) : RC Tryz.prog 172 #[.slice A l.length c] [Ch.rd A 1 enci l] (α := Unit) (fun _ => .int .i64 (orJ l)) (fun _ => []) := by
 refine bh (args := [.slice A l.length c]) 18 Tryz.func172 rfl rfl rfl (fun w0 => ?_)
 refine ao ?_
 refine ab ?_
 refine ap (ai rfl) rfl rfl ?_
 refine ae ?_
 refine aj ?_
 refine ao ?_
 refine ab ?_
 refine ap (ai rfl) rfl rfl ?_
 refine ae ?_
 refine aj ?_
 refine ao ?_
 refine ao ?_
 refine ab ?_
 refine ap (ak rfl) rfl rfl ?_
 refine ap (ck Tryz.underlying31 rfl) rfl rfl ?_
 refine ap (ak rfl) rfl rfl ?_
 refine ae ?_
 refine aj ?_
 refine aT ?_
 refine bZ (σ := Nat) [2, 5, 8, 9, 10, 11, 12, 13, 14, 15, 16] (fun k => k ≤ l.length ∧ orJ l = orJ (l.drop k)) (fun k => l.length - k) (fun k => [(8, .int .i64 k)]) (0) ?_ ⟨rfl, trivial⟩ (fun k hI => ?_)
 exact ⟨Nat.zero_le _, rfl⟩
 refine ao ?_
 refine ab ?_
 refine ap (bQ rfl rfl) rfl rfl ?_
 refine aG (t := 9) rfl (fun h3_0 => ?_) (fun h3_0 => ?_)
 have hdk := dI l (0 : Int) k (by omega)
 refine ae ?_
 refine aj ?_
 refine ao ?_
 refine ay rfl ?_
 refine aL ?_
 refine aj ?_
 refine ao ?_
 refine aT ?_
 refine ao ?_
 refine ab ?_
 refine ap (cp  Tryz.underlying31 ed rfl rfl (cI 0 rfl) rfl (by omega)) rfl rfl ?_
 refine ap (dd enc_i (0 : Int) ed rfl (cI 0 rfl) (by omega) rfl rfl) rfl rfl ?_
 refine ap (ai rfl) rfl rfl ?_
 refine ae ?_
 refine aj ?_
 refine ao ?_
 refine ab ?_
 refine ap (ak rfl) rfl rfl ?_
 refine ap (ak rfl) rfl rfl ?_
 refine ap (cc rfl rfl) rfl rfl ?_
 refine aG (t := 14) rfl (fun h5_2 => ?_) (fun h5_2 => ?_)
 refine ae ?_
 refine aj ?_
 refine ay rfl ?_
 refine ao ?_
 refine ab ?_
 refine ap (ak rfl) rfl rfl ?_
 refine ap (ai rfl) rfl rfl ?_
 refine ae ?_
 refine aj ?_
 refine aH ?_
 refine aU ?_
 refine az ?_
 refine bv ?_
 refine aU ?_
 refine az ?_
 refine aN (ts := [2]) rfl rfl rfl (fun w hw => ?_)
 have he : orJ l = l.getD k 0 := by rw [hI.2, hdk, orJ, if_pos (by omega)]
 exact ⟨(), by rw [he]; rfl, hw.base, (hw.weak (List.nil_sublist _) (fun s hs => hs)).toNews⟩
 refine ae ?_
 refine aj ?_
 refine aw rfl ?_
 refine aL ?_
 refine bw ?_
 refine aj ?_
 refine ab ?_
 refine ap (bi rfl rfl (by omega) (by omega)) rfl rfl ?_
 refine ap (ak rfl) rfl rfl ?_
 refine ae ?_
 refine bA (k + 1) ?_ ?_ ⟨rfl, trivial⟩ (by repeat (first | exact trivial | refine ⟨rfl, ?_⟩)) au
 exact ⟨by omega, by rw [hI.2, hdk, orJ, if_neg (by omega)]⟩
 omega
 refine ae ?_
 refine aj ?_
 refine ao ?_
 refine aw rfl ?_
 refine bG ?_
 refine a7 ?_
 refine aZ ?_
 refine bc ?_
 refine aj ?_
 refine ao ?_
 refine ab ?_
 refine ap (ak rfl) rfl rfl ?_
 refine ap (ai rfl) rfl rfl ?_
 refine ae ?_
 refine aj ?_
 refine aH ?_
 refine aN (ts := [2]) rfl rfl rfl (fun w hw => ?_)
 have he : orJ l = 0 := by rw [hI.2, List.drop_of_length_le (by omega)]; rfl
 exact ⟨(), by rw [he]; rfl, hw.base, (hw.weak (List.nil_sublist _) (fun s hs => hs)).toNews⟩

set_option maxRecDepth 100000 in
theorem c_addr_Compare (a b : Ad) : cC Tryz.prog 103 #[.agg (dC a).toArray, .agg (dC b).toArray] (.int .i64 (cmpA a b)) := by
 intro w0
 refine a6 (ok0 := no) (S := []) (args := [.agg (dC a).toArray, .agg (dC b).toArray]) 22 Tryz.func103 rfl rfl rfl (by simp) (by simp) ?_
 refine ao ?_
 refine ab ?_
 refine bx rfl rfl rfl (fun b1 => ?_)
 refine bx rfl rfl rfl (fun b2 => ?_)
 refine ap (ai rfl) rfl rfl ?_
 refine ae ?_
 refine aj ?_
 refine ao ?_
 refine dH 18 rfl mixed ?_
 refine aB (i := 0) rfl ah (aI 1 aO rfl rfl rfl rfl) au au rfl (aa aq) (by kernel_rfl) rfl ?_
 refine aB (i := 2) rfl ah (aI 0 aO rfl rfl rfl rfl) au au rfl (aa aq) (by kernel_rfl) rfl ?_
 refine aB (i := 5) rfl ah (aD dc rfl) au au rfl (aa aq) (by kernel_rfl) rfl ?_
 refine aB (i := 6) rfl ah (aM 1 co rfl rfl rfl) au au rfl (aa aq) (by kernel_rfl) rfl ?_
 refine aB (i := 7) rfl ah (aD dc rfl) au au rfl (aa aq) (by kernel_rfl) rfl ?_
 refine aB (i := 8) rfl ah (aM 0 co rfl rfl rfl) au au rfl (aa aq) (by kernel_rfl) rfl ?_
 refine aB (i := 10) rfl ah (aD ce rfl) au au rfl (aa aq) (by kernel_rfl) rfl ?_
 refine aB (i := 11) rfl ah (aM 1 co rfl rfl rfl) au au rfl (aa aq) (by kernel_rfl) rfl ?_
 refine aB (i := 12) rfl ah (aD ce rfl) au au rfl (aa aq) (by kernel_rfl) rfl ?_
 refine aB (i := 13) rfl ah (aM 0 co rfl rfl rfl) au au rfl (aa aq) (by kernel_rfl) rfl ?_
 refine cB (i := 1) rfl rfl rfl (a8 rfl ent_174) (by kernel_rfl) rfl ?_
 refine aR rfl ent_174 (c_kind _) rfl ?_
 refine ae ?_
 refine cN au ?_
 refine cB (i := 3) rfl rfl rfl (a8 rfl ent_174) (by kernel_rfl) rfl ?_
 refine aR rfl ent_174 (c_kind _) rfl ?_
 refine ae ?_
 refine cN au ?_
 refine cB (i := 4) rfl rfl rfl (a8 rfl ent_173) (by kernel_rfl) rfl ?_
 refine aR rfl ent_173 (c_cmpI _ _) rfl ?_
 refine ae ?_
 refine cN au ?_
 refine cB (i := 9) rfl rfl rfl (a8 rfl ent_175) (by kernel_rfl) rfl ?_
 refine aR rfl ent_175 (c_cmpU _ _) rfl ?_
 refine ae ?_
 refine cN au ?_
 refine cB (i := 14) rfl rfl rfl (a8 rfl ent_175) (by kernel_rfl) rfl ?_
 refine aR rfl ent_175 (c_cmpU _ _) rfl ?_
 refine ae ?_
 refine cN au ?_
 refine cB (i := 15) rfl rfl rfl (fun _ _ _ => bo (by kernel_rfl)) (by kernel_rfl) rfl ?_
 refine gq (vs := [_, _, _]) ([cU (kdA a) (kdA b), cU a.hi b.hi, cU a.lo b.lo] : List (Int)) enc_i Tryz.underlying31 ed rfl rfl rfl rfl rfl rfl (fun As3 => ?_)
 refine ae ?_
 refine cN (bP 1) ?_
 refine cB (i := 16) rfl rfl rfl (a8 rfl ent_172) (by kernel_rfl) rfl ?_
 refine bu rfl ent_172 rfl (c_OrV [cU (kdA a) (kdA b), cU a.hi b.hi, cU a.lo b.lo] _ _ (by simp)) (fun w hw => (aW (gM 0 rfl hw) bf)) ?_
 refine ae ?_
 refine cN (bP 1) ?_
 refine aB (i := 17) rfl ah (ai rfl) (bP 1) au rfl (aa aq) (by kernel_rfl) rfl ?_
 refine cm (by kernel_rfl) ?_
 refine aj ?_
 refine aH ?_
 refine aN (ts := [4]) rfl rfl rfl (fun w hw => ?_)
 exact ⟨rfl, hw.base⟩

theorem c_vAll1 (a b : Hd) : cC Tryz.prog 102 #[.agg (hdC a).toArray, .agg (hdC b).toArray] (.int .i64 (cmpA a.ad b.ad)) := by
 intro w0
 refine a6 (ok0 := no) (S := []) (args := [.agg (hdC a).toArray, .agg (hdC b).toArray]) 10 Tryz.func102 rfl rfl rfl (by simp) (by simp) ?_
 refine ao ?_
 refine ab ?_
 refine bx rfl rfl rfl (fun b1 => ?_)
 refine bx rfl rfl rfl (fun b2 => ?_)
 refine ap (ai rfl) rfl rfl ?_
 refine ae ?_
 refine aj ?_
 refine ao ?_
 refine ab ?_
 refine ap (aD dy rfl) rfl rfl ?_
 refine ap (aI 1 aO rfl rfl rfl rfl) rfl rfl ?_
 refine ap (aD dy rfl) rfl rfl ?_
 refine ap (aI 0 aO rfl rfl rfl rfl) rfl rfl ?_
 refine aR rfl ent_103 (c_addr_Compare a.ad b.ad) rfl ?_
 refine ap (ai rfl) rfl rfl ?_
 refine ae ?_
 refine aj ?_
 refine aH ?_
 refine aN (ts := [4]) rfl rfl rfl (fun w hw => ?_)
 exact ⟨rfl, hw.base⟩

theorem vals_snoc {α β : Type} {m : List (α × β)} {d0 : α × β} {ix : List Nat} {i : Nat} : ea m d0 (ix ++ [i]) = ea m d0 ix ++ [(m.getD i d0).2] := by simp [ea]
theorem nd_snoc {ix : List Nat} {i : Nat} (hn : ix.Nodup) (hi : i ∉ ix) : (ix ++ [i]).Nodup := by
  rw [List.nodup_append]; exact ⟨hn, by simp, fun a ha b hb e => by rw [List.mem_singleton.1 hb] at e; exact hi (e ▸ ha)⟩
theorem lt_snoc {ix : List Nat} {i n : Nat} (hx : ∀ j ∈ ix, j < n) (hi : i < n) : ∀ j ∈ ix ++ [i], j < n := fun j hj => (List.mem_append.1 hj).elim (hx j) (fun h => by rw [List.mem_singleton.1 h]; exact hi)
theorem ix_lt {ix : List Nat} {i n : Nat} (hn : ix.Nodup) (hx : ∀ j ∈ ix, j < n) (hin : i ∉ ix) (hi : i < n) : ix.length < n := by
  have := ix_len_le (nd_snoc hn hin) (lt_snoc hx hi); simp at this; omega
theorem vals_adm9 {α β : Type} {m : List (α × β)} {d0 : α × β} {ix : List Nat} {i : Nat} (hn : ix.Nodup) (hx : ∀ j ∈ ix, j < m.length) (hin : i ∉ ix) (hi : i < m.length) : ∃ rest, ((ea m d0 ix ++ [(m.getD i d0).2]) ++ rest).Perm (m.map (·.2)) := by
  rw [← vals_snoc]; exact vals_adm (nd_snoc hn hin) (lt_snoc hx hi)

theorem c_MapVal1 (m : List (aX × Hd)) (bm bn : Nat) : IterG Tryz.prog 171 [.pointer (some ⟨bn, 0, none⟩)] [Ch.row bn [.map (some bm)] 143, Ch.mp bm cX c5 m] [] [] encHd1 (fun pre => ∃ rest, (pre ++ rest).Perm (m.map (·.2))) (fun xs => xs.Perm (m.map (·.2))) := by
 refine iterG_of_W 15 Tryz.func171 rfl rfl rfl (fun lr σ I Ix C Sc hy g0 hg0 w0 => ?_)
 refine ao ?_
 refine w_openmp (encK := cX) (encV := c5) 1 rfl (fun es clk hE => ?_)
 refine ab ?_
 refine ap (bL 1 eB rfl rfl rfl) rfl rfl ?_
 refine o_range 0 rfl Tryz.underlying143 rfl rfl (fun r => ?_)
 refine ae ?_
 refine aj ?_
 refine aT ?_
 refine w_loopL (σ := List Nat × σ) [4, 7, 8, 9, 10, 11, 12, 13, 14] (fun q => q.1.length ≤ m.length ∧ q.1.Nodup ∧ (∀ j ∈ q.1, j < m.length) ∧ I (ea m ((([] : aX), d2) : aX × Hd) q.1) q.2) (fun q => m.length - q.1.length) (fun q => []) (fun q => [Ch.obj r (.mapIter (some bm) clk (dL es q.1) clk), C q.2]) (([], g0)) ?_ trivial rfl (fun q hI => ?_)
 exact ⟨Nat.zero_le _, .nil, nofun, hg0⟩
 obtain ⟨ix, g⟩ := q
 dsimp only at hI ⊢
 refine ao ?_
 refine ab ?_
 refine o_next 0 rfl rfl hE.lt (fun _ => .z) rfl (fun en hen => ?_) (fun h0 => ?_)
 obtain hns := next_some hE hen ((([] : aX), d2) : aX × Hd)
 obtain ⟨i, hi, hin, hib, hiv⟩ := hns.2
 rw [hib]
 rw [hiv]
 rw [seen_push]
 refine ap (aJ rfl rfl) rfl rfl ?_
 refine bW (t := 8) (.bool true) rfl (congrArg Value.bool rfl) ?_
 refine ae ?_
 refine aj ?_
 refine ao ?_
 refine ay rfl ?_
 refine aL ?_
 refine aj ?_
 refine aT ?_
 refine ao ?_
 refine ab ?_
 refine ap (y_entry (e := en) (sn := dL es ix) 0 0 (by rw [hib, seen_push]) rfl rfl rfl hns.1 hE.nd) rfl rfl ?_
 refine ap (aJ rfl rfl) rfl rfl ?_
 refine bW (t := 10) (.agg (hdC (m.getD i ((([] : aX), d2) : aX × Hd)).2).toArray) rfl hiv ?_
 refine bj bS rfl rfl (fun b1 => ?_)
 refine aS bS rfl rfl rfl .z rfl rfl rfl rfl ?_
 refine ae ?_
 refine aj ?_
 refine ao ?_
 refine ab ?_
 refine ap (ak rfl) rfl rfl ?_
 refine ap (aI 0 bS rfl rfl rfl rfl) rfl rfl ?_
 refine o_yield rfl rfl (hy _ (m.getD i ((([] : aX), d2) : aX × Hd)).2 g (vals_adm9 hI.2.1 hI.2.2.1 hin hi) hI.2.2.2) (fun _ => (.s (.s (.z)))) (fun s hs => .tail _ (List.mem_append_right _ hs)) rfl (fun g' hT => ?_) (fun g' hF => ?_)
 refine ap (bJ rfl) rfl rfl ?_
 refine ae ?_
 refine aj ?_
 refine aw rfl ?_
 refine aL ?_
 refine bw ?_
 refine bA ((ix ++ [i], g')) ?_ ?_ trivial (by repeat (first | exact trivial | refine ⟨rfl, ?_⟩)) (bP 1)
 exact ⟨by show (ix ++ [i]).length ≤ _; have := ix_lt hI.2.1 hI.2.2.1 hin hi; simp; omega, nd_snoc hI.2.1 hin, lt_snoc hI.2.2.1 hi, by show I (ea m ((([] : aX), d2) : aX × Hd) (ix ++ [i])) _; rw [vals_snoc]; exact hT⟩
 show m.length - (ix ++ [i]).length < m.length - ix.length
 have := ix_lt hI.2.1 hI.2.2.1 hin hi
 simp; omega
 refine ap (bJ rfl) rfl rfl ?_
 refine ae ?_
 refine aj ?_
 refine ay rfl ?_
 refine aH ?_
 refine aU ?_
 refine bv ?_
 refine aU ?_
 refine aN (ts := []) rfl rfl rfl (fun w hw => ?_)
 focus first
   | exact fJ _ (.inr ⟨_, vals_adm9 hI.2.1 hI.2.2.1 hin hi, hF⟩) (hw.weak (.cons _ (.cons _ (.cons_cons _ .slnil))) (fun s hs => hs))
   | exact fJ _ (.inl ⟨_, vals_all hI.2.1 hI.2.2.1 hal, hI.2.2.2⟩) (hw.weak (.cons _ (.cons _ (.cons_cons _ .slnil))) (fun s hs => hs))
   | (trace_state; fail)
 have hal := fun i hi => next_none hE h0 i hi hI.2.2.1
 refine ap (aJ rfl rfl) rfl rfl ?_
 refine bW (t := 8) (.bool false) rfl (congrArg Value.bool rfl) ?_
 refine ae ?_
 refine aj ?_
 refine ao ?_
 refine aw rfl ?_
 refine bG ?_
 refine a7 ?_
 refine aZ ?_
 refine bc ?_
 refine e_end (ts := []) rfl rfl rfl (fun w hw => ?_)
 focus first
   | exact fJ _ (.inr ⟨_, vals_adm9 hI.2.1 hI.2.2.1 hin hi, hF⟩) (hw.weak (.cons _ (.cons_cons _ .slnil)) (fun s hs => hs))
   | exact fJ _ (.inl ⟨_, vals_all hI.2.1 hI.2.2.1 hal, hI.2.2.2⟩) (hw.weak (.cons _ (.cons_cons _ .slnil)) (fun s hs => hs))
   | (trace_state; fail)

theorem c_MapVal (bm : Nat) : RC Tryz.prog 101 #[.map (some bm)] [] (α := Nat) (fun p => .func (.func 171) #[] #[.pointer (some ⟨p, 0, none⟩)]) (fun p => [Ch.row p [.map (some bm)] 143]) := by
 refine bh (args := [.map (some bm)]) 4 Tryz.func101 rfl rfl rfl (fun w0 => ?_)
 refine ao ?_
 refine ab ?_
 refine bx rfl rfl rfl (fun b1 => ?_)
 refine ap (ai rfl) rfl rfl ?_
 refine ae ?_
 refine aj ?_
 refine ao ?_
 refine ab ?_
 refine ap (dE rfl rfl) rfl rfl ?_
 refine ap (ai rfl) rfl rfl ?_
 refine ae ?_
 refine aj ?_
 refine aH ?_
 refine aN (ts := [2]) rfl rfl rfl (fun w hw => ?_)
 exact ⟨b1, rfl, hw.base, (hw.weak (.cons_cons _ .slnil) (fun s hs => hs)).toNews⟩

theorem c_AppendSeq_hd (gf : Nat) (lb : List Value) (Sx : List Ch) (Adm Fin : List Hd → Prop) (hit : IterG Tryz.prog gf lb Sx [] [] encHd1 Adm Fin) (hen : Enters Tryz.prog gf) (hb : ∀ pre, Adm pre → pre.length ≤ 1000000) : RC Tryz.prog 216 #[.slice none 0 0, .func (.func gf) #[] lb.toArray] Sx (α := {p : List Hd × Option Addr × Nat // Fin p.1}) (fun p => .slice p.1.2.1 p.1.1.length p.1.2.2) (fun p => [Ch.ls p.1.2.1 p.1.2.2 46 4 hdC p.1.1]) := by
 refine rc_of_WM (args := [.slice none 0 0, .func (.func gf) #[] lb.toArray]) 13 Tryz.func216 rfl rfl rfl (fun w0 => ?_)
 refine ao ?_
 refine ab ?_
 refine bx rfl rfl rfl (fun b1 => ?_)
 refine ap (ai rfl) rfl rfl ?_
 refine ae ?_
 refine aj ?_
 refine ao ?_
 refine ao ?_
 refine ab ?_
 refine ap (ak rfl) rfl rfl ?_
 refine ae ?_
 refine aj ?_
 refine aT ?_
 refine eX (fun w h => h.nilsl 46 4) ?_
 refine w_rangeG (σ := List Hd × Option Addr × Nat) (fun pre g => g.1 = pre) (fun c pre g => False) (fun g => [Ch.ls g.2.1 g.2.2 46 4 hdC g.1, Ch.row b1 [.slice g.2.1 g.1.length g.2.2] 25]) (([], none, 0)) rfl rfl hen (hit) (fun s hs => hs) rfl (fun _ => rfl) (rfl) au (fun pre e g hxs hI lr D r hr okb wb => ?_) (fun g D0 hI => ?_) (fun c pre g D0 hxs hI => ?_)
 obtain ⟨q, Ax, cx⟩ := g
 dsimp only at hI ⊢
 subst hI
 have hpl := hb _ hxs
 have hpl2 : q.length + 1 ≤ 1000000 := by simpa using hpl
 refine ab ?_
 refine bj bS rfl rfl (fun b2 => ?_)
 refine aS bS rfl rfl rfl .z rfl rfl rfl rfl ?_
 refine ae ?_
 refine gH rfl hr (.s (.z)) ?_
 refine aT ?_
 refine ab ?_
 refine ap (aM 4 ty_25 rfl rfl rfl) rfl rfl ?_
 refine ap (aI 0 bS rfl rfl rfl rfl) rfl rfl ?_
 refine gq (vs := [_]) ([e] : List (Hd)) fH Tryz.underlying25 bS rfl rfl rfl rfl rfl rfl (fun As3 => ?_)
 refine gc (enc := hdC) (sz := 4) [e] Tryz.underlying25 bS rfl rfl rfl (fun A c => (.s (.s (.s (.s (.z)))))) (src_L 0 Tryz.underlying25 rfl) (by simp only [List.length_cons, List.length_nil, Nat.zero_add]; omega) (by simp only [List.length_cons, List.length_nil, Nat.zero_add]; omega) rfl (fun A3 c3 => ?_)
 refine aS ty_25 rfl rfl rfl (.s (.s (.s (.s (.s (.z)))))) rfl rfl rfl rfl ?_
 refine ae ?_
 refine bw ?_
 refine e_rend ((q ++ [e], A3, c3)) ?_ (bP 2)
 rfl
 obtain ⟨q, Ax, cx⟩ := g
 obtain ⟨xs, hfx, hI⟩ := hI
 dsimp only at hI ⊢
 subst hI
 refine bw ?_
 refine aj ?_
 refine ao ?_
 refine ab ?_
 refine ap (aM 2 ty_25 rfl rfl rfl) rfl rfl ?_
 refine ap (ai rfl) rfl rfl ?_
 refine ae ?_
 refine aj ?_
 refine aH ?_
 refine fe ?_
 refine eQ .z ?_
 refine dT (rs := [.tmp 4]) rfl (cE rfl bM) (fun w hw => ?_)
 exact ⟨⟨(q, Ax, cx), hfx⟩, rfl, hw.base, (hw.weak (.cons _ (.cons_cons _ (.cons _ .slnil))) (fun s hs => hs)).toNews⟩
 exact hI.elim

theorem c_Collect_hd (gf : Nat) (lb : List Value) (Sx : List Ch) (Adm Fin : List Hd → Prop) (hit : IterG Tryz.prog gf lb Sx [] [] encHd1 Adm Fin) (hen : Enters Tryz.prog gf) (hb : ∀ pre, Adm pre → pre.length ≤ 1000000) : RC Tryz.prog 169 #[.func (.func gf) #[] lb.toArray] Sx (α := {p : List Hd × Option Addr × Nat // Fin p.1}) (fun p => .slice p.1.2.1 p.1.1.length p.1.2.2) (fun p => [Ch.ls p.1.2.1 p.1.2.2 46 4 hdC p.1.1]) := by
 refine bh (args := [.func (.func gf) #[] lb.toArray]) 5 Tryz.func169 rfl rfl rfl (fun w0 => ?_)
 refine ao ?_
 refine ab ?_
 refine ap (ai rfl) rfl rfl ?_
 refine ae ?_
 refine aj ?_
 refine ao ?_
 refine ab ?_
 refine ap (ak rfl) rfl rfl ?_
 refine cw rfl ent_216 rfl (c_AppendSeq_hd gf lb Sx Adm Fin hit hen hb) (fun w hw s hs => hw.rdS hs) (fun ⟨⟨q, Ax, cx⟩, hfx⟩ => ?_)
 refine ap (ai rfl) rfl rfl ?_
 refine ae ?_
 refine aj ?_
 refine aH ?_
 refine aN (ts := [2]) rfl rfl rfl (fun w hw => ?_)
 exact ⟨⟨(q, Ax, cx), hfx⟩, rfl, hw.base, (hw.weak (.cons_cons _ .slnil) (fun s hs => hs)).toNews⟩

def sortHd_ren : Go.Shelf.Ren := ⟨fun | 6 => 170 | 15 => 190 | 14 => 217 | 28 => 230 | 29 => 231 | 20 => 239 | 21 => 240 | 22 => 241 | 23 => 242 | 24 => 243 | 25 => 244 | 26 => 245 | 27 => 246 | 46 => 257 | 47 => 249 | 48 => 250 | 49 => 258 | 50 => 259 | 57 => 264 | n => n, fun | 22 => 25 | 24 => 46 | 25 => 161 | 3 => 3 | 39 => 202 | 0 => 0 | 53 => 32 | 55 => 27 | 4 => 4 | 46 => 264 | 45 => 263 | 50 => 163 | 5 => 5 | 9 => 9 | 66 => 280 | 70 => 284 | 76 => 292 | 77 => 293 | n => n, fun | n => n⟩
theorem sortHd : Go.Proofs.SlLaysF0.n6 Tryz.prog sortHd_ren := {
  mixed := by kernel_rfl,
  f6 := ⟨Tryz.f170.name, by decide, Tryz.func170.trans (congrArg some (by kernel_rfl))⟩,
  f14 := ⟨Tryz.f217.name, by decide, Tryz.func217.trans (congrArg some (by kernel_rfl))⟩,
  f15 := Tryz.func190.trans (congrArg some (by kernel_rfl)),
  f20 := ⟨Tryz.f239.name, by decide, Tryz.func239.trans (congrArg some (by kernel_rfl))⟩,
  f21 := ⟨Tryz.f240.name, by decide, Tryz.func240.trans (congrArg some (by kernel_rfl))⟩,
  f22 := ⟨Tryz.f241.name, by decide, Tryz.func241.trans (congrArg some (by kernel_rfl))⟩,
  f23 := ⟨Tryz.f242.name, by decide, Tryz.func242.trans (congrArg some (by kernel_rfl))⟩,
  f24 := ⟨Tryz.f243.name, by decide, Tryz.func243.trans (congrArg some (by kernel_rfl))⟩,
  f25 := ⟨Tryz.f244.name, by decide, Tryz.func244.trans (congrArg some (by kernel_rfl))⟩,
  f26 := ⟨Tryz.f245.name, by decide, Tryz.func245.trans (congrArg some (by kernel_rfl))⟩,
  f27 := ⟨Tryz.f246.name, by decide, Tryz.func246.trans (congrArg some (by kernel_rfl))⟩,
  f28 := Tryz.func230.trans (congrArg some (by kernel_rfl)),
  f29 := Tryz.func231.trans (congrArg some (by kernel_rfl)),
  f46 := ⟨Tryz.f257.name, by decide, Tryz.func257.trans (congrArg some (by kernel_rfl))⟩,
  f47 := Tryz.func249.trans (congrArg some (by kernel_rfl)),
  f48 := Tryz.func250.trans (congrArg some (by kernel_rfl)),
  f49 := ⟨Tryz.f258.name, by decide, Tryz.func258.trans (congrArg some (by kernel_rfl))⟩,
  f50 := ⟨Tryz.f259.name, by decide, Tryz.func259.trans (congrArg some (by kernel_rfl))⟩,
  f57 := ⟨Tryz.f264.name, by decide, Tryz.func264.trans (congrArg some (by kernel_rfl))⟩,
  t0 := Tryz.underlying0,
  a0 := Tryz.isAgg0,
  z0 := Tryz.sizeOf0,
  v0 := Tryz.zeroValue0,
  t3 := Tryz.underlying3,
  a3 := Tryz.isAgg3,
  z3 := Tryz.sizeOf3,
  v3 := Tryz.zeroValue3,
  t4 := Tryz.underlying4,
  a4 := Tryz.isAgg4,
  z4 := Tryz.sizeOf4,
  v4 := Tryz.zeroValue4,
  t5 := Tryz.underlying5,
  a5 := Tryz.isAgg5,
  z5 := Tryz.sizeOf5,
  v5 := Tryz.zeroValue5,
  t9 := Tryz.underlying9,
  a9 := Tryz.isAgg9,
  z9 := Tryz.sizeOf9,
  v9 := Tryz.zeroValue9,
  t22 := Tryz.underlying25,
  a22 := Tryz.isAgg25,
  z22 := Tryz.sizeOf25,
  v22 := Tryz.zeroValue25,
  t25 := Tryz.underlying161,
  a25 := Tryz.isAgg161,
  z25 := Tryz.sizeOf161,
  v25 := Tryz.zeroValue161,
  t39 := Tryz.underlying202,
  a39 := Tryz.isAgg202,
  z39 := Tryz.sizeOf202,
  v39 := Tryz.zeroValue202,
  t45 := Tryz.underlying263,
  a45 := Tryz.isAgg263,
  z45 := Tryz.sizeOf263,
  v45 := Tryz.zeroValue263,
  t46 := Tryz.underlying264,
  a46 := Tryz.isAgg264,
  z46 := Tryz.sizeOf264,
  v46 := Tryz.zeroValue264,
  t50 := Tryz.underlying163,
  a50 := Tryz.isAgg163,
  z50 := Tryz.sizeOf163,
  v50 := Tryz.zeroValue163,
  t53 := Tryz.underlying32,
  a53 := Tryz.isAgg32,
  z53 := Tryz.sizeOf32,
  v53 := Tryz.zeroValue32,
  t55 := Tryz.underlying27,
  a55 := Tryz.isAgg27,
  z55 := Tryz.sizeOf27,
  v55 := Tryz.zeroValue27,
  t66 := Tryz.underlying280,
  a66 := Tryz.isAgg280,
  z66 := Tryz.sizeOf280,
  v66 := Tryz.zeroValue280,
  t70 := Tryz.underlying284,
  a70 := Tryz.isAgg284,
  z70 := Tryz.sizeOf284,
  v70 := Tryz.zeroValue284,
  t76 := Tryz.underlying292,
  a76 := Tryz.isAgg292,
  z76 := Tryz.sizeOf292,
  v76 := Tryz.zeroValue292,
  t77 := Tryz.underlying293,
  a77 := Tryz.isAgg293,
  z77 := Tryz.sizeOf293,
  v77 := Tryz.zeroValue293 }

theorem c_Sort_hd (A : Option Addr) (c : Nat) (xs : List Hd) (hl : xs.length ≤ 1000000) : UC Tryz.prog 170 #[.slice A xs.length c, .func (.func 102) #[] #[]] [] (Ch.ls A c 46 4 hdC xs) (α := {ys : List Hd // ys.Perm xs ∧ ys.Pairwise fun a b => ¬ cmpA b.ad a.ad < 0}) (fun _ => .tuple #[]) (fun o => Ch.ls A c 46 4 hdC o.1) :=
  uc_sort (p := fun _ => True) sortHd 4 Tryz.isAgg46 Tryz.sizeOf46 fH (fun a b : Hd => cmpA a.ad b.ad) swo_hd 102 #[] (enters_of Tryz.func102 (by kernel_rfl) rfl) (fun x y _ _ => by rw [Array.append_empty]; exact c_vAll1 x y) 46 A c xs (fun _ _ => trivial) (by omega)

theorem c_Sorted_hd (hm : Hm) (bm p : Nat) (hml : hm.length ≤ 1000000) : RC Tryz.prog 100 #[.func (.func 171) #[] #[.pointer (some ⟨p, 0, none⟩)], .func (.func 102) #[] #[]] [Ch.row p [.map (some bm)] 143, Ch.mp bm cX c5 hm] (α := {o : List Hd × Option Addr × Nat // o.1.Perm (hm.map (·.2)) ∧ o.1.Pairwise fun a b => ¬ cmpA b.ad a.ad < 0}) (fun o => .slice o.1.2.1 o.1.1.length o.1.2.2) (fun o => [Ch.ls o.1.2.1 o.1.2.2 46 4 hdC o.1.1]) := by
 refine bh (args := [.func (.func 171) #[] #[.pointer (some ⟨p, 0, none⟩)], .func (.func 102) #[] #[]]) 12 Tryz.func100 rfl rfl rfl (fun w0 => ?_)
 have hbm : ∀ pre : List Hd, (∃ rest, (pre ++ rest).Perm (hm.map (·.2))) → pre.length ≤ 1000000 := fun pre ⟨rest, h⟩ => by
   have := h.length_eq
   rw [List.length_append, List.length_map] at this
   omega
 refine ao ?_
 refine ab ?_
 refine ap (ai rfl) rfl rfl ?_
 refine ae ?_
 refine aj ?_
 refine ao ?_
 refine ab ?_
 refine ap (ak rfl) rfl rfl ?_
 refine cw rfl ent_169 rfl (c_Collect_hd 171 [.pointer (some ⟨p, 0, none⟩)] _ _ _ (c_MapVal1 hm bm p) (enters_of Tryz.func171 (by kernel_rfl) rfl) hbm) (fun w hw => (aW (c8 0 rfl hw) (aW (c8 1 rfl hw) bf))) (fun ⟨⟨q, Ax, cx⟩, hfx⟩ => ?_)
 refine ap (ai rfl) rfl rfl ?_
 refine ae ?_
 refine aj ?_
 refine ao ?_
 refine ab ?_
 refine ap (ak rfl) rfl rfl ?_
 refine ap (ak rfl) rfl rfl ?_
 refine cD rfl ent_170 rfl (c_Sort_hd Ax cx q (by have := hbm q ⟨[], by rw [List.append_nil]; exact hfx⟩; omega)) (fun o => .z) (List.mem_of_getElem? (i := 0) rfl) (fun s hs => nomatch hs) (fun ⟨ys, hyp, hys⟩ => ?_)
 refine ae ?_
 refine aj ?_
 refine ao ?_
 refine ab ?_
 refine ap (ak rfl) rfl rfl ?_
 refine ap (ai rfl) rfl rfl ?_
 refine ae ?_
 refine aj ?_
 refine aH ?_
 refine aN (ts := [4]) rfl rfl rfl (fun w hw => ?_)
 exact ⟨⟨(ys, Ax, cx), hyp.trans hfx, hys⟩, by rw [← hyp.length_eq]; rfl, hw.base, (hw.weak (.cons_cons _ .slnil) (fun s hs => hs)).toNews⟩

theorem c_vAll (v : Vp) (hm : Hm) (hml : hm.length ≤ 1000000) : RC Tryz.prog 36 #[.pointer (some ⟨v.b, 0, none⟩)] [Ch.row v.b (vpC v) 146, Ch.mp v.rh cX c5 hm] (α := {o : List Hd × Option Addr × Nat // o.1.Perm (hm.map (·.2)) ∧ o.1.Pairwise fun a b => ¬ cmpA b.ad a.ad < 0}) (fun o => .slice o.1.2.1 o.1.1.length o.1.2.2) (fun o => [Ch.ls o.1.2.1 o.1.2.2 46 4 hdC o.1.1]) := by
 refine bh (args := [.pointer (some ⟨v.b, 0, none⟩)]) 11 Tryz.func36 rfl rfl rfl (fun w0 => ?_)
 refine ao ?_
 refine ab ?_
 refine ap (ai rfl) rfl rfl ?_
 refine ae ?_
 refine aj ?_
 refine ao ?_
 refine ao ?_
 refine ab ?_
 refine ap (ak rfl) rfl rfl ?_
 refine ap (gp Tryz.underlying68 rfl rfl) rfl rfl ?_
 refine bW (t := 4) (.bool false) rfl (congrArg Value.bool rfl) ?_
 refine ae ?_
 refine aj ?_
 refine aw rfl ?_
 refine aL ?_
 refine aj ?_
 refine ao ?_
 refine ab ?_
 refine ap (ak rfl) rfl rfl ?_
 refine ap (bb rfl) rfl rfl ?_
 refine ap (aD dA rfl) rfl rfl ?_
 refine ap (bL 0 eB rfl rfl rfl) rfl rfl ?_
 refine cw rfl ent_101 rfl (c_MapVal v.rh) (fun w hw => bf) (fun p0 => ?_)
 refine cw rfl ent_100 rfl (c_Sorted_hd hm v.rh p0 hml) (fun w hw => (aW (rd_L 0 rfl hw) (aW (c8 1 rfl hw) bf))) (fun ⟨⟨ys, Ax, cx⟩, hyp, hys⟩ => ?_)
 refine ap (ai rfl) rfl rfl ?_
 refine ae ?_
 refine aj ?_
 refine aH ?_
 refine aN (ts := [2]) rfl rfl rfl (fun w hw => ?_)
 exact ⟨⟨(ys, Ax, cx), hyp, hys⟩, rfl, hw.base, (hw.weak (.cons_cons _ (.cons _ .slnil)) (fun s hs => hs)).toNews⟩
end Go.Proofs.YtnpdgmoeoidppaaGreat

/- vips: what is kept, in plain words -/
namespace Go.Proofs.YtnpdgmoeoidppaaGreat
open Go.RowKit Go.Shelf
set_option linter.unusedVariables false
set_option linter.unusedSimpArgs false

def ci (hm : Hm) : Am := hm.map fun p => (p.2.ad, p.1)
structure PInv (hm : Hm) : Prop where
  keys : (hm.map fun p => p.1).Nodup
  ads : (hm.map fun p => p.2.ad).Nodup
  fold : ∀ p ∈ hm, p.1 = aY p.2.host ∧ bz p.2.host = true
theorem nd_inj {α β : Type} {f : α → β} : ∀ {l : List α}, (l.map f).Nodup → ∀ a ∈ l, ∀ b ∈ l, f a = f b → a = b
  | [], _, a, ha, _, _, _ => by cases ha
  | x :: l, h, a, ha, b, hb, e => by
    rw [List.map_cons, List.nodup_cons] at h
    rcases List.mem_cons.1 ha with e1 | ha2
    · rcases List.mem_cons.1 hb with e2 | hb2
      · rw [e1, e2]
      · exact absurd (List.mem_map.2 ⟨b, hb2, by rw [← e, e1]⟩) h.1
    · rcases List.mem_cons.1 hb with e2 | hb2
      · exact absurd (List.mem_map.2 ⟨a, ha2, by rw [e, e2]⟩) h.1
      · exact nd_inj h.2 a ha2 b hb2 e
theorem nd_snocG {α : Type} {l : List α} {a : α} (hn : l.Nodup) (ha : a ∉ l) : (l ++ [a]).Nodup := by
  rw [List.nodup_append]; exact ⟨hn, by simp, fun x hx b hb e => by rw [List.mem_singleton.1 hb] at e; exact ha (e ▸ hx)⟩
section
variable {α β : Type} [DecidableEq α]
theorem lkp_none_iff {m : List (α × β)} {a : α} : cK m a = none ↔ a ∉ m.map fun p => p.1 := by
  induction m with
  | nil => simp [cK]
  | cons p r ih =>
    obtain ⟨b, u⟩ := p
    rw [cK]
    by_cases e : a = b
    · subst e; simp
    · rw [if_neg e, ih]; simp [e]
theorem eU {m : List (α × β)} {a : α} {v : β} (h : cK m a = some v) : (a, v) ∈ m := by
  induction m with
  | nil => cases h
  | cons p r ih =>
    obtain ⟨b, u⟩ := p
    rw [cK] at h
    by_cases e : a = b
    · rw [if_pos e] at h; cases h; subst e; exact .head _
    · rw [if_neg e] at h; exact .tail _ (ih h)
theorem lkp_some_of {m : List (α × β)} (hn : (m.map fun p => p.1).Nodup) {a : α} {v : β} (h : (a, v) ∈ m) : cK m a = some v := by
  cases hl : cK m a with
  | none => exact absurd (List.mem_map.2 ⟨_, h, rfl⟩) (lkp_none_iff.1 hl)
  | some u =>
    have := nd_inj hn _ (eU hl) _ h rfl
    cases this; rfl
theorem rmv_filter {m : List (α × β)} (h : (m.map fun p => p.1).Nodup) (a : α) : rmv m a = m.filter fun p => decide (p.1 ≠ a) := by
  induction m with
  | nil => rfl
  | cons p r ih =>
    obtain ⟨b, u⟩ := p
    rw [List.map_cons, List.nodup_cons] at h
    rw [rmv, List.filter_cons]
    by_cases e : a = b
    · subst e
      rw [if_pos rfl, if_neg (by simp)]
      symm
      rw [List.filter_eq_self]
      intro q hq
      exact decide_eq_true fun e => h.1 (List.mem_map.2 ⟨q, hq, e⟩)
    · rw [if_neg e, if_pos (by simp; exact fun h => e h.symm), ih h.2]
end
theorem fP (hm : Hm) : ((ci hm).map fun p => p.1) = hm.map fun p => p.2.ad := by rw [ci, List.map_map]; rfl
theorem PInv.filter {hm : Hm} (h : PInv hm) (P : aX × Hd → Bool) : PInv (hm.filter P) :=
  ⟨h.keys.sublist (List.filter_sublist.map _), h.ads.sublist (List.filter_sublist.map _), fun p hp => h.fold p (List.mem_filter.1 hp).1⟩
theorem drop_am {hm : Hm} (h : PInv hm) {key : aX} (hk : (cK hm key).isSome = true) : dropK hm (ci hm) key = (hm.filter (fun p => decide (p.1 ≠ key)), ci (hm.filter fun p => decide (p.1 ≠ key))) := by
  obtain ⟨v, hv⟩ := Option.isSome_iff_exists.1 hk
  have hm1 := eU hv
  have h1 : rmv (ci hm) v.ad = ci (hm.filter fun p => decide (p.1 ≠ key)) := by
    rw [rmv_filter (by rw [fP]; exact h.ads), ci, List.filter_map]
    congr 1
    refine List.filter_congr fun p hp => ?_
    show decide (p.2.ad ≠ v.ad) = decide (p.1 ≠ key)
    rw [decide_eq_decide]
    constructor
    · intro hne e
      have := nd_inj h.keys p hp _ hm1 e
      rw [this] at hne; exact hne rfl
    · intro hne e
      have := nd_inj h.ads p hp _ hm1 e
      rw [this] at hne; exact hne rfl
  rw [dropK, hv, rmv_filter h.keys]
  exact Prod.ext rfl h1
def stayH (hm : Hm) (hosts : List aX) : Hm := hm.filter fun p => decide (p.1 ∈ hosts.map aY)
theorem give_inv {v : Vp} {hm : Hm} (h : PInv hm) (n : aX) : (bI v hm (ci hm) n).2.2 = ci (bI v hm (ci hm) n).2.1 ∧ PInv (bI v hm (ci hm) n).2.1 ∧ (bI v hm (ci hm) n).2.1.length ≤ hm.length + 1 := by
  by_cases h1 : bz n = false
  · rw [c9 h1]; exact ⟨rfl, h, Nat.le_succ _⟩
  · have h1 : bz n = true := by simpa using h1
    by_cases h2 : (cK hm (aY n)).isSome = true
    · rw [cO h1 h2]; exact ⟨rfl, h, Nat.le_succ _⟩
    · have h2 : (cK hm (aY n)).isSome = false := by simpa using h2
      by_cases h3 : v.room - hm.length = 0
      · rw [cv h1 h2 h3]; exact ⟨rfl, h, Nat.le_succ _⟩
      · rw [bV h1 h2 h3 rfl]
        cases hg : bB v (ci hm) n with
        | none => exact ⟨rfl, h, Nat.le_succ _⟩
        | some i =>
          have hf := List.find?_some hg
          have hno := lkp_none_iff.1 (gl hf)
          have hnk := lkp_none_iff.1 (e5 h2)
          rw [fP] at hno
          refine ⟨by simp [ci, amO, hmO], ⟨?_, ?_, ?_⟩, by simp [hmO]⟩
          · simp only [hmO, List.map_append, List.map_cons, List.map_nil]
            exact nd_snocG h.keys hnk
          · simp only [hmO, List.map_append, List.map_cons, List.map_nil]
            exact nd_snocG h.ads hno
          · intro p hp
            rcases List.mem_append.1 hp with hp | hp
            · exact h.fold p hp
            · rw [List.mem_singleton.1 hp]; exact ⟨rfl, h1⟩
def keepF (v : Vp) (s : Hm × List aX) (n : aX) : Hm × List aX := ((bI v s.1 (ci s.1) n).2.1, if (bI v s.1 (ci s.1) n).1.2 ≠ 0 ∧ aY n ∉ s.2.map aY then s.2 ++ [n] else s.2)
def keepG (v : Vp) (hm : Hm) (hosts : List aX) : Hm × List aX := hosts.foldl (keepF v) (hm, [])
def keepV (v : Vp) (hm : Hm) (hosts : List aX) : (List aX × Int) × Hm := if hosts.all bz = false then (([], 2), hm) else (((keepG v (stayH hm hosts) hosts).2, 0), (keepG v (stayH hm hosts) hosts).1)

end Go.Proofs.YtnpdgmoeoidppaaGreat

/- vips: Keep -/
namespace Go.Proofs.YtnpdgmoeoidppaaGreat
open Go.RowKit Go.Shelf
set_option linter.unusedVariables false
set_option linter.unusedSimpArgs false

theorem f0 : Enters Tryz.prog 34 := enters_of Tryz.func34 (by kernel_rfl) rfl

end Go.Proofs.YtnpdgmoeoidppaaGreat

/- vips: a pool is cloned -/
namespace Go.Proofs.YtnpdgmoeoidppaaGreat
open Go.RowKit Go.Shelf
set_option linter.unusedVariables false
set_option linter.unusedSimpArgs false

theorem cG (x0 : Bool) (x1 : Int) (x2 : Int) (x3 : Int) (x4 : Option Addr) (x5 : Nat) (x6 : Nat) (x7 : Option Nat) (x8 : Option Nat) (x9 : Int) : Tryz.prog.built 146 [(0, .agg [.bool x0, .int .u64 x1, .int .u64 x2, .int .i64 x3, .slice x4 x5 x6].toArray), (1, .map x7), (2, .map x8), (3, .int .i64 x9)] = some [.bool x0, .int .u64 x1, .int .u64 x2, .int .i64 x3, .slice x4 x5 x6, .map x7, .map x8, .int .i64 x9].toArray := by kernel_rfl
theorem el : TyI Tryz.prog 67 true 5 56 (.agg #[.bool false, .int .u64 0, .int .u64 0, .int .i64 0, .slice none 0 0]) := TyI.mk' (by kernel_rfl) (fun _ => by kernel_rfl)

end Go.Proofs.YtnpdgmoeoidppaaGreat

/- law 14: a pool is made; the examples; a pool that nobody made -/
namespace Go.Proofs.YtnpdgmoeoidppaaGreat
open Go.RowKit Go.Shelf
set_option linter.unusedVariables false
set_option linter.unusedSimpArgs false

theorem bu_29_2 (x0 : Int) : Tryz.prog.built 29 [(2, .int .u64 x0)] = some [.bool false, .int .u64 0, .int .u64 x0].toArray := by kernel_rfl
theorem bu_64_0_1 (x0 : Bool) (x1 : Int) (x2 : Int) (x3 : Int) : Tryz.prog.built 64 [(0, .agg [.bool x0, .int .u64 x1, .int .u64 x2].toArray), (1, .int .i64 x3)] = some [.bool x0, .int .u64 x1, .int .u64 x2, .int .i64 x3].toArray := by kernel_rfl
theorem bu_67_0 (x0 : Bool) (x1 : Int) (x2 : Int) (x3 : Int) : Tryz.prog.built 67 [(0, .agg [.bool x0, .int .u64 x1, .int .u64 x2, .int .i64 x3].toArray)] = some [.bool x0, .int .u64 x1, .int .u64 x2, .int .i64 x3, .slice none 0 0].toArray := by kernel_rfl
theorem ent_31 : Enters Tryz.prog 31 := enters_of Tryz.func31 (by kernel_rfl) rfl
theorem ent_38 : Enters Tryz.prog 38 := enters_of Tryz.func38 (by kernel_rfl) rfl
theorem ent_43 : Enters Tryz.prog 43 := enters_of Tryz.func43 (by kernel_rfl) rfl
theorem ent_89 : Enters Tryz.prog 89 := enters_of Tryz.func89 (by kernel_rfl) rfl
theorem ent_90 : Enters Tryz.prog 90 := enters_of Tryz.func90 (by kernel_rfl) rfl
theorem ey : Enters Tryz.prog 91 := enters_of Tryz.func91 (by kernel_rfl) rfl

set_option maxRecDepth 100000 in
theorem c_vNewbad (rg : Rg) (res : List Rg) (A : Option Addr) (c : Nat) (hr : RgOk rg) (hrs : ∀ x ∈ res, RgOk x) (hl : res.length ≤ 4398046510976) (h0 : fh (rg :: res) ≠ 0) : RC Tryz.prog 31 #[.agg (plC rg A res.length c).toArray] [Ch.rd A 4 dJ res] (α := Unit) (fun _ => .tuple #[.pointer none, .int .i64 (fh (rg :: res))]) (fun _ => []) := by
 refine bh (args := [.agg (plC rg A res.length c).toArray]) 24 Tryz.func31 rfl rfl rfl (fun w0 => ?_)
 refine ao ?_
 refine ab ?_
 refine bx rfl rfl rfl (fun b1 => ?_)
 refine ap (ai rfl) rfl rfl ?_
 refine ap (ai rfl) rfl rfl ?_
 refine ae ?_
 refine aj ?_
 refine ao ?_
 refine ao ?_
 refine ab ?_
 refine ap (aI 0 el rfl rfl rfl rfl) rfl rfl ?_
 refine bu rfl ent_43 rfl (c_vCheck rg res A c hr hrs hl) (fun w hw => (aW (c8 0 rfl hw) bf)) ?_
 refine ap (ai rfl) rfl rfl ?_
 refine ae ?_
 refine aj ?_
 refine ao ?_
 refine ab ?_
 refine ap (ak rfl) rfl rfl ?_
 refine ap (cc rfl rfl) rfl rfl ?_
 refine fj (t := 8) rfl h0 ?_
 refine ae ?_
 refine aj ?_
 refine ay rfl ?_
 refine ao ?_
 refine ab ?_
 refine ap (ak rfl) rfl rfl ?_
 refine ap (ai rfl) rfl rfl ?_
 refine ap (ai rfl) rfl rfl ?_
 refine ae ?_
 refine aj ?_
 refine aH ?_
 refine az ?_
 refine aN (ts := [2, 3]) rfl rfl rfl (fun w hw => ?_)
 exact ⟨(), rfl, hw.base, (hw.weak (List.nil_sublist _) (fun s hs => hs)).toNews⟩

set_option maxRecDepth 100000 in
theorem c_vNew (rg : Rg) (res : List Rg) (A : Option Addr) (c : Nat) (hr : RgOk rg) (hrs : ∀ x ∈ res, RgOk x) (hl : res.length ≤ 4398046510976) (h0 : fh (rg :: res) = 0) : RC Tryz.prog 31 #[.agg (plC rg A res.length c).toArray] [Ch.rd A 4 dJ res] (α := {v : Vp // v.rg = rg ∧ v.res = res ∧ v.room = bT rg res}) (fun o => .tuple #[.pointer (some ⟨o.1.b, 0, none⟩), .int .i64 0]) (fun o => [vmC o.1 [] [], Ch.ls o.1.A o.1.c 64 4 dJ o.1.res, Ch.row o.1.b (vpC o.1) 146]) := by
 refine bh (args := [.agg (plC rg A res.length c).toArray]) 24 Tryz.func31 rfl rfl rfl (fun w0 => ?_)
 refine ao ?_
 refine ab ?_
 refine bx rfl rfl rfl (fun b1 => ?_)
 refine ap (ai rfl) rfl rfl ?_
 refine ap (ai rfl) rfl rfl ?_
 refine ae ?_
 refine aj ?_
 refine ao ?_
 refine ao ?_
 refine ab ?_
 refine ap (aI 0 el rfl rfl rfl rfl) rfl rfl ?_
 refine bu rfl ent_43 rfl (c_vCheck rg res A c hr hrs hl) (fun w hw => (aW (c8 0 rfl hw) bf)) ?_
 refine ap (ai rfl) rfl rfl ?_
 refine ae ?_
 refine aj ?_
 refine ao ?_
 refine ab ?_
 refine ap (ak rfl) rfl rfl ?_
 refine ap (cc rfl rfl) rfl rfl ?_
 refine fT (t := 8) rfl (fun h => h h0) ?_
 refine ae ?_
 refine aj ?_
 refine aw rfl ?_
 refine aL ?_
 refine aj ?_
 refine ao ?_
 refine ab ?_
 refine ap (aD dV rfl) rfl rfl ?_
 refine ap (aM 0 fS rfl rfl rfl) rfl rfl ?_
 refine cw rfl ent_90 rfl (c_Clone_rg res A c hl) (fun w hw => (aW (c8 0 rfl hw) bf)) (fun ⟨A1, c1⟩ => ?_)
 refine ap (aD dV rfl) rfl rfl ?_
 refine aS fS rfl rfl rfl (.s (.z)) rfl rfl rfl rfl ?_
 refine ae ?_
 refine aj ?_
 refine ao ?_
 refine dN 12 rfl mixed ?_
 refine aC (i := 0) rfl ah (aI 1 el rfl rfl rfl rfl) au au rfl (aa aq) (by kernel_rfl) rfl ?_
 refine aC (i := 3) rfl ah (aD dZ rfl) au au rfl (aa aq) (by kernel_rfl) rfl ?_
 refine aC (i := 4) rfl ah (aI 1 bR rfl rfl rfl rfl) au au rfl (aa aq) (by kernel_rfl) rfl ?_
 refine aC (i := 5) rfl ah (aD dV rfl) au au rfl (aa aq) (by kernel_rfl) rfl ?_
 refine aC (i := 6) rfl ah (aM 1 fS rfl rfl rfl) au au rfl (aa aq) (by kernel_rfl) rfl ?_
 refine f9 (js := [1, 2, 7]) (by kernel_rfl) rfl ?_
 refine cy (i := 1) rfl rfl rfl (fun _ _ _ => bo (by kernel_rfl)) rfl ?_ ?_
 refine cP cX c5 rfl (fun r2 => ?_)
 refine ae ?_
 refine br (bP 1) ?_
 refine f9 (js := [2, 7]) (by kernel_rfl) rfl ?_
 refine cy (i := 2) rfl rfl rfl (fun _ _ _ => bo (by kernel_rfl)) rfl ?_ ?_
 refine cP gE cX rfl (fun r3 => ?_)
 refine ae ?_
 refine br (bP 2) ?_
 refine cr (i := 7) rfl rfl rfl (a8 rfl ey) (by kernel_rfl) rfl ?_
 refine bu rfl ey rfl (gG rg res A1 c1 hr hrs hl) (fun w hw => (aW (gM 2 rfl hw) bf)) ?_
 refine ae ?_
 refine br (bP 2) ?_
 refine aC (i := 8) rfl ah (bN rfl (cG _ _ _ _ _ _ _ _ _ _)) (bP 2) au rfl (aa aq) (by kernel_rfl) rfl ?_
 refine cr (i := 9) rfl rfl rfl (fun _ _ _ => bo (by kernel_rfl)) (by kernel_rfl) rfl ?_
 refine bx rfl rfl rfl (fun b5 => ?_)
 refine ae ?_
 refine br (bP 3) ?_
 refine aC (i := 10) rfl ah (ai rfl) (bP 3) au rfl (aa aq) (by kernel_rfl) rfl ?_
 refine aC (i := 11) rfl ah (ai rfl) (bP 3) au rfl (aa aq) (by kernel_rfl) rfl ?_
 refine cu (by kernel_rfl) ?_
 refine aj ?_
 refine aH ?_
 refine aN (ts := [2, 3]) rfl rfl rfl (fun w hw => ?_)
 exact ⟨⟨⟨rg, res, A1, c1, (bT rg res : Nat), b5, r2, r3⟩, rfl, rfl, rfl⟩, rfl, hw.base, ((hw.weak (.cons_cons _ (.cons_cons _ (.cons_cons _ (.cons_cons _ (.cons _ .slnil))))) (fun s hs => hs)).f3.f2.f3).two.toNews⟩
 refine cy (i := 7) rfl rfl rfl (a8 rfl ey) rfl ?_ ?_
 refine bu rfl ey rfl (gG rg res A1 c1 hr hrs hl) (fun w hw => (aW (gM 1 rfl hw) bf)) ?_
 refine ae ?_
 refine br (bP 1) ?_
 refine cr (i := 2) rfl rfl rfl (fun _ _ _ => bo (by kernel_rfl)) (by kernel_rfl) rfl ?_
 refine cP gE cX rfl (fun r5 => ?_)
 refine ae ?_
 refine br (bP 2) ?_
 refine aC (i := 8) rfl ah (bN rfl (cG _ _ _ _ _ _ _ _ _ _)) (bP 2) au rfl (aa aq) (by kernel_rfl) rfl ?_
 refine cr (i := 9) rfl rfl rfl (fun _ _ _ => bo (by kernel_rfl)) (by kernel_rfl) rfl ?_
 refine bx rfl rfl rfl (fun b7 => ?_)
 refine ae ?_
 refine br (bP 3) ?_
 refine aC (i := 10) rfl ah (ai rfl) (bP 3) au rfl (aa aq) (by kernel_rfl) rfl ?_
 refine aC (i := 11) rfl ah (ai rfl) (bP 3) au rfl (aa aq) (by kernel_rfl) rfl ?_
 refine cu (by kernel_rfl) ?_
 refine aj ?_
 refine aH ?_
 refine aN (ts := [2, 3]) rfl rfl rfl (fun w hw => ?_)
 exact ⟨⟨⟨rg, res, A1, c1, (bT rg res : Nat), b7, r2, r5⟩, rfl, rfl, rfl⟩, rfl, hw.base, ((hw.weak (.cons_cons _ (.cons_cons _ (.cons_cons _ (.cons_cons _ (.cons _ .slnil))))) (fun s hs => hs)).f3.f2.f3).two.toNews⟩
 exact eY
 refine cy (i := 2) rfl rfl rfl (fun _ _ _ => bo (by kernel_rfl)) rfl ?_ ?_
 refine cP gE cX rfl (fun r7 => ?_)
 refine ae ?_
 refine br (bP 1) ?_
 refine f9 (js := [1, 7]) (by kernel_rfl) rfl ?_
 refine cy (i := 1) rfl rfl rfl (fun _ _ _ => bo (by kernel_rfl)) rfl ?_ ?_
 refine cP cX c5 rfl (fun r8 => ?_)
 refine ae ?_
 refine br (bP 2) ?_
 refine cr (i := 7) rfl rfl rfl (a8 rfl ey) (by kernel_rfl) rfl ?_
 refine bu rfl ey rfl (gG rg res A1 c1 hr hrs hl) (fun w hw => (aW (gM 2 rfl hw) bf)) ?_
 refine ae ?_
 refine br (bP 2) ?_
 refine aC (i := 8) rfl ah (bN rfl (cG _ _ _ _ _ _ _ _ _ _)) (bP 2) au rfl (aa aq) (by kernel_rfl) rfl ?_
 refine cr (i := 9) rfl rfl rfl (fun _ _ _ => bo (by kernel_rfl)) (by kernel_rfl) rfl ?_
 refine bx rfl rfl rfl (fun b10 => ?_)
 refine ae ?_
 refine br (bP 3) ?_
 refine aC (i := 10) rfl ah (ai rfl) (bP 3) au rfl (aa aq) (by kernel_rfl) rfl ?_
 refine aC (i := 11) rfl ah (ai rfl) (bP 3) au rfl (aa aq) (by kernel_rfl) rfl ?_
 refine cu (by kernel_rfl) ?_
 refine aj ?_
 refine aH ?_
 refine aN (ts := [2, 3]) rfl rfl rfl (fun w hw => ?_)
 exact ⟨⟨⟨rg, res, A1, c1, (bT rg res : Nat), b10, r8, r7⟩, rfl, rfl, rfl⟩, rfl, hw.base, ((hw.weak (.cons_cons _ (.cons_cons _ (.cons_cons _ (.cons_cons _ (.cons _ .slnil))))) (fun s hs => hs)).f3.f3.f3).two.toNews⟩
 refine cy (i := 7) rfl rfl rfl (a8 rfl ey) rfl ?_ ?_
 refine bu rfl ey rfl (gG rg res A1 c1 hr hrs hl) (fun w hw => (aW (gM 1 rfl hw) bf)) ?_
 refine ae ?_
 refine br (bP 1) ?_
 refine cr (i := 1) rfl rfl rfl (fun _ _ _ => bo (by kernel_rfl)) (by kernel_rfl) rfl ?_
 refine cP cX c5 rfl (fun r10 => ?_)
 refine ae ?_
 refine br (bP 2) ?_
 refine aC (i := 8) rfl ah (bN rfl (cG _ _ _ _ _ _ _ _ _ _)) (bP 2) au rfl (aa aq) (by kernel_rfl) rfl ?_
 refine cr (i := 9) rfl rfl rfl (fun _ _ _ => bo (by kernel_rfl)) (by kernel_rfl) rfl ?_
 refine bx rfl rfl rfl (fun b12 => ?_)
 refine ae ?_
 refine br (bP 3) ?_
 refine aC (i := 10) rfl ah (ai rfl) (bP 3) au rfl (aa aq) (by kernel_rfl) rfl ?_
 refine aC (i := 11) rfl ah (ai rfl) (bP 3) au rfl (aa aq) (by kernel_rfl) rfl ?_
 refine cu (by kernel_rfl) ?_
 refine aj ?_
 refine aH ?_
 refine aN (ts := [2, 3]) rfl rfl rfl (fun w hw => ?_)
 exact ⟨⟨⟨rg, res, A1, c1, (bT rg res : Nat), b12, r10, r7⟩, rfl, rfl, rfl⟩, rfl, hw.base, ((hw.weak (.cons_cons _ (.cons_cons _ (.cons_cons _ (.cons_cons _ (.cons _ .slnil))))) (fun s hs => hs)).f3.f3.f3).two.toNews⟩
 exact eY
 refine cy (i := 7) rfl rfl rfl (a8 rfl ey) rfl ?_ ?_
 refine bu rfl ey rfl (gG rg res A1 c1 hr hrs hl) (fun w hw => (aW (gM 0 rfl hw) bf)) ?_
 refine ae ?_
 refine br au ?_
 refine f9 (js := [1, 2]) (by kernel_rfl) rfl ?_
 refine cy (i := 1) rfl rfl rfl (fun _ _ _ => bo (by kernel_rfl)) rfl ?_ ?_
 refine cP cX c5 rfl (fun r12 => ?_)
 refine ae ?_
 refine br (bP 1) ?_
 refine cr (i := 2) rfl rfl rfl (fun _ _ _ => bo (by kernel_rfl)) (by kernel_rfl) rfl ?_
 refine cP gE cX rfl (fun r13 => ?_)
 refine ae ?_
 refine br (bP 2) ?_
 refine aC (i := 8) rfl ah (bN rfl (cG _ _ _ _ _ _ _ _ _ _)) (bP 2) au rfl (aa aq) (by kernel_rfl) rfl ?_
 refine cr (i := 9) rfl rfl rfl (fun _ _ _ => bo (by kernel_rfl)) (by kernel_rfl) rfl ?_
 refine bx rfl rfl rfl (fun b15 => ?_)
 refine ae ?_
 refine br (bP 3) ?_
 refine aC (i := 10) rfl ah (ai rfl) (bP 3) au rfl (aa aq) (by kernel_rfl) rfl ?_
 refine aC (i := 11) rfl ah (ai rfl) (bP 3) au rfl (aa aq) (by kernel_rfl) rfl ?_
 refine cu (by kernel_rfl) ?_
 refine aj ?_
 refine aH ?_
 refine aN (ts := [2, 3]) rfl rfl rfl (fun w hw => ?_)
 exact ⟨⟨⟨rg, res, A1, c1, (bT rg res : Nat), b15, r12, r13⟩, rfl, rfl, rfl⟩, rfl, hw.base, ((hw.weak (.cons_cons _ (.cons_cons _ (.cons_cons _ (.cons_cons _ (.cons _ .slnil))))) (fun s hs => hs)).f3.f2.f3).two.toNews⟩
 refine cy (i := 2) rfl rfl rfl (fun _ _ _ => bo (by kernel_rfl)) rfl ?_ ?_
 refine cP gE cX rfl (fun r15 => ?_)
 refine ae ?_
 refine br (bP 1) ?_
 refine cr (i := 1) rfl rfl rfl (fun _ _ _ => bo (by kernel_rfl)) (by kernel_rfl) rfl ?_
 refine cP cX c5 rfl (fun r16 => ?_)
 refine ae ?_
 refine br (bP 2) ?_
 refine aC (i := 8) rfl ah (bN rfl (cG _ _ _ _ _ _ _ _ _ _)) (bP 2) au rfl (aa aq) (by kernel_rfl) rfl ?_
 refine cr (i := 9) rfl rfl rfl (fun _ _ _ => bo (by kernel_rfl)) (by kernel_rfl) rfl ?_
 refine bx rfl rfl rfl (fun b18 => ?_)
 refine ae ?_
 refine br (bP 3) ?_
 refine aC (i := 10) rfl ah (ai rfl) (bP 3) au rfl (aa aq) (by kernel_rfl) rfl ?_
 refine aC (i := 11) rfl ah (ai rfl) (bP 3) au rfl (aa aq) (by kernel_rfl) rfl ?_
 refine cu (by kernel_rfl) ?_
 refine aj ?_
 refine aH ?_
 refine aN (ts := [2, 3]) rfl rfl rfl (fun w hw => ?_)
 exact ⟨⟨⟨rg, res, A1, c1, (bT rg res : Nat), b18, r16, r15⟩, rfl, rfl, rfl⟩, rfl, hw.base, ((hw.weak (.cons_cons _ (.cons_cons _ (.cons_cons _ (.cons_cons _ (.cons _ .slnil))))) (fun s hs => hs)).f3.f3.f3).two.toNews⟩
 exact eY
 exact eY

theorem new_ok {rg : Rg} {res : List Rg} (hr : RgOk rg) (hrs : ∀ x ∈ res, RgOk x) (hl : res.length ≤ 4398046510976) {v : Vp} (h : v.rg = rg ∧ v.res = res ∧ v.room = bT rg res) : VOk v :=
  ⟨h.1 ▸ hr, h.2.1 ▸ hrs, by rw [h.2.1]; exact hl, by rw [h.2.2]; have := free_le rg res; omega⟩
theorem give_cong {v v' : Vp} (h : v.rg = v'.rg ∧ v.res = v'.res ∧ v.room = v'.room) (hm : Hm) (am : Am) (n : aX) : bI v hm am n = bI v' hm am n := by
  obtain ⟨rg, res, A, c, room, b, rh, ra⟩ := v
  obtain ⟨rg', res', A', c', room', b', rh', ra'⟩ := v'
  obtain ⟨h1, h2, h3⟩ := h
  dsimp only at h1 h2 h3
  subst h1 h2 h3
  rfl
def rg14 : Rg := ⟨⟨false, 0, 167772160⟩, 31⟩
def v14 : Vp := ⟨rg14, [], none, 0, 2, 0, 0, 0⟩
theorem rg14_ok : RgOk rg14 := by unfold RgOk fg rg14; decide
theorem ck14 : fh [rg14] = 0 := by decide +kernel
theorem fr14 : bT rg14 [] = 2 := by decide +kernel
def s14a : Hm × Am := (bI v14 [] [] [1, 97]).2
def s14b : Hm × Am := (bI v14 s14a.1 s14a.2 [1, 98]).2
def s14f : Hm × Am := (bI v14 s14b.1 s14b.2 [1, 99]).2
def s14c : Hm × Am := (cV s14f.1 s14f.2 [1, 65]).2
theorem g14a : (bI v14 [] [] [1, 97]).1.2 = 0 := by decide +kernel
theorem g14b : (bI v14 s14a.1 s14a.2 [1, 98]).1.2 = 0 ∧ (bI v14 [] [] [1, 97]).1.1 ≠ (bI v14 s14a.1 s14a.2 [1, 98]).1.1 := by decide +kernel
theorem g14c : (bI v14 s14b.1 s14b.2 [1, 99]).1.2 = 10 := by decide +kernel
theorem g14d : (bI v14 s14c.1 s14c.2 [1, 99]).1.2 = 0 ∧ (bI v14 s14c.1 s14c.2 [1, 99]).1.1 = (bI v14 [] [] [1, 97]).1.1 := by decide +kernel
theorem ok14 {v : Vp} (h : v.rg = rg14 ∧ v.res = [] ∧ v.room = 2) : VOk v := ⟨h.1 ▸ rg14_ok, by rw [h.2.1]; exact nofun, by rw [h.2.1]; decide, by rw [h.2.2]; decide⟩
theorem c_g14 {v : Vp} (h : v.rg = rg14 ∧ v.res = [] ∧ v.room = 2) (hm : Hm) (am : Am) (n : aX) (hn : n.length ≤ 1000000000) (hml : hm.length ≤ 1000000) :
    UC Tryz.prog 34 #[.pointer (some ⟨v.b, 0, none⟩), .string (ba n)] [Ch.row v.b (vpC v) 146, Ch.rd v.A 4 dJ v.res] (vmC v hm am) (fun _ : Unit => .tuple #[.agg (dC (bI v14 hm am n).1.1).toArray, .int .i64 (bI v14 hm am n).1.2]) (fun _ : Unit => vmC v (bI v14 hm am n).2.1 (bI v14 hm am n).2.2) := by
  rw [← give_cong (v := v) (v' := v14) h]; exact c_vGive v hm am n (ok14 h) hn hml

theorem c_two14  : RC Tryz.prog 89 #[] [] (α := Unit) (fun _ => .agg (plC rg14 none 0 0).toArray) (fun _ => []) := by
 refine bh (args := []) 4 Tryz.func89 rfl rfl rfl (fun w0 => ?_)
 refine ao ?_
 refine ab ?_
 refine bj el rfl rfl (fun b1 => ?_)
 refine ae ?_
 refine aj ?_
 refine ao ?_
 refine ab ?_
 refine ap (bN rfl (bu_29_2 _)) rfl rfl ?_
 refine ap (bN rfl (bu_64_0_1 _ _ _ _)) rfl rfl ?_
 refine ap (bN rfl (bu_67_0 _ _ _ _)) rfl rfl ?_
 refine aS el rfl rfl rfl .z rfl rfl rfl rfl ?_
 refine ae ?_
 refine aj ?_
 refine aH ?_
 refine dp (rs := [.cell 0 67]) rfl (bq 0 el rfl rfl rfl rfl bM) rfl (fun w hw => ?_)
 exact ⟨(), rfl, hw.base, (hw.weak (List.nil_sublist _) (fun s hs => hs)).toNews⟩

set_option maxRecDepth 100000 in
set_option maxHeartbeats 4000000 in
theorem c_lives14  : cC Tryz.prog 30 #[] (.bool true) := by
 intro w0
 refine a6 (ok0 := no) (S := []) (args := []) 68 Tryz.func30 rfl rfl rfl (by simp) (by simp) ?_
 refine ao ?_
 refine ab ?_
 refine ap (ai rfl) rfl rfl ?_
 refine ae ?_
 refine aj ?_
 refine ao ?_
 refine ab ?_
 refine bu rfl ent_89 rfl c_two14 (fun w hw => bf) ?_
 refine o_callr3 rfl ent_31 rfl (c_vNew rg14 [] none 0 rg14_ok nofun (by decide) ck14) (fun w hw => (aW (fN) bf)) (fun ⟨v, hv⟩ => ?_)
 have hv14 : v.rg = rg14 ∧ v.res = [] ∧ v.room = 2 := ⟨hv.1, hv.2.1, hv.2.2.trans (by rw [fr14]; rfl)⟩
 refine fc (fun w h => h.f1.toRdV.f1.freeze) ?_
 refine ap (ak rfl) rfl rfl ?_
 refine ap (aJ rfl rfl) rfl rfl ?_
 refine ap (aJ rfl rfl) rfl rfl ?_
 refine ap (ai rfl) rfl rfl ?_
 refine ap (ai rfl) rfl rfl ?_
 refine ae ?_
 refine aj ?_
 refine ao ?_
 refine ao ?_
 refine ab ?_
 refine ap (ak rfl) rfl rfl ?_
 refine ap (cc rfl rfl) rfl rfl ?_
 refine fT (t := 17) rfl (fun h => h rfl) ?_
 refine ap (ak rfl) rfl rfl ?_
 refine aA rfl rfl ?_
 refine ap (ak rfl) rfl rfl ?_
 refine aA rfl rfl ?_
 refine ap (gp Tryz.underlying68 rfl rfl) rfl rfl ?_
 refine bW (t := 20) (.bool false) rfl (congrArg Value.bool rfl) ?_
 refine ap (aQ rfl rfl) rfl rfl ?_
 refine ae ?_
 refine aj ?_
 refine aw rfl ?_
 refine aL ?_
 refine aj ?_
 refine ao ?_
 refine ab ?_
 refine ap (ak rfl) rfl rfl ?_
 refine cD rfl f0 rfl (c_g14 hv14 [] [] [1, 97] (by decide) (by as_aux_lemma => decide +kernel)) (fun o => .z) (List.mem_of_getElem? (i := 0) rfl) (fun s hs => (List.mem_cons.1 hs).elim (fun e => e ▸ .head _) (fun h => (List.mem_singleton.1 h) ▸ .tail _ (.head _))) (fun o1 => ?_)
 refine ap (ak rfl) rfl rfl ?_
 refine ap (aJ rfl rfl) rfl rfl ?_
 refine ap (aJ rfl rfl) rfl rfl ?_
 refine bj aO rfl rfl (fun b3 => ?_)
 refine aS aO rfl rfl rfl .z rfl rfl rfl rfl ?_
 refine ap (ai rfl) rfl rfl ?_
 refine ae ?_
 refine aj ?_
 refine ao ?_
 refine ab ?_
 refine ap (ak rfl) rfl rfl ?_
 refine cD rfl f0 rfl (c_g14 hv14 s14a.1 s14a.2 [1, 98] (by decide) (by as_aux_lemma => decide +kernel)) (fun o => (.s (.z))) (List.mem_of_getElem? (i := 1) rfl) (fun s hs => (List.mem_cons.1 hs).elim (fun e => e ▸ .head _) (fun h => (List.mem_singleton.1 h) ▸ .tail _ (.head _))) (fun o3 => ?_)
 refine ap (ak rfl) rfl rfl ?_
 refine ap (aJ rfl rfl) rfl rfl ?_
 refine ap (aJ rfl rfl) rfl rfl ?_
 refine bj aO rfl rfl (fun b5 => ?_)
 refine aS aO rfl rfl rfl .z rfl rfl rfl rfl ?_
 refine ap (ai rfl) rfl rfl ?_
 refine ae ?_
 refine aj ?_
 refine ao ?_
 refine ab ?_
 refine ap (ak rfl) rfl rfl ?_
 refine cD rfl f0 rfl (c_g14 hv14 s14b.1 s14b.2 [1, 99] (by decide) (by as_aux_lemma => decide +kernel)) (fun o => (.s (.s (.z)))) (List.mem_of_getElem? (i := 2) rfl) (fun s hs => (List.mem_cons.1 hs).elim (fun e => e ▸ .head _) (fun h => (List.mem_singleton.1 h) ▸ .tail _ (.head _))) (fun o5 => ?_)
 refine ap (ak rfl) rfl rfl ?_
 refine ap (aJ rfl rfl) rfl rfl ?_
 refine ap (aJ rfl rfl) rfl rfl ?_
 refine bj aO rfl rfl (fun b7 => ?_)
 refine aS aO rfl rfl rfl .z rfl rfl rfl rfl ?_
 refine ap (ai rfl) rfl rfl ?_
 refine ae ?_
 refine aj ?_
 refine ao ?_
 refine ab ?_
 refine ap (ak rfl) rfl rfl ?_
 refine cD rfl ent_38 rfl (c_vDrop v s14f.1 s14f.2 [1, 65] (by decide)) (fun o => (.s (.s (.s (.z))))) (List.mem_of_getElem? (i := 3) rfl) (fun s hs => (List.mem_singleton.1 hs) ▸ .head _) (fun o7 => ?_)
 refine ae ?_
 refine aj ?_
 refine ao ?_
 refine ab ?_
 refine ap (ak rfl) rfl rfl ?_
 refine cD rfl f0 rfl (c_g14 hv14 s14c.1 s14c.2 [1, 99] (by decide) (by as_aux_lemma => decide +kernel)) (fun o => (.s (.s (.s (.z))))) (List.mem_of_getElem? (i := 3) rfl) (fun s hs => (List.mem_cons.1 hs).elim (fun e => e ▸ .head _) (fun h => (List.mem_singleton.1 h) ▸ .tail _ (.head _))) (fun o8 => ?_)
 refine ap (ak rfl) rfl rfl ?_
 refine ap (aJ rfl rfl) rfl rfl ?_
 refine ap (aJ rfl rfl) rfl rfl ?_
 refine bj aO rfl rfl (fun b10 => ?_)
 refine aS aO rfl rfl rfl .z rfl rfl rfl rfl ?_
 refine ap (ai rfl) rfl rfl ?_
 refine ae ?_
 refine aj ?_
 refine ao ?_
 refine ab ?_
 refine ap (ak rfl) rfl rfl ?_
 refine ap (dl rfl rfl) rfl rfl ?_
 refine fj (t := 45) rfl g14a ?_
 refine ap (ak rfl) rfl rfl ?_
 refine aA rfl rfl ?_
 refine ap (ak rfl) rfl rfl ?_
 refine aA rfl rfl ?_
 refine ap (dl rfl rfl) rfl rfl ?_
 refine fj (t := 48) rfl g14b.1 ?_
 refine ap (aP rfl rfl) rfl rfl ?_
 refine ap (ak rfl) rfl rfl ?_
 refine aA rfl rfl ?_
 refine ap (ak rfl) rfl rfl ?_
 refine aA rfl rfl ?_
 refine ap (dl rfl rfl) rfl rfl ?_
 refine fj (t := 52) rfl g14c ?_
 refine ap (aP rfl rfl) rfl rfl ?_
 refine ap (ak rfl) rfl rfl ?_
 refine aA rfl rfl ?_
 refine ap (ak rfl) rfl rfl ?_
 refine aA rfl rfl ?_
 refine ap (dl rfl rfl) rfl rfl ?_
 refine fj (t := 56) rfl g14d.1 ?_
 refine ap (aP rfl rfl) rfl rfl ?_
 refine ap (ak rfl) rfl rfl ?_
 refine aA rfl rfl ?_
 refine ap (aI 3 aO rfl rfl rfl rfl) rfl rfl ?_
 refine aA rfl rfl ?_
 refine ap (aI 2 aO rfl rfl rfl rfl) rfl rfl ?_
 refine aA rfl rfl ?_
 refine ap (y_nestd (by as_aux_lemma => kernel_rfl) rfl rfl (gj _ _) rfl) rfl rfl ?_
 refine fj (t := 61) rfl g14b.2 ?_
 refine ap (aP rfl rfl) rfl rfl ?_
 refine ap (ak rfl) rfl rfl ?_
 refine aA rfl rfl ?_
 refine ap (aI 0 aO rfl rfl rfl rfl) rfl rfl ?_
 refine aA rfl rfl ?_
 refine ap (aI 3 aO rfl rfl rfl rfl) rfl rfl ?_
 refine aA rfl rfl ?_
 refine ap (y_eqst (by as_aux_lemma => kernel_rfl) rfl rfl (gj _ _) rfl) rfl rfl ?_
 refine fj (t := 66) rfl g14d.2 ?_
 refine ap (aP rfl rfl) rfl rfl ?_
 refine ap (ai rfl) rfl rfl ?_
 refine ae ?_
 refine aj ?_
 refine aH ?_
 refine aN (ts := [0]) rfl rfl rfl (fun w hw => ?_)
 exact ⟨rfl, hw.base⟩

end Go.Proofs.YtnpdgmoeoidppaaGreat
