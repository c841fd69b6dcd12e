import Derived.Test.YtnpdgmoeoidppaaGreatVcQt
import Derived.Test.YtnpdgmoeoidppaaGreatLuQt
/- vips: what is held, gone through and sorted -/
namespace Go.Proofs.YtnpdgmoeoidppaaGreat
open Go.RowKit Go.Shelf
set_option linter.unusedVariables false
set_option linter.unusedSimpArgs false

theorem ent_100 : Enters Tryz.prog 100 := enters_of Tryz.func100 (by kernel_rfl) rfl
theorem ent_101 : Enters Tryz.prog 101 := enters_of Tryz.func101 (by kernel_rfl) rfl
theorem ent_103 : Enters Tryz.prog 103 := enters_of Tryz.func103 (by kernel_rfl) rfl
theorem ent_169 : Enters Tryz.prog 169 := enters_of Tryz.func169 (by kernel_rfl) rfl
theorem ent_170 : Enters Tryz.prog 170 := enters_of Tryz.func170 (by kernel_rfl) rfl
theorem ent_172 : Enters Tryz.prog 172 := enters_of Tryz.func172 (by kernel_rfl) rfl
theorem ent_174 : Enters Tryz.prog 174 := enters_of Tryz.func174 (by kernel_rfl) rfl
theorem ent_175 : Enters Tryz.prog 175 := enters_of Tryz.func175 (by kernel_rfl) rfl
theorem ent_216 : Enters Tryz.prog 216 := enters_of Tryz.func216 (by kernel_rfl) rfl
theorem ent_219 : Enters Tryz.prog 219 := enters_of Tryz.func219 (by kernel_rfl) rfl
theorem dl : TyI Tryz.prog 25 false 1 24 (.slice none 0 0) := TyI.mk' (by kernel_rfl) (fun _ => by kernel_rfl)

def kdA (a : Ad) : Int := if a.six = true then 1 else 0
def orJ : List Int → Int
  | [] => 0
  | x :: r => if x ≠ 0 then x else orJ r
def dX (a b : Ad) : Int := orJ [dH (kdA a) (kdA b), dH a.hi b.hi, dH a.lo b.lo]
theorem cmpI_neg (a b : Int) : dH a b < 0 ↔ a < b := by
  unfold dH
  split
  · omega
  · split <;> omega
theorem cmpI_zero (a b : Int) : dH a b = 0 ↔ a = b := by
  unfold dH
  split
  · omega
  · split <;> omega
theorem fm (a b : Ad) : dX a b < 0 ↔ kdA a < kdA b ∨ (kdA a = kdA b ∧ (a.hi < b.hi ∨ (a.hi = b.hi ∧ a.lo < b.lo))) := by
  have h1 := cmpI_neg (kdA a) (kdA b); have h2 := cmpI_neg a.hi b.hi; have h3 := cmpI_neg a.lo b.lo
  have g1 := cmpI_zero (kdA a) (kdA b); have g2 := cmpI_zero a.hi b.hi; have g3 := cmpI_zero a.lo b.lo
  simp only [dX, orJ]
  by_cases c1 : dH (kdA a) (kdA b) = 0
  · rw [if_neg (fun q => q c1)]
    by_cases c2 : dH a.hi b.hi = 0
    · rw [if_neg (fun q => q c2)]
      by_cases c3 : dH a.lo b.lo = 0
      · rw [if_neg (fun q => q c3)]; omega
      · rw [if_pos c3]; omega
    · rw [if_pos c2]; omega
  · rw [if_pos c1]; omega
instance : Inhabited {x : Hd // True} := ⟨⟨ct, trivial⟩⟩
theorem swo_hd : Go.Sort.SWO (α := {x : Hd // True}) (Go.Proofs.ltOf fun x y : {x : Hd // True} => dX x.1.ad y.1.ad) where
  irrefl x := by simp only [ltOf, decide_eq_false_iff_not, fm]; omega
  trans x y z h1 h2 := by simp only [ltOf, decide_eq_true_eq, fm] at *; omega
  ntrans x y z h1 h2 := by simp only [ltOf, decide_eq_false_iff_not, fm] at *; omega
def encHd1 (h : Hd) : List Value := [.agg (d4 h).toArray]
def encN1 (s : aV) : List Value := [.string (ba s)]
theorem next_key {α β : Type} {encK : α → Value} {encV : β → Value} {m : List (α × β)} {es : Array MapEntry} {clk : Nat} (h : MpE encK encV m es clk) {ix : List Nat} {e : MapEntry} (he : e ∈ (leftOf es (dF es ix)).toList) (d0 : α × β) : e ∈ es.toList ∧ ∃ i, i < m.length ∧ i ∉ ix ∧ e.born = fh es i ∧ e.key = encK (m.getD i d0).1 := by
  have h1 : e ∈ es.toList ∧ e.born ∉ ix.map (fh es) := by
    have : e ∈ leftOf es (dF es ix) := by simpa using he
    unfold leftOf dF at this
    rw [Array.mem_filter] at this
    exact ⟨by simpa using this.1, by simpa using this.2⟩
  refine ⟨h1.1, ?_⟩
  obtain ⟨i, hi, hie⟩ := List.mem_iff_getElem.1 h1.1
  have hi2 : i < m.length := by rw [← h.len]; exact hi
  have hb : fh es i = e.born := bornAt_eq (by rw [List.getElem?_eq_getElem hi, hie])
  refine ⟨i, hi2, fun hx => h1.2 (List.mem_map.2 ⟨i, hx, hb⟩), hb.symm, ?_⟩
  have hv := congrArg (fun q : List Value => q[i]?) h.key
  simp only [List.getElem?_map] at hv
  rw [List.getElem?_eq_getElem hi, List.getElem?_eq_getElem hi2, hie] at hv
  rw [List.getD_eq_getElem?_getD, List.getElem?_eq_getElem hi2]
  exact Option.some.inj hv
def gB {α β : Type} (m : List (α × β)) (d0 : α × β) (ix : List Nat) : List α := ix.map fun i => (m.getD i d0).1
theorem keys_vals {α β : Type} (m : List (α × β)) (d0 : α × β) (ix : List Nat) : gB m d0 ix = eK (m.map fun p => (p.2, p.1)) (d0.2, d0.1) ix := by
  unfold gB eK
  refine List.map_congr_left fun i _ => ?_
  rw [List.getD_eq_getElem?_getD, List.getD_eq_getElem?_getD, List.getElem?_map]
  cases m[i]? <;> rfl
theorem keys_all {α β : Type} {m : List (α × β)} {d0 : α × β} {ix : List Nat} (hn : ix.Nodup) (hx : ∀ j ∈ ix, j < m.length) (ha : ∀ i, i < m.length → i ∈ ix) : (gB m d0 ix).Perm (m.map (·.1)) := by
  rw [keys_vals]
  have := vals_all (m := m.map fun p => (p.2, p.1)) (d0 := (d0.2, d0.1)) hn (by simpa using hx) (by simpa using ha)
  rw [List.map_map] at this; exact this
theorem keys_snoc {α β : Type} {m : List (α × β)} {d0 : α × β} {ix : List Nat} {i : Nat} : gB m d0 (ix ++ [i]) = gB m d0 ix ++ [(m.getD i d0).1] := by simp [gB]

theorem c_isNaNu (n : Int) : cO Tryz.prog 219 #[.int .u64 n] (.bool false) := by
 intro w0
 refine bd (ok0 := no) (S := []) (args := [.int .u64 n]) 6 Tryz.func219 rfl rfl rfl (by simp) (by simp) ?_
 refine ao ?_
 refine ab ?_
 refine ap (ai rfl) rfl rfl ?_
 refine ae ?_
 refine aj ?_
 refine ao ?_
 refine ab ?_
 refine ap (ak rfl) rfl rfl ?_
 refine ap (ak rfl) rfl rfl ?_
 refine ap (cv rfl rfl) rfl rfl ?_
 refine ap (ai rfl) rfl rfl ?_
 refine ae ?_
 refine aj ?_
 refine aF ?_
 refine aJ (ts := [2]) rfl rfl rfl (fun w hw => ?_)
 exact ⟨by show Ending.returned (.bool _) = _; congr 2; simp, hw.base⟩

theorem c_cmpU (a b : Int) : cO Tryz.prog 175 #[.int .u64 a, .int .u64 b] (.int .i64 (dH a b)) := by
 intro w0
 refine bd (ok0 := no) (S := []) (args := [.int .u64 a, .int .u64 b]) 20 Tryz.func175 rfl rfl rfl (by simp) (by simp) ?_
 refine ao ?_
 refine ab ?_
 refine ap (ai rfl) rfl rfl ?_
 refine ae ?_
 refine aj ?_
 refine ao ?_
 refine ab ?_
 refine ap (ak rfl) rfl rfl ?_
 refine aS rfl ent_219 (c_isNaNu _) rfl ?_
 refine bV (t := 8) (.bool false) rfl (congrArg Value.bool rfl) ?_
 refine ap (ai rfl) rfl rfl ?_
 refine ae ?_
 refine aj ?_
 refine ao ?_
 refine ab ?_
 refine ap (ak rfl) rfl rfl ?_
 refine aS rfl ent_219 (c_isNaNu _) rfl ?_
 refine bV (t := 10) (.bool false) rfl (congrArg Value.bool rfl) ?_
 refine ap (ai rfl) rfl rfl ?_
 refine ae ?_
 refine aj ?_
 refine ao ?_
 refine ao ?_
 refine ab ?_
 refine ap (ak rfl) rfl rfl ?_
 refine ae ?_
 refine aj ?_
 refine au rfl ?_
 refine aH ?_
 refine aj ?_
 refine ao ?_
 refine ao ?_
 refine ab ?_
 refine ap (ak rfl) rfl rfl ?_
 refine ae ?_
 refine aj ?_
 refine au rfl ?_
 refine aH ?_
 refine aj ?_
 refine ao ?_
 refine ao ?_
 refine ab ?_
 refine ap (ak rfl) rfl rfl ?_
 refine ap (ak rfl) rfl rfl ?_
 refine ap (bF rfl rfl) rfl rfl ?_
 refine aC (t := 16) rfl (fun h9_2 => ?_) (fun h9_2 => ?_)
 refine ae ?_
 refine aj ?_
 refine ay rfl ?_
 refine ao ?_
 refine ab ?_
 refine ap (ai rfl) rfl rfl ?_
 refine ae ?_
 refine aj ?_
 refine aF ?_
 refine aA ?_
 refine aJ (ts := [4]) rfl rfl rfl (fun w hw => ?_)
 refine ⟨?_, hw.base⟩
 show Ending.returned (.int _ _) = _
 congr 2
 focus first
   | (rw [dH, if_pos h9_2]
      done)
   | (rw [dH, if_neg h9_2, if_pos (by omega)]
      done)
   | (rw [dH, if_neg h9_2, if_neg (by omega)]
      done)
 refine ae ?_
 refine aj ?_
 refine au rfl ?_
 refine aH ?_
 refine aj ?_
 refine ao ?_
 refine ao ?_
 refine ab ?_
 refine ap (ak rfl) rfl rfl ?_
 refine ap (ak rfl) rfl rfl ?_
 refine ap (eI rfl rfl) rfl rfl ?_
 refine aC (t := 19) rfl (fun h11_2 => ?_) (fun h11_2 => ?_)
 refine ae ?_
 refine aj ?_
 refine ay rfl ?_
 refine ao ?_
 refine ab ?_
 refine ap (ai rfl) rfl rfl ?_
 refine ae ?_
 refine aj ?_
 refine aF ?_
 refine aA ?_
 refine aJ (ts := [4]) rfl rfl rfl (fun w hw => ?_)
 refine ⟨?_, hw.base⟩
 show Ending.returned (.int _ _) = _
 congr 2
 focus first
   | (rw [dH, if_pos h9_2]
      done)
   | (rw [dH, if_neg h9_2, if_pos (by omega)]
      done)
   | (rw [dH, if_neg h9_2, if_neg (by omega)]
      done)
 refine ae ?_
 refine aj ?_
 refine au rfl ?_
 refine aH ?_
 refine aj ?_
 refine ao ?_
 refine ab ?_
 refine ap (ai rfl) rfl rfl ?_
 refine ae ?_
 refine aj ?_
 refine aF ?_
 refine aJ (ts := [4]) rfl rfl rfl (fun w hw => ?_)
 refine ⟨?_, hw.base⟩
 show Ending.returned (.int _ _) = _
 congr 2
 focus first
   | (rw [dH, if_pos h9_2]
      done)
   | (rw [dH, if_neg h9_2, if_pos (by omega)]
      done)
   | (rw [dH, if_neg h9_2, if_neg (by omega)]
      done)

theorem c_kind (a : Ad) : cO Tryz.prog 174 #[.agg (dN a).toArray] (.int .i64 (kdA a)) := by
 intro w0
 refine bd (ok0 := no) (S := []) (args := [.agg (dN a).toArray]) 5 Tryz.func174 rfl rfl rfl (by simp) (by simp) ?_
 refine ao ?_
 refine ab ?_
 refine bE rfl rfl rfl (fun b1 => ?_)
 refine ap (ai rfl) rfl rfl ?_
 refine ae ?_
 refine aj ?_
 refine ao ?_
 refine ao ?_
 refine ab ?_
 refine ap (aB dc rfl) rfl rfl ?_
 refine ap (aM 0 gk rfl rfl rfl) rfl rfl ?_
 refine bk (t := 4) rfl (fun h1_1 => ?_) (fun h1_1 => ?_)
 refine ae ?_
 refine aj ?_
 refine ay rfl ?_
 refine ao ?_
 refine ab ?_
 refine ap (ai rfl) rfl rfl ?_
 refine ae ?_
 refine aj ?_
 refine aF ?_
 refine aA ?_
 refine aJ (ts := [2]) rfl rfl rfl (fun w hw => ?_)
 refine ⟨?_, hw.base⟩
 show Ending.returned (.int _ _) = _
 congr 2
 focus first
   | (rw [kdA, if_pos h1_1]
      done)
   | (rw [kdA, if_neg (by rw [h1_1]; decide)]
      done)
 refine ae ?_
 refine aj ?_
 refine au rfl ?_
 refine aH ?_
 refine aj ?_
 refine ao ?_
 refine ab ?_
 refine ap (ai rfl) rfl rfl ?_
 refine ae ?_
 refine aj ?_
 refine aF ?_
 refine aJ (ts := [2]) rfl rfl rfl (fun w hw => ?_)
 refine ⟨?_, hw.base⟩
 show Ending.returned (.int _ _) = _
 congr 2
 focus first
   | (rw [kdA, if_pos h1_1]
      done)
   | (rw [kdA, if_neg (by rw [h1_1]; decide)]
      done)

theorem c_OrV (l : List Int) (A : Option Addr) (c : Nat) (hl : l.length ≤ 1000000) : RC Tryz.prog 172 #[.slice A l.length c] [Ch.rd A 1 enci l] (α := Unit) (fun _ => .int .i64 (orJ l)) (fun _ => []) := by
 refine bi (args := [.slice A l.length c]) 18 Tryz.func172 rfl rfl rfl (fun w0 => ?_)
 refine ao ?_
 refine ab ?_
 refine ap (ai rfl) rfl rfl ?_
 refine ae ?_
 refine aj ?_
 refine ao ?_
 refine ab ?_
 refine ap (ai rfl) rfl rfl ?_
 refine ae ?_
 refine aj ?_
 refine ao ?_
 refine ao ?_
 refine ab ?_
 refine ap (ak rfl) rfl rfl ?_
 refine ap (bM Tryz.underlying31 rfl) rfl rfl ?_
 refine ap (ak rfl) rfl rfl ?_
 refine ae ?_
 refine aj ?_
 refine aP ?_
 refine b8 (σ := Nat) [2, 5, 8, 9, 10, 11, 12, 13, 14, 15, 16] (fun k => k ≤ l.length ∧ orJ l = orJ (l.drop k)) (fun k => l.length - k) (fun k => [(8, .int .i64 k)]) (0) ?_ ⟨rfl, trivial⟩ (fun k hI => ?_)
 exact ⟨Nat.zero_le _, rfl⟩
 refine ao ?_
 refine ab ?_
 refine ap (bF rfl rfl) rfl rfl ?_
 refine aC (t := 9) rfl (fun h3_0 => ?_) (fun h3_0 => ?_)
 have hdk := el l (0 : Int) k (by omega)
 refine ae ?_
 refine aj ?_
 refine ao ?_
 refine ay rfl ?_
 refine aH ?_
 refine aj ?_
 refine ao ?_
 refine aP ?_
 refine ao ?_
 refine ab ?_
 refine ap (bP  Tryz.underlying31 eW rfl rfl (bY 0 rfl) rfl (by omega)) rfl rfl ?_
 refine ap (cG enc_i (0 : Int) eW rfl (bY 0 rfl) (by omega) rfl rfl) rfl rfl ?_
 refine ap (ai rfl) rfl rfl ?_
 refine ae ?_
 refine aj ?_
 refine ao ?_
 refine ab ?_
 refine ap (ak rfl) rfl rfl ?_
 refine ap (ak rfl) rfl rfl ?_
 refine ap (cv rfl rfl) rfl rfl ?_
 refine aC (t := 14) rfl (fun h5_2 => ?_) (fun h5_2 => ?_)
 refine ae ?_
 refine aj ?_
 refine ay rfl ?_
 refine ao ?_
 refine ab ?_
 refine ap (ak rfl) rfl rfl ?_
 refine ap (ai rfl) rfl rfl ?_
 refine ae ?_
 refine aj ?_
 refine aF ?_
 refine aL ?_
 refine aA ?_
 refine bu ?_
 refine aL ?_
 refine aA ?_
 refine aJ (ts := [2]) rfl rfl rfl (fun w hw => ?_)
 have he : orJ l = l.getD k 0 := by rw [hI.2, hdk, orJ, if_pos (by omega)]
 exact ⟨(), by rw [he]; rfl, hw.base, (hw.weak (List.nil_sublist _) (fun s hs => hs)).toNews⟩
 refine ae ?_
 refine aj ?_
 refine au rfl ?_
 refine aH ?_
 refine bq ?_
 refine aj ?_
 refine ab ?_
 refine ap (bg rfl rfl (by omega) (by omega)) rfl rfl ?_
 refine ap (ak rfl) rfl rfl ?_
 refine ae ?_
 refine bo (k + 1) ?_ ?_ ⟨rfl, trivial⟩ (by repeat (first | exact trivial | refine ⟨rfl, ?_⟩)) aw
 exact ⟨by omega, by rw [hI.2, hdk, orJ, if_neg (by omega)]⟩
 omega
 refine ae ?_
 refine aj ?_
 refine ao ?_
 refine au rfl ?_
 refine bC ?_
 refine aY ?_
 refine aU ?_
 refine a8 ?_
 refine aj ?_
 refine ao ?_
 refine ab ?_
 refine ap (ak rfl) rfl rfl ?_
 refine ap (ai rfl) rfl rfl ?_
 refine ae ?_
 refine aj ?_
 refine aF ?_
 refine aJ (ts := [2]) rfl rfl rfl (fun w hw => ?_)
 have he : orJ l = 0 := by rw [hI.2, List.drop_of_length_le (by omega)]; rfl
 exact ⟨(), by rw [he]; rfl, hw.base, (hw.weak (List.nil_sublist _) (fun s hs => hs)).toNews⟩

set_option maxRecDepth 100000 in
theorem c_addr_Compare (a b : Ad) : cO Tryz.prog 103 #[.agg (dN a).toArray, .agg (dN b).toArray] (.int .i64 (dX a b)) := by
 intro w0
 refine bd (ok0 := no) (S := []) (args := [.agg (dN a).toArray, .agg (dN b).toArray]) 22 Tryz.func103 rfl rfl rfl (by simp) (by simp) ?_
 refine ao ?_
 refine ab ?_
 refine bE rfl rfl rfl (fun b1 => ?_)
 refine bE rfl rfl rfl (fun b2 => ?_)
 refine ap (ai rfl) rfl rfl ?_
 refine ae ?_
 refine aj ?_
 refine ao ?_
 refine eh 18 rfl mixed ?_
 refine aD (i := 0) rfl ah (aK 1 aN rfl rfl rfl rfl) aw aw rfl (aa ar) (by kernel_rfl) rfl ?_
 refine aD (i := 2) rfl ah (aK 0 aN rfl rfl rfl rfl) aw aw rfl (aa ar) (by kernel_rfl) rfl ?_
 refine aD (i := 5) rfl ah (aB dG rfl) aw aw rfl (aa ar) (by kernel_rfl) rfl ?_
 refine aD (i := 6) rfl ah (aM 1 cP rfl rfl rfl) aw aw rfl (aa ar) (by kernel_rfl) rfl ?_
 refine aD (i := 7) rfl ah (aB dG rfl) aw aw rfl (aa ar) (by kernel_rfl) rfl ?_
 refine aD (i := 8) rfl ah (aM 0 cP rfl rfl rfl) aw aw rfl (aa ar) (by kernel_rfl) rfl ?_
 refine aD (i := 10) rfl ah (aB cW rfl) aw aw rfl (aa ar) (by kernel_rfl) rfl ?_
 refine aD (i := 11) rfl ah (aM 1 cP rfl rfl rfl) aw aw rfl (aa ar) (by kernel_rfl) rfl ?_
 refine aD (i := 12) rfl ah (aB cW rfl) aw aw rfl (aa ar) (by kernel_rfl) rfl ?_
 refine aD (i := 13) rfl ah (aM 0 cP rfl rfl rfl) aw aw rfl (aa ar) (by kernel_rfl) rfl ?_
 refine dm (i := 1) rfl rfl rfl (br rfl ent_174) (by kernel_rfl) rfl ?_
 refine aS rfl ent_174 (c_kind _) rfl ?_
 refine ae ?_
 refine dC aw ?_
 refine dm (i := 3) rfl rfl rfl (br rfl ent_174) (by kernel_rfl) rfl ?_
 refine aS rfl ent_174 (c_kind _) rfl ?_
 refine ae ?_
 refine dC aw ?_
 refine dm (i := 4) rfl rfl rfl (br rfl ent_173) (by kernel_rfl) rfl ?_
 refine aS rfl ent_173 (c_cmpI _ _) rfl ?_
 refine ae ?_
 refine dC aw ?_
 refine dm (i := 9) rfl rfl rfl (br rfl ent_175) (by kernel_rfl) rfl ?_
 refine aS rfl ent_175 (c_cmpU _ _) rfl ?_
 refine ae ?_
 refine dC aw ?_
 refine dm (i := 14) rfl rfl rfl (br rfl ent_175) (by kernel_rfl) rfl ?_
 refine aS rfl ent_175 (c_cmpU _ _) rfl ?_
 refine ae ?_
 refine dC aw ?_
 refine dm (i := 15) rfl rfl rfl (fun _ _ _ => a7 (by kernel_rfl)) (by kernel_rfl) rfl ?_
 refine du (vs := [_, _, _]) ([dH (kdA a) (kdA b), dH a.hi b.hi, dH a.lo b.lo] : List (Int)) enc_i Tryz.underlying31 eW rfl rfl rfl rfl rfl rfl (fun As3 => ?_)
 refine ae ?_
 refine dC (bS 1) ?_
 refine dm (i := 16) rfl rfl rfl (br rfl ent_172) (by kernel_rfl) rfl ?_
 refine bv rfl ent_172 rfl (c_OrV [dH (kdA a) (kdA b), dH a.hi b.hi, dH a.lo b.lo] _ _ (by simp)) (fun w hw => (aQ (eF 0 rfl hw) bf)) ?_
 refine ae ?_
 refine dC (bS 1) ?_
 refine aD (i := 17) rfl ah (ai rfl) (bS 1) aw rfl (aa ar) (by kernel_rfl) rfl ?_
 refine cB (by kernel_rfl) ?_
 refine aj ?_
 refine aF ?_
 refine aJ (ts := [4]) rfl rfl rfl (fun w hw => ?_)
 exact ⟨rfl, hw.base⟩

theorem c_vAll1 (a b : Hd) : cO Tryz.prog 102 #[.agg (d4 a).toArray, .agg (d4 b).toArray] (.int .i64 (dX a.ad b.ad)) := by
 intro w0
 refine bd (ok0 := no) (S := []) (args := [.agg (d4 a).toArray, .agg (d4 b).toArray]) 10 Tryz.func102 rfl rfl rfl (by simp) (by simp) ?_
 refine ao ?_
 refine ab ?_
 refine bE rfl rfl rfl (fun b1 => ?_)
 refine bE rfl rfl rfl (fun b2 => ?_)
 refine ap (ai rfl) rfl rfl ?_
 refine ae ?_
 refine aj ?_
 refine ao ?_
 refine ab ?_
 refine ap (aB dU rfl) rfl rfl ?_
 refine ap (aK 1 aN rfl rfl rfl rfl) rfl rfl ?_
 refine ap (aB dU rfl) rfl rfl ?_
 refine ap (aK 0 aN rfl rfl rfl rfl) rfl rfl ?_
 refine aS rfl ent_103 (c_addr_Compare a.ad b.ad) rfl ?_
 refine ap (ai rfl) rfl rfl ?_
 refine ae ?_
 refine aj ?_
 refine aF ?_
 refine aJ (ts := [4]) rfl rfl rfl (fun w hw => ?_)
 exact ⟨rfl, hw.base⟩

theorem vals_snoc {α β : Type} {m : List (α × β)} {d0 : α × β} {ix : List Nat} {i : Nat} : eK m d0 (ix ++ [i]) = eK m d0 ix ++ [(m.getD i d0).2] := by simp [eK]
theorem iM {ix : List Nat} {i : Nat} (hn : ix.Nodup) (hi : i ∉ ix) : (ix ++ [i]).Nodup := by
  rw [List.nodup_append]; exact ⟨hn, by simp, fun a ha b hb e => by rw [List.mem_singleton.1 hb] at e; exact hi (e ▸ ha)⟩
theorem iK {ix : List Nat} {i n : Nat} (hx : ∀ j ∈ ix, j < n) (hi : i < n) : ∀ j ∈ ix ++ [i], j < n := fun j hj => (List.mem_append.1 hj).elim (hx j) (fun h => by rw [List.mem_singleton.1 h]; exact hi)
theorem ix_lt {ix : List Nat} {i n : Nat} (hn : ix.Nodup) (hx : ∀ j ∈ ix, j < n) (hin : i ∉ ix) (hi : i < n) : ix.length < n := by
  have := ix_len_le (iM hn hin) (iK hx hi); simp at this; omega
theorem vals_adm9 {α β : Type} {m : List (α × β)} {d0 : α × β} {ix : List Nat} {i : Nat} (hn : ix.Nodup) (hx : ∀ j ∈ ix, j < m.length) (hin : i ∉ ix) (hi : i < m.length) : ∃ rest, ((eK m d0 ix ++ [(m.getD i d0).2]) ++ rest).Perm (m.map (·.2)) := by
  rw [← vals_snoc]; exact vals_adm (iM hn hin) (iK hx hi)

theorem c_MapVal1 (m : List (aV × Hd)) (bm bn : Nat) : iF Tryz.prog 171 [.pointer (some ⟨bn, 0, none⟩)] [Ch.row bn [.map (some bm)] 143, Ch.mp bm cy cQ m] [] [] encHd1 (fun pre => ∃ rest, (pre ++ rest).Perm (m.map (·.2))) (fun xs => xs.Perm (m.map (·.2))) := by
 refine iterG_of_W 15 Tryz.func171 rfl rfl rfl (fun lr σ I Ix C Sc hy g0 hg0 w0 => ?_)
 refine ao ?_
 refine w_openmp (encK := cy) (encV := cQ) 1 rfl (fun es clk hE => ?_)
 refine ab ?_
 refine ap (bp 1 eE rfl rfl rfl) rfl rfl ?_
 refine o_range 0 rfl Tryz.underlying143 rfl rfl (fun r => ?_)
 refine ae ?_
 refine aj ?_
 refine aP ?_
 refine w_loopL (σ := List Nat × σ) [4, 7, 8, 9, 10, 11, 12, 13, 14] (fun q => q.1.length ≤ m.length ∧ q.1.Nodup ∧ (∀ j ∈ q.1, j < m.length) ∧ I (eK m ((([] : aV), ct) : aV × Hd) q.1) q.2) (fun q => m.length - q.1.length) (fun q => []) (fun q => [Ch.obj r (.mapIter (some bm) clk (dF es q.1) clk), C q.2]) (([], g0)) ?_ trivial rfl (fun q hI => ?_)
 exact ⟨Nat.zero_le _, .nil, nofun, hg0⟩
 obtain ⟨ix, g⟩ := q
 dsimp only at hI ⊢
 refine ao ?_
 refine ab ?_
 refine o_next 0 rfl rfl hE.lt (fun _ => .z) rfl (fun en hen => ?_) (fun h0 => ?_)
 obtain hns := next_some hE hen ((([] : aV), ct) : aV × Hd)
 obtain ⟨i, hi, hin, hib, hiv⟩ := hns.2
 rw [hib]
 rw [hiv]
 rw [gU]
 refine ap (aI rfl rfl) rfl rfl ?_
 refine bV (t := 8) (.bool true) rfl (congrArg Value.bool rfl) ?_
 refine ae ?_
 refine aj ?_
 refine ao ?_
 refine ay rfl ?_
 refine aH ?_
 refine aj ?_
 refine aP ?_
 refine ao ?_
 refine ab ?_
 refine ap (y_entry (e := en) (sn := dF es ix) 0 0 (by rw [hib, gU]) rfl rfl rfl hns.1 hE.nd) rfl rfl ?_
 refine ap (aI rfl rfl) rfl rfl ?_
 refine bV (t := 10) (.agg (d4 (m.getD i ((([] : aV), ct) : aV × Hd)).2).toArray) rfl hiv ?_
 refine bz bh rfl rfl (fun b1 => ?_)
 refine aT bh rfl rfl rfl .z rfl rfl rfl rfl ?_
 refine ae ?_
 refine aj ?_
 refine ao ?_
 refine ab ?_
 refine ap (ak rfl) rfl rfl ?_
 refine ap (aK 0 bh rfl rfl rfl rfl) rfl rfl ?_
 refine iC rfl rfl (hy _ (m.getD i ((([] : aV), ct) : aV × Hd)).2 g (vals_adm9 hI.2.1 hI.2.2.1 hin hi) hI.2.2.2) (fun _ => (.s (.s (.z)))) (fun s hs => .tail _ (List.mem_append_right _ hs)) rfl (fun g' hT => ?_) (fun g' hF => ?_)
 refine ap (bJ rfl) rfl rfl ?_
 refine ae ?_
 refine aj ?_
 refine au rfl ?_
 refine aH ?_
 refine bq ?_
 refine bo ((ix ++ [i], g')) ?_ ?_ trivial (by repeat (first | exact trivial | refine ⟨rfl, ?_⟩)) (bS 1)
 exact ⟨by show (ix ++ [i]).length ≤ _; have := ix_lt hI.2.1 hI.2.2.1 hin hi; simp; omega, iM hI.2.1 hin, iK hI.2.2.1 hi, by show I (eK m ((([] : aV), ct) : aV × Hd) (ix ++ [i])) _; rw [vals_snoc]; exact hT⟩
 show m.length - (ix ++ [i]).length < m.length - ix.length
 have := ix_lt hI.2.1 hI.2.2.1 hin hi
 simp; omega
 refine ap (bJ rfl) rfl rfl ?_
 refine ae ?_
 refine aj ?_
 refine ay rfl ?_
 refine aF ?_
 refine aL ?_
 refine bu ?_
 refine aL ?_
 refine aJ (ts := []) rfl rfl rfl (fun w hw => ?_)
 focus first
   | exact eo _ (.inr ⟨_, vals_adm9 hI.2.1 hI.2.2.1 hin hi, hF⟩) (hw.weak (.cons _ (.cons _ (.cons_cons _ .slnil))) (fun s hs => hs))
   | exact eo _ (.inl ⟨_, vals_all hI.2.1 hI.2.2.1 hal, hI.2.2.2⟩) (hw.weak (.cons _ (.cons _ (.cons_cons _ .slnil))) (fun s hs => hs))
   | (trace_state; fail)
 have hal := fun i hi => next_none hE h0 i hi hI.2.2.1
 refine ap (aI rfl rfl) rfl rfl ?_
 refine bV (t := 8) (.bool false) rfl (congrArg Value.bool rfl) ?_
 refine ae ?_
 refine aj ?_
 refine ao ?_
 refine au rfl ?_
 refine bC ?_
 refine aY ?_
 refine aU ?_
 refine a8 ?_
 refine i5 (ts := []) rfl rfl rfl (fun w hw => ?_)
 focus first
   | exact eo _ (.inr ⟨_, vals_adm9 hI.2.1 hI.2.2.1 hin hi, hF⟩) (hw.weak (.cons _ (.cons_cons _ .slnil)) (fun s hs => hs))
   | exact eo _ (.inl ⟨_, vals_all hI.2.1 hI.2.2.1 hal, hI.2.2.2⟩) (hw.weak (.cons _ (.cons_cons _ .slnil)) (fun s hs => hs))
   | (trace_state; fail)

theorem c_MapVal (bm : Nat) : RC Tryz.prog 101 #[.map (some bm)] [] (α := Nat) (fun p => .func (.func 171) #[] #[.pointer (some ⟨p, 0, none⟩)]) (fun p => [Ch.row p [.map (some bm)] 143]) := by
 refine bi (args := [.map (some bm)]) 4 Tryz.func101 rfl rfl rfl (fun w0 => ?_)
 refine ao ?_
 refine ab ?_
 refine bE rfl rfl rfl (fun b1 => ?_)
 refine ap (ai rfl) rfl rfl ?_
 refine ae ?_
 refine aj ?_
 refine ao ?_
 refine ab ?_
 refine ap (ee rfl rfl) rfl rfl ?_
 refine ap (ai rfl) rfl rfl ?_
 refine ae ?_
 refine aj ?_
 refine aF ?_
 refine aJ (ts := [2]) rfl rfl rfl (fun w hw => ?_)
 exact ⟨b1, rfl, hw.base, (hw.weak (.cons_cons _ .slnil) (fun s hs => hs)).toNews⟩

theorem c_AppendSeq_hd (gf : Nat) (lb : List Value) (Sx : List Ch) (Adm Fin : List Hd → Prop) (hit : iF Tryz.prog gf lb Sx [] [] encHd1 Adm Fin) (hen : Enters Tryz.prog gf) (hb : ∀ pre, Adm pre → pre.length ≤ 1000000) : RC Tryz.prog 216 #[.slice none 0 0, .func (.func gf) #[] lb.toArray] Sx (α := {p : List Hd × Option Addr × Nat // Fin p.1}) (fun p => .slice p.1.2.1 p.1.1.length p.1.2.2) (fun p => [Ch.ls p.1.2.1 p.1.2.2 46 4 d4 p.1.1]) := by
 refine iH (args := [.slice none 0 0, .func (.func gf) #[] lb.toArray]) 13 Tryz.func216 rfl rfl rfl (fun w0 => ?_)
 refine ao ?_
 refine ab ?_
 refine bE rfl rfl rfl (fun b1 => ?_)
 refine ap (ai rfl) rfl rfl ?_
 refine ae ?_
 refine aj ?_
 refine ao ?_
 refine ao ?_
 refine ab ?_
 refine ap (ak rfl) rfl rfl ?_
 refine ae ?_
 refine aj ?_
 refine aP ?_
 refine cH (fun w h => h.nilsl 46 4) ?_
 refine w_rangeG (σ := List Hd × Option Addr × Nat) (fun pre g => g.1 = pre) (fun c pre g => False) (fun g => [Ch.ls g.2.1 g.2.2 46 4 d4 g.1, Ch.row b1 [.slice g.2.1 g.1.length g.2.2] 25]) (([], none, 0)) rfl rfl hen (hit) (fun s hs => hs) rfl (fun _ => rfl) (rfl) aw (fun pre e g hxs hI lr D r hr okb wb => ?_) (fun g D0 hI => ?_) (fun c pre g D0 hxs hI => ?_)
 obtain ⟨q, Ax, cx⟩ := g
 dsimp only at hI ⊢
 subst hI
 have hpl := hb _ hxs
 have hpl2 : q.length + 1 ≤ 1000000 := by simpa using hpl
 refine ab ?_
 refine bz bh rfl rfl (fun b2 => ?_)
 refine aT bh rfl rfl rfl .z rfl rfl rfl rfl ?_
 refine ae ?_
 refine gW rfl hr (.s (.z)) ?_
 refine aP ?_
 refine ab ?_
 refine ap (aM 4 dl rfl rfl rfl) rfl rfl ?_
 refine ap (aK 0 bh rfl rfl rfl rfl) rfl rfl ?_
 refine du (vs := [_]) ([e] : List (Hd)) bI Tryz.underlying25 bh rfl rfl rfl rfl rfl rfl (fun As3 => ?_)
 refine cg (enc := d4) (sz := 4) [e] Tryz.underlying25 bh rfl rfl rfl (fun A c => (.s (.s (.s (.s (.z)))))) (eZ 0 Tryz.underlying25 rfl) (by simp only [List.length_cons, List.length_nil, Nat.zero_add]; omega) (by simp only [List.length_cons, List.length_nil, Nat.zero_add]; omega) rfl (fun A3 c3 => ?_)
 refine aT dl rfl rfl rfl (.s (.s (.s (.s (.s (.z)))))) rfl rfl rfl rfl ?_
 refine ae ?_
 refine bq ?_
 refine ib ((q ++ [e], A3, c3)) ?_ (bS 2)
 rfl
 obtain ⟨q, Ax, cx⟩ := g
 obtain ⟨xs, hfx, hI⟩ := hI
 dsimp only at hI ⊢
 subst hI
 refine bq ?_
 refine aj ?_
 refine ao ?_
 refine ab ?_
 refine ap (aM 2 dl rfl rfl rfl) rfl rfl ?_
 refine ap (ai rfl) rfl rfl ?_
 refine ae ?_
 refine aj ?_
 refine aF ?_
 refine gg ?_
 refine fD .z ?_
 refine eN (rs := [.tmp 4]) rfl (cC rfl bR) (fun w hw => ?_)
 exact ⟨⟨(q, Ax, cx), hfx⟩, rfl, hw.base, (hw.weak (.cons _ (.cons_cons _ (.cons _ .slnil))) (fun s hs => hs)).toNews⟩
 exact hI.elim

theorem c_Collect_hd (gf : Nat) (lb : List Value) (Sx : List Ch) (Adm Fin : List Hd → Prop) (hit : iF Tryz.prog gf lb Sx [] [] encHd1 Adm Fin) (hen : Enters Tryz.prog gf) (hb : ∀ pre, Adm pre → pre.length ≤ 1000000) : RC Tryz.prog 169 #[.func (.func gf) #[] lb.toArray] Sx (α := {p : List Hd × Option Addr × Nat // Fin p.1}) (fun p => .slice p.1.2.1 p.1.1.length p.1.2.2) (fun p => [Ch.ls p.1.2.1 p.1.2.2 46 4 d4 p.1.1]) := by
 refine bi (args := [.func (.func gf) #[] lb.toArray]) 5 Tryz.func169 rfl rfl rfl (fun w0 => ?_)
 refine ao ?_
 refine ab ?_
 refine ap (ai rfl) rfl rfl ?_
 refine ae ?_
 refine aj ?_
 refine ao ?_
 refine ab ?_
 refine ap (ak rfl) rfl rfl ?_
 refine co rfl ent_216 rfl (c_AppendSeq_hd gf lb Sx Adm Fin hit hen hb) (fun w hw s hs => hw.rdS hs) (fun ⟨⟨q, Ax, cx⟩, hfx⟩ => ?_)
 refine ap (ai rfl) rfl rfl ?_
 refine ae ?_
 refine aj ?_
 refine aF ?_
 refine aJ (ts := [2]) rfl rfl rfl (fun w hw => ?_)
 exact ⟨⟨(q, Ax, cx), hfx⟩, rfl, hw.base, (hw.weak (.cons_cons _ .slnil) (fun s hs => hs)).toNews⟩

def sortHd_ren : Go.Shelf.Ren := ⟨fun | 6 => 170 | 15 => 190 | 14 => 217 | 28 => 230 | 29 => 231 | 20 => 239 | 21 => 240 | 22 => 241 | 23 => 242 | 24 => 243 | 25 => 244 | 26 => 245 | 27 => 246 | 46 => 257 | 47 => 249 | 48 => 250 | 49 => 258 | 50 => 259 | 57 => 264 | n => n, fun | 22 => 25 | 24 => 46 | 25 => 161 | 3 => 3 | 39 => 202 | 0 => 0 | 53 => 32 | 55 => 27 | 4 => 4 | 46 => 264 | 45 => 263 | 50 => 163 | 5 => 5 | 9 => 9 | 66 => 280 | 70 => 284 | 76 => 292 | 77 => 293 | n => n, fun | n => n⟩
theorem sortHd : Go.Proofs.SlLaysF0.n6 Tryz.prog sortHd_ren := {
  mixed := by kernel_rfl,
  f6 := ⟨Tryz.f170.name, by decide, Tryz.func170.trans (congrArg some (by kernel_rfl))⟩,
  f14 := ⟨Tryz.f217.name, by decide, Tryz.func217.trans (congrArg some (by kernel_rfl))⟩,
  f15 := Tryz.func190.trans (congrArg some (by kernel_rfl)),
  f20 := ⟨Tryz.f239.name, by decide, Tryz.func239.trans (congrArg some (by kernel_rfl))⟩,
  f21 := ⟨Tryz.f240.name, by decide, Tryz.func240.trans (congrArg some (by kernel_rfl))⟩,
  f22 := ⟨Tryz.f241.name, by decide, Tryz.func241.trans (congrArg some (by kernel_rfl))⟩,
  f23 := ⟨Tryz.f242.name, by decide, Tryz.func242.trans (congrArg some (by kernel_rfl))⟩,
  f24 := ⟨Tryz.f243.name, by decide, Tryz.func243.trans (congrArg some (by kernel_rfl))⟩,
  f25 := ⟨Tryz.f244.name, by decide, Tryz.func244.trans (congrArg some (by kernel_rfl))⟩,
  f26 := ⟨Tryz.f245.name, by decide, Tryz.func245.trans (congrArg some (by kernel_rfl))⟩,
  f27 := ⟨Tryz.f246.name, by decide, Tryz.func246.trans (congrArg some (by kernel_rfl))⟩,
  f28 := Tryz.func230.trans (congrArg some (by kernel_rfl)),
  f29 := Tryz.func231.trans (congrArg some (by kernel_rfl)),
  f46 := ⟨Tryz.f257.name, by decide, Tryz.func257.trans (congrArg some (by kernel_rfl))⟩,
  f47 := Tryz.func249.trans (congrArg some (by kernel_rfl)),
  f48 := Tryz.func250.trans (congrArg some (by kernel_rfl)),
  f49 := ⟨Tryz.f258.name, by decide, Tryz.func258.trans (congrArg some (by kernel_rfl))⟩,
  f50 := ⟨Tryz.f259.name, by decide, Tryz.func259.trans (congrArg some (by kernel_rfl))⟩,
  f57 := ⟨Tryz.f264.name, by decide, Tryz.func264.trans (congrArg some (by kernel_rfl))⟩,
  t0 := Tryz.underlying0,
  a0 := Tryz.isAgg0,
  z0 := Tryz.sizeOf0,
  v0 := Tryz.zeroValue0,
  t3 := Tryz.underlying3,
  a3 := Tryz.isAgg3,
  z3 := Tryz.sizeOf3,
  v3 := Tryz.zeroValue3,
  t4 := Tryz.underlying4,
  a4 := Tryz.isAgg4,
  z4 := Tryz.sizeOf4,
  v4 := Tryz.zeroValue4,
  t5 := Tryz.underlying5,
  a5 := Tryz.isAgg5,
  z5 := Tryz.sizeOf5,
  v5 := Tryz.zeroValue5,
  t9 := Tryz.underlying9,
  a9 := Tryz.isAgg9,
  z9 := Tryz.sizeOf9,
  v9 := Tryz.zeroValue9,
  t22 := Tryz.underlying25,
  a22 := Tryz.isAgg25,
  z22 := Tryz.sizeOf25,
  v22 := Tryz.zeroValue25,
  t25 := Tryz.underlying161,
  a25 := Tryz.isAgg161,
  z25 := Tryz.sizeOf161,
  v25 := Tryz.zeroValue161,
  t39 := Tryz.underlying202,
  a39 := Tryz.isAgg202,
  z39 := Tryz.sizeOf202,
  v39 := Tryz.zeroValue202,
  t45 := Tryz.underlying263,
  a45 := Tryz.isAgg263,
  z45 := Tryz.sizeOf263,
  v45 := Tryz.zeroValue263,
  t46 := Tryz.underlying264,
  a46 := Tryz.isAgg264,
  z46 := Tryz.sizeOf264,
  v46 := Tryz.zeroValue264,
  t50 := Tryz.underlying163,
  a50 := Tryz.isAgg163,
  z50 := Tryz.sizeOf163,
  v50 := Tryz.zeroValue163,
  t53 := Tryz.underlying32,
  a53 := Tryz.isAgg32,
  z53 := Tryz.sizeOf32,
  v53 := Tryz.zeroValue32,
  t55 := Tryz.underlying27,
  a55 := Tryz.isAgg27,
  z55 := Tryz.sizeOf27,
  v55 := Tryz.zeroValue27,
  t66 := Tryz.underlying280,
  a66 := Tryz.isAgg280,
  z66 := Tryz.sizeOf280,
  v66 := Tryz.zeroValue280,
  t70 := Tryz.underlying284,
  a70 := Tryz.isAgg284,
  z70 := Tryz.sizeOf284,
  v70 := Tryz.zeroValue284,
  t76 := Tryz.underlying292,
  a76 := Tryz.isAgg292,
  z76 := Tryz.sizeOf292,
  v76 := Tryz.zeroValue292,
  t77 := Tryz.underlying293,
  a77 := Tryz.isAgg293,
  z77 := Tryz.sizeOf293,
  v77 := Tryz.zeroValue293 }

theorem c_Sort_hd (A : Option Addr) (c : Nat) (xs : List Hd) (hl : xs.length ≤ 1000000) : UC Tryz.prog 170 #[.slice A xs.length c, .func (.func 102) #[] #[]] [] (Ch.ls A c 46 4 d4 xs) (α := {ys : List Hd // ys.Perm xs ∧ ys.Pairwise fun a b => ¬ dX b.ad a.ad < 0}) (fun _ => .tuple #[]) (fun o => Ch.ls A c 46 4 d4 o.1) :=
  uc_sort (p := fun _ => True) sortHd 4 Tryz.isAgg46 Tryz.sizeOf46 bI (fun a b : Hd => dX a.ad b.ad) swo_hd 102 #[] (enters_of Tryz.func102 (by kernel_rfl) rfl) (fun x y _ _ => by rw [Array.append_empty]; exact c_vAll1 x y) 46 A c xs (fun _ _ => trivial) (by omega)

theorem c_Sorted_hd (hm : Hm) (bm p : Nat) (hml : hm.length ≤ 1000000) : RC Tryz.prog 100 #[.func (.func 171) #[] #[.pointer (some ⟨p, 0, none⟩)], .func (.func 102) #[] #[]] [Ch.row p [.map (some bm)] 143, Ch.mp bm cy cQ hm] (α := {o : List Hd × Option Addr × Nat // o.1.Perm (hm.map (·.2)) ∧ o.1.Pairwise fun a b => ¬ dX b.ad a.ad < 0}) (fun o => .slice o.1.2.1 o.1.1.length o.1.2.2) (fun o => [Ch.ls o.1.2.1 o.1.2.2 46 4 d4 o.1.1]) := by
 refine bi (args := [.func (.func 171) #[] #[.pointer (some ⟨p, 0, none⟩)], .func (.func 102) #[] #[]]) 12 Tryz.func100 rfl rfl rfl (fun w0 => ?_)
 have hbm : ∀ pre : List Hd, (∃ rest, (pre ++ rest).Perm (hm.map (·.2))) → pre.length ≤ 1000000 := fun pre ⟨rest, h⟩ => by
   have := h.length_eq
   rw [List.length_append, List.length_map] at this
   omega
 refine ao ?_
 refine ab ?_
 refine ap (ai rfl) rfl rfl ?_
 refine ae ?_
 refine aj ?_
 refine ao ?_
 refine ab ?_
 refine ap (ak rfl) rfl rfl ?_
 refine co rfl ent_169 rfl (c_Collect_hd 171 [.pointer (some ⟨p, 0, none⟩)] _ _ _ (c_MapVal1 hm bm p) (enters_of Tryz.func171 (by kernel_rfl) rfl) hbm) (fun w hw => (aQ (cI 0 rfl hw) (aQ (cI 1 rfl hw) bf))) (fun ⟨⟨q, Ax, cx⟩, hfx⟩ => ?_)
 refine ap (ai rfl) rfl rfl ?_
 refine ae ?_
 refine aj ?_
 refine ao ?_
 refine ab ?_
 refine ap (ak rfl) rfl rfl ?_
 refine ap (ak rfl) rfl rfl ?_
 refine cu rfl ent_170 rfl (c_Sort_hd Ax cx q (by have := hbm q ⟨[], by rw [List.append_nil]; exact hfx⟩; omega)) (fun o => .z) (List.mem_of_getElem? (i := 0) rfl) (fun s hs => nomatch hs) (fun ⟨ys, hyp, hys⟩ => ?_)
 refine ae ?_
 refine aj ?_
 refine ao ?_
 refine ab ?_
 refine ap (ak rfl) rfl rfl ?_
 refine ap (ai rfl) rfl rfl ?_
 refine ae ?_
 refine aj ?_
 refine aF ?_
 refine aJ (ts := [4]) rfl rfl rfl (fun w hw => ?_)
 exact ⟨⟨(ys, Ax, cx), hyp.trans hfx, hys⟩, by rw [← hyp.length_eq]; rfl, hw.base, (hw.weak (.cons_cons _ .slnil) (fun s hs => hs)).toNews⟩

theorem c_vAll (v : Vp) (hm : Hm) (hml : hm.length ≤ 1000000) : RC Tryz.prog 36 #[.pointer (some ⟨v.b, 0, none⟩)] [Ch.row v.b (vpC v) 146, Ch.mp v.rh cy cQ hm] (α := {o : List Hd × Option Addr × Nat // o.1.Perm (hm.map (·.2)) ∧ o.1.Pairwise fun a b => ¬ dX b.ad a.ad < 0}) (fun o => .slice o.1.2.1 o.1.1.length o.1.2.2) (fun o => [Ch.ls o.1.2.1 o.1.2.2 46 4 d4 o.1.1]) := by
 refine bi (args := [.pointer (some ⟨v.b, 0, none⟩)]) 11 Tryz.func36 rfl rfl rfl (fun w0 => ?_)
 refine ao ?_
 refine ab ?_
 refine ap (ai rfl) rfl rfl ?_
 refine ae ?_
 refine aj ?_
 refine ao ?_
 refine ao ?_
 refine ab ?_
 refine ap (ak rfl) rfl rfl ?_
 refine ap (eH Tryz.underlying68 rfl rfl) rfl rfl ?_
 refine bV (t := 4) (.bool false) rfl (congrArg Value.bool rfl) ?_
 refine ae ?_
 refine aj ?_
 refine au rfl ?_
 refine aH ?_
 refine aj ?_
 refine ao ?_
 refine ab ?_
 refine ap (ak rfl) rfl rfl ?_
 refine ap (aR rfl) rfl rfl ?_
 refine ap (aB dA rfl) rfl rfl ?_
 refine ap (bp 0 eE rfl rfl rfl) rfl rfl ?_
 refine co rfl ent_101 rfl (c_MapVal v.rh) (fun w hw => bf) (fun p0 => ?_)
 refine co rfl ent_100 rfl (c_Sorted_hd hm v.rh p0 hml) (fun w hw => (aQ (dL 0 rfl hw) (aQ (cI 1 rfl hw) bf))) (fun ⟨⟨ys, Ax, cx⟩, hyp, hys⟩ => ?_)
 refine ap (ai rfl) rfl rfl ?_
 refine ae ?_
 refine aj ?_
 refine aF ?_
 refine aJ (ts := [2]) rfl rfl rfl (fun w hw => ?_)
 exact ⟨⟨(ys, Ax, cx), hyp, hys⟩, rfl, hw.base, (hw.weak (.cons_cons _ (.cons _ .slnil)) (fun s hs => hs)).toNews⟩
end Go.Proofs.YtnpdgmoeoidppaaGreat

/- vips: the names held are kept -/
namespace Go.Proofs.YtnpdgmoeoidppaaGreat
open Go.RowKit Go.Shelf
set_option linter.unusedVariables false
set_option linter.unusedSimpArgs false

theorem keys_adm9 {α β : Type} {m : List (α × β)} {d0 : α × β} {ix : List Nat} {i : Nat} (hn : ix.Nodup) (hx : ∀ j ∈ ix, j < m.length) (hin : i ∉ ix) (hi : i < m.length) : ∃ rest, ((gB m d0 ix ++ [(m.getD i d0).1]) ++ rest).Perm (m.map (·.1)) := by
  rw [← keys_snoc, keys_vals]
  have := vals_adm (m := m.map fun p => (p.2, p.1)) (d0 := (d0.2, d0.1)) (iM hn hin) (iK (by simpa using hx) (by simpa using hi))
  rw [List.map_map] at this; exact this

theorem c_MapKey1 (m : List (aV × Hd)) (bm bn : Nat) : iF Tryz.prog 178 [.pointer (some ⟨bn, 0, none⟩)] [Ch.row bn [.map (some bm)] 143, Ch.mp bm cy cQ m] [] [] encN1 (fun pre => ∃ rest, (pre ++ rest).Perm (m.map (·.1))) (fun xs => xs.Perm (m.map (·.1))) := by
 refine iterG_of_W 14 Tryz.func178 rfl rfl rfl (fun lr σ I Ix C Sc hy g0 hg0 w0 => ?_)
 refine ao ?_
 refine w_openmp (encK := cy) (encV := cQ) 1 rfl (fun es clk hE => ?_)
 refine ab ?_
 refine ap (bp 1 eE rfl rfl rfl) rfl rfl ?_
 refine o_range 0 rfl Tryz.underlying143 rfl rfl (fun r => ?_)
 refine ae ?_
 refine aj ?_
 refine aP ?_
 refine w_loopL (σ := List Nat × σ) [3, 6, 7, 8, 9, 10, 11, 12, 13] (fun q => q.1.length ≤ m.length ∧ q.1.Nodup ∧ (∀ j ∈ q.1, j < m.length) ∧ I (gB m ((([] : aV), ct) : aV × Hd) q.1) q.2) (fun q => m.length - q.1.length) (fun q => []) (fun q => [Ch.obj r (.mapIter (some bm) clk (dF es q.1) clk), C q.2]) (([], g0)) ?_ trivial rfl (fun q hI => ?_)
 exact ⟨Nat.zero_le _, .nil, nofun, hg0⟩
 obtain ⟨ix, g⟩ := q
 dsimp only at hI ⊢
 refine ao ?_
 refine ab ?_
 refine o_next 0 rfl rfl hE.lt (fun _ => .z) rfl (fun en hen => ?_) (fun h0 => ?_)
 obtain hns := next_key hE hen ((([] : aV), ct) : aV × Hd)
 obtain ⟨i, hi, hin, hib, hik⟩ := hns.2
 rw [hib]
 rw [hik]
 rw [gU]
 refine ap (aI rfl rfl) rfl rfl ?_
 refine bV (t := 7) (.bool true) rfl (congrArg Value.bool rfl) ?_
 refine ae ?_
 refine aj ?_
 refine ao ?_
 refine ay rfl ?_
 refine aH ?_
 refine aj ?_
 refine aP ?_
 refine ao ?_
 refine ab ?_
 refine ap (y_entry (e := en) (sn := dF es ix) 0 0 (by rw [hib, gU]) rfl rfl rfl hns.1 hE.nd) rfl rfl ?_
 refine ap (aI rfl rfl) rfl rfl ?_
 refine bV (t := 9) (.string (ba (m.getD i ((([] : aV), ct) : aV × Hd)).1)) rfl hik ?_
 refine ap (ai rfl) rfl rfl ?_
 refine ae ?_
 refine aj ?_
 refine ao ?_
 refine ab ?_
 refine ap (ak rfl) rfl rfl ?_
 refine ap (ak rfl) rfl rfl ?_
 refine iC rfl rfl (hy _ (m.getD i ((([] : aV), ct) : aV × Hd)).1 g (keys_adm9 hI.2.1 hI.2.2.1 hin hi) hI.2.2.2) (fun _ => (.s (.z))) (fun s hs => .tail _ (List.mem_append_right _ hs)) rfl (fun g' hT => ?_) (fun g' hF => ?_)
 refine ap (bJ rfl) rfl rfl ?_
 refine ae ?_
 refine aj ?_
 refine au rfl ?_
 refine aH ?_
 refine bq ?_
 refine bo ((ix ++ [i], g')) ?_ ?_ trivial (by repeat (first | exact trivial | refine ⟨rfl, ?_⟩)) aw
 exact ⟨by show (ix ++ [i]).length ≤ _; have := ix_lt hI.2.1 hI.2.2.1 hin hi; simp; omega, iM hI.2.1 hin, iK hI.2.2.1 hi, by show I (gB m ((([] : aV), ct) : aV × Hd) (ix ++ [i])) _; rw [keys_snoc]; exact hT⟩
 show m.length - (ix ++ [i]).length < m.length - ix.length
 have := ix_lt hI.2.1 hI.2.2.1 hin hi
 simp; omega
 refine ap (bJ rfl) rfl rfl ?_
 refine ae ?_
 refine aj ?_
 refine ay rfl ?_
 refine aF ?_
 refine aL ?_
 refine bu ?_
 refine aL ?_
 refine aJ (ts := []) rfl rfl rfl (fun w hw => ?_)
 focus first
   | exact eo _ (.inr ⟨_, keys_adm9 hI.2.1 hI.2.2.1 hin hi, hF⟩) (hw.weak (.cons _ (.cons_cons _ .slnil)) (fun s hs => hs))
   | exact eo _ (.inl ⟨_, keys_all hI.2.1 hI.2.2.1 hal, hI.2.2.2⟩) (hw.weak (.cons _ (.cons_cons _ .slnil)) (fun s hs => hs))
   | (trace_state; fail)
 have hal := fun i hi => next_none hE h0 i hi hI.2.2.1
 refine ap (aI rfl rfl) rfl rfl ?_
 refine bV (t := 7) (.bool false) rfl (congrArg Value.bool rfl) ?_
 refine ae ?_
 refine aj ?_
 refine ao ?_
 refine au rfl ?_
 refine bC ?_
 refine aY ?_
 refine aU ?_
 refine a8 ?_
 refine i5 (ts := []) rfl rfl rfl (fun w hw => ?_)
 focus first
   | exact eo _ (.inr ⟨_, keys_adm9 hI.2.1 hI.2.2.1 hin hi, hF⟩) (hw.weak (.cons _ (.cons_cons _ .slnil)) (fun s hs => hs))
   | exact eo _ (.inl ⟨_, keys_all hI.2.1 hI.2.2.1 hal, hI.2.2.2⟩) (hw.weak (.cons _ (.cons_cons _ .slnil)) (fun s hs => hs))
   | (trace_state; fail)

theorem c_MapKey (bm : Nat) : RC Tryz.prog 109 #[.map (some bm)] [] (α := Nat) (fun p => .func (.func 178) #[] #[.pointer (some ⟨p, 0, none⟩)]) (fun p => [Ch.row p [.map (some bm)] 143]) := by
 refine bi (args := [.map (some bm)]) 4 Tryz.func109 rfl rfl rfl (fun w0 => ?_)
 refine ao ?_
 refine ab ?_
 refine bE rfl rfl rfl (fun b1 => ?_)
 refine ap (ai rfl) rfl rfl ?_
 refine ae ?_
 refine aj ?_
 refine ao ?_
 refine ab ?_
 refine ap (ee rfl rfl) rfl rfl ?_
 refine ap (ai rfl) rfl rfl ?_
 refine ae ?_
 refine aj ?_
 refine aF ?_
 refine aJ (ts := [2]) rfl rfl rfl (fun w hw => ?_)
 exact ⟨b1, rfl, hw.base, (hw.weak (.cons_cons _ .slnil) (fun s hs => hs)).toNews⟩

theorem c_AppendSeq_nm (gf : Nat) (lb : List Value) (Sx : List Ch) (Adm Fin : List aV → Prop) (hit : iF Tryz.prog gf lb Sx [] [] encN1 Adm Fin) (hen : Enters Tryz.prog gf) (hb : ∀ pre, Adm pre → pre.length ≤ 1000000) : RC Tryz.prog 177 #[.slice none 0 0, .func (.func gf) #[] lb.toArray] Sx (α := {p : List aV × Option Addr × Nat // Fin p.1}) (fun p => .slice p.1.2.1 p.1.1.length p.1.2.2) (fun p => [Ch.ls p.1.2.1 p.1.2.2 26 1 dw p.1.1]) := by
 refine iH (args := [.slice none 0 0, .func (.func gf) #[] lb.toArray]) 13 Tryz.func177 rfl rfl rfl (fun w0 => ?_)
 refine ao ?_
 refine ab ?_
 refine bE rfl rfl rfl (fun b1 => ?_)
 refine ap (ai rfl) rfl rfl ?_
 refine ae ?_
 refine aj ?_
 refine ao ?_
 refine ao ?_
 refine ab ?_
 refine ap (ak rfl) rfl rfl ?_
 refine ae ?_
 refine aj ?_
 refine aP ?_
 refine cH (fun w h => h.nilsl 26 1) ?_
 refine w_rangeG (σ := List aV × Option Addr × Nat) (fun pre g => g.1 = pre) (fun c pre g => False) (fun g => [Ch.ls g.2.1 g.2.2 26 1 dw g.1, Ch.row b1 [.slice g.2.1 g.1.length g.2.2] 59]) (([], none, 0)) rfl rfl hen (hit) (fun s hs => hs) rfl (fun _ => rfl) (rfl) aw (fun pre e g hxs hI lr D r hr okb wb => ?_) (fun g D0 hI => ?_) (fun c pre g D0 hxs hI => ?_)
 obtain ⟨q, Ax, cx⟩ := g
 dsimp only at hI ⊢
 subst hI
 have hpl := hb _ hxs
 have hpl2 : q.length + 1 ≤ 1000000 := by simpa using hpl
 refine ab ?_
 refine ap (ai rfl) rfl rfl ?_
 refine ae ?_
 refine gW rfl hr .z ?_
 refine aP ?_
 refine ab ?_
 refine ap (aM 3 ty_59 rfl rfl rfl) rfl rfl ?_
 refine ap (ak rfl) rfl rfl ?_
 refine du (vs := [_]) ([e] : List (aV)) dq Tryz.underlying59 bL rfl rfl rfl rfl rfl rfl (fun As2 => ?_)
 refine cg (enc := dw) (sz := 1) [e] Tryz.underlying59 bL rfl rfl rfl (fun A c => (.s (.s (.s (.z))))) (eZ 0 Tryz.underlying59 rfl) (by simp only [List.length_cons, List.length_nil, Nat.zero_add]; omega) (by simp only [List.length_cons, List.length_nil, Nat.zero_add]; omega) rfl (fun A2 c2 => ?_)
 refine aT ty_59 rfl rfl rfl (.s (.s (.s (.s (.z))))) rfl rfl rfl rfl ?_
 refine ae ?_
 refine bq ?_
 refine ib ((q ++ [e], A2, c2)) ?_ (bS 1)
 rfl
 obtain ⟨q, Ax, cx⟩ := g
 obtain ⟨xs, hfx, hI⟩ := hI
 dsimp only at hI ⊢
 subst hI
 refine bq ?_
 refine aj ?_
 refine ao ?_
 refine ab ?_
 refine ap (aM 2 ty_59 rfl rfl rfl) rfl rfl ?_
 refine ap (ai rfl) rfl rfl ?_
 refine ae ?_
 refine aj ?_
 refine aF ?_
 refine gg ?_
 refine fD .z ?_
 refine eN (rs := [.tmp 4]) rfl (cC rfl bR) (fun w hw => ?_)
 exact ⟨⟨(q, Ax, cx), hfx⟩, rfl, hw.base, (hw.weak (.cons _ (.cons_cons _ (.cons _ .slnil))) (fun s hs => hs)).toNews⟩
 exact hI.elim

theorem c_Collect_nm (gf : Nat) (lb : List Value) (Sx : List Ch) (Adm Fin : List aV → Prop) (hit : iF Tryz.prog gf lb Sx [] [] encN1 Adm Fin) (hen : Enters Tryz.prog gf) (hb : ∀ pre, Adm pre → pre.length ≤ 1000000) : RC Tryz.prog 108 #[.func (.func gf) #[] lb.toArray] Sx (α := {p : List aV × Option Addr × Nat // Fin p.1}) (fun p => .slice p.1.2.1 p.1.1.length p.1.2.2) (fun p => [Ch.ls p.1.2.1 p.1.2.2 26 1 dw p.1.1]) := by
 refine bi (args := [.func (.func gf) #[] lb.toArray]) 5 Tryz.func108 rfl rfl rfl (fun w0 => ?_)
 refine ao ?_
 refine ab ?_
 refine ap (ai rfl) rfl rfl ?_
 refine ae ?_
 refine aj ?_
 refine ao ?_
 refine ab ?_
 refine ap (ak rfl) rfl rfl ?_
 refine co rfl ent_177 rfl (c_AppendSeq_nm gf lb Sx Adm Fin hit hen hb) (fun w hw s hs => hw.rdS hs) (fun ⟨⟨q, Ax, cx⟩, hfx⟩ => ?_)
 refine ap (ai rfl) rfl rfl ?_
 refine ae ?_
 refine aj ?_
 refine aF ?_
 refine aJ (ts := [2]) rfl rfl rfl (fun w hw => ?_)
 exact ⟨⟨(q, Ax, cx), hfx⟩, rfl, hw.base, (hw.weak (.cons_cons _ .slnil) (fun s hs => hs)).toNews⟩
end Go.Proofs.YtnpdgmoeoidppaaGreat

/- vips: what is kept, in plain words -/
namespace Go.Proofs.YtnpdgmoeoidppaaGreat
open Go.RowKit Go.Shelf
set_option linter.unusedVariables false
set_option linter.unusedSimpArgs false

def bw (hm : Hm) : Am := hm.map fun p => (p.2.ad, p.1)
structure PInv (hm : Hm) : Prop where
  keys : (hm.map fun p => p.1).Nodup
  ads : (hm.map fun p => p.2.ad).Nodup
  fold : ∀ p ∈ hm, p.1 = a6 p.2.host ∧ bl p.2.host = true
theorem nd_inj {α β : Type} {f : α → β} : ∀ {l : List α}, (l.map f).Nodup → ∀ a ∈ l, ∀ b ∈ l, f a = f b → a = b
  | [], _, a, ha, _, _, _ => by cases ha
  | x :: l, h, a, ha, b, hb, e => by
    rw [List.map_cons, List.nodup_cons] at h
    rcases List.mem_cons.1 ha with e1 | ha2
    · rcases List.mem_cons.1 hb with e2 | hb2
      · rw [e1, e2]
      · exact absurd (List.mem_map.2 ⟨b, hb2, by rw [← e, e1]⟩) h.1
    · rcases List.mem_cons.1 hb with e2 | hb2
      · exact absurd (List.mem_map.2 ⟨a, ha2, by rw [e, e2]⟩) h.1
      · exact nd_inj h.2 a ha2 b hb2 e
theorem nd_snocG {α : Type} {l : List α} {a : α} (hn : l.Nodup) (ha : a ∉ l) : (l ++ [a]).Nodup := by
  rw [List.nodup_append]; exact ⟨hn, by simp, fun x hx b hb e => by rw [List.mem_singleton.1 hb] at e; exact ha (e ▸ hx)⟩
section
variable {α β : Type} [DecidableEq α]
theorem lkp_none_iff {m : List (α × β)} {a : α} : cA m a = none ↔ a ∉ m.map fun p => p.1 := by
  induction m with
  | nil => simp [cA]
  | cons p r ih =>
    obtain ⟨b, u⟩ := p
    rw [cA]
    by_cases e : a = b
    · subst e; simp
    · rw [if_neg e, ih]; simp [e]
theorem i7 {m : List (α × β)} {a : α} {v : β} (h : cA m a = some v) : (a, v) ∈ m := by
  induction m with
  | nil => cases h
  | cons p r ih =>
    obtain ⟨b, u⟩ := p
    rw [cA] at h
    by_cases e : a = b
    · rw [if_pos e] at h; cases h; subst e; exact .head _
    · rw [if_neg e] at h; exact .tail _ (ih h)
theorem fJ {m : List (α × β)} (hn : (m.map fun p => p.1).Nodup) {a : α} {v : β} (h : (a, v) ∈ m) : cA m a = some v := by
  cases hl : cA m a with
  | none => exact absurd (List.mem_map.2 ⟨_, h, rfl⟩) (lkp_none_iff.1 hl)
  | some u =>
    have := nd_inj hn _ (i7 hl) _ h rfl
    cases this; rfl
theorem rmv_filter {m : List (α × β)} (h : (m.map fun p => p.1).Nodup) (a : α) : rmv m a = m.filter fun p => decide (p.1 ≠ a) := by
  induction m with
  | nil => rfl
  | cons p r ih =>
    obtain ⟨b, u⟩ := p
    rw [List.map_cons, List.nodup_cons] at h
    rw [rmv, List.filter_cons]
    by_cases e : a = b
    · subst e
      rw [if_pos rfl, if_neg (by simp)]
      symm
      rw [List.filter_eq_self]
      intro q hq
      exact decide_eq_true fun e => h.1 (List.mem_map.2 ⟨q, hq, e⟩)
    · rw [if_neg e, if_pos (by simp; exact fun h => e h.symm), ih h.2]
theorem lkp_upd14 {m : List (α × β)} {a b : α} {v : β} : cA (upd m a v) b = if b = a then some v else cA m b := by
  induction m with
  | nil => simp only [upd, cA]
  | cons p r ih =>
    obtain ⟨c, u⟩ := p
    rw [upd]
    by_cases e : a = c
    · subst e
      rw [if_pos rfl, cA, cA]
      by_cases e2 : b = a
      · rw [if_pos e2, if_pos e2]
      · rw [if_neg e2, if_neg e2, if_neg e2]
    · rw [if_neg e, cA, cA, ih]
      by_cases e2 : b = c
      · subst e2; rw [if_pos rfl, if_pos rfl, if_neg (fun h => e h.symm)]
      · rw [if_neg e2, if_neg e2]
end
theorem fg (hm : Hm) : ((bw hm).map fun p => p.1) = hm.map fun p => p.2.ad := by rw [bw, List.map_map]; rfl
theorem PInv.filter {hm : Hm} (h : PInv hm) (P : aV × Hd → Bool) : PInv (hm.filter P) :=
  ⟨h.keys.sublist (List.filter_sublist.map _), h.ads.sublist (List.filter_sublist.map _), fun p hp => h.fold p (List.mem_filter.1 hp).1⟩
theorem drop_am {hm : Hm} (h : PInv hm) {key : aV} (hk : (cA hm key).isSome = true) : jd hm (bw hm) key = (hm.filter (fun p => decide (p.1 ≠ key)), bw (hm.filter fun p => decide (p.1 ≠ key))) := by
  obtain ⟨v, hv⟩ := Option.isSome_iff_exists.1 hk
  have hm1 := i7 hv
  have h1 : rmv (bw hm) v.ad = bw (hm.filter fun p => decide (p.1 ≠ key)) := by
    rw [rmv_filter (by rw [fg]; exact h.ads), bw, List.filter_map]
    congr 1
    refine List.filter_congr fun p hp => ?_
    show decide (p.2.ad ≠ v.ad) = decide (p.1 ≠ key)
    rw [decide_eq_decide]
    constructor
    · intro hne e
      have := nd_inj h.keys p hp _ hm1 e
      rw [this] at hne; exact hne rfl
    · intro hne e
      have := nd_inj h.ads p hp _ hm1 e
      rw [this] at hne; exact hne rfl
  rw [jd, hv, rmv_filter h.keys]
  exact Prod.ext rfl h1
def stayM (hosts : List aV) : List (aV × Bool) := hosts.foldl (fun m n => upd m (a6 n) true) []
theorem stay_go (k : aV) : ∀ (hosts : List aV) (m : List (aV × Bool)), (cA (hosts.foldl (fun m n => upd m (a6 n) true) m) k).getD false = ((cA m k).getD false || decide (k ∈ hosts.map a6))
  | [], m => by simp
  | n :: r, m => by
    rw [List.foldl_cons, stay_go k r, lkp_upd14]
    by_cases e : k = a6 n
    · simp [e]
    · rw [if_neg e]; simp [e]
theorem stay_lkp (hosts : List aV) (k : aV) : (cA (stayM hosts) k).getD false = decide (k ∈ hosts.map a6) := by rw [stayM, stay_go]; rfl
theorem stay_snoc (hosts : List aV) (n : aV) : stayM (hosts ++ [n]) = upd (stayM hosts) (a6 n) true := by rw [stayM, List.foldl_append]; rfl
def dP (hm : Hm) (hosts pre : List aV) : Hm := hm.filter fun p => decide (p.1 ∈ hosts.map a6) || decide (p.1 ∉ pre)
def dx (hm : Hm) (hosts : List aV) : Hm := hm.filter fun p => decide (p.1 ∈ hosts.map a6)
theorem keepK_nil (hm : Hm) (hosts : List aV) : dP hm hosts [] = hm := by
  rw [dP, List.filter_eq_self]; intro p _; simp
theorem keepK_all {hm : Hm} {hosts ks : List aV} (h : ∀ p ∈ hm, p.1 ∈ ks) : dP hm hosts ks = dx hm hosts := by
  refine List.filter_congr fun p hp => ?_
  rw [decide_eq_false (fun q : p.1 ∉ ks => q (h p hp)), Bool.or_false]
theorem keepK_stay {hm : Hm} {hosts pre : List aV} {k : aV} (h : k ∈ hosts.map a6) : dP hm hosts (pre ++ [k]) = dP hm hosts pre := by
  refine List.filter_congr fun p _ => ?_
  by_cases e : p.1 = k
  · rw [e, decide_eq_true h]; rfl
  · congr 1
    rw [decide_eq_decide]; simp [e]
theorem keepK_drop {hm : Hm} (hi : PInv hm) {hosts pre : List aV} {k : aV} (h : k ∉ hosts.map a6) (hp : k ∉ pre) (hk : k ∈ hm.map fun p => p.1) : jd (dP hm hosts pre) (bw (dP hm hosts pre)) k = (dP hm hosts (pre ++ [k]), bw (dP hm hosts (pre ++ [k]))) := by
  obtain ⟨p, hpm, rfl⟩ := List.mem_map.1 hk
  have hin : p ∈ dP hm hosts pre := List.mem_filter.2 ⟨hpm, by rw [decide_eq_true hp, Bool.or_true]⟩
  have hinv := hi.filter fun p => decide (p.1 ∈ hosts.map a6) || decide (p.1 ∉ pre)
  have hs := fJ hinv.keys (a := p.1) (v := p.2) hin
  have hd := drop_am hinv (key := p.1) (by show (cA (List.filter _ hm) p.1).isSome = true; rw [hs]; rfl)
  have he : (dP hm hosts pre).filter (fun q => decide (q.1 ≠ p.1)) = dP hm hosts (pre ++ [p.1]) := by
    rw [dP, dP, List.filter_filter]
    refine List.filter_congr fun q _ => ?_
    by_cases e : q.1 = p.1
    · rw [e, decide_eq_false h]; simp
    · simp [e]
  rw [← he]; exact hd
theorem iV {v : Vp} {hm : Hm} (h : PInv hm) (n : aV) : (bK v hm (bw hm) n).2.2 = bw (bK v hm (bw hm) n).2.1 ∧ PInv (bK v hm (bw hm) n).2.1 ∧ (bK v hm (bw hm) n).2.1.length ≤ hm.length + 1 := by
  by_cases h1 : bl n = false
  · rw [cM h1]; exact ⟨rfl, h, Nat.le_succ _⟩
  · have h1 : bl n = true := by simpa using h1
    by_cases h2 : (cA hm (a6 n)).isSome = true
    · rw [cF h1 h2]; exact ⟨rfl, h, Nat.le_succ _⟩
    · have h2 : (cA hm (a6 n)).isSome = false := by simpa using h2
      by_cases h3 : v.room - hm.length = 0
      · rw [cS h1 h2 h3]; exact ⟨rfl, h, Nat.le_succ _⟩
      · rw [cp h1 h2 h3 rfl]
        cases hg : bO v (bw hm) n with
        | none => exact ⟨rfl, h, Nat.le_succ _⟩
        | some i =>
          have hf := List.find?_some hg
          have hno := lkp_none_iff.1 (ir hf)
          have hnk := lkp_none_iff.1 (gv h2)
          rw [fg] at hno
          refine ⟨by simp [bw, amO, hmO], ⟨?_, ?_, ?_⟩, by simp [hmO]⟩
          · simp only [hmO, List.map_append, List.map_cons, List.map_nil]
            exact nd_snocG h.keys hnk
          · simp only [hmO, List.map_append, List.map_cons, List.map_nil]
            exact nd_snocG h.ads hno
          · intro p hp
            rcases List.mem_append.1 hp with hp | hp
            · exact h.fold p hp
            · rw [List.mem_singleton.1 hp]; exact ⟨rfl, h1⟩
def fI (v : Vp) (s : Hm × List aV) (n : aV) : Hm × List aV := ((bK v s.1 (bw s.1) n).2.1, if (bK v s.1 (bw s.1) n).1.2 ≠ 0 ∧ a6 n ∉ s.2.map a6 then s.2 ++ [n] else s.2)
def ew (v : Vp) (hm : Hm) (hosts : List aV) : Hm × List aV := hosts.foldl (fI v) (hm, [])
theorem eO (v : Vp) (hm : Hm) (hosts : List aV) (n : aV) : ew v hm (hosts ++ [n]) = fI v (ew v hm hosts) n := by rw [ew, List.foldl_append]; rfl
def cZ (v : Vp) (hm : Hm) (hosts : List aV) : (List aV × Int) × Hm := if hosts.all bl = false then (([], 2), hm) else (((ew v (dx hm hosts) hosts).2, 0), (ew v (dx hm hosts) hosts).1)

end Go.Proofs.YtnpdgmoeoidppaaGreat
