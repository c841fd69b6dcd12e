import Derived.Test.YtnpdgmoeoidppaaGreatVcQe
import Derived.Test.YtnpdgmoeoidppaaGreatLuQe
/- vips: what is held, gone through and sorted -/
namespace Go.Proofs.YtnpdgmoeoidppaaGreat
open Go.RowKit Go.Shelf
set_option linter.unusedVariables false
set_option linter.unusedSimpArgs false

theorem ent_100 : Enters Tryz.prog 100 := enters_of Tryz.func100 (by kernel_rfl) rfl
theorem ent_101 : Enters Tryz.prog 101 := enters_of Tryz.func101 (by kernel_rfl) rfl
theorem ent_103 : Enters Tryz.prog 103 := enters_of Tryz.func103 (by kernel_rfl) rfl
theorem ent_169 : Enters Tryz.prog 169 := enters_of Tryz.func169 (by kernel_rfl) rfl
theorem ent_170 : Enters Tryz.prog 170 := enters_of Tryz.func170 (by kernel_rfl) rfl
theorem ent_172 : Enters Tryz.prog 172 := enters_of Tryz.func172 (by kernel_rfl) rfl
theorem ent_174 : Enters Tryz.prog 174 := enters_of Tryz.func174 (by kernel_rfl) rfl
theorem ent_175 : Enters Tryz.prog 175 := enters_of Tryz.func175 (by kernel_rfl) rfl
theorem ent_216 : Enters Tryz.prog 216 := enters_of Tryz.func216 (by kernel_rfl) rfl
theorem ent_219 : Enters Tryz.prog 219 := enters_of Tryz.func219 (by kernel_rfl) rfl
theorem ty_25 : TyI Tryz.prog 25 false 1 24 (.slice none 0 0) := TyI.mk' (by kernel_rfl) (fun _ => by kernel_rfl)

def kdA (a : Ad) : Int := if a.six = true then 1 else 0
def orJ : List Int → Int
  | [] => 0
  | x :: r => if x ≠ 0 then x else orJ r
def eP (a b : Ad) : Int := orJ [cM (kdA a) (kdA b), cM a.hi b.hi, cM a.lo b.lo]
theorem cmpI_neg (a b : Int) : cM a b < 0 ↔ a < b := by
  unfold cM
  split
  · omega
  · split <;> omega
theorem cmpI_zero (a b : Int) : cM a b = 0 ↔ a = b := by
  unfold cM
  split
  · omega
  · split <;> omega
theorem fX (a b : Ad) : eP a b < 0 ↔ kdA a < kdA b ∨ (kdA a = kdA b ∧ (a.hi < b.hi ∨ (a.hi = b.hi ∧ a.lo < b.lo))) := by
  have h1 := cmpI_neg (kdA a) (kdA b); have h2 := cmpI_neg a.hi b.hi; have h3 := cmpI_neg a.lo b.lo
  have g1 := cmpI_zero (kdA a) (kdA b); have g2 := cmpI_zero a.hi b.hi; have g3 := cmpI_zero a.lo b.lo
  simp only [eP, orJ]
  by_cases c1 : cM (kdA a) (kdA b) = 0
  · rw [if_neg (fun q => q c1)]
    by_cases c2 : cM a.hi b.hi = 0
    · rw [if_neg (fun q => q c2)]
      by_cases c3 : cM a.lo b.lo = 0
      · rw [if_neg (fun q => q c3)]; omega
      · rw [if_pos c3]; omega
    · rw [if_pos c2]; omega
  · rw [if_pos c1]; omega
instance : Inhabited {x : Hd // True} := ⟨⟨fV, trivial⟩⟩
theorem swo_hd : Go.Sort.SWO (α := {x : Hd // True}) (Go.Proofs.ltOf fun x y : {x : Hd // True} => eP x.1.ad y.1.ad) where
  irrefl x := by simp only [ltOf, decide_eq_false_iff_not, fX]; omega
  trans x y z h1 h2 := by simp only [ltOf, decide_eq_true_eq, fX] at *; omega
  ntrans x y z h1 h2 := by simp only [ltOf, decide_eq_false_iff_not, fX] at *; omega
def encHd1 (h : Hd) : List Value := [.agg (hdC h).toArray]
def encN1 (s : aK) : List Value := [.string (ba s)]
theorem next_key {α β : Type} {encK : α → Value} {encV : β → Value} {m : List (α × β)} {es : Array MapEntry} {clk : Nat} (h : MpE encK encV m es clk) {ix : List Nat} {e : MapEntry} (he : e ∈ (leftOf es (cI es ix)).toList) (d0 : α × β) : e ∈ es.toList ∧ ∃ i, i < m.length ∧ i ∉ ix ∧ e.born = dW es i ∧ e.key = encK (m.getD i d0).1 := by
  have h1 : e ∈ es.toList ∧ e.born ∉ ix.map (dW es) := by
    have : e ∈ leftOf es (cI es ix) := by simpa using he
    unfold leftOf cI at this
    rw [Array.mem_filter] at this
    exact ⟨by simpa using this.1, by simpa using this.2⟩
  refine ⟨h1.1, ?_⟩
  obtain ⟨i, hi, hie⟩ := List.mem_iff_getElem.1 h1.1
  have hi2 : i < m.length := by rw [← h.len]; exact hi
  have hb : dW es i = e.born := bornAt_eq (by rw [List.getElem?_eq_getElem hi, hie])
  refine ⟨i, hi2, fun hx => h1.2 (List.mem_map.2 ⟨i, hx, hb⟩), hb.symm, ?_⟩
  have hv := congrArg (fun q : List Value => q[i]?) h.key
  simp only [List.getElem?_map] at hv
  rw [List.getElem?_eq_getElem hi, List.getElem?_eq_getElem hi2, hie] at hv
  rw [List.getD_eq_getElem?_getD, List.getElem?_eq_getElem hi2]
  exact Option.some.inj hv
def eO {α β : Type} (m : List (α × β)) (d0 : α × β) (ix : List Nat) : List α := ix.map fun i => (m.getD i d0).1
theorem keys_vals {α β : Type} (m : List (α × β)) (d0 : α × β) (ix : List Nat) : eO m d0 ix = dB (m.map fun p => (p.2, p.1)) (d0.2, d0.1) ix := by
  unfold eO dB
  refine List.map_congr_left fun i _ => ?_
  rw [List.getD_eq_getElem?_getD, List.getD_eq_getElem?_getD, List.getElem?_map]
  cases m[i]? <;> rfl
theorem keys_all {α β : Type} {m : List (α × β)} {d0 : α × β} {ix : List Nat} (hn : ix.Nodup) (hx : ∀ j ∈ ix, j < m.length) (ha : ∀ i, i < m.length → i ∈ ix) : (eO m d0 ix).Perm (m.map (·.1)) := by
  rw [keys_vals]
  have := vals_all (m := m.map fun p => (p.2, p.1)) (d0 := (d0.2, d0.1)) hn (by simpa using hx) (by simpa using ha)
  rw [List.map_map] at this; exact this
theorem keys_snoc {α β : Type} {m : List (α × β)} {d0 : α × β} {ix : List Nat} {i : Nat} : eO m d0 (ix ++ [i]) = eO m d0 ix ++ [(m.getD i d0).1] := by simp [eO]

theorem c_isNaNu (n : Int) : Pure Tryz.prog 219 #[.int .u64 n] (.bool false) := by
 intro w0
 refine aZ (ok0 := no) (S := []) (args := [.int .u64 n]) 6 Tryz.func219 rfl rfl rfl (by simp) (by simp) ?_
 refine ao ?_
 refine aa ?_
 refine ap (ai rfl) rfl rfl ?_
 refine ab ?_
 refine aj ?_
 refine ao ?_
 refine aa ?_
 refine ap (ak rfl) rfl rfl ?_
 refine ap (ak rfl) rfl rfl ?_
 refine ap (b8 rfl rfl) rfl rfl ?_
 refine ap (ai rfl) rfl rfl ?_
 refine ab ?_
 refine aj ?_
 refine aB ?_
 refine aG (ts := [2]) rfl rfl rfl (fun w hw => ?_)
 exact ⟨by show Ending.returned (.bool _) = _; congr 2; simp, hw.base⟩

theorem c_cmpU (a b : Int) : Pure Tryz.prog 175 #[.int .u64 a, .int .u64 b] (.int .i64 (cM a b)) := by
 intro w0
 refine aZ (ok0 := no) (S := []) (args := [.int .u64 a, .int .u64 b]) 20 Tryz.func175 rfl rfl rfl (by simp) (by simp) ?_
 refine ao ?_
 refine aa ?_
 refine ap (ai rfl) rfl rfl ?_
 refine ab ?_
 refine aj ?_
 refine ao ?_
 refine aa ?_
 refine ap (ak rfl) rfl rfl ?_
 refine aU rfl ent_219 (c_isNaNu _) rfl ?_
 refine bT (t := 8) (.bool false) rfl (congrArg Value.bool rfl) ?_
 refine ap (ai rfl) rfl rfl ?_
 refine ab ?_
 refine aj ?_
 refine ao ?_
 refine aa ?_
 refine ap (ak rfl) rfl rfl ?_
 refine aU rfl ent_219 (c_isNaNu _) rfl ?_
 refine bT (t := 10) (.bool false) rfl (congrArg Value.bool rfl) ?_
 refine ap (ai rfl) rfl rfl ?_
 refine ab ?_
 refine aj ?_
 refine ao ?_
 refine ao ?_
 refine aa ?_
 refine ap (ak rfl) rfl rfl ?_
 refine ab ?_
 refine aj ?_
 refine au rfl ?_
 refine aF ?_
 refine aj ?_
 refine ao ?_
 refine ao ?_
 refine aa ?_
 refine ap (ak rfl) rfl rfl ?_
 refine ab ?_
 refine aj ?_
 refine au rfl ?_
 refine aF ?_
 refine aj ?_
 refine ao ?_
 refine ao ?_
 refine aa ?_
 refine ap (ak rfl) rfl rfl ?_
 refine ap (ak rfl) rfl rfl ?_
 refine ap (ce rfl rfl) rfl rfl ?_
 refine aC (t := 16) rfl (fun h9_2 => ?_) (fun h9_2 => ?_)
 refine ab ?_
 refine aj ?_
 refine ax rfl ?_
 refine ao ?_
 refine aa ?_
 refine ap (ai rfl) rfl rfl ?_
 refine ab ?_
 refine aj ?_
 refine aB ?_
 refine aw ?_
 refine aG (ts := [4]) rfl rfl rfl (fun w hw => ?_)
 refine ⟨?_, hw.base⟩
 show Ending.returned (.int _ _) = _
 congr 2
 focus first
   | (rw [cM, if_pos h9_2]
      done)
   | (rw [cM, if_neg h9_2, if_pos (by omega)]
      done)
   | (rw [cM, if_neg h9_2, if_neg (by omega)]
      done)
 refine ab ?_
 refine aj ?_
 refine au rfl ?_
 refine aF ?_
 refine aj ?_
 refine ao ?_
 refine ao ?_
 refine aa ?_
 refine ap (ak rfl) rfl rfl ?_
 refine ap (ak rfl) rfl rfl ?_
 refine ap (eA rfl rfl) rfl rfl ?_
 refine aC (t := 19) rfl (fun h11_2 => ?_) (fun h11_2 => ?_)
 refine ab ?_
 refine aj ?_
 refine ax rfl ?_
 refine ao ?_
 refine aa ?_
 refine ap (ai rfl) rfl rfl ?_
 refine ab ?_
 refine aj ?_
 refine aB ?_
 refine aw ?_
 refine aG (ts := [4]) rfl rfl rfl (fun w hw => ?_)
 refine ⟨?_, hw.base⟩
 show Ending.returned (.int _ _) = _
 congr 2
 focus first
   | (rw [cM, if_pos h9_2]
      done)
   | (rw [cM, if_neg h9_2, if_pos (by omega)]
      done)
   | (rw [cM, if_neg h9_2, if_neg (by omega)]
      done)
 refine ab ?_
 refine aj ?_
 refine au rfl ?_
 refine aF ?_
 refine aj ?_
 refine ao ?_
 refine aa ?_
 refine ap (ai rfl) rfl rfl ?_
 refine ab ?_
 refine aj ?_
 refine aB ?_
 refine aG (ts := [4]) rfl rfl rfl (fun w hw => ?_)
 refine ⟨?_, hw.base⟩
 show Ending.returned (.int _ _) = _
 congr 2
 focus first
   | (rw [cM, if_pos h9_2]
      done)
   | (rw [cM, if_neg h9_2, if_pos (by omega)]
      done)
   | (rw [cM, if_neg h9_2, if_neg (by omega)]
      done)

theorem c_kind (a : Ad) : Pure Tryz.prog 174 #[.agg (dP a).toArray] (.int .i64 (kdA a)) := by
 intro w0
 refine aZ (ok0 := no) (S := []) (args := [.agg (dP a).toArray]) 5 Tryz.func174 rfl rfl rfl (by simp) (by simp) ?_
 refine ao ?_
 refine aa ?_
 refine bu rfl rfl rfl (fun b1 => ?_)
 refine ap (ai rfl) rfl rfl ?_
 refine ab ?_
 refine aj ?_
 refine ao ?_
 refine ao ?_
 refine aa ?_
 refine ap (aA de rfl) rfl rfl ?_
 refine ap (aH 0 ty_4 rfl rfl rfl) rfl rfl ?_
 refine bh (t := 4) rfl (fun h1_1 => ?_) (fun h1_1 => ?_)
 refine ab ?_
 refine aj ?_
 refine ax rfl ?_
 refine ao ?_
 refine aa ?_
 refine ap (ai rfl) rfl rfl ?_
 refine ab ?_
 refine aj ?_
 refine aB ?_
 refine aw ?_
 refine aG (ts := [2]) rfl rfl rfl (fun w hw => ?_)
 refine ⟨?_, hw.base⟩
 show Ending.returned (.int _ _) = _
 congr 2
 focus first
   | (rw [kdA, if_pos h1_1]
      done)
   | (rw [kdA, if_neg (by rw [h1_1]; decide)]
      done)
 refine ab ?_
 refine aj ?_
 refine au rfl ?_
 refine aF ?_
 refine aj ?_
 refine ao ?_
 refine aa ?_
 refine ap (ai rfl) rfl rfl ?_
 refine ab ?_
 refine aj ?_
 refine aB ?_
 refine aG (ts := [2]) rfl rfl rfl (fun w hw => ?_)
 refine ⟨?_, hw.base⟩
 show Ending.returned (.int _ _) = _
 congr 2
 focus first
   | (rw [kdA, if_pos h1_1]
      done)
   | (rw [kdA, if_neg (by rw [h1_1]; decide)]
      done)

theorem c_OrV (l : List Int) (A : Option Addr) (c : Nat) (hl : l.length ≤ 1000000) : RC Tryz.prog 172 #[.slice A l.length c] [Ch.rd A 1 enci l] (α := Unit) (fun _ => .int .i64 (orJ l)) (fun _ => []) := by
 refine bd (args := [.slice A l.length c]) 18 Tryz.func172 rfl rfl rfl (fun w0 => ?_)
 refine ao ?_
 refine aa ?_
 refine ap (ai rfl) rfl rfl ?_
 refine ab ?_
 refine aj ?_
 refine ao ?_
 refine aa ?_
 refine ap (ai rfl) rfl rfl ?_
 refine ab ?_
 refine aj ?_
 refine ao ?_
 refine ao ?_
 refine aa ?_
 refine ap (ak rfl) rfl rfl ?_
 refine ap (bL Tryz.underlying31 rfl) rfl rfl ?_
 refine ap (ak rfl) rfl rfl ?_
 refine ab ?_
 refine aj ?_
 refine aP ?_
 refine cQ (σ := Nat) [2, 5, 8, 9, 10, 11, 12, 13, 14, 15, 16] (fun k => k ≤ l.length ∧ orJ l = orJ (l.drop k)) (fun k => l.length - k) (fun k => [(8, .int .i64 k)]) (0) ?_ ⟨rfl, trivial⟩ (fun k hI => ?_)
 exact ⟨Nat.zero_le _, rfl⟩
 refine ao ?_
 refine aa ?_
 refine ap (ce rfl rfl) rfl rfl ?_
 refine aC (t := 9) rfl (fun h3_0 => ?_) (fun h3_0 => ?_)
 have hdk := ew l (0 : Int) k (by omega)
 refine ab ?_
 refine aj ?_
 refine ao ?_
 refine ax rfl ?_
 refine aF ?_
 refine aj ?_
 refine ao ?_
 refine aP ?_
 refine ao ?_
 refine aa ?_
 refine ap (cB  Tryz.underlying31 dY rfl rfl (cF 0 rfl) rfl (by omega)) rfl rfl ?_
 refine ap (c6 enc_i (0 : Int) dY rfl (cF 0 rfl) (by omega) rfl rfl) rfl rfl ?_
 refine ap (ai rfl) rfl rfl ?_
 refine ab ?_
 refine aj ?_
 refine ao ?_
 refine aa ?_
 refine ap (ak rfl) rfl rfl ?_
 refine ap (ak rfl) rfl rfl ?_
 refine ap (b8 rfl rfl) rfl rfl ?_
 refine aC (t := 14) rfl (fun h5_2 => ?_) (fun h5_2 => ?_)
 refine ab ?_
 refine aj ?_
 refine ax rfl ?_
 refine ao ?_
 refine aa ?_
 refine ap (ak rfl) rfl rfl ?_
 refine ap (ai rfl) rfl rfl ?_
 refine ab ?_
 refine aj ?_
 refine aB ?_
 refine aM ?_
 refine aw ?_
 refine bk ?_
 refine aM ?_
 refine aw ?_
 refine aG (ts := [2]) rfl rfl rfl (fun w hw => ?_)
 have he : orJ l = l.getD k 0 := by rw [hI.2, hdk, orJ, if_pos (by omega)]
 exact ⟨(), by rw [he]; rfl, hw.base, (hw.weak (List.nil_sublist _) (fun s hs => hs)).toNews⟩
 refine ab ?_
 refine aj ?_
 refine au rfl ?_
 refine aF ?_
 refine bw ?_
 refine aj ?_
 refine aa ?_
 refine ap (bF rfl rfl (by omega) (by omega)) rfl rfl ?_
 refine ap (ak rfl) rfl rfl ?_
 refine ab ?_
 refine bH (k + 1) ?_ ?_ ⟨rfl, trivial⟩ (by repeat (first | exact trivial | refine ⟨rfl, ?_⟩)) av
 exact ⟨by omega, by rw [hI.2, hdk, orJ, if_neg (by omega)]⟩
 omega
 refine ab ?_
 refine aj ?_
 refine ao ?_
 refine au rfl ?_
 refine bP ?_
 refine bb ?_
 refine a6 ?_
 refine bc ?_
 refine aj ?_
 refine ao ?_
 refine aa ?_
 refine ap (ak rfl) rfl rfl ?_
 refine ap (ai rfl) rfl rfl ?_
 refine ab ?_
 refine aj ?_
 refine aB ?_
 refine aG (ts := [2]) rfl rfl rfl (fun w hw => ?_)
 have he : orJ l = 0 := by rw [hI.2, List.drop_of_length_le (by omega)]; rfl
 exact ⟨(), by rw [he]; rfl, hw.base, (hw.weak (List.nil_sublist _) (fun s hs => hs)).toNews⟩

set_option maxRecDepth 100000 in
theorem c_addr_Compare (a b : Ad) : Pure Tryz.prog 103 #[.agg (dP a).toArray, .agg (dP b).toArray] (.int .i64 (eP a b)) := by
 intro w0
 refine aZ (ok0 := no) (S := []) (args := [.agg (dP a).toArray, .agg (dP b).toArray]) 22 Tryz.func103 rfl rfl rfl (by simp) (by simp) ?_
 refine ao ?_
 refine aa ?_
 refine bu rfl rfl rfl (fun b1 => ?_)
 refine bu rfl rfl rfl (fun b2 => ?_)
 refine ap (ai rfl) rfl rfl ?_
 refine ab ?_
 refine aj ?_
 refine ao ?_
 refine dC 18 rfl mixed ?_
 refine ar (i := 0) rfl ah (aJ 1 aQ rfl rfl rfl rfl) av av rfl (ae aq) (by kernel_rfl) rfl ?_
 refine ar (i := 2) rfl ah (aJ 0 aQ rfl rfl rfl rfl) av av rfl (ae aq) (by kernel_rfl) rfl ?_
 refine ar (i := 5) rfl ah (aA dE rfl) av av rfl (ae aq) (by kernel_rfl) rfl ?_
 refine ar (i := 6) rfl ah (aH 1 cV rfl rfl rfl) av av rfl (ae aq) (by kernel_rfl) rfl ?_
 refine ar (i := 7) rfl ah (aA dE rfl) av av rfl (ae aq) (by kernel_rfl) rfl ?_
 refine ar (i := 8) rfl ah (aH 0 cV rfl rfl rfl) av av rfl (ae aq) (by kernel_rfl) rfl ?_
 refine ar (i := 10) rfl ah (aA dq rfl) av av rfl (ae aq) (by kernel_rfl) rfl ?_
 refine ar (i := 11) rfl ah (aH 1 cV rfl rfl rfl) av av rfl (ae aq) (by kernel_rfl) rfl ?_
 refine ar (i := 12) rfl ah (aA dq rfl) av av rfl (ae aq) (by kernel_rfl) rfl ?_
 refine ar (i := 13) rfl ah (aH 0 cV rfl rfl rfl) av av rfl (ae aq) (by kernel_rfl) rfl ?_
 refine cK (i := 1) rfl rfl rfl (bg rfl ent_174) (by kernel_rfl) rfl ?_
 refine aU rfl ent_174 (c_kind _) rfl ?_
 refine ab ?_
 refine cW av ?_
 refine cK (i := 3) rfl rfl rfl (bg rfl ent_174) (by kernel_rfl) rfl ?_
 refine aU rfl ent_174 (c_kind _) rfl ?_
 refine ab ?_
 refine cW av ?_
 refine cK (i := 4) rfl rfl rfl (bg rfl ent_173) (by kernel_rfl) rfl ?_
 refine aU rfl ent_173 (c_cmpI _ _) rfl ?_
 refine ab ?_
 refine cW av ?_
 refine cK (i := 9) rfl rfl rfl (bg rfl ent_175) (by kernel_rfl) rfl ?_
 refine aU rfl ent_175 (c_cmpU _ _) rfl ?_
 refine ab ?_
 refine cW av ?_
 refine cK (i := 14) rfl rfl rfl (bg rfl ent_175) (by kernel_rfl) rfl ?_
 refine aU rfl ent_175 (c_cmpU _ _) rfl ?_
 refine ab ?_
 refine cW av ?_
 refine cK (i := 15) rfl rfl rfl (fun _ _ _ => bz (by kernel_rfl)) (by kernel_rfl) rfl ?_
 refine f9 (vs := [_, _, _]) ([cM (kdA a) (kdA b), cM a.hi b.hi, cM a.lo b.lo] : List (Int)) enc_i Tryz.underlying31 dY rfl rfl rfl rfl rfl rfl (fun As3 => ?_)
 refine ab ?_
 refine cW (cE 1) ?_
 refine cK (i := 16) rfl rfl rfl (bg rfl ent_172) (by kernel_rfl) rfl ?_
 refine bi rfl ent_172 rfl (c_OrV [cM (kdA a) (kdA b), cM a.hi b.hi, cM a.lo b.lo] _ _ (by simp)) (fun w hw => (aI (d5 0 rfl hw) a8)) ?_
 refine ab ?_
 refine cW (cE 1) ?_
 refine ar (i := 17) rfl ah (ai rfl) (cE 1) av rfl (ae aq) (by kernel_rfl) rfl ?_
 refine bU (by kernel_rfl) ?_
 refine aj ?_
 refine aB ?_
 refine aG (ts := [4]) rfl rfl rfl (fun w hw => ?_)
 exact ⟨rfl, hw.base⟩

theorem c_vAll1 (a b : Hd) : Pure Tryz.prog 102 #[.agg (hdC a).toArray, .agg (hdC b).toArray] (.int .i64 (eP a.ad b.ad)) := by
 intro w0
 refine aZ (ok0 := no) (S := []) (args := [.agg (hdC a).toArray, .agg (hdC b).toArray]) 10 Tryz.func102 rfl rfl rfl (by simp) (by simp) ?_
 refine ao ?_
 refine aa ?_
 refine bu rfl rfl rfl (fun b1 => ?_)
 refine bu rfl rfl rfl (fun b2 => ?_)
 refine ap (ai rfl) rfl rfl ?_
 refine ab ?_
 refine aj ?_
 refine ao ?_
 refine aa ?_
 refine ap (aA fa_46_1 rfl) rfl rfl ?_
 refine ap (aJ 1 aQ rfl rfl rfl rfl) rfl rfl ?_
 refine ap (aA fa_46_1 rfl) rfl rfl ?_
 refine ap (aJ 0 aQ rfl rfl rfl rfl) rfl rfl ?_
 refine aU rfl ent_103 (c_addr_Compare a.ad b.ad) rfl ?_
 refine ap (ai rfl) rfl rfl ?_
 refine ab ?_
 refine aj ?_
 refine aB ?_
 refine aG (ts := [4]) rfl rfl rfl (fun w hw => ?_)
 exact ⟨rfl, hw.base⟩

theorem vals_snoc {α β : Type} {m : List (α × β)} {d0 : α × β} {ix : List Nat} {i : Nat} : dB m d0 (ix ++ [i]) = dB m d0 ix ++ [(m.getD i d0).2] := by simp [dB]
theorem ga {ix : List Nat} {i : Nat} (hn : ix.Nodup) (hi : i ∉ ix) : (ix ++ [i]).Nodup := by
  rw [List.nodup_append]; exact ⟨hn, by simp, fun a ha b hb e => by rw [List.mem_singleton.1 hb] at e; exact hi (e ▸ ha)⟩
theorem gy {ix : List Nat} {i n : Nat} (hx : ∀ j ∈ ix, j < n) (hi : i < n) : ∀ j ∈ ix ++ [i], j < n := fun j hj => (List.mem_append.1 hj).elim (hx j) (fun h => by rw [List.mem_singleton.1 h]; exact hi)
theorem ix_lt {ix : List Nat} {i n : Nat} (hn : ix.Nodup) (hx : ∀ j ∈ ix, j < n) (hin : i ∉ ix) (hi : i < n) : ix.length < n := by
  have := ix_len_le (ga hn hin) (gy hx hi); simp at this; omega
theorem vals_adm9 {α β : Type} {m : List (α × β)} {d0 : α × β} {ix : List Nat} {i : Nat} (hn : ix.Nodup) (hx : ∀ j ∈ ix, j < m.length) (hin : i ∉ ix) (hi : i < m.length) : ∃ rest, ((dB m d0 ix ++ [(m.getD i d0).2]) ++ rest).Perm (m.map (·.2)) := by
  rw [← vals_snoc]; exact vals_adm (ga hn hin) (gy hx hi)

theorem c_MapVal1 (m : List (aK × Hd)) (bm bn : Nat) : gt Tryz.prog 171 [.pointer (some ⟨bn, 0, none⟩)] [Ch.row bn [.map (some bm)] 143, Ch.mp bm bM ck m] [] [] encHd1 (fun pre => ∃ rest, (pre ++ rest).Perm (m.map (·.2))) (fun xs => xs.Perm (m.map (·.2))) := by
 refine iterG_of_W 15 Tryz.func171 rfl rfl rfl (fun lr σ I Ix C Sc hy g0 hg0 w0 => ?_)
 refine ao ?_
 refine w_openmp (encK := bM) (encV := ck) 1 rfl (fun es clk hE => ?_)
 refine aa ?_
 refine ap (bo 1 dJ rfl rfl rfl) rfl rfl ?_
 refine o_range 0 rfl Tryz.underlying143 rfl rfl (fun r => ?_)
 refine ab ?_
 refine aj ?_
 refine aP ?_
 refine w_loopL (σ := List Nat × σ) [4, 7, 8, 9, 10, 11, 12, 13, 14] (fun q => q.1.length ≤ m.length ∧ q.1.Nodup ∧ (∀ j ∈ q.1, j < m.length) ∧ I (dB m ((([] : aK), fV) : aK × Hd) q.1) q.2) (fun q => m.length - q.1.length) (fun q => []) (fun q => [Ch.obj r (.mapIter (some bm) clk (cI es q.1) clk), C q.2]) (([], g0)) ?_ trivial rfl (fun q hI => ?_)
 exact ⟨Nat.zero_le _, .nil, nofun, hg0⟩
 obtain ⟨ix, g⟩ := q
 dsimp only at hI ⊢
 refine ao ?_
 refine aa ?_
 refine o_next 0 rfl rfl hE.lt (fun _ => .z) rfl (fun en hen => ?_) (fun h0 => ?_)
 obtain hns := next_some hE hen ((([] : aK), fV) : aK × Hd)
 obtain ⟨i, hi, hin, hib, hiv⟩ := hns.2
 rw [hib]
 rw [hiv]
 rw [fy]
 refine ap (aD rfl rfl) rfl rfl ?_
 refine bT (t := 8) (.bool true) rfl (congrArg Value.bool rfl) ?_
 refine ab ?_
 refine aj ?_
 refine ao ?_
 refine ax rfl ?_
 refine aF ?_
 refine aj ?_
 refine aP ?_
 refine ao ?_
 refine aa ?_
 refine ap (y_entry (e := en) (sn := cI es ix) 0 0 (by rw [hib, fy]) rfl rfl rfl hns.1 hE.nd) rfl rfl ?_
 refine ap (aD rfl rfl) rfl rfl ?_
 refine bT (t := 10) (.agg (hdC (m.getD i ((([] : aK), fV) : aK × Hd)).2).toArray) rfl hiv ?_
 refine bx cp rfl rfl (fun b1 => ?_)
 refine aS cp rfl rfl rfl .z rfl rfl rfl rfl ?_
 refine ab ?_
 refine aj ?_
 refine ao ?_
 refine aa ?_
 refine ap (ak rfl) rfl rfl ?_
 refine ap (aJ 0 cp rfl rfl rfl rfl) rfl rfl ?_
 refine gr rfl rfl (hy _ (m.getD i ((([] : aK), fV) : aK × Hd)).2 g (vals_adm9 hI.2.1 hI.2.2.1 hin hi) hI.2.2.2) (fun _ => (.s (.s (.z)))) (fun s hs => .tail _ (List.mem_append_right _ hs)) rfl (fun g' hT => ?_) (fun g' hF => ?_)
 refine ap (bB rfl) rfl rfl ?_
 refine ab ?_
 refine aj ?_
 refine au rfl ?_
 refine aF ?_
 refine bw ?_
 refine bH ((ix ++ [i], g')) ?_ ?_ trivial (by repeat (first | exact trivial | refine ⟨rfl, ?_⟩)) (cE 1)
 exact ⟨by show (ix ++ [i]).length ≤ _; have := ix_lt hI.2.1 hI.2.2.1 hin hi; simp; omega, ga hI.2.1 hin, gy hI.2.2.1 hi, by show I (dB m ((([] : aK), fV) : aK × Hd) (ix ++ [i])) _; rw [vals_snoc]; exact hT⟩
 show m.length - (ix ++ [i]).length < m.length - ix.length
 have := ix_lt hI.2.1 hI.2.2.1 hin hi
 simp; omega
 refine ap (bB rfl) rfl rfl ?_
 refine ab ?_
 refine aj ?_
 refine ax rfl ?_
 refine aB ?_
 refine aM ?_
 refine bk ?_
 refine aM ?_
 refine aG (ts := []) rfl rfl rfl (fun w hw => ?_)
 focus first
   | exact db _ (.inr ⟨_, vals_adm9 hI.2.1 hI.2.2.1 hin hi, hF⟩) (hw.weak (.cons _ (.cons _ (.cons_cons _ .slnil))) (fun s hs => hs))
   | exact db _ (.inl ⟨_, vals_all hI.2.1 hI.2.2.1 hal, hI.2.2.2⟩) (hw.weak (.cons _ (.cons _ (.cons_cons _ .slnil))) (fun s hs => hs))
   | (trace_state; fail)
 have hal := fun i hi => next_none hE h0 i hi hI.2.2.1
 refine ap (aD rfl rfl) rfl rfl ?_
 refine bT (t := 8) (.bool false) rfl (congrArg Value.bool rfl) ?_
 refine ab ?_
 refine aj ?_
 refine ao ?_
 refine au rfl ?_
 refine bP ?_
 refine bb ?_
 refine a6 ?_
 refine bc ?_
 refine fY (ts := []) rfl rfl rfl (fun w hw => ?_)
 focus first
   | exact db _ (.inr ⟨_, vals_adm9 hI.2.1 hI.2.2.1 hin hi, hF⟩) (hw.weak (.cons _ (.cons_cons _ .slnil)) (fun s hs => hs))
   | exact db _ (.inl ⟨_, vals_all hI.2.1 hI.2.2.1 hal, hI.2.2.2⟩) (hw.weak (.cons _ (.cons_cons _ .slnil)) (fun s hs => hs))
   | (trace_state; fail)

theorem c_MapVal (bm : Nat) : RC Tryz.prog 101 #[.map (some bm)] [] (α := Nat) (fun p => .func (.func 171) #[] #[.pointer (some ⟨p, 0, none⟩)]) (fun p => [Ch.row p [.map (some bm)] 143]) := by
 refine bd (args := [.map (some bm)]) 4 Tryz.func101 rfl rfl rfl (fun w0 => ?_)
 refine ao ?_
 refine aa ?_
 refine bu rfl rfl rfl (fun b1 => ?_)
 refine ap (ai rfl) rfl rfl ?_
 refine ab ?_
 refine aj ?_
 refine ao ?_
 refine aa ?_
 refine ap (c4 rfl rfl) rfl rfl ?_
 refine ap (ai rfl) rfl rfl ?_
 refine ab ?_
 refine aj ?_
 refine aB ?_
 refine aG (ts := [2]) rfl rfl rfl (fun w hw => ?_)
 exact ⟨b1, rfl, hw.base, (hw.weak (.cons_cons _ .slnil) (fun s hs => hs)).toNews⟩

theorem c_AppendSeq_hd (gf : Nat) (lb : List Value) (Sx : List Ch) (Adm Fin : List Hd → Prop) (hit : gt Tryz.prog gf lb Sx [] [] encHd1 Adm Fin) (hen : Enters Tryz.prog gf) (hb : ∀ pre, Adm pre → pre.length ≤ 1000000) : RC Tryz.prog 216 #[.slice none 0 0, .func (.func gf) #[] lb.toArray] Sx (α := {p : List Hd × Option Addr × Nat // Fin p.1}) (fun p => .slice p.1.2.1 p.1.1.length p.1.2.2) (fun p => [Ch.ls p.1.2.1 p.1.2.2 46 4 hdC p.1.1]) := by
 refine f7 (args := [.slice none 0 0, .func (.func gf) #[] lb.toArray]) 13 Tryz.func216 rfl rfl rfl (fun w0 => ?_)
 refine ao ?_
 refine aa ?_
 refine bu rfl rfl rfl (fun b1 => ?_)
 refine ap (ai rfl) rfl rfl ?_
 refine ab ?_
 refine aj ?_
 refine ao ?_
 refine ao ?_
 refine aa ?_
 refine ap (ak rfl) rfl rfl ?_
 refine ab ?_
 refine aj ?_
 refine aP ?_
 refine cH (fun w h => h.nilsl 46 4) ?_
 refine w_rangeG (σ := List Hd × Option Addr × Nat) (fun pre g => g.1 = pre) (fun c pre g => False) (fun g => [Ch.ls g.2.1 g.2.2 46 4 hdC g.1, Ch.row b1 [.slice g.2.1 g.1.length g.2.2] 25]) (([], none, 0)) rfl rfl hen (hit) (fun s hs => hs) rfl (fun _ => rfl) (rfl) av (fun pre e g hxs hI lr D r hr okb wb => ?_) (fun g D0 hI => ?_) (fun c pre g D0 hxs hI => ?_)
 obtain ⟨q, Ax, cx⟩ := g
 dsimp only at hI ⊢
 subst hI
 have hpl := hb _ hxs
 have hpl2 : q.length + 1 ≤ 1000000 := by simpa using hpl
 refine aa ?_
 refine bx cp rfl rfl (fun b2 => ?_)
 refine aS cp rfl rfl rfl .z rfl rfl rfl rfl ?_
 refine ab ?_
 refine fh rfl hr (.s (.z)) ?_
 refine aP ?_
 refine aa ?_
 refine ap (aH 4 ty_25 rfl rfl rfl) rfl rfl ?_
 refine ap (aJ 0 cp rfl rfl rfl rfl) rfl rfl ?_
 refine f9 (vs := [_]) ([e] : List (Hd)) enc_hd Tryz.underlying25 cp rfl rfl rfl rfl rfl rfl (fun As3 => ?_)
 refine fe (enc := hdC) (sz := 4) [e] Tryz.underlying25 cp rfl rfl rfl (fun A c => (.s (.s (.s (.s (.z)))))) (src_L 0 Tryz.underlying25 rfl) (by simp only [List.length_cons, List.length_nil, Nat.zero_add]; omega) (by simp only [List.length_cons, List.length_nil, Nat.zero_add]; omega) rfl (fun A3 c3 => ?_)
 refine aS ty_25 rfl rfl rfl (.s (.s (.s (.s (.s (.z)))))) rfl rfl rfl rfl ?_
 refine ab ?_
 refine bw ?_
 refine fN ((q ++ [e], A3, c3)) ?_ (cE 2)
 rfl
 obtain ⟨q, Ax, cx⟩ := g
 obtain ⟨xs, hfx, hI⟩ := hI
 dsimp only at hI ⊢
 subst hI
 refine bw ?_
 refine aj ?_
 refine ao ?_
 refine aa ?_
 refine ap (aH 2 ty_25 rfl rfl rfl) rfl rfl ?_
 refine ap (ai rfl) rfl rfl ?_
 refine ab ?_
 refine aj ?_
 refine aB ?_
 refine eB ?_
 refine ec .z ?_
 refine dy (rs := [.tmp 4]) rfl (dl rfl bS) (fun w hw => ?_)
 exact ⟨⟨(q, Ax, cx), hfx⟩, rfl, hw.base, (hw.weak (.cons _ (.cons_cons _ (.cons _ .slnil))) (fun s hs => hs)).toNews⟩
 exact hI.elim

theorem c_Collect_hd (gf : Nat) (lb : List Value) (Sx : List Ch) (Adm Fin : List Hd → Prop) (hit : gt Tryz.prog gf lb Sx [] [] encHd1 Adm Fin) (hen : Enters Tryz.prog gf) (hb : ∀ pre, Adm pre → pre.length ≤ 1000000) : RC Tryz.prog 169 #[.func (.func gf) #[] lb.toArray] Sx (α := {p : List Hd × Option Addr × Nat // Fin p.1}) (fun p => .slice p.1.2.1 p.1.1.length p.1.2.2) (fun p => [Ch.ls p.1.2.1 p.1.2.2 46 4 hdC p.1.1]) := by
 refine bd (args := [.func (.func gf) #[] lb.toArray]) 5 Tryz.func169 rfl rfl rfl (fun w0 => ?_)
 refine ao ?_
 refine aa ?_
 refine ap (ai rfl) rfl rfl ?_
 refine ab ?_
 refine aj ?_
 refine ao ?_
 refine aa ?_
 refine ap (ak rfl) rfl rfl ?_
 refine bN rfl ent_216 rfl (c_AppendSeq_hd gf lb Sx Adm Fin hit hen hb) (fun w hw s hs => hw.rdS hs) (fun ⟨⟨q, Ax, cx⟩, hfx⟩ => ?_)
 refine ap (ai rfl) rfl rfl ?_
 refine ab ?_
 refine aj ?_
 refine aB ?_
 refine aG (ts := [2]) rfl rfl rfl (fun w hw => ?_)
 exact ⟨⟨(q, Ax, cx), hfx⟩, rfl, hw.base, (hw.weak (.cons_cons _ .slnil) (fun s hs => hs)).toNews⟩

def sortHd_ren : Go.Shelf.Ren := ⟨fun | 6 => 170 | 15 => 190 | 14 => 217 | 28 => 230 | 29 => 231 | 20 => 239 | 21 => 240 | 22 => 241 | 23 => 242 | 24 => 243 | 25 => 244 | 26 => 245 | 27 => 246 | 46 => 257 | 47 => 249 | 48 => 250 | 49 => 258 | 50 => 259 | 57 => 264 | n => n, fun | 22 => 25 | 24 => 46 | 25 => 161 | 3 => 3 | 39 => 202 | 0 => 0 | 53 => 32 | 55 => 27 | 4 => 4 | 46 => 264 | 45 => 263 | 50 => 163 | 5 => 5 | 9 => 9 | 66 => 280 | 70 => 284 | 76 => 292 | 77 => 293 | n => n, fun | n => n⟩
theorem sortHd : Go.Proofs.SlLaysF0.n6 Tryz.prog sortHd_ren := {
  mixed := by kernel_rfl,
  f6 := ⟨Tryz.f170.name, by decide, Tryz.func170.trans (congrArg some (by kernel_rfl))⟩,
  f14 := ⟨Tryz.f217.name, by decide, Tryz.func217.trans (congrArg some (by kernel_rfl))⟩,
  f15 := Tryz.func190.trans (congrArg some (by kernel_rfl)),
  f20 := ⟨Tryz.f239.name, by decide, Tryz.func239.trans (congrArg some (by kernel_rfl))⟩,
  f21 := ⟨Tryz.f240.name, by decide, Tryz.func240.trans (congrArg some (by kernel_rfl))⟩,
  f22 := ⟨Tryz.f241.name, by decide, Tryz.func241.trans (congrArg some (by kernel_rfl))⟩,
  f23 := ⟨Tryz.f242.name, by decide, Tryz.func242.trans (congrArg some (by kernel_rfl))⟩,
  f24 := ⟨Tryz.f243.name, by decide, Tryz.func243.trans (congrArg some (by kernel_rfl))⟩,
  f25 := ⟨Tryz.f244.name, by decide, Tryz.func244.trans (congrArg some (by kernel_rfl))⟩,
  f26 := ⟨Tryz.f245.name, by decide, Tryz.func245.trans (congrArg some (by kernel_rfl))⟩,
  f27 := ⟨Tryz.f246.name, by decide, Tryz.func246.trans (congrArg some (by kernel_rfl))⟩,
  f28 := Tryz.func230.trans (congrArg some (by kernel_rfl)),
  f29 := Tryz.func231.trans (congrArg some (by kernel_rfl)),
  f46 := ⟨Tryz.f257.name, by decide, Tryz.func257.trans (congrArg some (by kernel_rfl))⟩,
  f47 := Tryz.func249.trans (congrArg some (by kernel_rfl)),
  f48 := Tryz.func250.trans (congrArg some (by kernel_rfl)),
  f49 := ⟨Tryz.f258.name, by decide, Tryz.func258.trans (congrArg some (by kernel_rfl))⟩,
  f50 := ⟨Tryz.f259.name, by decide, Tryz.func259.trans (congrArg some (by kernel_rfl))⟩,
  f57 := ⟨Tryz.f264.name, by decide, Tryz.func264.trans (congrArg some (by kernel_rfl))⟩,
  t0 := Tryz.underlying0,
  a0 := Tryz.isAgg0,
  z0 := Tryz.sizeOf0,
  v0 := Tryz.zeroValue0,
  t3 := Tryz.underlying3,
  a3 := Tryz.isAgg3,
  z3 := Tryz.sizeOf3,
  v3 := Tryz.zeroValue3,
  t4 := Tryz.underlying4,
  a4 := Tryz.isAgg4,
  z4 := Tryz.sizeOf4,
  v4 := Tryz.zeroValue4,
  t5 := Tryz.underlying5,
  a5 := Tryz.isAgg5,
  z5 := Tryz.sizeOf5,
  v5 := Tryz.zeroValue5,
  t9 := Tryz.underlying9,
  a9 := Tryz.isAgg9,
  z9 := Tryz.sizeOf9,
  v9 := Tryz.zeroValue9,
  t22 := Tryz.underlying25,
  a22 := Tryz.isAgg25,
  z22 := Tryz.sizeOf25,
  v22 := Tryz.zeroValue25,
  t25 := Tryz.underlying161,
  a25 := Tryz.isAgg161,
  z25 := Tryz.sizeOf161,
  v25 := Tryz.zeroValue161,
  t39 := Tryz.underlying202,
  a39 := Tryz.isAgg202,
  z39 := Tryz.sizeOf202,
  v39 := Tryz.zeroValue202,
  t45 := Tryz.underlying263,
  a45 := Tryz.isAgg263,
  z45 := Tryz.sizeOf263,
  v45 := Tryz.zeroValue263,
  t46 := Tryz.underlying264,
  a46 := Tryz.isAgg264,
  z46 := Tryz.sizeOf264,
  v46 := Tryz.zeroValue264,
  t50 := Tryz.underlying163,
  a50 := Tryz.isAgg163,
  z50 := Tryz.sizeOf163,
  v50 := Tryz.zeroValue163,
  t53 := Tryz.underlying32,
  a53 := Tryz.isAgg32,
  z53 := Tryz.sizeOf32,
  v53 := Tryz.zeroValue32,
  t55 := Tryz.underlying27,
  a55 := Tryz.isAgg27,
  z55 := Tryz.sizeOf27,
  v55 := Tryz.zeroValue27,
  t66 := Tryz.underlying280,
  a66 := Tryz.isAgg280,
  z66 := Tryz.sizeOf280,
  v66 := Tryz.zeroValue280,
  t70 := Tryz.underlying284,
  a70 := Tryz.isAgg284,
  z70 := Tryz.sizeOf284,
  v70 := Tryz.zeroValue284,
  t76 := Tryz.underlying292,
  a76 := Tryz.isAgg292,
  z76 := Tryz.sizeOf292,
  v76 := Tryz.zeroValue292,
  t77 := Tryz.underlying293,
  a77 := Tryz.isAgg293,
  z77 := Tryz.sizeOf293,
  v77 := Tryz.zeroValue293 }

theorem c_Sort_hd (A : Option Addr) (c : Nat) (xs : List Hd) (hl : xs.length ≤ 1000000) : UC Tryz.prog 170 #[.slice A xs.length c, .func (.func 102) #[] #[]] [] (Ch.ls A c 46 4 hdC xs) (α := {ys : List Hd // ys.Perm xs ∧ ys.Pairwise fun a b => ¬ eP b.ad a.ad < 0}) (fun _ => .tuple #[]) (fun o => Ch.ls A c 46 4 hdC o.1) :=
  uc_sort (p := fun _ => True) sortHd 4 Tryz.isAgg46 Tryz.sizeOf46 enc_hd (fun a b : Hd => eP a.ad b.ad) swo_hd 102 #[] (enters_of Tryz.func102 (by kernel_rfl) rfl) (fun x y _ _ => by rw [Array.append_empty]; exact c_vAll1 x y) 46 A c xs (fun _ _ => trivial) (by omega)

theorem c_Sorted_hd (hm : Hm) (bm p : Nat) (hml : hm.length ≤ 1000000) : RC Tryz.prog 100 #[.func (.func 171) #[] #[.pointer (some ⟨p, 0, none⟩)], .func (.func 102) #[] #[]] [Ch.row p [.map (some bm)] 143, Ch.mp bm bM ck hm] (α := {o : List Hd × Option Addr × Nat // o.1.Perm (hm.map (·.2)) ∧ o.1.Pairwise fun a b => ¬ eP b.ad a.ad < 0}) (fun o => .slice o.1.2.1 o.1.1.length o.1.2.2) (fun o => [Ch.ls o.1.2.1 o.1.2.2 46 4 hdC o.1.1]) := by
 refine bd (args := [.func (.func 171) #[] #[.pointer (some ⟨p, 0, none⟩)], .func (.func 102) #[] #[]]) 12 Tryz.func100 rfl rfl rfl (fun w0 => ?_)
 have hbm : ∀ pre : List Hd, (∃ rest, (pre ++ rest).Perm (hm.map (·.2))) → pre.length ≤ 1000000 := fun pre ⟨rest, h⟩ => by
   have := h.length_eq
   rw [List.length_append, List.length_map] at this
   omega
 refine ao ?_
 refine aa ?_
 refine ap (ai rfl) rfl rfl ?_
 refine ab ?_
 refine aj ?_
 refine ao ?_
 refine aa ?_
 refine ap (ak rfl) rfl rfl ?_
 refine bN rfl ent_169 rfl (c_Collect_hd 171 [.pointer (some ⟨p, 0, none⟩)] _ _ _ (c_MapVal1 hm bm p) (enters_of Tryz.func171 (by kernel_rfl) rfl) hbm) (fun w hw => (aI (cL 0 rfl hw) (aI (cL 1 rfl hw) a8))) (fun ⟨⟨q, Ax, cx⟩, hfx⟩ => ?_)
 refine ap (ai rfl) rfl rfl ?_
 refine ab ?_
 refine aj ?_
 refine ao ?_
 refine aa ?_
 refine ap (ak rfl) rfl rfl ?_
 refine ap (ak rfl) rfl rfl ?_
 refine cj rfl ent_170 rfl (c_Sort_hd Ax cx q (by have := hbm q ⟨[], by rw [List.append_nil]; exact hfx⟩; omega)) (fun o => .z) (List.mem_of_getElem? (i := 0) rfl) (fun s hs => nomatch hs) (fun ⟨ys, hyp, hys⟩ => ?_)
 refine ab ?_
 refine aj ?_
 refine ao ?_
 refine aa ?_
 refine ap (ak rfl) rfl rfl ?_
 refine ap (ai rfl) rfl rfl ?_
 refine ab ?_
 refine aj ?_
 refine aB ?_
 refine aG (ts := [4]) rfl rfl rfl (fun w hw => ?_)
 exact ⟨⟨(ys, Ax, cx), hyp.trans hfx, hys⟩, by rw [← hyp.length_eq]; rfl, hw.base, (hw.weak (.cons_cons _ .slnil) (fun s hs => hs)).toNews⟩

theorem c_vAll (v : Vp) (hm : Hm) (hml : hm.length ≤ 1000000) : RC Tryz.prog 36 #[.pointer (some ⟨v.b, 0, none⟩)] [Ch.row v.b (vpC v) 146, Ch.mp v.rh bM ck hm] (α := {o : List Hd × Option Addr × Nat // o.1.Perm (hm.map (·.2)) ∧ o.1.Pairwise fun a b => ¬ eP b.ad a.ad < 0}) (fun o => .slice o.1.2.1 o.1.1.length o.1.2.2) (fun o => [Ch.ls o.1.2.1 o.1.2.2 46 4 hdC o.1.1]) := by
 refine bd (args := [.pointer (some ⟨v.b, 0, none⟩)]) 11 Tryz.func36 rfl rfl rfl (fun w0 => ?_)
 refine ao ?_
 refine aa ?_
 refine ap (ai rfl) rfl rfl ?_
 refine ab ?_
 refine aj ?_
 refine ao ?_
 refine ao ?_
 refine aa ?_
 refine ap (ak rfl) rfl rfl ?_
 refine ap (fc Tryz.underlying68 rfl rfl) rfl rfl ?_
 refine bT (t := 4) (.bool false) rfl (congrArg Value.bool rfl) ?_
 refine ab ?_
 refine aj ?_
 refine au rfl ?_
 refine aF ?_
 refine aj ?_
 refine ao ?_
 refine aa ?_
 refine ap (ak rfl) rfl rfl ?_
 refine ap (aX rfl) rfl rfl ?_
 refine ap (aA cX rfl) rfl rfl ?_
 refine ap (bo 0 dJ rfl rfl rfl) rfl rfl ?_
 refine bN rfl ent_101 rfl (c_MapVal v.rh) (fun w hw => a8) (fun p0 => ?_)
 refine bN rfl ent_100 rfl (c_Sorted_hd hm v.rh p0 hml) (fun w hw => (aI (eW 0 rfl hw) (aI (cL 1 rfl hw) a8))) (fun ⟨⟨ys, Ax, cx⟩, hyp, hys⟩ => ?_)
 refine ap (ai rfl) rfl rfl ?_
 refine ab ?_
 refine aj ?_
 refine aB ?_
 refine aG (ts := [2]) rfl rfl rfl (fun w hw => ?_)
 exact ⟨⟨(ys, Ax, cx), hyp, hys⟩, rfl, hw.base, (hw.weak (.cons_cons _ (.cons _ .slnil)) (fun s hs => hs)).toNews⟩
end Go.Proofs.YtnpdgmoeoidppaaGreat

/- vips: the names held are kept -/
namespace Go.Proofs.YtnpdgmoeoidppaaGreat
open Go.RowKit Go.Shelf
set_option linter.unusedVariables false
set_option linter.unusedSimpArgs false

theorem keys_adm9 {α β : Type} {m : List (α × β)} {d0 : α × β} {ix : List Nat} {i : Nat} (hn : ix.Nodup) (hx : ∀ j ∈ ix, j < m.length) (hin : i ∉ ix) (hi : i < m.length) : ∃ rest, ((eO m d0 ix ++ [(m.getD i d0).1]) ++ rest).Perm (m.map (·.1)) := by
  rw [← keys_snoc, keys_vals]
  have := vals_adm (m := m.map fun p => (p.2, p.1)) (d0 := (d0.2, d0.1)) (ga hn hin) (gy (by simpa using hx) (by simpa using hi))
  rw [List.map_map] at this; exact this

theorem c_MapKey1 (m : List (aK × Hd)) (bm bn : Nat) : gt Tryz.prog 178 [.pointer (some ⟨bn, 0, none⟩)] [Ch.row bn [.map (some bm)] 143, Ch.mp bm bM ck m] [] [] encN1 (fun pre => ∃ rest, (pre ++ rest).Perm (m.map (·.1))) (fun xs => xs.Perm (m.map (·.1))) := by
 refine iterG_of_W 14 Tryz.func178 rfl rfl rfl (fun lr σ I Ix C Sc hy g0 hg0 w0 => ?_)
 refine ao ?_
 refine w_openmp (encK := bM) (encV := ck) 1 rfl (fun es clk hE => ?_)
 refine aa ?_
 refine ap (bo 1 dJ rfl rfl rfl) rfl rfl ?_
 refine o_range 0 rfl Tryz.underlying143 rfl rfl (fun r => ?_)
 refine ab ?_
 refine aj ?_
 refine aP ?_
 refine w_loopL (σ := List Nat × σ) [3, 6, 7, 8, 9, 10, 11, 12, 13] (fun q => q.1.length ≤ m.length ∧ q.1.Nodup ∧ (∀ j ∈ q.1, j < m.length) ∧ I (eO m ((([] : aK), fV) : aK × Hd) q.1) q.2) (fun q => m.length - q.1.length) (fun q => []) (fun q => [Ch.obj r (.mapIter (some bm) clk (cI es q.1) clk), C q.2]) (([], g0)) ?_ trivial rfl (fun q hI => ?_)
 exact ⟨Nat.zero_le _, .nil, nofun, hg0⟩
 obtain ⟨ix, g⟩ := q
 dsimp only at hI ⊢
 refine ao ?_
 refine aa ?_
 refine o_next 0 rfl rfl hE.lt (fun _ => .z) rfl (fun en hen => ?_) (fun h0 => ?_)
 obtain hns := next_key hE hen ((([] : aK), fV) : aK × Hd)
 obtain ⟨i, hi, hin, hib, hik⟩ := hns.2
 rw [hib]
 rw [hik]
 rw [fy]
 refine ap (aD rfl rfl) rfl rfl ?_
 refine bT (t := 7) (.bool true) rfl (congrArg Value.bool rfl) ?_
 refine ab ?_
 refine aj ?_
 refine ao ?_
 refine ax rfl ?_
 refine aF ?_
 refine aj ?_
 refine aP ?_
 refine ao ?_
 refine aa ?_
 refine ap (y_entry (e := en) (sn := cI es ix) 0 0 (by rw [hib, fy]) rfl rfl rfl hns.1 hE.nd) rfl rfl ?_
 refine ap (aD rfl rfl) rfl rfl ?_
 refine bT (t := 9) (.string (ba (m.getD i ((([] : aK), fV) : aK × Hd)).1)) rfl hik ?_
 refine ap (ai rfl) rfl rfl ?_
 refine ab ?_
 refine aj ?_
 refine ao ?_
 refine aa ?_
 refine ap (ak rfl) rfl rfl ?_
 refine ap (ak rfl) rfl rfl ?_
 refine gr rfl rfl (hy _ (m.getD i ((([] : aK), fV) : aK × Hd)).1 g (keys_adm9 hI.2.1 hI.2.2.1 hin hi) hI.2.2.2) (fun _ => (.s (.z))) (fun s hs => .tail _ (List.mem_append_right _ hs)) rfl (fun g' hT => ?_) (fun g' hF => ?_)
 refine ap (bB rfl) rfl rfl ?_
 refine ab ?_
 refine aj ?_
 refine au rfl ?_
 refine aF ?_
 refine bw ?_
 refine bH ((ix ++ [i], g')) ?_ ?_ trivial (by repeat (first | exact trivial | refine ⟨rfl, ?_⟩)) av
 exact ⟨by show (ix ++ [i]).length ≤ _; have := ix_lt hI.2.1 hI.2.2.1 hin hi; simp; omega, ga hI.2.1 hin, gy hI.2.2.1 hi, by show I (eO m ((([] : aK), fV) : aK × Hd) (ix ++ [i])) _; rw [keys_snoc]; exact hT⟩
 show m.length - (ix ++ [i]).length < m.length - ix.length
 have := ix_lt hI.2.1 hI.2.2.1 hin hi
 simp; omega
 refine ap (bB rfl) rfl rfl ?_
 refine ab ?_
 refine aj ?_
 refine ax rfl ?_
 refine aB ?_
 refine aM ?_
 refine bk ?_
 refine aM ?_
 refine aG (ts := []) rfl rfl rfl (fun w hw => ?_)
 focus first
   | exact db _ (.inr ⟨_, keys_adm9 hI.2.1 hI.2.2.1 hin hi, hF⟩) (hw.weak (.cons _ (.cons_cons _ .slnil)) (fun s hs => hs))
   | exact db _ (.inl ⟨_, keys_all hI.2.1 hI.2.2.1 hal, hI.2.2.2⟩) (hw.weak (.cons _ (.cons_cons _ .slnil)) (fun s hs => hs))
   | (trace_state; fail)
 have hal := fun i hi => next_none hE h0 i hi hI.2.2.1
 refine ap (aD rfl rfl) rfl rfl ?_
 refine bT (t := 7) (.bool false) rfl (congrArg Value.bool rfl) ?_
 refine ab ?_
 refine aj ?_
 refine ao ?_
 refine au rfl ?_
 refine bP ?_
 refine bb ?_
 refine a6 ?_
 refine bc ?_
 refine fY (ts := []) rfl rfl rfl (fun w hw => ?_)
 focus first
   | exact db _ (.inr ⟨_, keys_adm9 hI.2.1 hI.2.2.1 hin hi, hF⟩) (hw.weak (.cons _ (.cons_cons _ .slnil)) (fun s hs => hs))
   | exact db _ (.inl ⟨_, keys_all hI.2.1 hI.2.2.1 hal, hI.2.2.2⟩) (hw.weak (.cons _ (.cons_cons _ .slnil)) (fun s hs => hs))
   | (trace_state; fail)

theorem c_MapKey (bm : Nat) : RC Tryz.prog 109 #[.map (some bm)] [] (α := Nat) (fun p => .func (.func 178) #[] #[.pointer (some ⟨p, 0, none⟩)]) (fun p => [Ch.row p [.map (some bm)] 143]) := by
 refine bd (args := [.map (some bm)]) 4 Tryz.func109 rfl rfl rfl (fun w0 => ?_)
 refine ao ?_
 refine aa ?_
 refine bu rfl rfl rfl (fun b1 => ?_)
 refine ap (ai rfl) rfl rfl ?_
 refine ab ?_
 refine aj ?_
 refine ao ?_
 refine aa ?_
 refine ap (c4 rfl rfl) rfl rfl ?_
 refine ap (ai rfl) rfl rfl ?_
 refine ab ?_
 refine aj ?_
 refine aB ?_
 refine aG (ts := [2]) rfl rfl rfl (fun w hw => ?_)
 exact ⟨b1, rfl, hw.base, (hw.weak (.cons_cons _ .slnil) (fun s hs => hs)).toNews⟩

theorem c_AppendSeq_nm (gf : Nat) (lb : List Value) (Sx : List Ch) (Adm Fin : List aK → Prop) (hit : gt Tryz.prog gf lb Sx [] [] encN1 Adm Fin) (hen : Enters Tryz.prog gf) (hb : ∀ pre, Adm pre → pre.length ≤ 1000000) : RC Tryz.prog 177 #[.slice none 0 0, .func (.func gf) #[] lb.toArray] Sx (α := {p : List aK × Option Addr × Nat // Fin p.1}) (fun p => .slice p.1.2.1 p.1.1.length p.1.2.2) (fun p => [Ch.ls p.1.2.1 p.1.2.2 26 1 dA p.1.1]) := by
 refine f7 (args := [.slice none 0 0, .func (.func gf) #[] lb.toArray]) 13 Tryz.func177 rfl rfl rfl (fun w0 => ?_)
 refine ao ?_
 refine aa ?_
 refine bu rfl rfl rfl (fun b1 => ?_)
 refine ap (ai rfl) rfl rfl ?_
 refine ab ?_
 refine aj ?_
 refine ao ?_
 refine ao ?_
 refine aa ?_
 refine ap (ak rfl) rfl rfl ?_
 refine ab ?_
 refine aj ?_
 refine aP ?_
 refine cH (fun w h => h.nilsl 26 1) ?_
 refine w_rangeG (σ := List aK × Option Addr × Nat) (fun pre g => g.1 = pre) (fun c pre g => False) (fun g => [Ch.ls g.2.1 g.2.2 26 1 dA g.1, Ch.row b1 [.slice g.2.1 g.1.length g.2.2] 59]) (([], none, 0)) rfl rfl hen (hit) (fun s hs => hs) rfl (fun _ => rfl) (rfl) av (fun pre e g hxs hI lr D r hr okb wb => ?_) (fun g D0 hI => ?_) (fun c pre g D0 hxs hI => ?_)
 obtain ⟨q, Ax, cx⟩ := g
 dsimp only at hI ⊢
 subst hI
 have hpl := hb _ hxs
 have hpl2 : q.length + 1 ≤ 1000000 := by simpa using hpl
 refine aa ?_
 refine ap (ai rfl) rfl rfl ?_
 refine ab ?_
 refine fh rfl hr .z ?_
 refine aP ?_
 refine aa ?_
 refine ap (aH 3 d7 rfl rfl rfl) rfl rfl ?_
 refine ap (ak rfl) rfl rfl ?_
 refine f9 (vs := [_]) ([e] : List (aK)) d6 Tryz.underlying59 bQ rfl rfl rfl rfl rfl rfl (fun As2 => ?_)
 refine fe (enc := dA) (sz := 1) [e] Tryz.underlying59 bQ rfl rfl rfl (fun A c => (.s (.s (.s (.z))))) (src_L 0 Tryz.underlying59 rfl) (by simp only [List.length_cons, List.length_nil, Nat.zero_add]; omega) (by simp only [List.length_cons, List.length_nil, Nat.zero_add]; omega) rfl (fun A2 c2 => ?_)
 refine aS d7 rfl rfl rfl (.s (.s (.s (.s (.z))))) rfl rfl rfl rfl ?_
 refine ab ?_
 refine bw ?_
 refine fN ((q ++ [e], A2, c2)) ?_ (cE 1)
 rfl
 obtain ⟨q, Ax, cx⟩ := g
 obtain ⟨xs, hfx, hI⟩ := hI
 dsimp only at hI ⊢
 subst hI
 refine bw ?_
 refine aj ?_
 refine ao ?_
 refine aa ?_
 refine ap (aH 2 d7 rfl rfl rfl) rfl rfl ?_
 refine ap (ai rfl) rfl rfl ?_
 refine ab ?_
 refine aj ?_
 refine aB ?_
 refine eB ?_
 refine ec .z ?_
 refine dy (rs := [.tmp 4]) rfl (dl rfl bS) (fun w hw => ?_)
 exact ⟨⟨(q, Ax, cx), hfx⟩, rfl, hw.base, (hw.weak (.cons _ (.cons_cons _ (.cons _ .slnil))) (fun s hs => hs)).toNews⟩
 exact hI.elim

theorem c_Collect_nm (gf : Nat) (lb : List Value) (Sx : List Ch) (Adm Fin : List aK → Prop) (hit : gt Tryz.prog gf lb Sx [] [] encN1 Adm Fin) (hen : Enters Tryz.prog gf) (hb : ∀ pre, Adm pre → pre.length ≤ 1000000) : RC Tryz.prog 108 #[.func (.func gf) #[] lb.toArray] Sx (α := {p : List aK × Option Addr × Nat // Fin p.1}) (fun p => .slice p.1.2.1 p.1.1.length p.1.2.2) (fun p => [Ch.ls p.1.2.1 p.1.2.2 26 1 dA p.1.1]) := by
 refine bd (args := [.func (.func gf) #[] lb.toArray]) 5 Tryz.func108 rfl rfl rfl (fun w0 => ?_)
 refine ao ?_
 refine aa ?_
 refine ap (ai rfl) rfl rfl ?_
 refine ab ?_
 refine aj ?_
 refine ao ?_
 refine aa ?_
 refine ap (ak rfl) rfl rfl ?_
 refine bN rfl ent_177 rfl (c_AppendSeq_nm gf lb Sx Adm Fin hit hen hb) (fun w hw s hs => hw.rdS hs) (fun ⟨⟨q, Ax, cx⟩, hfx⟩ => ?_)
 refine ap (ai rfl) rfl rfl ?_
 refine ab ?_
 refine aj ?_
 refine aB ?_
 refine aG (ts := [2]) rfl rfl rfl (fun w hw => ?_)
 exact ⟨⟨(q, Ax, cx), hfx⟩, rfl, hw.base, (hw.weak (.cons_cons _ .slnil) (fun s hs => hs)).toNews⟩
end Go.Proofs.YtnpdgmoeoidppaaGreat

/- vips: what is kept, in plain words -/
namespace Go.Proofs.YtnpdgmoeoidppaaGreat
open Go.RowKit Go.Shelf
set_option linter.unusedVariables false
set_option linter.unusedSimpArgs false

def bO (hm : Hm) : Am := hm.map fun p => (p.2.ad, p.1)
structure PInv (hm : Hm) : Prop where
  keys : (hm.map fun p => p.1).Nodup
  ads : (hm.map fun p => p.2.ad).Nodup
  fold : ∀ p ∈ hm, p.1 = aY p.2.host ∧ br p.2.host = true
theorem nd_inj {α β : Type} {f : α → β} : ∀ {l : List α}, (l.map f).Nodup → ∀ a ∈ l, ∀ b ∈ l, f a = f b → a = b
  | [], _, a, ha, _, _, _ => by cases ha
  | x :: l, h, a, ha, b, hb, e => by
    rw [List.map_cons, List.nodup_cons] at h
    rcases List.mem_cons.1 ha with e1 | ha2
    · rcases List.mem_cons.1 hb with e2 | hb2
      · rw [e1, e2]
      · exact absurd (List.mem_map.2 ⟨b, hb2, by rw [← e, e1]⟩) h.1
    · rcases List.mem_cons.1 hb with e2 | hb2
      · exact absurd (List.mem_map.2 ⟨a, ha2, by rw [e, e2]⟩) h.1
      · exact nd_inj h.2 a ha2 b hb2 e
theorem nd_snocG {α : Type} {l : List α} {a : α} (hn : l.Nodup) (ha : a ∉ l) : (l ++ [a]).Nodup := by
  rw [List.nodup_append]; exact ⟨hn, by simp, fun x hx b hb e => by rw [List.mem_singleton.1 hb] at e; exact ha (e ▸ hx)⟩
section
variable {α β : Type} [DecidableEq α]
theorem lkp_none_iff {m : List (α × β)} {a : α} : cD m a = none ↔ a ∉ m.map fun p => p.1 := by
  induction m with
  | nil => simp [cD]
  | cons p r ih =>
    obtain ⟨b, u⟩ := p
    rw [cD]
    by_cases e : a = b
    · subst e; simp
    · rw [if_neg e, ih]; simp [e]
theorem gA {m : List (α × β)} {a : α} {v : β} (h : cD m a = some v) : (a, v) ∈ m := by
  induction m with
  | nil => cases h
  | cons p r ih =>
    obtain ⟨b, u⟩ := p
    rw [cD] at h
    by_cases e : a = b
    · rw [if_pos e] at h; cases h; subst e; exact .head _
    · rw [if_neg e] at h; exact .tail _ (ih h)
theorem lkp_some_of {m : List (α × β)} (hn : (m.map fun p => p.1).Nodup) {a : α} {v : β} (h : (a, v) ∈ m) : cD m a = some v := by
  cases hl : cD m a with
  | none => exact absurd (List.mem_map.2 ⟨_, h, rfl⟩) (lkp_none_iff.1 hl)
  | some u =>
    have := nd_inj hn _ (gA hl) _ h rfl
    cases this; rfl
theorem rmv_filter {m : List (α × β)} (h : (m.map fun p => p.1).Nodup) (a : α) : rmv m a = m.filter fun p => decide (p.1 ≠ a) := by
  induction m with
  | nil => rfl
  | cons p r ih =>
    obtain ⟨b, u⟩ := p
    rw [List.map_cons, List.nodup_cons] at h
    rw [rmv, List.filter_cons]
    by_cases e : a = b
    · subst e
      rw [if_pos rfl, if_neg (by simp)]
      symm
      rw [List.filter_eq_self]
      intro q hq
      exact decide_eq_true fun e => h.1 (List.mem_map.2 ⟨q, hq, e⟩)
    · rw [if_neg e, if_pos (by simp; exact fun h => e h.symm), ih h.2]
theorem lkp_upd14 {m : List (α × β)} {a b : α} {v : β} : cD (upd m a v) b = if b = a then some v else cD m b := by
  induction m with
  | nil => simp only [upd, cD]
  | cons p r ih =>
    obtain ⟨c, u⟩ := p
    rw [upd]
    by_cases e : a = c
    · subst e
      rw [if_pos rfl, cD, cD]
      by_cases e2 : b = a
      · rw [if_pos e2, if_pos e2]
      · rw [if_neg e2, if_neg e2, if_neg e2]
    · rw [if_neg e, cD, cD, ih]
      by_cases e2 : b = c
      · subst e2; rw [if_pos rfl, if_pos rfl, if_neg (fun h => e h.symm)]
      · rw [if_neg e2, if_neg e2]
end
theorem amOf_keys (hm : Hm) : ((bO hm).map fun p => p.1) = hm.map fun p => p.2.ad := by rw [bO, List.map_map]; rfl
theorem PInv.filter {hm : Hm} (h : PInv hm) (P : aK × Hd → Bool) : PInv (hm.filter P) :=
  ⟨h.keys.sublist (List.filter_sublist.map _), h.ads.sublist (List.filter_sublist.map _), fun p hp => h.fold p (List.mem_filter.1 hp).1⟩
theorem drop_am {hm : Hm} (h : PInv hm) {key : aK} (hk : (cD hm key).isSome = true) : gh hm (bO hm) key = (hm.filter (fun p => decide (p.1 ≠ key)), bO (hm.filter fun p => decide (p.1 ≠ key))) := by
  obtain ⟨v, hv⟩ := Option.isSome_iff_exists.1 hk
  have hm1 := gA hv
  have h1 : rmv (bO hm) v.ad = bO (hm.filter fun p => decide (p.1 ≠ key)) := by
    rw [rmv_filter (by rw [amOf_keys]; exact h.ads), bO, List.filter_map]
    congr 1
    refine List.filter_congr fun p hp => ?_
    show decide (p.2.ad ≠ v.ad) = decide (p.1 ≠ key)
    rw [decide_eq_decide]
    constructor
    · intro hne e
      have := nd_inj h.keys p hp _ hm1 e
      rw [this] at hne; exact hne rfl
    · intro hne e
      have := nd_inj h.ads p hp _ hm1 e
      rw [this] at hne; exact hne rfl
  rw [gh, hv, rmv_filter h.keys]
  exact Prod.ext rfl h1
def stayM (hosts : List aK) : List (aK × Bool) := hosts.foldl (fun m n => upd m (aY n) true) []
theorem stay_go (k : aK) : ∀ (hosts : List aK) (m : List (aK × Bool)), (cD (hosts.foldl (fun m n => upd m (aY n) true) m) k).getD false = ((cD m k).getD false || decide (k ∈ hosts.map aY))
  | [], m => by simp
  | n :: r, m => by
    rw [List.foldl_cons, stay_go k r, lkp_upd14]
    by_cases e : k = aY n
    · simp [e]
    · rw [if_neg e]; simp [e]
theorem stay_lkp (hosts : List aK) (k : aK) : (cD (stayM hosts) k).getD false = decide (k ∈ hosts.map aY) := by rw [stayM, stay_go]; rfl
theorem stay_snoc (hosts : List aK) (n : aK) : stayM (hosts ++ [n]) = upd (stayM hosts) (aY n) true := by rw [stayM, List.foldl_append]; rfl
def cO (hm : Hm) (hosts pre : List aK) : Hm := hm.filter fun p => decide (p.1 ∈ hosts.map aY) || decide (p.1 ∉ pre)
def cT (hm : Hm) (hosts : List aK) : Hm := hm.filter fun p => decide (p.1 ∈ hosts.map aY)
theorem keepK_nil (hm : Hm) (hosts : List aK) : cO hm hosts [] = hm := by
  rw [cO, List.filter_eq_self]; intro p _; simp
theorem keepK_all {hm : Hm} {hosts ks : List aK} (h : ∀ p ∈ hm, p.1 ∈ ks) : cO hm hosts ks = cT hm hosts := by
  refine List.filter_congr fun p hp => ?_
  rw [decide_eq_false (fun q : p.1 ∉ ks => q (h p hp)), Bool.or_false]
theorem keepK_stay {hm : Hm} {hosts pre : List aK} {k : aK} (h : k ∈ hosts.map aY) : cO hm hosts (pre ++ [k]) = cO hm hosts pre := by
  refine List.filter_congr fun p _ => ?_
  by_cases e : p.1 = k
  · rw [e, decide_eq_true h]; rfl
  · congr 1
    rw [decide_eq_decide]; simp [e]
theorem keepK_drop {hm : Hm} (hi : PInv hm) {hosts pre : List aK} {k : aK} (h : k ∉ hosts.map aY) (hp : k ∉ pre) (hk : k ∈ hm.map fun p => p.1) : gh (cO hm hosts pre) (bO (cO hm hosts pre)) k = (cO hm hosts (pre ++ [k]), bO (cO hm hosts (pre ++ [k]))) := by
  obtain ⟨p, hpm, rfl⟩ := List.mem_map.1 hk
  have hin : p ∈ cO hm hosts pre := List.mem_filter.2 ⟨hpm, by rw [decide_eq_true hp, Bool.or_true]⟩
  have hinv := hi.filter fun p => decide (p.1 ∈ hosts.map aY) || decide (p.1 ∉ pre)
  have hs := lkp_some_of hinv.keys (a := p.1) (v := p.2) hin
  have hd := drop_am hinv (key := p.1) (by show (cD (List.filter _ hm) p.1).isSome = true; rw [hs]; rfl)
  have he : (cO hm hosts pre).filter (fun q => decide (q.1 ≠ p.1)) = cO hm hosts (pre ++ [p.1]) := by
    rw [cO, cO, List.filter_filter]
    refine List.filter_congr fun q _ => ?_
    by_cases e : q.1 = p.1
    · rw [e, decide_eq_false h]; simp
    · simp [e]
  rw [← he]; exact hd
theorem give_inv {v : Vp} {hm : Hm} (h : PInv hm) (n : aK) : (bl v hm (bO hm) n).2.2 = bO (bl v hm (bO hm) n).2.1 ∧ PInv (bl v hm (bO hm) n).2.1 ∧ (bl v hm (bO hm) n).2.1.length ≤ hm.length + 1 := by
  by_cases h1 : br n = false
  · rw [cY h1]; exact ⟨rfl, h, Nat.le_succ _⟩
  · have h1 : br n = true := by simpa using h1
    by_cases h2 : (cD hm (aY n)).isSome = true
    · rw [cr h1 h2]; exact ⟨rfl, h, Nat.le_succ _⟩
    · have h2 : (cD hm (aY n)).isSome = false := by simpa using h2
      by_cases h3 : v.room - hm.length = 0
      · rw [cn h1 h2 h3]; exact ⟨rfl, h, Nat.le_succ _⟩
      · rw [bG h1 h2 h3 rfl]
        cases hg : bq v (bO hm) n with
        | none => exact ⟨rfl, h, Nat.le_succ _⟩
        | some i =>
          have hf := List.find?_some hg
          have hno := lkp_none_iff.1 (fR hf)
          have hnk := lkp_none_iff.1 (eI h2)
          rw [amOf_keys] at hno
          refine ⟨by simp [bO, amO, hmO], ⟨?_, ?_, ?_⟩, by simp [hmO]⟩
          · simp only [hmO, List.map_append, List.map_cons, List.map_nil]
            exact nd_snocG h.keys hnk
          · simp only [hmO, List.map_append, List.map_cons, List.map_nil]
            exact nd_snocG h.ads hno
          · intro p hp
            rcases List.mem_append.1 hp with hp | hp
            · exact h.fold p hp
            · rw [List.mem_singleton.1 hp]; exact ⟨rfl, h1⟩
def dM (v : Vp) (s : Hm × List aK) (n : aK) : Hm × List aK := ((bl v s.1 (bO s.1) n).2.1, if (bl v s.1 (bO s.1) n).1.2 ≠ 0 ∧ aY n ∉ s.2.map aY then s.2 ++ [n] else s.2)
def di (v : Vp) (hm : Hm) (hosts : List aK) : Hm × List aK := hosts.foldl (dM v) (hm, [])
theorem fT (v : Vp) (hm : Hm) (hosts : List aK) (n : aK) : di v hm (hosts ++ [n]) = dM v (di v hm hosts) n := by rw [di, List.foldl_append]; rfl
def bJ (v : Vp) (hm : Hm) (hosts : List aK) : (List aK × Int) × Hm := if hosts.all br = false then (([], 2), hm) else (((di v (cT hm hosts) hosts).2, 0), (di v (cT hm hosts) hosts).1)

end Go.Proofs.YtnpdgmoeoidppaaGreat
