import Derived.Test.YtnpdgmoeoidppaaGreatScQa
/- an index asked; the reference of indexes; the first candidate -/
namespace Go.Proofs.YtnpdgmoeoidppaaGreat
open Go.RowKit Go.Shelf
set_option linter.unusedVariables false
set_option linter.unusedSimpArgs false

theorem bu_131_0_1 (x0 : Int) (x1 : Option Addr) (x2 : Nat) (x3 : Nat) (x4 : Option Addr) (x5 : Nat) (x6 : Nat) : Tryz.prog.built 131 [(0, .agg [.int .i64 x0, .slice x1 x2 x3].toArray), (1, .slice x4 x5 x6)] = some [.int .i64 x0, .slice x1 x2 x3, .slice x4 x5 x6].toArray := by kernel_rfl
theorem bu_34 : Tryz.prog.built 34 [] = some [.string ⟨#[]⟩, .int .i64 0, .string ⟨#[]⟩, .slice none 0 0, .string ⟨#[]⟩, .slice none 0 0, .int .u32 0].toArray := by kernel_rfl
theorem ent_46 : Enters Tryz.prog 46 := enters_of Tryz.func46 (by kernel_rfl) rfl
theorem ent_62 : Enters Tryz.prog 62 := enters_of Tryz.func62 (by kernel_rfl) rfl
theorem eA : Enters Tryz.prog 72 := enters_of Tryz.func72 (by kernel_rfl) rfl
theorem ent_80 : Enters Tryz.prog 80 := enters_of Tryz.func80 (by kernel_rfl) rfl
theorem ent_81 : Enters Tryz.prog 81 := enters_of Tryz.func81 (by kernel_rfl) rfl
theorem ent_82 : Enters Tryz.prog 82 := enters_of Tryz.func82 (by kernel_rfl) rfl
theorem eK : FA Tryz.prog 131 0 0 := fun b o w => by kernel_rfl
theorem e7 : TyI Tryz.prog 46 true 4 40 (.agg #[.string ⟨#[]⟩, .bool false, .int .u64 0, .int .u64 0]) := TyI.mk' (by kernel_rfl) (fun _ => by kernel_rfl)

/-- What an index finds. -/
def dd (m : List (bf × Le)) (n : bf) : Option Le := if a8 n ≠ 0 then none else (bT m (aX n)).or ((fm (aX n)).findSome? fun p => bT m ([1, 42] ++ p))
theorem iF {m : List (bf × Le)} {n : bf} (h : a8 n ≠ 0) : dd m n = none := if_pos h
theorem iG {m : List (bf × Le)} {n : bf} (h : a8 n = 0) (h2 : (bT m (aX n)).isSome = true) : dd m n = bT m (aX n) := by
  rw [dd, if_neg (fun q => q h)]
  cases h3 : bT m (aX n) with
  | none => rw [h3] at h2; cases h2
  | some e => rfl
theorem eV {m : List (bf × Le)} {n : bf} (h : a8 n = 0) (h2 : (bT m (aX n)).isSome = false) : dd m n = (fm (aX n)).findSome? fun p => bT m ([1, 42] ++ p) := by
  rw [dd, if_neg (fun q => q h)]
  cases h3 : bT m (aX n) with
  | none => rfl
  | some e => rw [h3] at h2; cases h2
theorem iD {α : Type} {o : Option α} (h : o.isSome = false) : o = none := by cases o with
  | none => rfl
  | some q => cases h

set_option maxRecDepth 100000 in
set_option maxHeartbeats 1000000 in
theorem c_Find (x : Ixd) (n : bf) : RC Tryz.prog 17 #[.pointer (some ⟨x.b, 0, none⟩), .string (ba n)] [Ch.row x.b (ixC x) 122, Ch.mp x.rh fL fh x.hm] (α := Unit) (fun _ => .tuple #[.agg (dB ((dd x.hm n).getD br)).toArray, .bool (dd x.hm n).isSome]) (fun _ => []) := by
 refine bx (args := [.pointer (some ⟨x.b, 0, none⟩), .string (ba n)]) 65 Tryz.func17 rfl rfl rfl (fun w0 => ?_)
 refine ar ?_
 refine ai ?_
 refine bj aR rfl rfl (fun b1 => ?_)
 refine au (ao rfl) rfl rfl ?_
 refine ah ?_
 refine aq ?_
 refine ar ?_
 refine ar ?_
 refine ai ?_
 refine au (ap rfl) rfl rfl ?_
 refine au (gr Tryz.underlying39 rfl rfl) rfl rfl ?_
 refine cU (t := 15) (.bool false) rfl (congrArg Value.bool rfl) ?_
 refine au (ap rfl) rfl rfl ?_
 refine az rfl rfl ?_
 refine au (ap rfl) rfl rfl ?_
 refine az rfl rfl ?_
 refine bb rfl fK (cX _) rfl ?_
 refine az rfl rfl ?_
 refine au (bX rfl rfl) rfl rfl ?_
 refine aB (t := 19) rfl (fun h1_5 => ?_) (fun h1_5 => ?_)
 refine au (aI rfl rfl) rfl rfl ?_
 refine ah ?_
 refine aq ?_
 refine aA rfl ?_
 refine ar ?_
 refine ai ?_
 refine au (dW rfl (bu_34)) rfl rfl ?_
 refine a0 aR rfl rfl rfl .z rfl rfl rfl rfl ?_
 refine au (ao rfl) rfl rfl ?_
 refine ah ?_
 refine aq ?_
 refine aQ ?_
 refine ay ?_
 refine ed (rs := [.cell 4 34, .tmp 5]) rfl (cF 0 aR rfl rfl rfl rfl (dR rfl dp)) rfl (fun w hw => ?_)
 focus first
   | (have hq : dd x.hm n = none := iF (by omega)
      exact ⟨(), by rw [hq]; rfl, hw.base, (hw.weak (List.nil_sublist _) (fun s hs => hs)).toNews⟩)
   | (have hq : dd x.hm n = bT x.hm (aX n) := iG hn0 h4_0
      exact ⟨(), by rw [hq, h4_0]; rfl, hw.base, (hw.weak (List.nil_sublist _) (fun s hs => hs)).toNews⟩)
   | (have hq : dd x.hm n = bT x.hm ([1, 42] ++ ef c) := by
        rw [eV hn0 hno, hI.2, hp, List.findSome?_cons]
        cases h9 : bT x.hm ([1, 42] ++ ef c) with
        | none => rw [h9] at h11_8; cases h11_8
        | some q => rfl
      exact ⟨(), by rw [hq, h11_8]; rfl, hw.base, (hw.weak (List.nil_sublist _) (fun s hs => hs)).toNews⟩)
   | (have hq : dd x.hm n = none := by
        rw [eV hn0 hno, hI.2, hB, if_neg (by rw [← en hI.1, h7_0]; decide)]; rfl
      exact ⟨(), by rw [hq]; rfl, hw.base, (hw.weak (List.nil_sublist _) (fun s hs => hs)).toNews⟩)
   | (trace_state; fail)
 have hn0 : a8 n = 0 := by omega
 have hnl := (nameCk_zero.1 hn0).1
 have hfl := foldN_len hn0
 refine au (aI rfl rfl) rfl rfl ?_
 refine ah ?_
 refine aq ?_
 refine aC rfl ?_
 refine aS ?_
 refine aq ?_
 refine ar ?_
 refine g3 (σ := Nat) (fun q => [(6, .pointer (some ⟨q, 0, none⟩)), (7, .bool (bT x.hm (aX n)).isSome)]) (fun q => [Ch.row q (dB ((bT x.hm (aX n)).getD br)) 34]) (fun q => ?_) (fun J3 => ?_)
 refine ar ?_
 refine ai ?_
 refine au (ap rfl) rfl rfl ?_
 refine bD (t := 32) rfl (fun h4_0 => ?_) (fun h4_0 => ?_)
 refine ah ?_
 refine aq ?_
 refine aA rfl ?_
 refine ar ?_
 refine ai ?_
 refine au (a6 0 aR rfl rfl rfl rfl) rfl rfl ?_
 refine a0 aR rfl rfl rfl (.s (.z)) rfl rfl rfl rfl ?_
 refine au (ao rfl) rfl rfl ?_
 refine ah ?_
 refine aq ?_
 refine aQ ?_
 refine ay ?_
 refine ed (rs := [.cell 4 34, .tmp 5]) rfl (cF 1 aR rfl rfl rfl rfl (dR rfl dp)) rfl (fun w hw => ?_)
 focus first
   | (have hq : dd x.hm n = none := iF (by omega)
      exact ⟨(), by rw [hq]; rfl, hw.base, (hw.weak (List.nil_sublist _) (fun s hs => hs)).toNews⟩)
   | (have hq : dd x.hm n = bT x.hm (aX n) := iG hn0 h4_0
      exact ⟨(), by rw [hq, h4_0]; rfl, hw.base, (hw.weak (List.nil_sublist _) (fun s hs => hs)).toNews⟩)
   | (have hq : dd x.hm n = bT x.hm ([1, 42] ++ ef c) := by
        rw [eV hn0 hno, hI.2, hp, List.findSome?_cons]
        cases h9 : bT x.hm ([1, 42] ++ ef c) with
        | none => rw [h9] at h11_8; cases h11_8
        | some q => rfl
      exact ⟨(), by rw [hq, h11_8]; rfl, hw.base, (hw.weak (List.nil_sublist _) (fun s hs => hs)).toNews⟩)
   | (have hq : dd x.hm n = none := by
        rw [eV hn0 hno, hI.2, hB, if_neg (by rw [← en hI.1, h7_0]; decide)]; rfl
      exact ⟨(), by rw [hq]; rfl, hw.base, (hw.weak (List.nil_sublist _) (fun s hs => hs)).toNews⟩)
   | (trace_state; fail)
 refine ah ?_
 refine aq ?_
 refine aC rfl ?_
 refine aS ?_
 refine aq ?_
 refine ar ?_
 refine ar ?_
 have hno : (bT x.hm (aX n)).isSome = false := h4_0
 refine ai ?_
 refine au (ap rfl) rfl rfl ?_
 refine bb rfl il (eW _ (by omega)) rfl ?_
 refine bb rfl ent_80 (i3 _) rfl ?_
 refine au (ap rfl) rfl rfl ?_
 refine au (aP rfl rfl) rfl rfl ?_
 refine au (aP rfl rfl) rfl rfl ?_
 refine au (ao rfl) rfl rfl ?_
 refine au (ao rfl) rfl rfl ?_
 refine ah ?_
 refine aq ?_
 refine aW ?_
 refine bV (σ := bf) [5, 8, 9, 10, 11, 12, 13, 40, 41, 42, 43, 44, 45, 46, 47, 48, 49, 50, 51, 52, 53, 54, 55, 56, 57, 58, 59, 60, 61, 62, 63] (fun c => a8 c = 0 ∧ (fm (aX n)).findSome? (fun p => bT x.hm ([1, 42] ++ p)) = (fm c).findSome? (fun p => bT x.hm ([1, 42] ++ p))) (fun c => c.length) (fun c => [(8, .string (ba (parN c))), (9, .bool (fq c))]) ((aX n)) ?_ ⟨rfl, rfl, trivial⟩ (fun c hI => ?_)
 exact ⟨dU hn0, rfl⟩
 refine ar ?_
 refine ar ?_
 refine ai ?_
 refine au (ap rfl) rfl rfl ?_
 refine bD (t := 40) rfl (fun h7_0 => ?_) (fun h7_0 => ?_)
 refine ah ?_
 refine aq ?_
 refine aA rfl ?_
 refine aS ?_
 refine aq ?_
 refine ar ?_
 refine aW ?_
 refine ar ?_
 have hc : cO c = true := by rw [← en hI.1]; exact h7_0
 have hp : fm c = ef c :: fm (ef c) := by rw [hB, if_pos hc]
 have hrn := g6 hI.1 hc
 have hr2 := rst_len2 hc
 have hcl := (nameCk_zero.1 hI.1).1
 have hjoin : ei [1, 42] (ef c) = 0 := joinE_zero.2 ⟨by decide, hrn, by simp; omega⟩
 have hpc : parN c = ef c := fD h7_0
 refine ai ?_
 refine au (ap rfl) rfl rfl ?_
 refine cU (t := 47) (.string (ba (ef c))) rfl (by rw [hpc]) ?_
 refine bb rfl ent_81 (p_name_Join [1, 42] _ (by decide) (by omega)) rfl ?_
 refine au (ap rfl) rfl rfl ?_
 refine au (aP rfl rfl) rfl rfl ?_
 refine au (aP rfl rfl) rfl rfl ?_
 refine au (ao rfl) rfl rfl ?_
 refine au (ao rfl) rfl rfl ?_
 refine ah ?_
 refine aq ?_
 refine ar ?_
 refine ar ?_
 refine ai ?_
 refine au (ap rfl) rfl rfl ?_
 refine au (bX rfl rfl) rfl rfl ?_
 refine dJ (t := 52) rfl (fun h => h hjoin) ?_
 refine ah ?_
 refine aq ?_
 refine aC rfl ?_
 refine aS ?_
 refine aq ?_
 refine ar ?_
 refine ai ?_
 refine au (ap rfl) rfl rfl ?_
 refine au (bh rfl) rfl rfl ?_
 refine au (aD eL rfl) rfl rfl ?_
 refine au (cN 0 gA rfl rfl rfl) rfl rfl ?_
 refine au (ap rfl) rfl rfl ?_
 refine cU (t := 58) (.string (ba ([1, 42] ++ ef c))) rfl (by rw [iS hjoin]) ?_
 refine bp rfl eA rfl (fy _ _ _) (fun w hw => (aO (bJ 1 rfl hw) bd)) ?_
 refine au (ap rfl) rfl rfl ?_
 refine au (aP rfl rfl) rfl rfl ?_
 refine au (aP rfl rfl) rfl rfl ?_
 refine bD (t := 61) rfl (fun h11_8 => ?_) (fun h11_8 => ?_)
 refine bj aR rfl rfl (fun b2 => ?_)
 refine a0 aR rfl rfl rfl .z rfl rfl rfl rfl ?_
 refine au (ao rfl) rfl rfl ?_
 refine ah ?_
 refine aq ?_
 refine ar ?_
 refine ai ?_
 refine au (ap rfl) rfl rfl ?_
 refine ah ?_
 refine aq ?_
 refine aA rfl ?_
 refine ar ?_
 refine ai ?_
 refine au (a6 0 aR rfl rfl rfl rfl) rfl rfl ?_
 refine a0 aR rfl rfl rfl (.s (.s (.z))) rfl rfl rfl rfl ?_
 refine au (ao rfl) rfl rfl ?_
 refine ah ?_
 refine aq ?_
 refine aQ ?_
 refine aK ?_
 refine ay ?_
 refine a9 ?_
 refine aK ?_
 refine ay ?_
 refine ed (rs := [.cell 4 34, .tmp 5]) rfl (cF 2 aR rfl rfl rfl rfl (dR rfl dp)) rfl (fun w hw => ?_)
 focus first
   | (have hq : dd x.hm n = none := iF (by omega)
      exact ⟨(), by rw [hq]; rfl, hw.base, (hw.weak (List.nil_sublist _) (fun s hs => hs)).toNews⟩)
   | (have hq : dd x.hm n = bT x.hm (aX n) := iG hn0 h4_0
      exact ⟨(), by rw [hq, h4_0]; rfl, hw.base, (hw.weak (List.nil_sublist _) (fun s hs => hs)).toNews⟩)
   | (have hq : dd x.hm n = bT x.hm ([1, 42] ++ ef c) := by
        rw [eV hn0 hno, hI.2, hp, List.findSome?_cons]
        cases h9 : bT x.hm ([1, 42] ++ ef c) with
        | none => rw [h9] at h11_8; cases h11_8
        | some q => rfl
      exact ⟨(), by rw [hq, h11_8]; rfl, hw.base, (hw.weak (List.nil_sublist _) (fun s hs => hs)).toNews⟩)
   | (have hq : dd x.hm n = none := by
        rw [eV hn0 hno, hI.2, hB, if_neg (by rw [← en hI.1, h7_0]; decide)]; rfl
      exact ⟨(), by rw [hq]; rfl, hw.base, (hw.weak (List.nil_sublist _) (fun s hs => hs)).toNews⟩)
   | (trace_state; fail)
 refine bj aR rfl rfl (fun b3 => ?_)
 refine a0 aR rfl rfl rfl .z rfl rfl rfl rfl ?_
 refine au (ao rfl) rfl rfl ?_
 refine ah ?_
 refine aq ?_
 refine ar ?_
 refine ai ?_
 refine au (ap rfl) rfl rfl ?_
 refine ah ?_
 refine aq ?_
 refine aC rfl ?_
 refine aS ?_
 refine bo ?_
 refine aq ?_
 refine ai ?_
 refine au (ap rfl) rfl rfl ?_
 refine cU (t := 42) (.string (ba (ef c))) rfl (by rw [hpc]) ?_
 refine bb rfl ent_80 (i3 _) rfl ?_
 refine au (ap rfl) rfl rfl ?_
 refine au (aP rfl rfl) rfl rfl ?_
 refine au (aP rfl rfl) rfl rfl ?_
 refine au (ao rfl) rfl rfl ?_
 refine au (ao rfl) rfl rfl ?_
 refine ah ?_
 refine bq (ef c) ?_ ?_ ⟨rfl, rfl, trivial⟩ (by repeat (first | exact trivial | refine ⟨rfl, ?_⟩)) (fun w h => h.weak (.cons _ (List.Sublist.refl _)) (fun s hs => hs))
 exact ⟨hrn, by rw [hI.2, hp, List.findSome?_cons, iD h11_8]⟩
 exact fb hc
 refine ah ?_
 refine aq ?_
 refine aC rfl ?_
 refine bw ?_
 refine aY ?_
 refine aZ ?_
 refine a7 ?_
 refine aq ?_
 refine ar ?_
 refine ai ?_
 refine au (dW rfl (bu_34)) rfl rfl ?_
 refine a0 aR rfl rfl rfl (.s (.z)) rfl rfl rfl rfl ?_
 refine au (ao rfl) rfl rfl ?_
 refine ah ?_
 refine aq ?_
 refine aQ ?_
 refine ed (rs := [.cell 4 34, .tmp 5]) rfl (cF 1 aR rfl rfl rfl rfl (dR rfl dp)) rfl (fun w hw => ?_)
 focus first
   | (have hq : dd x.hm n = none := iF (by omega)
      exact ⟨(), by rw [hq]; rfl, hw.base, (hw.weak (List.nil_sublist _) (fun s hs => hs)).toNews⟩)
   | (have hq : dd x.hm n = bT x.hm (aX n) := iG hn0 h4_0
      exact ⟨(), by rw [hq, h4_0]; rfl, hw.base, (hw.weak (List.nil_sublist _) (fun s hs => hs)).toNews⟩)
   | (have hq : dd x.hm n = bT x.hm ([1, 42] ++ ef c) := by
        rw [eV hn0 hno, hI.2, hp, List.findSome?_cons]
        cases h9 : bT x.hm ([1, 42] ++ ef c) with
        | none => rw [h9] at h11_8; cases h11_8
        | some q => rfl
      exact ⟨(), by rw [hq, h11_8]; rfl, hw.base, (hw.weak (List.nil_sublist _) (fun s hs => hs)).toNews⟩)
   | (have hq : dd x.hm n = none := by
        rw [eV hn0 hno, hI.2, hB, if_neg (by rw [← en hI.1, h7_0]; decide)]; rfl
      exact ⟨(), by rw [hq]; rfl, hw.base, (hw.weak (List.nil_sublist _) (fun s hs => hs)).toNews⟩)
   | (trace_state; fail)
 refine ar ?_
 refine dO 11 rfl cu ?_
 refine a2 (i := 0) rfl aj (ap rfl) aE aE rfl (aa (aa av)) (by kernel_rfl) rfl ?_
 refine a2 (i := 1) rfl aj (bh rfl) aE aE rfl (aa (aa av)) (by kernel_rfl) rfl ?_
 refine a2 (i := 2) rfl aj (aD eL rfl) aE aE rfl (aa (aa av)) (by kernel_rfl) rfl ?_
 refine a2 (i := 3) rfl aj (cN 0 gA rfl rfl rfl) aE aE rfl (aa (aa av)) (by kernel_rfl) rfl ?_
 refine a2 (i := 4) rfl aj (ap rfl) aE aE rfl (aa (aa av)) (by kernel_rfl) rfl ?_
 refine cA (js := [5, 10]) (by kernel_rfl) rfl ?_
 refine bi (i := 5) rfl rfl rfl (bm rfl il) rfl ?_ ?_
 refine bb rfl il (eW _ (by omega)) rfl ?_
 refine ah ?_
 refine bv aE ?_
 refine cA (js := [6, 10]) (by kernel_rfl) rfl ?_
 refine bi (i := 6) rfl rfl rfl (bm rfl eA) rfl ?_ ?_
 refine bp rfl eA rfl (fy _ _ _) (fun w hw => (aO (bJ 1 rfl hw) bd)) ?_
 refine ah ?_
 refine bv aE ?_
 refine a2 (i := 7) rfl aj (ap rfl) aE aE rfl (aa (aa av)) (by kernel_rfl) rfl ?_
 refine a2 (i := 8) rfl aj (aP rfl rfl) aE aE rfl (aa (aa av)) (by kernel_rfl) rfl ?_
 refine cA (js := [9, 10]) (by kernel_rfl) rfl ?_
 refine bi (i := 9) rfl rfl rfl (fun _ _ _ => aN (by kernel_rfl)) rfl ?_ ?_
 refine au (aP rfl rfl) rfl rfl ?_
 refine ah ?_
 refine bv aE ?_
 refine bk (i := 10) rfl rfl rfl (fun _ _ _ => aN (by kernel_rfl)) (by kernel_rfl) rfl ?_
 refine bj aR rfl rfl (fun b4 => ?_)
 refine ah ?_
 refine bv (fun w h => h.weak (.cons _ (List.Sublist.refl _)) (fun s hs => hs)) ?_
 refine bk (i := 11) rfl rfl rfl (fun _ _ _ => aN (by kernel_rfl)) (by kernel_rfl) rfl ?_
 refine a0 aR rfl rfl rfl .z rfl rfl rfl rfl ?_
 refine ah ?_
 refine a4 rfl ?_
 refine bk (i := 12) rfl rfl rfl (fun _ _ _ => aN (by kernel_rfl)) (by kernel_rfl) rfl ?_
 refine au (ao rfl) rfl rfl ?_
 refine ah ?_
 refine a4 rfl ?_
 refine bP (by kernel_rfl) ?_
 refine aq ?_
 refine bF (fun w h => h.weak (.cons_cons _ (List.Sublist.refl _)) (fun s hs => hs)) ?_
 exact J3 b4 _ (by repeat (first | exact trivial | refine ⟨rfl, ?_⟩))
 refine bi (i := 10) rfl rfl rfl (fun _ _ _ => aN (by kernel_rfl)) rfl ?_ ?_
 refine bj aR rfl rfl (fun b5 => ?_)
 refine ah ?_
 refine bv (fun w h => h.weak (.cons _ (List.Sublist.refl _)) (fun s hs => hs)) ?_
 refine cA (js := [9, 11]) (by kernel_rfl) rfl ?_
 refine bi (i := 9) rfl rfl rfl (fun _ _ _ => aN (by kernel_rfl)) rfl ?_ ?_
 refine au (aP rfl rfl) rfl rfl ?_
 refine ah ?_
 refine bv (fun w h => h.weak (.cons _ (List.Sublist.refl _)) (fun s hs => hs)) ?_
 refine bk (i := 11) rfl rfl rfl (fun _ _ _ => aN (by kernel_rfl)) (by kernel_rfl) rfl ?_
 refine a0 aR rfl rfl rfl .z rfl rfl rfl rfl ?_
 refine ah ?_
 refine a4 rfl ?_
 refine bk (i := 12) rfl rfl rfl (fun _ _ _ => aN (by kernel_rfl)) (by kernel_rfl) rfl ?_
 refine au (ao rfl) rfl rfl ?_
 refine ah ?_
 refine a4 rfl ?_
 refine bP (by kernel_rfl) ?_
 refine aq ?_
 refine bF (fun w h => h.weak (.cons_cons _ (List.Sublist.refl _)) (fun s hs => hs)) ?_
 exact J3 b5 _ (by repeat (first | exact trivial | refine ⟨rfl, ?_⟩))
 refine bi (i := 11) rfl rfl rfl (fun _ _ _ => aN (by kernel_rfl)) rfl ?_ ?_
 refine a0 aR rfl rfl rfl .z rfl rfl rfl rfl ?_
 refine ah ?_
 refine a4 rfl ?_
 refine bk (i := 9) rfl rfl rfl (fun _ _ _ => aN (by kernel_rfl)) (by kernel_rfl) rfl ?_
 refine au (aP rfl rfl) rfl rfl ?_
 refine ah ?_
 refine a4 rfl ?_
 refine bk (i := 12) rfl rfl rfl (fun _ _ _ => aN (by kernel_rfl)) (by kernel_rfl) rfl ?_
 refine au (ao rfl) rfl rfl ?_
 refine ah ?_
 refine a4 rfl ?_
 refine bP (by kernel_rfl) ?_
 refine aq ?_
 refine bF (fun w h => h.weak (.cons_cons _ (List.Sublist.refl _)) (fun s hs => hs)) ?_
 exact J3 b5 _ (by repeat (first | exact trivial | refine ⟨rfl, ?_⟩))
 exact ci
 exact ci
 refine bi (i := 10) rfl rfl rfl (fun _ _ _ => aN (by kernel_rfl)) rfl ?_ ?_
 refine bj aR rfl rfl (fun b6 => ?_)
 refine ah ?_
 refine bv (fun w h => h.weak (.cons _ (List.Sublist.refl _)) (fun s hs => hs)) ?_
 refine bk (i := 6) rfl rfl rfl (bm rfl eA) (by kernel_rfl) rfl ?_
 refine bp rfl eA rfl (fy _ _ _) (fun w hw => (aO (bJ 1 rfl hw) bd)) ?_
 refine ah ?_
 refine bv (fun w h => h.weak (.cons _ (List.Sublist.refl _)) (fun s hs => hs)) ?_
 refine a2 (i := 7) rfl aj (ap rfl) (fun w h => h.weak (.cons _ (List.Sublist.refl _)) (fun s hs => hs)) aE rfl (aa (aa av)) (by kernel_rfl) rfl ?_
 refine a2 (i := 8) rfl aj (aP rfl rfl) (fun w h => h.weak (.cons _ (List.Sublist.refl _)) (fun s hs => hs)) aE rfl (aa (aa av)) (by kernel_rfl) rfl ?_
 refine cA (js := [9, 11]) (by kernel_rfl) rfl ?_
 refine bi (i := 9) rfl rfl rfl (fun _ _ _ => aN (by kernel_rfl)) rfl ?_ ?_
 refine au (aP rfl rfl) rfl rfl ?_
 refine ah ?_
 refine bv (fun w h => h.weak (.cons _ (List.Sublist.refl _)) (fun s hs => hs)) ?_
 refine bk (i := 11) rfl rfl rfl (fun _ _ _ => aN (by kernel_rfl)) (by kernel_rfl) rfl ?_
 refine a0 aR rfl rfl rfl .z rfl rfl rfl rfl ?_
 refine ah ?_
 refine a4 rfl ?_
 refine bk (i := 12) rfl rfl rfl (fun _ _ _ => aN (by kernel_rfl)) (by kernel_rfl) rfl ?_
 refine au (ao rfl) rfl rfl ?_
 refine ah ?_
 refine a4 rfl ?_
 refine bP (by kernel_rfl) ?_
 refine aq ?_
 refine bF (fun w h => h.weak (.cons_cons _ (List.Sublist.refl _)) (fun s hs => hs)) ?_
 exact J3 b6 _ (by repeat (first | exact trivial | refine ⟨rfl, ?_⟩))
 refine bi (i := 11) rfl rfl rfl (fun _ _ _ => aN (by kernel_rfl)) rfl ?_ ?_
 refine a0 aR rfl rfl rfl .z rfl rfl rfl rfl ?_
 refine ah ?_
 refine a4 rfl ?_
 refine bk (i := 9) rfl rfl rfl (fun _ _ _ => aN (by kernel_rfl)) (by kernel_rfl) rfl ?_
 refine au (aP rfl rfl) rfl rfl ?_
 refine ah ?_
 refine a4 rfl ?_
 refine bk (i := 12) rfl rfl rfl (fun _ _ _ => aN (by kernel_rfl)) (by kernel_rfl) rfl ?_
 refine au (ao rfl) rfl rfl ?_
 refine ah ?_
 refine a4 rfl ?_
 refine bP (by kernel_rfl) ?_
 refine aq ?_
 refine bF (fun w h => h.weak (.cons_cons _ (List.Sublist.refl _)) (fun s hs => hs)) ?_
 exact J3 b6 _ (by repeat (first | exact trivial | refine ⟨rfl, ?_⟩))
 exact ci
 exact ci
 refine bi (i := 10) rfl rfl rfl (fun _ _ _ => aN (by kernel_rfl)) rfl ?_ ?_
 refine bj aR rfl rfl (fun b7 => ?_)
 refine ah ?_
 refine bv (fun w h => h.weak (.cons _ (List.Sublist.refl _)) (fun s hs => hs)) ?_
 refine bk (i := 5) rfl rfl rfl (bm rfl il) (by kernel_rfl) rfl ?_
 refine bb rfl il (eW _ (by omega)) rfl ?_
 refine ah ?_
 refine bv (fun w h => h.weak (.cons _ (List.Sublist.refl _)) (fun s hs => hs)) ?_
 refine bk (i := 6) rfl rfl rfl (bm rfl eA) (by kernel_rfl) rfl ?_
 refine bp rfl eA rfl (fy _ _ _) (fun w hw => (aO (bJ 1 rfl hw) bd)) ?_
 refine ah ?_
 refine bv (fun w h => h.weak (.cons _ (List.Sublist.refl _)) (fun s hs => hs)) ?_
 refine a2 (i := 7) rfl aj (ap rfl) (fun w h => h.weak (.cons _ (List.Sublist.refl _)) (fun s hs => hs)) aE rfl (aa (aa av)) (by kernel_rfl) rfl ?_
 refine a2 (i := 8) rfl aj (aP rfl rfl) (fun w h => h.weak (.cons _ (List.Sublist.refl _)) (fun s hs => hs)) aE rfl (aa (aa av)) (by kernel_rfl) rfl ?_
 refine cA (js := [9, 11]) (by kernel_rfl) rfl ?_
 refine bi (i := 9) rfl rfl rfl (fun _ _ _ => aN (by kernel_rfl)) rfl ?_ ?_
 refine au (aP rfl rfl) rfl rfl ?_
 refine ah ?_
 refine bv (fun w h => h.weak (.cons _ (List.Sublist.refl _)) (fun s hs => hs)) ?_
 refine bk (i := 11) rfl rfl rfl (fun _ _ _ => aN (by kernel_rfl)) (by kernel_rfl) rfl ?_
 refine a0 aR rfl rfl rfl .z rfl rfl rfl rfl ?_
 refine ah ?_
 refine a4 rfl ?_
 refine bk (i := 12) rfl rfl rfl (fun _ _ _ => aN (by kernel_rfl)) (by kernel_rfl) rfl ?_
 refine au (ao rfl) rfl rfl ?_
 refine ah ?_
 refine a4 rfl ?_
 refine bP (by kernel_rfl) ?_
 refine aq ?_
 refine bF (fun w h => h.weak (.cons_cons _ (List.Sublist.refl _)) (fun s hs => hs)) ?_
 exact J3 b7 _ (by repeat (first | exact trivial | refine ⟨rfl, ?_⟩))
 refine bi (i := 11) rfl rfl rfl (fun _ _ _ => aN (by kernel_rfl)) rfl ?_ ?_
 refine a0 aR rfl rfl rfl .z rfl rfl rfl rfl ?_
 refine ah ?_
 refine a4 rfl ?_
 refine bk (i := 9) rfl rfl rfl (fun _ _ _ => aN (by kernel_rfl)) (by kernel_rfl) rfl ?_
 refine au (aP rfl rfl) rfl rfl ?_
 refine ah ?_
 refine a4 rfl ?_
 refine bk (i := 12) rfl rfl rfl (fun _ _ _ => aN (by kernel_rfl)) (by kernel_rfl) rfl ?_
 refine au (ao rfl) rfl rfl ?_
 refine ah ?_
 refine a4 rfl ?_
 refine bP (by kernel_rfl) ?_
 refine aq ?_
 refine bF (fun w h => h.weak (.cons_cons _ (List.Sublist.refl _)) (fun s hs => hs)) ?_
 exact J3 b7 _ (by repeat (first | exact trivial | refine ⟨rfl, ?_⟩))
 exact ci
 exact ci

/-- What is held: a host, its address. -/
structure Hd where
  host : bf
  ad : Ad
def hdC (h : Hd) : List Value := [.string (ba h.host), .bool h.ad.six, .int .u64 h.ad.hi, .int .u64 h.ad.lo]
theorem eU : Enc hdC 4 := ⟨fun _ => rfl, fun _ => rfl⟩
def dG : Hd := ⟨[], eZ⟩

def ez : Option Nat → Int
  | none => -1
  | some j => j
def gm (l : List Le) (i : Nat) : bf := (l.getD i br).e.host
/-- The best match so far. -/
def iy (l : List Le) (n : bf) (i : Nat) (b : Option Nat) (long : Nat) : Prop := (∀ q, q < i → dE (gm l q) n = false) ∧
  match b with
  | none => long = 0 ∧ ∀ q, q < i → cT (gm l q) n = false
  | some j => j < i ∧ cT (gm l j) n = true ∧ long = (a5 (gm l j)).length ∧ ∀ q, q < i → cT (gm l q) n = true → (a5 (gm l q)).length ≤ long
theorem best_zero (l : List Le) (n : bf) : iy l n 0 none 0 := ⟨nofun, rfl, nofun⟩
theorem match_pos {w n : bf} (h : cT w n = true) : 1 ≤ (a5 w).length := by
  simp only [cT, Bool.and_eq_true] at h
  have h1 := h.1.1.1
  simp only [fN, Bool.and_eq_true, decide_eq_true_eq] at h1
  refine labs_pos h1.1 (fun e => ?_)
  rw [e] at h1
  have := h1.2.length_le
  simp at this
theorem best_yes {l : List Le} {n : bf} {i : Nat} {b : Option Nat} {long : Nat} (h : iy l n i b long) (hs : dE (gm l i) n = false) (hm : cT (gm l i) n = true) (hl : long < (a5 (gm l i)).length) : iy l n (i + 1) (some i) (a5 (gm l i)).length := by
  obtain ⟨h1, h2⟩ := h
  refine ⟨fun q hq => ?_, by omega, hm, rfl, fun q hq hqm => ?_⟩
  · by_cases e : q = i
    · rw [e]; exact hs
    · exact h1 q (by omega)
  · by_cases e : q = i
    · rw [e]; exact Nat.le_refl _
    · cases b with
      | none => rw [h2.2 q (by omega)] at hqm; cases hqm
      | some j => have := h2.2.2.2 q (by omega) hqm; omega
theorem best_no {l : List Le} {n : bf} {i : Nat} {b : Option Nat} {long : Nat} (h : iy l n i b long) (hs : dE (gm l i) n = false) (hm : cT (gm l i) n = false ∨ ¬ long < (a5 (gm l i)).length) : iy l n (i + 1) b long := by
  obtain ⟨h1, h2⟩ := h
  refine ⟨fun q hq => ?_, ?_⟩
  · by_cases e : q = i
    · rw [e]; exact hs
    · exact h1 q (by omega)
  · cases b with
    | none =>
      refine ⟨h2.1, fun q hq => ?_⟩
      by_cases e : q = i
      · rw [e]
        rcases hm with hm | hm
        · exact hm
        · cases hmm : cT (gm l i) n with
          | false => rfl
          | true => have := match_pos hmm; have := h2.1; omega
      · exact h2.2 q (by omega)
    | some j =>
      refine ⟨by have := h2.1; omega, h2.2.1, h2.2.2.1, fun q hq hqm => ?_⟩
      by_cases e : q = i
      · rw [e] at hqm ⊢
        rcases hm with hm | hm
        · rw [hm] at hqm; cases hqm
        · omega
      · exact h2.2.2.2 q (by omega) hqm
/-- What the reference finds. -/
def iT (l : List Le) (n : bf) : Option Le → Prop
  | none => (∀ x ∈ l, dE x.e.host n = false) ∧ ∀ x ∈ l, cT x.e.host n = false
  | some y => y ∈ l ∧ (dE y.e.host n = true ∨ ((∀ x ∈ l, dE x.e.host n = false) ∧ cT y.e.host n = true ∧ ∀ x ∈ l, cT x.e.host n = true → (a5 x.e.host).length ≤ (a5 y.e.host).length))
theorem at_all {l : List Le} {p : bf → Prop} (h : ∀ q, q < l.length → p (gm l q)) : ∀ x ∈ l, p x.e.host := fun x hx => by
  obtain ⟨i, hi, rfl⟩ := List.mem_iff_getElem.1 hx
  have := h i hi
  rwa [gm, List.getD_eq_getElem?_getD, List.getElem?_eq_getElem hi] at this
theorem spec_none {l : List Le} {n : bf} {b : Option Nat} {long : Nat} (h : iy l n l.length b long) (hb : ez b < 0) : iT l n none := by
  cases b with
  | none => exact ⟨at_all (p := fun s => dE s n = false) h.1, at_all (p := fun s => cT s n = false) h.2.2⟩
  | some j => exact absurd hb (by simp only [ez]; omega)
theorem spec_best {l : List Le} {n : bf} {b : Option Nat} {long : Nat} (h : iy l n l.length b long) (hb : ¬ ez b < 0) : (ez b).toNat < l.length ∧ iT l n (some (l.getD (ez b).toNat br)) := by
  cases b with
  | none => exact absurd (by decide) hb
  | some j =>
    obtain ⟨h1, h2, h3, h4, h5⟩ := h
    have e : (ez (some j)).toNat = j := by simp [ez]
    rw [e]
    refine ⟨h2, bA h2, .inr ⟨at_all (p := fun s => dE s n = false) h1, h3, ?_⟩⟩
    exact at_all (p := fun s => cT s n = true → (a5 s).length ≤ (a5 (gm l j)).length) (fun q hq hm => by rw [← h4]; exact h5 q hq hm)

end Go.Proofs.YtnpdgmoeoidppaaGreat

/- an index finds what the reference finds: the plain law -/
namespace Go.Proofs.YtnpdgmoeoidppaaGreat
open Go.RowKit Go.Shelf
set_option linter.unusedVariables false
set_option linter.unusedSimpArgs false

theorem jm : ∀ (f : Nat) (c : bf), c.length ≤ f → a8 c = 0 → ∀ p, (p ∈ fm c ↔ ∃ pre s, pre ≠ [] ∧ dH c = pre ++ s ∧ p = dv s)
  | 0, c, hf, hc, p => by
    have : c = [] := List.length_eq_zero_iff.1 (by omega)
    subst this
    have e : dH [] = [] := rfl
    constructor
    · intro h; cases h
    · rintro ⟨pre, s, h1, h2, _⟩
      rw [e] at h2
      exact absurd (List.append_eq_nil_iff.1 h2.symm).1 h1
  | f + 1, c, hf, hc, p => by
    by_cases hn : c = []
    · subst hn
      have e : dH [] = [] := rfl
      constructor
      · intro h; cases h
      · rintro ⟨pre, s, h1, h2, _⟩
        rw [e] at h2
        exact absurd (List.append_eq_nil_iff.1 h2.symm).1 h1
    · have hcut := iq hc hn
      have hr := g6 hc hcut
      have hl := fb hcut
      have ih := jm f (ef c) (by omega) hr p
      have e1 : fm c = ef c :: fm (ef c) := by rw [hB, if_pos hcut]
      have e2 : dH c = lab c :: dH (ef c) := by rw [fj, if_pos hcut]
      have e3 : dv (dH (ef c)) = ef c := e8 _ (nameCk_zero.1 hr).2
      rw [e1, e2, List.mem_cons, ih]
      constructor
      · rintro (rfl | ⟨pre, s, h1, h2, h3⟩)
        · exact ⟨[lab c], dH (ef c), by simp, rfl, e3.symm⟩
        · exact ⟨lab c :: pre, s, by simp, by rw [h2]; rfl, h3⟩
      · rintro ⟨pre, s, h1, h2, h3⟩
        cases pre with
        | nil => exact absurd rfl h1
        | cons a pre =>
          obtain ⟨rfl, h4⟩ := List.cons.inj h2
          by_cases hp : pre = []
          · subst hp
            left
            rw [h3, ← e3]
            congr 1
            simpa using h4.symm
          · exact .inr ⟨pre, s, hp, h4, h3⟩
theorem lowB_1 {a : UInt8} (h : er a = 1) : a = 1 := by
  unfold er at h
  split at h
  · rename_i h1
    have := congrArg UInt8.toNat h
    simp at this
    omega
  · exact h
theorem lowB_42 {a : UInt8} (h : er a = 42) : a = 42 := by
  unfold er at h
  split at h
  · rename_i h1
    have := congrArg UInt8.toNat h
    simp at this
    omega
  · exact h
theorem low_wild (t : bf) : bB (1 :: 42 :: t) = [1, 42] ++ bB t := by
  have h1 : er 1 = 1 := by decide
  have h2 : er 42 = 42 := by decide
  simp [bB, h1, h2]
theorem gg {t : bf} (h : a8 (1 :: 42 :: t) = 0) : cO (1 :: 42 :: t) = true ∧ ef (1 :: 42 :: t) = t ∧ a8 t = 0 ∧ parN (1 :: 42 :: t) = t ∧ a5 (1 :: 42 :: t) = [42] :: a5 t := by
  have hc : cO (1 :: 42 :: t) = true := iq h (by simp)
  have hr : ef (1 :: 42 :: t) = t := rfl
  have hn := g6 h hc
  rw [hr] at hn
  refine ⟨hc, hr, hn, ?_, ?_⟩
  · rw [fD (jP ⟨h, by simp⟩), hr]
  · rw [a5, if_pos h, fj, if_pos hc, hr, a5, if_pos hn]; rfl
/-- A wildcard matches just if it is, folded, the star ahead of what lies above the name. -/
theorem match_iff {w n : bf} (hw : a8 w = 0) (hn : a8 n = 0) : cT w n = true ↔ ∃ p ∈ fm (aX n), aX w = [1, 42] ++ p ∧ (a5 w).length = (dH p).length + 1 ∧ a8 p = 0 := by
  have hf := dU hn
  have hlf : dH (aX n) = (a5 n).map bB := by
    have := fv hn
    rwa [a5, if_pos hf] at this
  constructor
  · intro h
    simp only [cT, Bool.and_eq_true, decide_eq_true_eq] at h
    obtain ⟨⟨⟨h1, _⟩, h3⟩, h4⟩ := h
    simp only [fN, Bool.and_eq_true, decide_eq_true_eq] at h1
    obtain ⟨t, rfl⟩ := h1.2
    have hwp := gg (t := t) hw
    obtain ⟨_, _, ht, hp, hl⟩ := hwp
    rw [show [1, 42] ++ t = 1 :: 42 :: t from rfl] at *
    rw [hp] at h3 h4
    simp only [cK, Bool.and_eq_true, decide_eq_true_eq] at h3
    obtain ⟨pre, e⟩ := h3.2
    have e4 : a5 t = dH t := if_pos ht
    have e5 : dv ((a5 t).map bB) = aX t := by rw [e4, gQ _ (ec t), e8 t (nameCk_zero.1 ht).2, fI ht]
    have hft := dU ht
    refine ⟨aX t, ?_, ?_, ?_, hft⟩
    · rw [jm _ _ (Nat.le_refl _) hf]
      refine ⟨pre, (a5 t).map bB, ?_, by rw [hlf, e], e5.symm⟩
      rintro rfl
      have := congrArg List.length e
      simp at this
      omega
    · rw [fI hw, low_wild, fI ht]
    · have := fv ht
      rw [a5, if_pos hft] at this
      rw [hl, this]; simp
  · rintro ⟨p, hp, hwp, _, _⟩
    obtain ⟨pre, s, hpre, hs, rfl⟩ := (jm _ _ (Nat.le_refl _) hf p).1 hp
    rw [fI hw] at hwp
    have hok : ∀ q ∈ s, 1 ≤ q.length ∧ q.length ≤ 63 := fun q hq => ec (aX n) q (by rw [hs]; exact List.mem_append_right _ hq)
    match w, hw, hwp with
    | [], _, h => simp [bB] at h
    | [a], _, h => simp [bB] at h
    | a :: b :: t, hw, h =>
      simp only [bB, List.map_cons, List.cons_append, List.nil_append, List.cons.injEq] at h
      obtain ⟨h1, h2, h3⟩ := h
      have ha := lowB_1 h1
      have hb := lowB_42 h2
      subst ha; subst hb
      obtain ⟨_, _, ht, hpn, hl⟩ := gg hw
      have hlt : (a5 t).map bB = s := by
        rw [← fv ht, a5, if_pos (dU ht), fI ht, show bB t = dv s from h3]
        exact (fH s hok).2
      have hle : (a5 n).length = pre.length + s.length := by
        have := congrArg List.length hs
        rw [hlf] at this; simpa using this
      have hpl : 0 < pre.length := List.length_pos_iff.2 hpre
      have hsl : s.length = (a5 t).length := by rw [← hlt]; simp
      have hu : cK n t = true := by
        rw [cK, decide_eq_true hn, decide_eq_true ht, decide_eq_true (by rw [hlt, ← hlf, hs]; exact List.suffix_append _ _)]; rfl
      have hwi : fN (1 :: 42 :: t) = true := by
        have hp9 : ([1, 42] : bf) <+: (1 :: 42 :: t) := ⟨t, rfl⟩
        rw [fN, decide_eq_true hw, decide_eq_true hp9]; rfl
      rw [cT, hwi, decide_eq_true hn, hpn, hu, decide_eq_true (by omega)]; rfl
/-- How many labels lie above. -/
theorem pars_at : ∀ (f : Nat) (c : bf), c.length ≤ f → a8 c = 0 → ∀ (i : Nat) (p : bf), (fm c)[i]? = some p → (dH p).length + 1 + i = (dH c).length
  | 0, c, hf, hc, i, p, h => by
    have : c = [] := List.length_eq_zero_iff.1 (by omega)
    subst this
    cases h
  | f + 1, c, hf, hc, i, p, h => by
    by_cases hn : c = []
    · subst hn; cases h
    · have hcut := iq hc hn
      have hr := g6 hc hcut
      have hl := fb hcut
      have e1 : fm c = ef c :: fm (ef c) := by rw [hB, if_pos hcut]
      have e2 : dH c = lab c :: dH (ef c) := by rw [fj, if_pos hcut]
      rw [e1] at h
      rw [e2]
      cases i with
      | zero =>
        simp at h; subst h; simp
      | succ i =>
        have := pars_at f (ef c) (by omega) hr i p (by simpa using h)
        simp; omega
def ee (es : List En) (key : bf) : Option En := es.find? fun e => decide (aX e.host = key)
def findE (es : List En) (n : bf) : Option En := if a8 n ≠ 0 then none else (ee es (aX n)).or ((fm (aX n)).findSome? fun p => ee es ([1, 42] ++ p))
theorem jO {α β γ : Type} (f : α → Option β) (g : β → γ) : ∀ l : List α, (l.findSome? f).map g = l.findSome? fun a => (f a).map g
  | [] => rfl
  | a :: r => by
    rw [List.findSome?_cons, List.findSome?_cons]
    cases f a with
    | none => exact jO f g r
    | some b => rfl
theorem hm_look {m : List (bf × Le)} {l : List Le} (h : HmOk m l) (key : bf) : (bT m key).map (·.e) = ee (l.map (·.e)) key := by
  rw [h key, ee, List.find?_map]; rfl
theorem find_E {m : List (bf × Le)} {l : List Le} (h : HmOk m l) (n : bf) : (dd m n).map (·.e) = findE (l.map (·.e)) n := by
  unfold dd findE
  split
  · rfl
  · rw [← hm_look h]
    have : ∀ o p : Option Le, (o.or p).map (·.e) = (o.map (·.e)).or (p.map (·.e)) := fun o p => by cases o <;> rfl
    rw [this, jO]
    congr 2
    funext p
    exact hm_look h _
/-- Hosts that may be, unlike one another. -/
structure HostsOk (es : List En) : Prop where
  ck : ∀ e ∈ es, a8 e.host = 0
  dis : ∀ e ∈ es, ∀ f ∈ es, aX e.host = aX f.host → e = f
theorem iR {es : List En} (h : HostsOk es) {e : En} (he : e ∈ es) : ee es (aX e.host) = some e := by
  cases hl : ee es (aX e.host) with
  | none =>
    have := List.find?_eq_none.1 hl e he
    simp at this
  | some f =>
    have h1 := List.mem_of_find?_eq_some hl
    have h2 := List.find?_some hl
    simp only [decide_eq_true_eq] at h2
    rw [h.dis f h1 e he h2]
theorem jR {es : List En} {key : bf} {e : En} (h : ee es key = some e) : e ∈ es ∧ aX e.host = key := by
  have h1 := List.mem_of_find?_eq_some h
  have h2 := List.find?_some h
  simp only [decide_eq_true_eq] at h2
  exact ⟨h1, h2⟩
def RefE (es : List En) (n : bf) : Option En → Prop
  | none => (∀ e ∈ es, dE e.host n = false) ∧ ∀ e ∈ es, cT e.host n = false
  | some y => y ∈ es ∧ (dE y.host n = true ∨ ((∀ e ∈ es, dE e.host n = false) ∧ cT y.host n = true ∧ ∀ e ∈ es, cT e.host n = true → (a5 e.host).length ≤ (a5 y.host).length))
theorem dP {a b : bf} (ha : a8 a = 0) (hb : a8 b = 0) : dE a b = true ↔ aX a = aX b := by
  simp [dE, ha, hb]
theorem ref_find {es : List En} (h : HostsOk es) {n : bf} {r : Option En} (hr : RefE es n r) : findE es n = r := by
  by_cases hn : a8 n ≠ 0
  · rw [findE, if_pos hn]
    cases r with
    | none => rfl
    | some y =>
      exfalso
      rcases hr.2 with h1 | h1
      · simp only [dE, Bool.and_eq_true, decide_eq_true_eq] at h1; exact hn h1.1.2
      · have h2 := h1.2.1
        simp only [cT, Bool.and_eq_true, decide_eq_true_eq] at h2; exact hn h2.1.1.2
  · have hn0 : a8 n = 0 := by omega
    have hf := dU hn0
    rw [findE, if_neg hn]
    have nosame : (∀ e ∈ es, dE e.host n = false) → ee es (aX n) = none := fun hs => by
      cases hl : ee es (aX n) with
      | none => rfl
      | some f =>
        obtain ⟨h1, h2⟩ := jR hl
        have h3 := hs f h1
        rw [(dP (h.ck f h1) hn0).2 h2] at h3
        cases h3
    have onp : ∀ p ∈ fm (aX n), ∀ f, ee es ([1, 42] ++ p) = some f → f ∈ es ∧ cT f.host n = true ∧ (a5 f.host).length = (dH p).length + 1 := fun p hp f hl => by
      obtain ⟨h1, h2⟩ := jR hl
      have hfc := h.ck f h1
      have hm : cT f.host n = true := by
        obtain ⟨pre, s, hpre, hs, rfl⟩ := (jm _ _ (Nat.le_refl _) hf p).1 hp
        have hok : ∀ q ∈ s, 1 ≤ q.length ∧ q.length ≤ 63 := fun q hq => ec (aX n) q (by rw [hs]; exact List.mem_append_right _ hq)
        refine (match_iff hfc hn0).2 ⟨dv s, hp, h2, ?_, ?_⟩
        · have e1 := fv hfc
          rw [h2] at e1
          have hc2 : a8 ([1, 42] ++ dv s) = 0 := by rw [← h2]; exact dU hfc
          have e2 := (gg (t := dv s) hc2).2.2.2.2
          rw [show [1, 42] ++ dv s = 1 :: 42 :: dv s from rfl, e2] at e1
          have e3 := congrArg List.length e1
          have e4 : a5 (dv s) = dH (dv s) := if_pos (gg (t := dv s) hc2).2.2.1
          rw [e4] at e3
          simp at e3; omega
        · have hc2 : a8 ([1, 42] ++ dv s) = 0 := by rw [← h2]; exact dU hfc
          exact (gg (t := dv s) hc2).2.2.1
      obtain ⟨p2, hp2, hw2, hl2, _⟩ := (match_iff hfc hn0).1 hm
      have : p2 = p := List.append_cancel_left (hw2.symm.trans h2)
      subst this
      exact ⟨h1, hm, hl2⟩
    cases r with
    | none =>
      rw [nosame hr.1]
      show (fm (aX n)).findSome? _ = none
      rw [List.findSome?_eq_none_iff]
      intro p hp
      cases hl : ee es ([1, 42] ++ p) with
      | none => rfl
      | some f =>
        obtain ⟨h1, h2, _⟩ := onp p hp f hl
        rw [hr.2 f h1] at h2; cases h2
    | some y =>
      obtain ⟨hy, h1⟩ := hr
      rcases h1 with h1 | ⟨h1, h2, h3⟩
      · rw [← (dP (h.ck y hy) hn0).1 h1, iR h hy]; rfl
      · rw [nosame h1]
        show (fm (aX n)).findSome? _ = some y
        obtain ⟨p, hp, hwp, hlp, _⟩ := (match_iff (h.ck y hy) hn0).1 h2
        have hyl : ee es ([1, 42] ++ p) = some y := by rw [← hwp]; exact iR h hy
        cases hfs : (fm (aX n)).findSome? (fun p => ee es ([1, 42] ++ p)) with
        | none =>
          have := List.findSome?_eq_none_iff.1 hfs p hp
          rw [hyl] at this; cases this
        | some z =>
          obtain ⟨l1, q, l2, e, hq, hno⟩ := List.findSome?_eq_some_iff.1 hfs
          have hqm : q ∈ fm (aX n) := by rw [e]; simp
          obtain ⟨hz1, hz2, hz3⟩ := onp q hqm z hq
          have hle := h3 z hz1 hz2
          have hqi : (fm (aX n))[l1.length]? = some q := by rw [e]; simp
          have q1 := pars_at _ _ (Nat.le_refl _) hf _ _ hqi
          obtain ⟨j, hj, rfl⟩ := List.mem_iff_getElem.1 hp
          have q2 := pars_at _ _ (Nat.le_refl _) hf j _ (List.getElem?_eq_getElem hj)
          have hjl : ¬ j < l1.length := fun hlt => by
            have h9 := hno ((fm (aX n))[j]) (by
              have : (fm (aX n))[j]? = l1[j]? := by rw [e, List.getElem?_append_left hlt]
              rw [List.getElem?_eq_getElem hj, List.getElem?_eq_getElem hlt] at this
              rw [Option.some.inj this]; exact List.getElem_mem hlt)
            rw [hyl] at h9; cases h9
          have hje : j = l1.length := by omega
          have e9 : (fm (aX n))[j]? = some q := by rw [hje]; exact hqi
          have hqe : q = (fm (aX n))[j] := (Option.some.inj ((List.getElem?_eq_getElem hj).symm.trans e9)).symm
          rw [← hqe, hq] at hyl
          exact hyl
/-- A table that may be. -/
theorem iz {v : Int} {l : List Le} (h : bO v l = 0) : (∀ x ∈ l, cJ x.e = 0) ∧ ig l ∧ l.length ≤ 256 ∧ 0 ≤ v ∧ v ≤ 2147483647 := by
  unfold bO at h
  split at h
  · omega
  · split at h
    · omega
    · split at h
      · omega
      · rename_i h1 h2 h3
        refine ⟨entsCk_zero.1 (by omega), ?_, by omega, ?_, ?_⟩
        · exact Decidable.not_not.1 (fun q => h3 (.inl q))
        · by_cases q : 0 ≤ v
          · exact q
          · exact absurd (.inr (.inl (by omega))) h3
        · by_cases q : v ≤ 2147483647
          · exact q
          · exact absurd (.inr (.inr (by omega))) h3
theorem rises_far {l : List Le} (h : ig l) (i : Nat) : ∀ d, i + d + 1 < l.length → du (gm l i) (gm l (i + d + 1)) < 0
  | 0, hd => by
    have := h (i + 1) (by omega) hd
    rw [iU (l.getD (i + 1 - 1) br).e.host] at this
    show du (l.getD i br).e.host (l.getD (i + 1) br).e.host < 0
    rw [Nat.add_sub_cancel] at this
    omega
  | d + 1, hd => by
    have ih := rises_far h i d (by omega)
    have := h (i + (d + 1) + 1) (by omega) hd
    rw [iU (l.getD (i + (d + 1) + 1 - 1) br).e.host] at this
    rw [Nat.add_sub_cancel] at this
    exact cmpN_trans ih (by show du (l.getD (i + (d + 1)) br).e.host (l.getD (i + (d + 1) + 1) br).e.host < 0; omega)
theorem f5 {v : Int} {l : List Le} (h : bO v l = 0) : HostsOk (l.map (·.e)) := by
  obtain ⟨h1, h2, _⟩ := iz h
  have ck : ∀ e ∈ l.map (·.e), a8 e.host = 0 := fun e he => by
    obtain ⟨x, hx, rfl⟩ := List.mem_map.1 he
    exact ck_host (h1 x hx)
  have at_ : ∀ i, i < l.length → l[i]? = some (l.getD i br) := fun i hi => by rw [List.getD_eq_getElem?_getD, List.getElem?_eq_getElem hi]; rfl
  have key : ∀ i j, i < j → j < l.length → aX (gm l i) ≠ aX (gm l j) := fun i j hij hj e => by
    obtain ⟨d, rfl⟩ : ∃ d, j = i + d + 1 := ⟨j - i - 1, by omega⟩
    have h3 := rises_far h2 i d hj
    have c1 : a8 (gm l i) = 0 := ck_host (h1 _ (bA (by omega)))
    have c2 : a8 (gm l (i + d + 1)) = 0 := ck_host (h1 _ (bA hj))
    rw [(cmpN_zero c1 c2).2 e] at h3
    omega
  refine ⟨ck, fun e he f hf hef => ?_⟩
  obtain ⟨x, hx, rfl⟩ := List.mem_map.1 he
  obtain ⟨y, hy, rfl⟩ := List.mem_map.1 hf
  obtain ⟨i, hi, rfl⟩ := List.mem_iff_getElem.1 hx
  obtain ⟨j, hj, rfl⟩ := List.mem_iff_getElem.1 hy
  have gi : (l.getD i br) = l[i] := by rw [List.getD_eq_getElem?_getD, List.getElem?_eq_getElem hi]; rfl
  have gj : (l.getD j br) = l[j] := by rw [List.getD_eq_getElem?_getD, List.getElem?_eq_getElem hj]; rfl
  rcases Nat.lt_trichotomy i j with q | q | q
  · exact absurd (by rw [gm, gm, gi, gj]; exact hef) (key i j q hj)
  · subst q; rfl
  · exact absurd (by rw [gm, gm, gi, gj]; exact hef.symm) (key j i q hi)
theorem ref_E {l : List Le} {n : bf} {r : Option Le} (h : iT l n r) : RefE (l.map (·.e)) n (r.map (·.e)) := by
  cases r with
  | none => exact ⟨by simpa using h.1, by simpa using h.2⟩
  | some y =>
    obtain ⟨h1, h2⟩ := h
    refine ⟨List.mem_map.2 ⟨y, h1, rfl⟩, h2.imp id fun ⟨q1, q2, q3⟩ => ⟨by simpa using q1, q2, by simpa using q3⟩⟩
/-- The index finds what the reference finds. -/
theorem find_ref {v : Int} {l : List Le} {x : Ixd} (hx : IxOk l x) (h : bO v l = 0) {n : bf} {r : Option Le} (hr : iT l n r) : (dd x.hm n).map (·.e) = r.map (·.e) := by
  rw [find_E hx.hm, hx.es]
  exact ref_find (f5 h) (ref_E hr)
end Go.Proofs.YtnpdgmoeoidppaaGreat

/- the first candidate that an index finds; its law -/
namespace Go.Proofs.YtnpdgmoeoidppaaGreat
open Go.RowKit Go.Shelf
set_option linter.unusedVariables false
set_option linter.unusedSimpArgs false

set_option maxRecDepth 100000 in
theorem c_index_Newbad (v : Int) (l : List Le) (A : Option Addr) (c : Nat) (hok : TbOk l) (hlen : l.length ≤ 1000000000) (h0 : bO v l ≠ 0) (H : Option Addr) (h k : Nat) : RC Tryz.prog 13 #[.agg (iM v A l.length c).toArray, .slice H h k] [Ch.rd A 7 dB l, Ch.rall (l.flatMap e6)] (α := Unit) (fun _ => .tuple #[.pointer none, .int .i64 (bO v l)]) (fun _ => []) := by
 refine bx (args := [.agg (iM v A l.length c).toArray, .slice H h k]) 142 Tryz.func13 rfl rfl rfl (fun w0 => ?_)
 refine ar ?_
 refine ai ?_
 refine cv rfl rfl rfl (fun b1 => ?_)
 refine au (ao rfl) rfl rfl ?_
 refine au (ao rfl) rfl rfl ?_
 refine ah ?_
 refine aq ?_
 refine ar ?_
 refine ar ?_
 refine ai ?_
 refine au (a6 0 dh rfl rfl rfl rfl) rfl rfl ?_
 refine bp rfl ent_61 rfl (gz _ _ _ _ hok (by omega)) (fun w hw => (aO (bJ 0 rfl hw) (aO (bJ 1 rfl hw) bd))) ?_
 refine au (ao rfl) rfl rfl ?_
 refine ah ?_
 refine aq ?_
 refine ar ?_
 refine ai ?_
 refine au (ap rfl) rfl rfl ?_
 refine au (bX rfl rfl) rfl rfl ?_
 refine wl_at (t := 21) rfl h0 ?_
 refine ah ?_
 refine aq ?_
 refine aA rfl ?_
 refine ar ?_
 refine ai ?_
 refine au (ap rfl) rfl rfl ?_
 refine au (ao rfl) rfl rfl ?_
 refine au (ao rfl) rfl rfl ?_
 refine ah ?_
 refine aq ?_
 refine aQ ?_
 refine ay ?_
 refine aV (ts := [4, 5]) rfl rfl rfl (fun w hw => ?_)
 exact ⟨(), rfl, hw.base, (hw.weak (List.nil_sublist _) (fun s hs => hs)).toNews⟩

set_option maxRecDepth 100000 in
theorem c_ref18_Newbad (v : Int) (l : List Le) (A : Option Addr) (c : Nat) (hok : TbOk l) (hlen : l.length ≤ 1000000000) (h0 : bO v l ≠ 0) (H : Option Addr) (h k : Nat) : RC Tryz.prog 16 #[.agg (iM v A l.length c).toArray, .slice H h k] [Ch.rd A 7 dB l, Ch.rall (l.flatMap e6)] (α := Unit) (fun _ => .tuple #[.pointer none, .int .i64 (bO v l)]) (fun _ => []) := by
 refine bx (args := [.agg (iM v A l.length c).toArray, .slice H h k]) 83 Tryz.func16 rfl rfl rfl (fun w0 => ?_)
 refine ar ?_
 refine ai ?_
 refine cv rfl rfl rfl (fun b1 => ?_)
 refine au (ao rfl) rfl rfl ?_
 refine au (ao rfl) rfl rfl ?_
 refine ah ?_
 refine aq ?_
 refine ar ?_
 refine ai ?_
 refine au (a6 0 dh rfl rfl rfl rfl) rfl rfl ?_
 refine bp rfl ent_62 rfl (eO _ _ _ _ hok (by omega)) (fun w hw => (aO (bJ 0 rfl hw) (aO (bJ 1 rfl hw) bd))) ?_
 refine au (ao rfl) rfl rfl ?_
 refine ah ?_
 refine aq ?_
 refine ar ?_
 refine ar ?_
 refine ai ?_
 refine au (ap rfl) rfl rfl ?_
 refine au (bX rfl rfl) rfl rfl ?_
 refine wl_at (t := 14) rfl h0 ?_
 refine ah ?_
 refine aq ?_
 refine aA rfl ?_
 refine ar ?_
 refine ai ?_
 refine au (ap rfl) rfl rfl ?_
 refine au (ao rfl) rfl rfl ?_
 refine au (ao rfl) rfl rfl ?_
 refine ah ?_
 refine aq ?_
 refine aQ ?_
 refine ay ?_
 refine aV (ts := [4, 5]) rfl rfl rfl (fun w hw => ?_)
 exact ⟨(), rfl, hw.base, (hw.weak (List.nil_sublist _) (fun s hs => hs)).toNews⟩

theorem dc_le {w : World} : Dc Tryz.prog w 34 (α := Le) (dB) (e6) (fun x => EnOk x.e) := fun H enc base sp hd fuel cs x h => by
  obtain ⟨xs, n, rfl, _, hcl, hxl, hf⟩ := DataW.trod_struct Tryz.underlying34 h
  have hcl2 : cs.length = 7 := hcl.trans (by kernel_rfl)
  obtain ⟨x0, c0, r0, o0⟩ := cS hxl hf 0 (ft := 26) (off := 0) (k := 1) (by kernel_rfl) (by kernel_rfl) (ji Tryz.underlying26)
  obtain ⟨x1, c1, r1, o1⟩ := cS hxl hf 1 (ft := 3) (off := 1) (k := 1) (by kernel_rfl) (by kernel_rfl) (iu Tryz.underlying3)
  obtain ⟨x2, c2, r2, o2⟩ := cS hxl hf 2 (ft := 9) (off := 2) (k := 1) (by kernel_rfl) (by kernel_rfl) (ji Tryz.underlying9)
  obtain ⟨⟨x3, A, c⟩, c3, r3, o3⟩ := cS hxl hf 3 (ft := 30) (off := 3) (k := 1) (by kernel_rfl) (by kernel_rfl) dc_ads
  obtain ⟨x4, c4, r4, o4⟩ := cS hxl hf 4 (ft := 26) (off := 4) (k := 1) (by kernel_rfl) (by kernel_rfl) (ji Tryz.underlying26)
  obtain ⟨⟨x5, B, d⟩, c5, r5, o5⟩ := cS hxl hf 5 (ft := 31) (off := 5) (k := 1) (by kernel_rfl) (by kernel_rfl) dc_ints
  obtain ⟨x6, c6, r6, o6⟩ := cS hxl hf 6 (ft := 32) (off := 6) (k := 1) (by kernel_rfl) (by kernel_rfl) (iu Tryz.underlying32)
  have hcs := cut0 (gu c0 (gu c1 (gu c2 (gu c3 (gu c4 (gu c5 (gu c6 (cutn hcl2) rfl) rfl) rfl) rfl) rfl) rfl) rfl)
  exact ⟨⟨⟨x0, x1, x2, x3, x4, x5, x6⟩, A, c, B, d⟩, hcs, aO (r3 _ List.mem_cons_self) (aO (r5 _ List.mem_cons_self) nofun), o0, o1, o2, o3.2, o3.1, o4, o5.2, o5.1, o6⟩

theorem dc_ents {w : World} : Dc Tryz.prog w 22 (fun p : List Le × Option Addr × Nat => [.slice p.2.1 p.1.length p.2.2]) (fun p => Ch.rd p.2.1 7 dB p.1 :: p.1.flatMap e6) (fun p => p.1.length ≤ 9223372036854775807 ∧ ∀ x ∈ p.1, EnOk x.e) := jD Tryz.underlying22 (by kernel_rfl) (by decide) cj dc_le

theorem dc_tb {w : World} : Dc Tryz.prog w 24 (α := Int × List Le × Option Addr × Nat) (fun q => iM q.1 q.2.2.1 q.2.1.length q.2.2.2) (fun q => [Ch.rd q.2.2.1 7 dB q.2.1, Ch.rall (q.2.1.flatMap e6)]) (fun q => q.2.1.length ≤ 9223372036854775807 ∧ ∀ x ∈ q.2.1, EnOk x.e) := fun H enc base sp hd fuel cs x h => by
  obtain ⟨xs, n, rfl, _, hcl, hxl, hf⟩ := DataW.trod_struct Tryz.underlying24 h
  have hcl2 : cs.length = 2 := hcl.trans (by kernel_rfl)
  obtain ⟨x0, c0, r0, o0⟩ := cS hxl hf 0 (ft := 3) (off := 0) (k := 1) (by kernel_rfl) (by kernel_rfl) (iu Tryz.underlying3)
  obtain ⟨⟨x1, A, c⟩, c1, r1, o1⟩ := cS hxl hf 1 (ft := 22) (off := 1) (k := 1) (by kernel_rfl) (by kernel_rfl) dc_ents
  have hcs := cut0 (gu c0 (gu c1 (cutn hcl2) rfl) rfl)
  exact ⟨(x0, x1, A, c), hcs, aO (r1 _ List.mem_cons_self) (aO (rd_rall (fun s hs => r1 s (.tail _ hs))) nofun), o1⟩
end Go.Proofs.YtnpdgmoeoidppaaGreat
