import Derived.Test.YtnpdgmoeoidppaaGreatClQx
import Derived.Test.YtnpdgmoeoidppaaGreatPcQx
import Derived.Test.YtnpdgmoeoidppaaGreatLlQx
/- the reference of entries; the law of calls -/
namespace Go.Proofs.YtnpdgmoeoidppaaGreat
open Go.RowKit Go.Shelf
set_option linter.unusedVariables false
set_option linter.unusedSimpArgs false

theorem ent_133 : Enters Tryz.prog 133 := enters_of Tryz.func133 (by kernel_rfl) rfl

theorem c_ref16_Key (e : En) (A B : Option Addr) (c d : Nat) (hn : e.host.length ≤ 1000000000) : eC Tryz.prog 134 #[.agg (enC e A B c d).toArray] (.string (ba (a7 e.host))) := by
 intro w0
 refine bT (ok0 := no) (S := []) (args := [.agg (enC e A B c d).toArray]) 6 Tryz.func134 rfl rfl rfl (by simp) (by simp) ?_
 refine ap ?_
 refine ae ?_
 refine cL rfl rfl rfl (fun b1 => ?_)
 refine aq (ai rfl) rfl rfl ?_
 refine aa ?_
 refine aj ?_
 refine ap ?_
 refine ae ?_
 refine aq (aB cM rfl) rfl rfl ?_
 refine aq (aC 0 bE rfl rfl rfl) rfl rfl ?_
 refine bD rfl jG (ii _ (by omega)) rfl ?_
 refine aq (ai rfl) rfl rfl ?_
 refine aa ?_
 refine aj ?_
 refine aN ?_
 refine aR (ts := [2]) rfl rfl rfl (fun w hw => ?_)
 exact ⟨rfl, hw.base⟩

set_option maxRecDepth 100000 in
theorem hZ (e : En) (A B : Option Addr) (c d : Nat) (f : En) (F G : Option Addr) (c2 d2 : Nat) (hla : e.addrs.length ≤ 1000000000000) (hlp : e.ports.length ≤ 1000000000000) : RC Tryz.prog 22 #[.agg (enC e A B c d).toArray, .agg (enC f F G c2 d2).toArray] [Ch.rd A 3 gw e.addrs, Ch.rd B 1 fh e.ports, Ch.rd F 3 gw f.addrs, Ch.rd G 1 fh f.ports] (α := Unit) (fun _ => .bool (decide (e = f))) (fun _ => []) := by
 refine bK (args := [.agg (enC e A B c d).toArray, .agg (enC f F G c2 d2).toArray]) 94 Tryz.func22 rfl rfl rfl (fun w0 => ?_)
 refine ap ?_
 refine ae ?_
 refine cL rfl rfl rfl (fun b1 => ?_)
 refine cL rfl rfl rfl (fun b2 => ?_)
 refine aq (ai rfl) rfl rfl ?_
 refine aa ?_
 refine aj ?_
 refine ap ?_
 refine ap ?_
 refine ae ?_
 refine aq (aB cM rfl) rfl rfl ?_
 refine aq (aC 1 bE rfl rfl rfl) rfl rfl ?_
 refine aq (aB cM rfl) rfl rfl ?_
 refine aq (aC 0 bE rfl rfl rfl) rfl rfl ?_
 refine aq (ju rfl rfl) rfl rfl ?_
 refine ay (t := 11) rfl (fun h1_4 => ?_) (fun h1_4 => ?_)
 refine aq (am rfl) rfl rfl ?_
 refine ar rfl rfl rfl rfl ?_
 refine ar rfl rfl rfl rfl ?_
 refine ar rfl rfl rfl rfl ?_
 refine ar rfl rfl rfl rfl ?_
 refine ar rfl rfl rfl rfl ?_
 refine aq (aH rfl rfl) rfl rfl ?_
 refine aq (am rfl) rfl rfl ?_
 refine ar rfl rfl rfl rfl ?_
 refine ar rfl rfl rfl rfl ?_
 refine ar rfl rfl rfl rfl ?_
 refine ar rfl rfl rfl rfl ?_
 refine ar rfl rfl rfl rfl ?_
 refine aq (aH rfl rfl) rfl rfl ?_
 refine aq (am rfl) rfl rfl ?_
 refine ar rfl rfl rfl rfl ?_
 refine ar rfl rfl rfl rfl ?_
 refine ar rfl rfl rfl rfl ?_
 refine ar rfl rfl rfl rfl ?_
 refine ar rfl rfl rfl rfl ?_
 refine aq (aH rfl rfl) rfl rfl ?_
 refine aq (am rfl) rfl rfl ?_
 refine ar rfl rfl rfl rfl ?_
 refine ar rfl rfl rfl rfl ?_
 refine ar rfl rfl rfl rfl ?_
 refine ar rfl rfl rfl rfl ?_
 refine ar rfl rfl rfl rfl ?_
 refine aq (aH rfl rfl) rfl rfl ?_
 refine aq (am rfl) rfl rfl ?_
 refine ar rfl rfl rfl rfl ?_
 refine ar rfl rfl rfl rfl ?_
 refine ar rfl rfl rfl rfl ?_
 refine ar rfl rfl rfl rfl ?_
 refine ar rfl rfl rfl rfl ?_
 refine ar rfl rfl rfl rfl ?_
 refine ar rfl rfl rfl rfl ?_
 refine aq (aH rfl rfl) rfl rfl ?_
 refine aq (am rfl) rfl rfl ?_
 refine ar rfl rfl rfl rfl ?_
 refine ar rfl rfl rfl rfl ?_
 refine ar rfl rfl rfl rfl ?_
 refine ar rfl rfl rfl rfl ?_
 refine ar rfl rfl rfl rfl ?_
 refine ar rfl rfl rfl rfl ?_
 refine ar rfl rfl rfl rfl ?_
 refine aq (aH rfl rfl) rfl rfl ?_
 refine aa ?_
 refine aj ?_
 refine aA rfl ?_
 refine ap ?_
 refine ae ?_
 refine aq (ai rfl) rfl rfl ?_
 refine aa ?_
 refine aj ?_
 refine aN ?_
 refine ax ?_
 refine aR (ts := [4]) rfl rfl rfl (fun w hw => ?_)
 refine ⟨(), ?_, hw.base, (hw.weak (List.nil_sublist _) (fun s hs => hs)).toNews⟩
 show Ending.returned (.bool _) = _
 congr 2
 focus first
   | (have hP := hP
      have he : e = f := by
        cases e; cases f
        simp_all
      rw [decide_eq_true he]
      done)
   | (have hne : e ≠ f := fun h => by
        subst h
        exact h11_10 rfl
      rw [decide_eq_false hne]
      done)
   | (have hne : e ≠ f := fun h => by
        subst h
        exact h6_10 rfl
      rw [decide_eq_false hne]
      done)
   | (have hne : e ≠ f := fun h => by
        subst h
        simp_all
      rw [decide_eq_false hne]
      done)
   | (trace_state; fail)
 refine aq (am rfl) rfl rfl ?_
 refine au rfl rfl ?_
 refine aq (aB gH rfl) rfl rfl ?_
 refine au rfl rfl ?_
 refine aq (aC 1 cX rfl rfl rfl) rfl rfl ?_
 refine au rfl rfl ?_
 refine aq (aB gH rfl) rfl rfl ?_
 refine au rfl rfl ?_
 refine aq (aC 0 cX rfl rfl rfl) rfl rfl ?_
 refine au rfl rfl ?_
 refine aq (cO rfl rfl) rfl rfl ?_
 refine ay (t := 17) rfl (fun h1_10 => ?_) (fun h1_10 => ?_)
 refine aq (aF rfl rfl) rfl rfl ?_
 refine aq (am rfl) rfl rfl ?_
 refine ar rfl rfl rfl rfl ?_
 refine ar rfl rfl rfl rfl ?_
 refine ar rfl rfl rfl rfl ?_
 refine ar rfl rfl rfl rfl ?_
 refine ar rfl rfl rfl rfl ?_
 refine aq (aH rfl rfl) rfl rfl ?_
 refine aq (am rfl) rfl rfl ?_
 refine ar rfl rfl rfl rfl ?_
 refine ar rfl rfl rfl rfl ?_
 refine ar rfl rfl rfl rfl ?_
 refine ar rfl rfl rfl rfl ?_
 refine ar rfl rfl rfl rfl ?_
 refine aq (aH rfl rfl) rfl rfl ?_
 refine aq (am rfl) rfl rfl ?_
 refine ar rfl rfl rfl rfl ?_
 refine ar rfl rfl rfl rfl ?_
 refine ar rfl rfl rfl rfl ?_
 refine ar rfl rfl rfl rfl ?_
 refine ar rfl rfl rfl rfl ?_
 refine aq (aH rfl rfl) rfl rfl ?_
 refine aq (am rfl) rfl rfl ?_
 refine ar rfl rfl rfl rfl ?_
 refine ar rfl rfl rfl rfl ?_
 refine ar rfl rfl rfl rfl ?_
 refine ar rfl rfl rfl rfl ?_
 refine ar rfl rfl rfl rfl ?_
 refine ar rfl rfl rfl rfl ?_
 refine ar rfl rfl rfl rfl ?_
 refine aq (aH rfl rfl) rfl rfl ?_
 refine aq (am rfl) rfl rfl ?_
 refine ar rfl rfl rfl rfl ?_
 refine ar rfl rfl rfl rfl ?_
 refine ar rfl rfl rfl rfl ?_
 refine ar rfl rfl rfl rfl ?_
 refine ar rfl rfl rfl rfl ?_
 refine ar rfl rfl rfl rfl ?_
 refine ar rfl rfl rfl rfl ?_
 refine aq (aH rfl rfl) rfl rfl ?_
 refine aa ?_
 refine aj ?_
 refine aA rfl ?_
 refine ap ?_
 refine ae ?_
 refine aq (ai rfl) rfl rfl ?_
 refine aa ?_
 refine aj ?_
 refine aN ?_
 refine ax ?_
 refine aR (ts := [4]) rfl rfl rfl (fun w hw => ?_)
 refine ⟨(), ?_, hw.base, (hw.weak (List.nil_sublist _) (fun s hs => hs)).toNews⟩
 show Ending.returned (.bool _) = _
 congr 2
 focus first
   | (have hP := hP
      have he : e = f := by
        cases e; cases f
        simp_all
      rw [decide_eq_true he]
      done)
   | (have hne : e ≠ f := fun h => by
        subst h
        exact h11_10 rfl
      rw [decide_eq_false hne]
      done)
   | (have hne : e ≠ f := fun h => by
        subst h
        exact h6_10 rfl
      rw [decide_eq_false hne]
      done)
   | (have hne : e ≠ f := fun h => by
        subst h
        simp_all
      rw [decide_eq_false hne]
      done)
   | (trace_state; fail)
 refine aq (aF rfl rfl) rfl rfl ?_
 refine aq (am rfl) rfl rfl ?_
 refine au rfl rfl ?_
 refine aq (aB fx rfl) rfl rfl ?_
 refine au rfl rfl ?_
 refine aq (aC 1 cI rfl rfl rfl) rfl rfl ?_
 refine au rfl rfl ?_
 refine aq (aB fx rfl) rfl rfl ?_
 refine au rfl rfl ?_
 refine aq (aC 0 cI rfl rfl rfl) rfl rfl ?_
 refine au rfl rfl ?_
 refine aq (ju rfl rfl) rfl rfl ?_
 refine ay (t := 24) rfl (fun h1_17 => ?_) (fun h1_17 => ?_)
 refine aq (aF rfl rfl) rfl rfl ?_
 refine aq (am rfl) rfl rfl ?_
 refine ar rfl rfl rfl rfl ?_
 refine ar rfl rfl rfl rfl ?_
 refine ar rfl rfl rfl rfl ?_
 refine ar rfl rfl rfl rfl ?_
 refine ar rfl rfl rfl rfl ?_
 refine aq (aH rfl rfl) rfl rfl ?_
 refine aq (am rfl) rfl rfl ?_
 refine ar rfl rfl rfl rfl ?_
 refine ar rfl rfl rfl rfl ?_
 refine ar rfl rfl rfl rfl ?_
 refine ar rfl rfl rfl rfl ?_
 refine ar rfl rfl rfl rfl ?_
 refine aq (aH rfl rfl) rfl rfl ?_
 refine aq (am rfl) rfl rfl ?_
 refine ar rfl rfl rfl rfl ?_
 refine ar rfl rfl rfl rfl ?_
 refine ar rfl rfl rfl rfl ?_
 refine ar rfl rfl rfl rfl ?_
 refine ar rfl rfl rfl rfl ?_
 refine ar rfl rfl rfl rfl ?_
 refine ar rfl rfl rfl rfl ?_
 refine aq (aH rfl rfl) rfl rfl ?_
 refine aq (am rfl) rfl rfl ?_
 refine ar rfl rfl rfl rfl ?_
 refine ar rfl rfl rfl rfl ?_
 refine ar rfl rfl rfl rfl ?_
 refine ar rfl rfl rfl rfl ?_
 refine ar rfl rfl rfl rfl ?_
 refine ar rfl rfl rfl rfl ?_
 refine ar rfl rfl rfl rfl ?_
 refine aq (aH rfl rfl) rfl rfl ?_
 refine aa ?_
 refine aj ?_
 refine aA rfl ?_
 refine ap ?_
 refine ae ?_
 refine aq (ai rfl) rfl rfl ?_
 refine aa ?_
 refine aj ?_
 refine aN ?_
 refine ax ?_
 refine aR (ts := [4]) rfl rfl rfl (fun w hw => ?_)
 refine ⟨(), ?_, hw.base, (hw.weak (List.nil_sublist _) (fun s hs => hs)).toNews⟩
 show Ending.returned (.bool _) = _
 congr 2
 focus first
   | (have hP := hP
      have he : e = f := by
        cases e; cases f
        simp_all
      rw [decide_eq_true he]
      done)
   | (have hne : e ≠ f := fun h => by
        subst h
        exact h11_10 rfl
      rw [decide_eq_false hne]
      done)
   | (have hne : e ≠ f := fun h => by
        subst h
        exact h6_10 rfl
      rw [decide_eq_false hne]
      done)
   | (have hne : e ≠ f := fun h => by
        subst h
        simp_all
      rw [decide_eq_false hne]
      done)
   | (trace_state; fail)
 refine aq (aF rfl rfl) rfl rfl ?_
 refine aq (am rfl) rfl rfl ?_
 refine au rfl rfl ?_
 refine aq (aB ez rfl) rfl rfl ?_
 refine au rfl rfl ?_
 refine aq (aC 1 bE rfl rfl rfl) rfl rfl ?_
 refine au rfl rfl ?_
 refine aq (aB ez rfl) rfl rfl ?_
 refine au rfl rfl ?_
 refine aq (aC 0 bE rfl rfl rfl) rfl rfl ?_
 refine au rfl rfl ?_
 refine aq (ju rfl rfl) rfl rfl ?_
 refine ay (t := 31) rfl (fun h1_24 => ?_) (fun h1_24 => ?_)
 refine aq (aF rfl rfl) rfl rfl ?_
 refine aq (am rfl) rfl rfl ?_
 refine ar rfl rfl rfl rfl ?_
 refine ar rfl rfl rfl rfl ?_
 refine ar rfl rfl rfl rfl ?_
 refine ar rfl rfl rfl rfl ?_
 refine ar rfl rfl rfl rfl ?_
 refine aq (aH rfl rfl) rfl rfl ?_
 refine aq (am rfl) rfl rfl ?_
 refine ar rfl rfl rfl rfl ?_
 refine ar rfl rfl rfl rfl ?_
 refine ar rfl rfl rfl rfl ?_
 refine ar rfl rfl rfl rfl ?_
 refine ar rfl rfl rfl rfl ?_
 refine ar rfl rfl rfl rfl ?_
 refine ar rfl rfl rfl rfl ?_
 refine aq (aH rfl rfl) rfl rfl ?_
 refine aq (am rfl) rfl rfl ?_
 refine ar rfl rfl rfl rfl ?_
 refine ar rfl rfl rfl rfl ?_
 refine ar rfl rfl rfl rfl ?_
 refine ar rfl rfl rfl rfl ?_
 refine ar rfl rfl rfl rfl ?_
 refine ar rfl rfl rfl rfl ?_
 refine ar rfl rfl rfl rfl ?_
 refine aq (aH rfl rfl) rfl rfl ?_
 refine aa ?_
 refine aj ?_
 refine aA rfl ?_
 refine ap ?_
 refine ae ?_
 refine aq (ai rfl) rfl rfl ?_
 refine aa ?_
 refine aj ?_
 refine aN ?_
 refine ax ?_
 refine aR (ts := [4]) rfl rfl rfl (fun w hw => ?_)
 refine ⟨(), ?_, hw.base, (hw.weak (List.nil_sublist _) (fun s hs => hs)).toNews⟩
 show Ending.returned (.bool _) = _
 congr 2
 focus first
   | (have hP := hP
      have he : e = f := by
        cases e; cases f
        simp_all
      rw [decide_eq_true he]
      done)
   | (have hne : e ≠ f := fun h => by
        subst h
        exact h11_10 rfl
      rw [decide_eq_false hne]
      done)
   | (have hne : e ≠ f := fun h => by
        subst h
        exact h6_10 rfl
      rw [decide_eq_false hne]
      done)
   | (have hne : e ≠ f := fun h => by
        subst h
        simp_all
      rw [decide_eq_false hne]
      done)
   | (trace_state; fail)
 refine aq (aF rfl rfl) rfl rfl ?_
 refine aq (am rfl) rfl rfl ?_
 refine au rfl rfl ?_
 refine aq (aB iZ rfl) rfl rfl ?_
 refine au rfl rfl ?_
 refine aq (aC 1 ty_32 rfl rfl rfl) rfl rfl ?_
 refine au rfl rfl ?_
 refine aq (aB iZ rfl) rfl rfl ?_
 refine au rfl rfl ?_
 refine aq (aC 0 ty_32 rfl rfl rfl) rfl rfl ?_
 refine au rfl rfl ?_
 refine aq (cO rfl rfl) rfl rfl ?_
 refine ay (t := 38) rfl (fun h1_31 => ?_) (fun h1_31 => ?_)
 refine aq (aF rfl rfl) rfl rfl ?_
 refine aq (am rfl) rfl rfl ?_
 refine ar rfl rfl rfl rfl ?_
 refine ar rfl rfl rfl rfl ?_
 refine ar rfl rfl rfl rfl ?_
 refine ar rfl rfl rfl rfl ?_
 refine ar rfl rfl rfl rfl ?_
 refine ar rfl rfl rfl rfl ?_
 refine ar rfl rfl rfl rfl ?_
 refine aq (aH rfl rfl) rfl rfl ?_
 refine aq (am rfl) rfl rfl ?_
 refine ar rfl rfl rfl rfl ?_
 refine ar rfl rfl rfl rfl ?_
 refine ar rfl rfl rfl rfl ?_
 refine ar rfl rfl rfl rfl ?_
 refine ar rfl rfl rfl rfl ?_
 refine ar rfl rfl rfl rfl ?_
 refine ar rfl rfl rfl rfl ?_
 refine aq (aH rfl rfl) rfl rfl ?_
 refine aa ?_
 refine aj ?_
 refine aA rfl ?_
 refine ap ?_
 refine ae ?_
 refine aq (ai rfl) rfl rfl ?_
 refine aa ?_
 refine aj ?_
 refine aN ?_
 refine ax ?_
 refine aR (ts := [4]) rfl rfl rfl (fun w hw => ?_)
 refine ⟨(), ?_, hw.base, (hw.weak (List.nil_sublist _) (fun s hs => hs)).toNews⟩
 show Ending.returned (.bool _) = _
 congr 2
 focus first
   | (have hP := hP
      have he : e = f := by
        cases e; cases f
        simp_all
      rw [decide_eq_true he]
      done)
   | (have hne : e ≠ f := fun h => by
        subst h
        exact h11_10 rfl
      rw [decide_eq_false hne]
      done)
   | (have hne : e ≠ f := fun h => by
        subst h
        exact h6_10 rfl
      rw [decide_eq_false hne]
      done)
   | (have hne : e ≠ f := fun h => by
        subst h
        simp_all
      rw [decide_eq_false hne]
      done)
   | (trace_state; fail)
 refine aq (aF rfl rfl) rfl rfl ?_
 refine aq (am rfl) rfl rfl ?_
 refine au rfl rfl ?_
 refine aq (aB du rfl) rfl rfl ?_
 refine au rfl rfl ?_
 refine aq (aC 1 eF rfl rfl rfl) rfl rfl ?_
 refine au rfl rfl ?_
 refine aq (bg Tryz.underlying30 rfl) rfl rfl ?_
 refine au rfl rfl ?_
 refine aq (aB du rfl) rfl rfl ?_
 refine au rfl rfl ?_
 refine aq (aC 0 eF rfl rfl rfl) rfl rfl ?_
 refine au rfl rfl ?_
 refine aq (bg Tryz.underlying30 rfl) rfl rfl ?_
 refine au rfl rfl ?_
 refine aq (cO rfl rfl) rfl rfl ?_
 refine ay (t := 47) rfl (fun h1_40 => ?_) (fun h1_40 => ?_)
 refine aq (aF rfl rfl) rfl rfl ?_
 refine aq (am rfl) rfl rfl ?_
 refine ar rfl rfl rfl rfl ?_
 refine ar rfl rfl rfl rfl ?_
 refine ar rfl rfl rfl rfl ?_
 refine ar rfl rfl rfl rfl ?_
 refine ar rfl rfl rfl rfl ?_
 refine ar rfl rfl rfl rfl ?_
 refine ar rfl rfl rfl rfl ?_
 refine aq (aH rfl rfl) rfl rfl ?_
 refine aa ?_
 refine aj ?_
 refine aA rfl ?_
 refine ap ?_
 refine ae ?_
 refine aq (ai rfl) rfl rfl ?_
 refine aa ?_
 refine aj ?_
 refine aN ?_
 refine ax ?_
 refine aR (ts := [4]) rfl rfl rfl (fun w hw => ?_)
 refine ⟨(), ?_, hw.base, (hw.weak (List.nil_sublist _) (fun s hs => hs)).toNews⟩
 show Ending.returned (.bool _) = _
 congr 2
 focus first
   | (have hP := hP
      have he : e = f := by
        cases e; cases f
        simp_all
      rw [decide_eq_true he]
      done)
   | (have hne : e ≠ f := fun h => by
        subst h
        exact h11_10 rfl
      rw [decide_eq_false hne]
      done)
   | (have hne : e ≠ f := fun h => by
        subst h
        exact h6_10 rfl
      rw [decide_eq_false hne]
      done)
   | (have hne : e ≠ f := fun h => by
        subst h
        simp_all
      rw [decide_eq_false hne]
      done)
   | (trace_state; fail)
 refine aq (aF rfl rfl) rfl rfl ?_
 refine aq (am rfl) rfl rfl ?_
 refine au rfl rfl ?_
 refine aq (aB dy rfl) rfl rfl ?_
 refine au rfl rfl ?_
 refine aq (aC 1 eN rfl rfl rfl) rfl rfl ?_
 refine au rfl rfl ?_
 refine aq (bg Tryz.underlying31 rfl) rfl rfl ?_
 refine au rfl rfl ?_
 refine aq (aB dy rfl) rfl rfl ?_
 refine au rfl rfl ?_
 refine aq (aC 0 eN rfl rfl rfl) rfl rfl ?_
 refine au rfl rfl ?_
 refine aq (bg Tryz.underlying31 rfl) rfl rfl ?_
 refine au rfl rfl ?_
 refine aq (cO rfl rfl) rfl rfl ?_
 refine ay (t := 56) rfl (fun h1_49 => ?_) (fun h1_49 => ?_)
 refine aq (aF rfl rfl) rfl rfl ?_
 refine aa ?_
 refine aj ?_
 refine aA rfl ?_
 refine ap ?_
 refine ae ?_
 refine aq (ai rfl) rfl rfl ?_
 refine aa ?_
 refine aj ?_
 refine aN ?_
 refine ax ?_
 refine aR (ts := [4]) rfl rfl rfl (fun w hw => ?_)
 refine ⟨(), ?_, hw.base, (hw.weak (List.nil_sublist _) (fun s hs => hs)).toNews⟩
 show Ending.returned (.bool _) = _
 congr 2
 focus first
   | (have hP := hP
      have he : e = f := by
        cases e; cases f
        simp_all
      rw [decide_eq_true he]
      done)
   | (have hne : e ≠ f := fun h => by
        subst h
        exact h11_10 rfl
      rw [decide_eq_false hne]
      done)
   | (have hne : e ≠ f := fun h => by
        subst h
        exact h6_10 rfl
      rw [decide_eq_false hne]
      done)
   | (have hne : e ≠ f := fun h => by
        subst h
        simp_all
      rw [decide_eq_false hne]
      done)
   | (trace_state; fail)
 refine aq (aF rfl rfl) rfl rfl ?_
 refine aa ?_
 refine aj ?_
 refine aD rfl ?_
 refine aQ ?_
 refine aj ?_
 refine ap ?_
 refine ap ?_
 refine ae ?_
 refine aq (ai rfl) rfl rfl ?_
 refine aa ?_
 refine aj ?_
 refine aS ?_
 refine cC (σ := Nat) [4, 5, 58, 59, 60, 61, 62, 63, 64, 65, 66, 67, 68, 69, 70, 71, 72, 73, 74, 75] (fun k => k ≤ e.addrs.length ∧ e.addrs.take k = f.addrs.take k) (fun k => e.addrs.length - k) (fun k => [(5, .int .i64 k)]) (0) ?_ ⟨rfl, trivial⟩ (fun k hI => ?_)
 exact ⟨Nat.zero_le _, rfl⟩
 refine ap ?_
 refine ap ?_
 refine ae ?_
 refine aq (am rfl) rfl rfl ?_
 refine aq (aB du rfl) rfl rfl ?_
 refine aq (aC 1 eF rfl rfl rfl) rfl rfl ?_
 refine aq (bg Tryz.underlying30 rfl) rfl rfl ?_
 refine aq (bW rfl rfl) rfl rfl ?_
 refine ay (t := 62) rfl (fun h4_4 => ?_) (fun h4_4 => ?_)
 refine aa ?_
 refine aj ?_
 refine aA rfl ?_
 refine aQ ?_
 refine aj ?_
 refine ap ?_
 refine aS ?_
 refine ap ?_
 refine dQ 11 rfl mixed ?_
 refine aK (i := 0) rfl ak (aB du rfl) aG aG rfl (ah (ao (ah (av (ao (ah aw)))))) (by kernel_rfl) rfl ?_
 refine aK (i := 1) rfl ak (aC 1 eF rfl rfl rfl) aG aG rfl (ah (ao (ah (av (ao (ah aw)))))) (by kernel_rfl) rfl ?_
 refine aK (i := 2) rfl ak (am rfl) aG aG rfl (ah (ao (ah (av (ao (ah aw)))))) (by kernel_rfl) rfl ?_
 refine aK (i := 3) rfl ak (bB  Tryz.underlying30 eh rfl rfl (bF 0 rfl) rfl (by omega)) aG aG rfl (ah (ao (ah (av (ao (ah aw)))))) (by kernel_rfl) rfl ?_
 refine aK (i := 4) rfl ak (b6 fT jZ eh rfl (bF 0 rfl) (by omega) rfl rfl rfl) aG aG rfl (ah (ao (ah (av (ao (ah aw)))))) (by kernel_rfl) rfl ?_
 refine aK (i := 5) rfl ak (aB du rfl) aG aG rfl (ah (ao (ah (av (ao (ah aw)))))) (by kernel_rfl) rfl ?_
 refine aK (i := 6) rfl ak (aC 0 eF rfl rfl rfl) aG aG rfl (ah (ao (ah (av (ao (ah aw)))))) (by kernel_rfl) rfl ?_
 refine aK (i := 7) rfl ak (am rfl) aG aG rfl (ah (ao (ah (av (ao (ah aw)))))) (by kernel_rfl) rfl ?_
 refine aK (i := 8) rfl ak (bB  Tryz.underlying30 eh rfl rfl (bF 2 rfl) rfl (by omega)) aG aG rfl (ah (ao (ah (av (ao (ah aw)))))) (by kernel_rfl) rfl ?_
 refine aK (i := 9) rfl ak (b6 fT jZ eh rfl (bF 2 rfl) (by omega) rfl rfl rfl) aG aG rfl (ah (ao (ah (av (ao (ah aw)))))) (by kernel_rfl) rfl ?_
 refine aK (i := 10) rfl ak (y_nestd (by kernel_rfl) rfl rfl (eqd_ad _ _) rfl) aG aG rfl (ah (ao (ah (av (ao (ah aw)))))) (by kernel_rfl) rfl ?_
 refine dN (t := 75) rfl (fun h6_10 => ?_) (fun h6_10 => ?_)
 refine cF (by kernel_rfl) ?_
 refine aj ?_
 refine aA rfl ?_
 refine ap ?_
 refine ae ?_
 refine aq (ai rfl) rfl rfl ?_
 refine aa ?_
 refine aj ?_
 refine aN ?_
 refine aJ ?_
 refine ax ?_
 refine bh ?_
 refine aJ ?_
 refine ax ?_
 refine aR (ts := [4]) rfl rfl rfl (fun w hw => ?_)
 refine ⟨(), ?_, hw.base, (hw.weak (List.nil_sublist _) (fun s hs => hs)).toNews⟩
 show Ending.returned (.bool _) = _
 congr 2
 focus first
   | (have hP := hP
      have he : e = f := by
        cases e; cases f
        simp_all
      rw [decide_eq_true he]
      done)
   | (have hne : e ≠ f := fun h => by
        subst h
        exact h11_10 rfl
      rw [decide_eq_false hne]
      done)
   | (have hne : e ≠ f := fun h => by
        subst h
        exact h6_10 rfl
      rw [decide_eq_false hne]
      done)
   | (have hne : e ≠ f := fun h => by
        subst h
        simp_all
      rw [decide_eq_false hne]
      done)
   | (trace_state; fail)
 refine cF (by kernel_rfl) ?_
 refine aj ?_
 refine aD rfl ?_
 refine aQ ?_
 refine bj ?_
 refine aj ?_
 refine ae ?_
 refine aq (am rfl) rfl rfl ?_
 refine aq (br rfl rfl (by omega) (by omega)) rfl rfl ?_
 refine aq (ai rfl) rfl rfl ?_
 refine aa ?_
 refine bv (k + 1) ?_ ?_ ⟨rfl, trivial⟩ (by repeat (first | exact trivial | refine ⟨rfl, ?_⟩)) aG
 exact ⟨by omega, fp jZ (by omega) (by omega) hI.2 (by simpa using h6_10)⟩
 omega
 refine aa ?_
 refine aj ?_
 refine aD rfl ?_
 refine bJ ?_
 refine aV ?_
 refine aX ?_
 refine a8 ?_
 refine aj ?_
 refine ap ?_
 refine ap ?_
 have hA : e.addrs = f.addrs := by
   have := hI.2
   rw [show k = e.addrs.length by omega, List.take_length, List.take_of_length_le (by omega)] at this
   exact this
 refine ae ?_
 refine aq (ai rfl) rfl rfl ?_
 refine aa ?_
 refine aj ?_
 refine aS ?_
 refine cC (σ := Nat) [4, 6, 76, 77, 78, 79, 80, 81, 82, 83, 84, 85, 86, 87, 88, 89, 90, 91, 92, 93] (fun j => j ≤ e.ports.length ∧ e.ports.take j = f.ports.take j) (fun j => e.ports.length - j) (fun j => [(6, .int .i64 j)]) (0) ?_ ⟨rfl, trivial⟩ (fun j hI => ?_)
 exact ⟨Nat.zero_le _, rfl⟩
 refine ap ?_
 refine ap ?_
 refine ae ?_
 refine aq (am rfl) rfl rfl ?_
 refine aq (aB dy rfl) rfl rfl ?_
 refine aq (aC 1 eN rfl rfl rfl) rfl rfl ?_
 refine aq (bg Tryz.underlying31 rfl) rfl rfl ?_
 refine aq (bW rfl rfl) rfl rfl ?_
 refine ay (t := 80) rfl (fun h9_4 => ?_) (fun h9_4 => ?_)
 refine aa ?_
 refine aj ?_
 refine aA rfl ?_
 refine aQ ?_
 refine aj ?_
 refine ap ?_
 refine aS ?_
 refine ap ?_
 refine dQ 11 rfl mixed ?_
 refine aK (i := 0) rfl ak (aB dy rfl) aG aG rfl (ah (ao (ah (av (ao (ah aw)))))) (by kernel_rfl) rfl ?_
 refine aK (i := 1) rfl ak (aC 1 eN rfl rfl rfl) aG aG rfl (ah (ao (ah (av (ao (ah aw)))))) (by kernel_rfl) rfl ?_
 refine aK (i := 2) rfl ak (am rfl) aG aG rfl (ah (ao (ah (av (ao (ah aw)))))) (by kernel_rfl) rfl ?_
 refine aK (i := 3) rfl ak (bB  Tryz.underlying31 cX rfl rfl (bF 1 rfl) rfl (by omega)) aG aG rfl (ah (ao (ah (av (ao (ah aw)))))) (by kernel_rfl) rfl ?_
 refine aK (i := 4) rfl ak (bZ fL (0 : Int) cX rfl (bF 1 rfl) (by omega) rfl rfl) aG aG rfl (ah (ao (ah (av (ao (ah aw)))))) (by kernel_rfl) rfl ?_
 refine aK (i := 5) rfl ak (aB dy rfl) aG aG rfl (ah (ao (ah (av (ao (ah aw)))))) (by kernel_rfl) rfl ?_
 refine aK (i := 6) rfl ak (aC 0 eN rfl rfl rfl) aG aG rfl (ah (ao (ah (av (ao (ah aw)))))) (by kernel_rfl) rfl ?_
 refine aK (i := 7) rfl ak (am rfl) aG aG rfl (ah (ao (ah (av (ao (ah aw)))))) (by kernel_rfl) rfl ?_
 refine aK (i := 8) rfl ak (bB  Tryz.underlying31 cX rfl rfl (bF 3 rfl) rfl (by omega)) aG aG rfl (ah (ao (ah (av (ao (ah aw)))))) (by kernel_rfl) rfl ?_
 refine aK (i := 9) rfl ak (bZ fL (0 : Int) cX rfl (bF 3 rfl) (by omega) rfl rfl) aG aG rfl (ah (ao (ah (av (ao (ah aw)))))) (by kernel_rfl) rfl ?_
 refine aK (i := 10) rfl ak (cO rfl rfl) aG aG rfl (ah (ao (ah (av (ao (ah aw)))))) (by kernel_rfl) rfl ?_
 refine dN (t := 93) rfl (fun h11_10 => ?_) (fun h11_10 => ?_)
 refine cF (by kernel_rfl) ?_
 refine aj ?_
 refine aA rfl ?_
 refine ap ?_
 refine ae ?_
 refine aq (ai rfl) rfl rfl ?_
 refine aa ?_
 refine aj ?_
 refine aN ?_
 refine aJ ?_
 refine ax ?_
 refine bh ?_
 refine aJ ?_
 refine ax ?_
 refine aR (ts := [4]) rfl rfl rfl (fun w hw => ?_)
 refine ⟨(), ?_, hw.base, (hw.weak (List.nil_sublist _) (fun s hs => hs)).toNews⟩
 show Ending.returned (.bool _) = _
 congr 2
 focus first
   | (have hP := hP
      have he : e = f := by
        cases e; cases f
        simp_all
      rw [decide_eq_true he]
      done)
   | (have hne : e ≠ f := fun h => by
        subst h
        exact h11_10 rfl
      rw [decide_eq_false hne]
      done)
   | (have hne : e ≠ f := fun h => by
        subst h
        exact h6_10 rfl
      rw [decide_eq_false hne]
      done)
   | (have hne : e ≠ f := fun h => by
        subst h
        simp_all
      rw [decide_eq_false hne]
      done)
   | (trace_state; fail)
 refine cF (by kernel_rfl) ?_
 refine aj ?_
 refine aD rfl ?_
 refine aQ ?_
 refine bj ?_
 refine aj ?_
 refine ae ?_
 refine aq (am rfl) rfl rfl ?_
 refine aq (br rfl rfl (by omega) (by omega)) rfl rfl ?_
 refine aq (ai rfl) rfl rfl ?_
 refine aa ?_
 refine bv (j + 1) ?_ ?_ ⟨rfl, trivial⟩ (by repeat (first | exact trivial | refine ⟨rfl, ?_⟩)) aG
 exact ⟨by omega, fp (0 : Int) (by omega) (by omega) hI.2 (by simpa using h11_10)⟩
 omega
 refine aa ?_
 refine aj ?_
 refine aD rfl ?_
 refine bJ ?_
 refine aV ?_
 refine aX ?_
 refine a8 ?_
 refine aj ?_
 refine ap ?_
 have hP : e.ports = f.ports := by
   have := hI.2
   rw [show j = e.ports.length by omega, List.take_length, List.take_of_length_le (by omega)] at this
   exact this
 refine ae ?_
 refine aq (ai rfl) rfl rfl ?_
 refine aa ?_
 refine aj ?_
 refine aN ?_
 refine aR (ts := [4]) rfl rfl rfl (fun w hw => ?_)
 refine ⟨(), ?_, hw.base, (hw.weak (List.nil_sublist _) (fun s hs => hs)).toNews⟩
 show Ending.returned (.bool _) = _
 congr 2
 focus first
   | (have hP := hP
      have he : e = f := by
        cases e; cases f
        simp_all
      rw [decide_eq_true he]
      done)
   | (have hne : e ≠ f := fun h => by
        subst h
        exact h11_10 rfl
      rw [decide_eq_false hne]
      done)
   | (have hne : e ≠ f := fun h => by
        subst h
        exact h6_10 rfl
      rw [decide_eq_false hne]
      done)
   | (have hne : e ≠ f := fun h => by
        subst h
        simp_all
      rw [decide_eq_false hne]
      done)
   | (trace_state; fail)

end Go.Proofs.YtnpdgmoeoidppaaGreat

/- Search: plain laws. -/
namespace Go.Proofs.YtnpdgmoeoidppaaGreat
open Go.RowKit Go.Shelf
set_option linter.unusedVariables false
set_option linter.unusedSimpArgs false

/-- A search. -/
structure Sr where
  ndots : Int
  doms : List a6
def jg : List a6 → Int
  | [] => 0
  | d :: r => if bd d ≠ 0 then bd d else jg r
theorem domsCk_zero : ∀ {l : List a6}, jg l = 0 ↔ ∀ d ∈ l, bd d = 0
  | [] => by simp [jg]
  | d :: r => by
    rw [jg]
    by_cases h : bd d ≠ 0
    · rw [if_pos h]; simp [h]
    · rw [if_neg h, domsCk_zero]
      have : bd d = 0 := by omega
      simp [this]
def srCk (s : Sr) : Int := if 6 < s.doms.length then 3 else if jg s.doms ≠ 0 then jg s.doms else if ([] : a6) ∈ s.doms ∨ s.ndots < 0 ∨ 15 < s.ndots then 2 else 0
theorem srCk_zero {s : Sr} (h : srCk s = 0) : s.doms.length ≤ 6 ∧ (∀ d ∈ s.doms, bd d = 0 ∧ d ≠ []) ∧ 0 ≤ s.ndots ∧ s.ndots ≤ 15 := by
  unfold srCk at h
  split at h
  · omega
  · split at h
    · omega
    · rename_i h1 h2
      split at h
      · omega
      · rename_i h3
        have h4 := domsCk_zero.1 (show jg s.doms = 0 by omega)
        refine ⟨by omega, fun d hd => ⟨h4 d hd, fun e => h3 (.inl (e ▸ hd))⟩, ?_, ?_⟩
        · by_cases q : 0 ≤ s.ndots
          · exact q
          · exact absurd (.inr (.inl (by omega))) h3
        · by_cases q : s.ndots ≤ 15
          · exact q
          · exact absurd (.inr (.inr (by omega))) h3
/-- name.Join. -/
def joinE (a b : a6) : Int := if bd a ≠ 0 then bd a else if bd b ≠ 0 then bd b else if 254 < a.length + b.length then 3 else 0
theorem joinE_zero {a b : a6} : joinE a b = 0 ↔ bd a = 0 ∧ bd b = 0 ∧ a.length + b.length ≤ 254 := by
  unfold joinE
  by_cases h1 : bd a = 0
  · by_cases h2 : bd b = 0
    · rw [if_neg (by omega), if_neg (by omega)]
      by_cases h3 : 254 < a.length + b.length
      · rw [if_pos h3]; simp; omega
      · rw [if_neg h3]; simp [h1, h2]; omega
    · rw [if_neg (by omega), if_pos h2]; simp [h1, h2]
  · rw [if_pos h1]; simp [h1]
theorem okN_append {a b : a6} (ha : jx a = true) (hb : jx b = true) : jx (a ++ b) = true := by
  have h := (gF (fj a ++ fj b) (fun s hs => (List.mem_append.1 hs).elim (fD a s) (fD b s))).1
  rw [fN, gq a ha, gq b hb] at h
  exact h
theorem jf {a b : a6} (h : joinE a b = 0) : bd (a ++ b) = 0 := by
  obtain ⟨h1, h2, h3⟩ := joinE_zero.1 h
  exact nameCk_zero.2 ⟨by rw [List.length_append]; omega, okN_append (nameCk_zero.1 h1).2 (nameCk_zero.1 h2).2⟩
theorem iA {n : a6} (h : bd n = 0) : a7 n = bO n := if_pos h
theorem foldN_len {n : a6} (h : bd n = 0) : (a7 n).length = n.length := by rw [iA h, dW]
/-- The domains joined. -/
def jd (n : a6) (l : List a6) : List a6 := (l.filter fun d => decide (joinE n d = 0)).map fun d => n ++ d
def ownS (s : Sr) (n : a6) : Prop := n = [] ∨ s.ndots ≤ ((bk n).length : Int) - 1
instance (s : Sr) (n : a6) : Decidable (ownS s n) := by unfold ownS; infer_instance
/-- The candidates, some of them twice. -/
def jc (s : Sr) (n : a6) : List a6 := if n = [] then [n] else if ownS s n then n :: jd n s.doms else jd n s.doms ++ [n]
/-- Each once. -/
def ded : List a6 → List a6 → List a6
  | _, [] => []
  | seen, x :: r => if a7 x ∈ seen then ded seen r else x :: ded (a7 x :: seen) r
def jK (s : Sr) (n : a6) : List a6 := if srCk s ≠ 0 ∨ bd n ≠ 0 then [] else ded [] (jc s n)
theorem ded_mem {x : a6} : ∀ {seen l : List a6}, x ∈ ded seen l → x ∈ l ∧ a7 x ∉ seen
  | _, [], h => by cases h
  | seen, y :: r, h => by
    rw [ded] at h
    split at h
    · have := ded_mem h; exact ⟨.tail _ this.1, this.2⟩
    · rcases List.mem_cons.1 h with rfl | h
      · exact ⟨.head _, ‹_›⟩
      · have := ded_mem h
        exact ⟨.tail _ this.1, fun q => this.2 (.tail _ q)⟩
theorem ded_dis : ∀ (seen l : List a6), (ded seen l).Pairwise fun x y => a7 x ≠ a7 y
  | _, [] => .nil
  | seen, y :: r => by
    rw [ded]
    split
    · exact ded_dis seen r
    · exact .cons (fun z hz e => (ded_mem hz).2 (e ▸ .head _)) (ded_dis _ r)
theorem ded_len : ∀ (seen l : List a6), (ded seen l).length ≤ l.length
  | _, [] => Nat.le_refl _
  | seen, y :: r => by
    rw [ded]
    split
    · have := ded_len seen r; simp; omega
    · have := ded_len (a7 y :: seen) r; simp; omega
/-- What has been seen behind a part. -/
def dedS : List a6 → List a6 → List a6
  | seen, [] => seen
  | seen, x :: r => if a7 x ∈ seen then dedS seen r else dedS (a7 x :: seen) r
theorem jp : ∀ (seen a b : List a6), ded seen (a ++ b) = ded seen a ++ ded (dedS seen a) b
  | _, [], _ => rfl
  | seen, y :: r, b => by
    rw [List.cons_append, ded, ded, dedS]
    split
    · exact jp seen r b
    · rw [jp _ r b]; rfl
theorem dedS_mem {k : a6} : ∀ {seen l : List a6}, k ∈ dedS seen l ↔ k ∈ seen ∨ ∃ x ∈ l, a7 x = k
  | seen, [] => by simp [dedS]
  | seen, y :: r => by
    rw [dedS]
    split
    · rw [dedS_mem]
      constructor
      · rintro (h | ⟨x, hx, e⟩)
        · exact .inl h
        · exact .inr ⟨x, .tail _ hx, e⟩
      · rintro (h | ⟨x, hx, e⟩)
        · exact .inl h
        · rcases List.mem_cons.1 hx with rfl | hx
          · exact .inl (e ▸ ‹_›)
          · exact .inr ⟨x, hx, e⟩
    · rw [dedS_mem]
      constructor
      · rintro (h | ⟨x, hx, e⟩)
        · rcases List.mem_cons.1 h with rfl | h
          · exact .inr ⟨y, .head _, rfl⟩
          · exact .inl h
        · exact .inr ⟨x, .tail _ hx, e⟩
      · rintro (h | ⟨x, hx, e⟩)
        · exact .inl (.tail _ h)
        · rcases List.mem_cons.1 hx with rfl | hx
          · exact .inl (e ▸ .head _)
          · exact .inr ⟨x, hx, e⟩
theorem joins_mem {n x : a6} {l : List a6} : x ∈ jd n l ↔ ∃ d ∈ l, joinE n d = 0 ∧ x = n ++ d := by
  simp only [jd, List.mem_map, List.mem_filter, decide_eq_true_eq]
  constructor
  · rintro ⟨d, ⟨h1, h2⟩, rfl⟩; exact ⟨d, h1, h2, rfl⟩
  · rintro ⟨d, h1, h2, rfl⟩; exact ⟨d, ⟨h1, h2⟩, rfl⟩
theorem joins_len (n : a6) (l : List a6) : (jd n l).length ≤ l.length := by
  rw [jd, List.length_map]; exact List.length_filter_le _ _
theorem join_ne {n d : a6} (h : joinE n d = 0) (hd : d ≠ []) : a7 (n ++ d) ≠ a7 n := fun e => by
  obtain ⟨h1, h2, h3⟩ := joinE_zero.1 h
  have e2 := congrArg List.length e
  rw [foldN_len (jf h), foldN_len h1, List.length_append] at e2
  exact hd (List.length_eq_zero_iff.1 (by omega))
theorem cands_mem {s : Sr} {n x : a6} (h : x ∈ jc s n) : x = n ∨ x ∈ jd n s.doms := by
  unfold jc at h
  split at h
  · left; simpa using h
  · split at h
    · simpa using h
    · rcases List.mem_append.1 h with h | h
      · exact .inr h
      · left; simpa using h
theorem cands_len (s : Sr) (n : a6) : (jc s n).length ≤ s.doms.length + 1 := by
  have := joins_len n s.doms
  unfold jc
  split
  · simp
  · split
    · simp; omega
    · simp; omega
/-- Of a search and a name that may be. -/
structure Ok (s : Sr) (n : a6) : Prop where
  s0 : srCk s = 0
  n0 : bd n = 0
theorem Ok.each {s : Sr} {n : a6} (h : Ok s n) : jK s n = ded [] (jc s n) := by
  rw [jK, if_neg (by rw [h.s0, h.n0]; simp)]
theorem Ok.joinNe {s : Sr} {n x : a6} (h : Ok s n) (hx : x ∈ jd n s.doms) : a7 x ≠ a7 n := by
  obtain ⟨d, hd, he, rfl⟩ := joins_mem.1 hx
  exact join_ne he ((srCk_zero h.s0).2.1 d hd).2
theorem Ok.xck {s : Sr} {n x : a6} (h : Ok s n) (hx : x ∈ jc s n) : bd x = 0 := by
  rcases cands_mem hx with rfl | hx
  · exact h.n0
  · obtain ⟨d, hd, he, rfl⟩ := joins_mem.1 hx
    exact jf he
theorem Ok.each_own {s : Sr} {n : a6} (h : Ok s n) (ho : ownS s n) : ∃ r, jK s n = n :: r := by
  rw [h.each, jc]
  split
  · exact ⟨[], rfl⟩
  · first | (rw [if_pos ho]; exact ⟨_, rfl⟩) | exact ⟨_, rfl⟩
theorem Ok.each_last {s : Sr} {n : a6} (h : Ok s n) (ho : ¬ ownS s n) : jK s n = ded [] (jd n s.doms) ++ [n] := by
  have hn : n ≠ [] := fun e => ho (.inl e)
  rw [h.each, jc, if_neg hn, if_neg ho, jp]
  congr 1
  rw [ded, if_neg]
  · rfl
  · rw [dedS_mem]
    rintro (h1 | ⟨x, hx, e⟩)
    · cases h1
    · exact h.joinNe hx e
theorem Ok.mem {s : Sr} {n : a6} (h : Ok s n) : n ∈ jK s n := by
  by_cases ho : ownS s n
  · obtain ⟨r, e⟩ := h.each_own ho
    rw [e]; exact .head _
  · rw [h.each_last ho]; simp
theorem Ok.xs {s : Sr} {n x : a6} (h : Ok s n) (hx : x ∈ jK s n) : bd x = 0 ∧ (x = n ∨ ∃ d ∈ s.doms, joinE n d = 0 ∧ x = n ++ d) := by
  rw [h.each] at hx
  have h1 := (ded_mem hx).1
  exact ⟨h.xck h1, (cands_mem h1).imp id joins_mem.1⟩
theorem Ok.dis {s : Sr} {n : a6} (h : Ok s n) : (jK s n).Pairwise fun x y => a7 x ≠ a7 y := by
  rw [h.each]; exact ded_dis _ _
theorem Ok.len {s : Sr} {n : a6} (h : Ok s n) : (jK s n).length ≤ s.doms.length + 1 := by
  rw [h.each]
  have h1 := ded_len [] (jc s n)
  have h2 := cands_len s n
  omega
/-! Letters. -/
theorem lowS_idem (s : a6) : bO (bO s) = bO s := by simp [bO, lowB_lowB]
theorem fP {n : a6} (h : bd n = 0) : bd (a7 n) = 0 := by rw [iA h]; exact nameCk_low h
theorem jj {n : a6} (h : bd n = 0) : a7 (a7 n) = a7 n := by
  rw [iA (fP h), iA h, lowS_idem]
end Go.Proofs.YtnpdgmoeoidppaaGreat

/- Lists of entries: where each lies; chunks of chunks that are read. -/
namespace Go.Proofs.YtnpdgmoeoidppaaGreat
open Go.RowKit Go.Shelf
set_option linter.unusedVariables false
set_option linter.unusedSimpArgs false

/-- Chunks that are read, each of them; they may share blocks. -/
def Ch.rall (L : List Ch) : Ch := ⟨fun b => ∃ c ∈ L, c.ok b, fun w => ∀ c ∈ L, c.P w, fun w w' h hk c hc => c.st w w' (h c hc) fun b hb => hk b ⟨c, hc, hb⟩⟩
theorem cJ {L : List Ch} {c : Ch} {w : World} (h : (Ch.rall L).P w ∧ ∀ b, (Ch.rall L).ok b → b < w.heap.size) (hc : c ∈ L) : c.P w ∧ ∀ b, c.ok b → b < w.heap.size := ⟨h.1 c hc, fun b hb => h.2 b ⟨c, hc, hb⟩⟩
theorem ek {L : List Ch} {w : World} (h : Rd L w) : (Ch.rall L).P w ∧ ∀ b, (Ch.rall L).ok b → b < w.heap.size := ⟨fun c hc => (h c hc).1, fun b ⟨c, hc, hb⟩ => (h c hc).2 b hb⟩
theorem Hp.rall0 {ok0 : Nat → Prop} {w0 w : World} {L S : List Ch} (h : Hp ok0 w0 L S w) : Hp ok0 w0 (Ch.rall [] :: L) S w :=
  h.fresh (Upd.refl _ _) _ (fun c hc => nomatch hc) (fun b ⟨c, hc, _⟩ => nomatch hc) (fun b ⟨c, hc, _⟩ => nomatch hc)
/-- One's own chunk is added to those that are read. -/
theorem Hp.intoR {ok0 : Nat → Prop} {w0 w : World} {c c' : Ch} {M L S : List Ch} (h : Hp ok0 w0 (c :: Ch.rall M :: L) S w) (hc : c.P w → c'.P w) (hb : ∀ b, c'.ok b → c.ok b) : Hp ok0 w0 (Ch.rall (M ++ [c']) :: L) S w := by
  have hM : (Ch.rall M).P w := h.own _ (.tail _ (.head _))
  have hc0 : c.P w := h.own _ (.head _)
  have hp := h.dj
  obtain ⟨p1, p2⟩ := List.pairwise_cons.1 hp
  obtain ⟨p3, p4⟩ := List.pairwise_cons.1 p2
  have key : ∀ b, (Ch.rall (M ++ [c'])).ok b → c.ok b ∨ (Ch.rall M).ok b := fun b ⟨d, hd, hdb⟩ => by
    rcases List.mem_append.1 hd with hd | hd
    · exact .inr ⟨d, hd, hdb⟩
    · rw [List.mem_singleton] at hd; subst hd; exact .inl (hb b hdb)
  refine ⟨h.base, ?_, ?_, ?_, ?_, h.sh, h.slt, ?_⟩
  · intro d hd
    rcases List.mem_cons.1 hd with rfl | hd
    · intro d hd
      rcases List.mem_append.1 hd with hd | hd
      · exact hM d hd
      · rw [List.mem_singleton] at hd; subst hd; exact hc hc0
    · exact h.own d (.tail _ (.tail _ hd))
  · intro d hd b hdb
    rcases List.mem_cons.1 hd with rfl | hd
    · exact (key b hdb).elim (h.lt _ (.head _) b) (h.lt _ (.tail _ (.head _)) b)
    · exact h.lt d (.tail _ (.tail _ hd)) b hdb
  · intro d hd b hdb
    rcases List.mem_cons.1 hd with rfl | hd
    · exact (key b hdb).elim (h.ge _ (.head _) b) (h.ge _ (.tail _ (.head _)) b)
    · exact h.ge d (.tail _ (.tail _ hd)) b hdb
  · exact .cons (fun d hd b hb' => (key b hb').elim (p1 d (.tail _ hd) b) (p3 d hd b)) p4
  · intro s hs d hd b hdb
    rcases List.mem_cons.1 hd with rfl | hd
    · exact (key b hdb).elim (h.sdj s hs _ (.head _) b) (h.sdj s hs _ (.tail _ (.head _)) b)
    · exact h.sdj s hs d (.tail _ (.tail _ hd)) b hdb
/-- An entry and where its slices lie. -/
structure Le where
  e : En
  A : Option Addr
  c : Nat
  B : Option Addr
  d : Nat
def dF (x : Le) : List Value := enC x.e x.A x.B x.c x.d
theorem bp : Enc dF 7 := ⟨fun _ => rfl, fun _ => rfl⟩
def fm (x : Le) : List Ch := [Ch.rd x.A 3 gw x.e.addrs, Ch.rd x.B 1 fh x.e.ports]
def en0 : En := ⟨[], 0, [], [], [], [], 0⟩
def bm : Le := ⟨en0, none, 0, none, 0⟩
theorem sl_rs {A : Option Addr} {n c : Nat} {e : TypeId} {sz : Nat} {cs : List Value} {w : World} : ((Ch.sl A n c e sz cs).P w → (Ch.rs A n sz cs).P w) ∧ ∀ b, (Ch.rs A n sz cs).ok b → (Ch.sl A n c e sz cs).ok b := ⟨SlP.rs, fun b h => h.2⟩
theorem bM {l : List Le} {x : Le} (h : x ∈ l) : ∀ c ∈ fm x, c ∈ l.flatMap fm := fun c hc => List.mem_flatMap.2 ⟨x, h, hc⟩
theorem hU (x : Le) : Ch.rd x.A 3 gw x.e.addrs ∈ fm x := .head _
theorem im (x : Le) : Ch.rd x.B 1 fh x.e.ports ∈ fm x := .tail _ (.head _)
/-- An entry's own slices are added to those that are read. -/
theorem Hp.intoE {ok0 : Nat → Prop} {w0 w : World} {M L S : List Ch} {e : En} {A B : Option Addr} {c d : Nat} {T1 T2 : TypeId} (h : Hp ok0 w0 (Ch.ls B d T1 1 fh e.ports :: Ch.ls A c T2 3 gw e.addrs :: Ch.rall M :: L) S w) : Hp ok0 w0 (Ch.rall (M ++ fm ⟨e, A, c, B, d⟩) :: L) S w := by
  have h1 := h.perm (List.perm_middle (l₁ := [Ch.ls A c T2 3 gw e.addrs, Ch.rall M]))
  have h2 := Hp.intoR (c' := Ch.rd A 3 gw e.addrs) h1 SlP.rs (fun b hb => hb.2)
  have h3 := Hp.intoR (c' := Ch.rd B 1 fh e.ports) h2.f1 SlP.rs (fun b hb => hb.2)
  rw [List.append_assoc] at h3
  exact h3
end Go.Proofs.YtnpdgmoeoidppaaGreat

/- search: jd, checks, candidates -/
namespace Go.Proofs.YtnpdgmoeoidppaaGreat
open Go.RowKit Go.Shelf
set_option linter.unusedVariables false
set_option linter.unusedSimpArgs false

theorem ty_40 : TyI Tryz.prog 40 false 1 8 (.int .i64 0) := TyI.mk' (by kernel_rfl) (fun _ => by kernel_rfl)

def gn (a b : a6) : Bool := decide (bd a = 0) && decide (bd b = 0) && decide (a7 a = a7 b)

theorem c_ref02_Same (a b : a6) (ha : a.length ≤ 1000000000) (hb : b.length ≤ 1000000000) : eC Tryz.prog 46 #[.string (ba a), .string (ba b)] (.bool (gn a b)) := by
 intro w0
 refine bT (ok0 := no) (S := []) (args := [.string (ba a), .string (ba b)]) 20 Tryz.func46 rfl rfl rfl (by simp) (by simp) ?_
 refine ap ?_
 refine ae ?_
 refine aq (ai rfl) rfl rfl ?_
 refine aa ?_
 refine aj ?_
 refine ap ?_
 refine ae ?_
 refine aq (am rfl) rfl rfl ?_
 refine bD rfl gz (dV _) rfl ?_
 refine aq (cY rfl rfl) rfl rfl ?_
 refine ay (t := 7) rfl (fun h1_2 => ?_) (fun h1_2 => ?_)
 refine aq (am rfl) rfl rfl ?_
 refine au rfl rfl ?_
 refine aq (am rfl) rfl rfl ?_
 refine au rfl rfl ?_
 refine bD rfl gz (dV _) rfl ?_
 refine au rfl rfl ?_
 refine aq (cY rfl rfl) rfl rfl ?_
 refine ay (t := 11) rfl (fun h1_6 => ?_) (fun h1_6 => ?_)
 refine aq (aH rfl rfl) rfl rfl ?_
 refine aq (am rfl) rfl rfl ?_
 refine au rfl rfl ?_
 refine aq (am rfl) rfl rfl ?_
 refine au rfl rfl ?_
 refine bD rfl jG (ii _ (by omega)) rfl ?_
 refine au rfl rfl ?_
 refine aq (am rfl) rfl rfl ?_
 refine au rfl rfl ?_
 refine bD rfl jG (ii _ (by omega)) rfl ?_
 refine au rfl rfl ?_
 refine aq (eK rfl rfl) rfl rfl ?_
 refine aq (aH rfl rfl) rfl rfl ?_
 refine aq (ai rfl) rfl rfl ?_
 refine aa ?_
 refine aj ?_
 refine aN ?_
 refine aR (ts := [4]) rfl rfl rfl (fun w hw => ?_)
 refine ⟨?_, hw.base⟩
 show Ending.returned (.bool _) = _
 congr 2
 simp [gn, *]
 refine aq (aH rfl rfl) rfl rfl ?_
 refine aq (am rfl) rfl rfl ?_
 refine ar rfl rfl rfl rfl ?_
 refine ar rfl rfl rfl rfl ?_
 refine ar rfl rfl rfl rfl ?_
 refine ar rfl rfl rfl rfl ?_
 refine ar rfl rfl rfl rfl ?_
 refine aq (aF rfl rfl) rfl rfl ?_
 refine aq (ai rfl) rfl rfl ?_
 refine aa ?_
 refine aj ?_
 refine aN ?_
 refine aR (ts := [4]) rfl rfl rfl (fun w hw => ?_)
 refine ⟨?_, hw.base⟩
 show Ending.returned (.bool _) = _
 congr 2
 simp [gn, *]
 refine aq (am rfl) rfl rfl ?_
 refine ar rfl rfl rfl rfl ?_
 refine ar rfl rfl rfl rfl ?_
 refine ar rfl rfl rfl rfl ?_
 refine aq (aF rfl rfl) rfl rfl ?_
 refine aq (am rfl) rfl rfl ?_
 refine ar rfl rfl rfl rfl ?_
 refine ar rfl rfl rfl rfl ?_
 refine ar rfl rfl rfl rfl ?_
 refine ar rfl rfl rfl rfl ?_
 refine ar rfl rfl rfl rfl ?_
 refine aq (aF rfl rfl) rfl rfl ?_
 refine aq (ai rfl) rfl rfl ?_
 refine aa ?_
 refine aj ?_
 refine aN ?_
 refine aR (ts := [4]) rfl rfl rfl (fun w hw => ?_)
 refine ⟨?_, hw.base⟩
 show Ending.returned (.bool _) = _
 congr 2
 simp [gn, *]

end Go.Proofs.YtnpdgmoeoidppaaGreat

/- Names compared; what lies above a name: plain laws. -/
namespace Go.Proofs.YtnpdgmoeoidppaaGreat
open Go.RowKit Go.Shelf
set_option linter.unusedVariables false
set_option linter.unusedSimpArgs false

theorem cmpS_anti : ∀ s t : a6, dK t s = - dK s t
  | [], [] => rfl
  | [], _ :: _ => rfl
  | _ :: _, [] => rfl
  | a :: r, b :: t => by
    have ih := cmpS_anti r t
    simp only [dK]
    by_cases h1 : a < b
    · have h2 : ¬ b < a := fun h => UInt8.lt_irrefl _ (UInt8.lt_trans h1 h)
      rw [if_pos h1, if_neg h2, if_pos h1]; rfl
    · by_cases h2 : b < a
      · rw [if_pos h2, if_neg h1, if_pos h2]
      · rw [if_neg h1, if_neg h2, if_neg h2, if_neg h1, ih]
theorem cmpS_trans : ∀ {s t u : a6}, dK s t < 0 → dK t u < 0 → dK s u < 0
  | [], [], _, h, _ => by simp [dK] at h
  | _ :: _, [], _, h, _ => by simp [dK] at h
  | _, _ :: _, [], _, h => by simp [dK] at h
  | [], _ :: _, _ :: _, _, _ => by simp [dK]
  | a :: r, b :: t, c :: u, h1, h2 => by
    simp only [dK] at h1 h2 ⊢
    by_cases ab : a < b
    · by_cases bc : b < c
      · rw [if_pos (UInt8.lt_trans ab bc)]; decide
      · rw [if_neg bc] at h2
        by_cases cb : c < b
        · rw [if_pos cb] at h2; omega
        · have e : b = c := UInt8.le_antisymm (UInt8.not_lt.1 cb) (UInt8.not_lt.1 bc)
          subst e
          rw [if_pos ab]; decide
    · rw [if_neg ab] at h1
      by_cases ba' : b < a
      · rw [if_pos ba'] at h1; omega
      · rw [if_neg ba'] at h1
        have e : a = b := UInt8.le_antisymm (UInt8.not_lt.1 ba') (UInt8.not_lt.1 ab)
        subst e
        by_cases bc : a < c
        · rw [if_pos bc]; decide
        · rw [if_neg bc] at h2 ⊢
          by_cases cb : c < a
          · rw [if_pos cb] at h2; omega
          · rw [if_neg cb] at h2 ⊢
            exact cmpS_trans h1 h2
/-- Rows of labels compared. -/
def d6 : List a6 → List a6 → Int
  | [], [] => 0
  | [], _ :: _ => -1
  | _ :: _, [] => 1
  | x :: xs, y :: ys => if dK (bO x) (bO y) ≠ 0 then dK (bO x) (bO y) else d6 xs ys
theorem cmpLs_anti : ∀ s t : List a6, d6 t s = - d6 s t
  | [], [] => rfl
  | [], _ :: _ => rfl
  | _ :: _, [] => rfl
  | a :: r, b :: t => by
    have ih := cmpLs_anti r t
    have h := cmpS_anti (bO a) (bO b)
    simp only [d6]
    by_cases h1 : dK (bO a) (bO b) = 0
    · rw [if_neg (by omega), if_neg (by omega), ih]
    · rw [if_pos (by omega), if_pos h1, h]
theorem cmpLs_zero : ∀ {s t : List a6}, d6 s t = 0 ↔ s.map bO = t.map bO
  | [], [] => by simp [d6]
  | [], _ :: _ => by simp [d6]
  | _ :: _, [] => by simp [d6]
  | a :: r, b :: t => by
    have ih := cmpLs_zero (s := r) (t := t)
    simp only [d6, List.map_cons, List.cons.injEq]
    by_cases h1 : dK (bO a) (bO b) = 0
    · rw [if_neg (by omega), ih]; simp [cmpS_zero.1 h1]
    · rw [if_pos h1]
      exact ⟨fun h => absurd h h1, fun h => absurd (cmpS_zero.2 h.1) h1⟩
theorem cmpLs_trans : ∀ {s t u : List a6}, d6 s t < 0 → d6 t u < 0 → d6 s u < 0
  | [], [], _, h, _ => by simp [d6] at h
  | _ :: _, [], _, h, _ => by simp [d6] at h
  | _, _ :: _, [], _, h => by simp [d6] at h
  | [], _ :: _, _ :: _, _, _ => by simp [d6]
  | a :: r, b :: t, c :: u, h1, h2 => by
    simp only [d6] at h1 h2 ⊢
    by_cases ab : dK (bO a) (bO b) = 0
    · rw [if_neg (by omega)] at h1
      rw [cmpS_zero.1 ab]
      by_cases bc : dK (bO b) (bO c) = 0
      · rw [if_neg (by omega)] at h2 ⊢
        exact cmpLs_trans h1 h2
      · rw [if_pos bc] at h2 ⊢; exact h2
    · rw [if_pos ab] at h1
      by_cases bc : dK (bO b) (bO c) = 0
      · rw [← cmpS_zero.1 bc, if_pos ab]; exact h1
      · rw [if_pos bc] at h2
        have := cmpS_trans h1 h2
        rw [if_pos (by omega)]; exact this
/-- name.Compare. -/
def bR (a b : a6) : Int := d6 (bk a).reverse (bk b).reverse
theorem labsN_fold {n : a6} (h : bd n = 0) : bk (a7 n) = (bk n).map bO := by
  have hf := fP h
  have e1 : bk n = fj n := if_pos h
  have e2 : bk (a7 n) = fj (a7 n) := if_pos hf
  have h1 : ∀ s ∈ (fj n).map bO, 1 ≤ s.length ∧ s.length ≤ 63 := fun s hs => by
    obtain ⟨t, ht, rfl⟩ := List.mem_map.1 hs
    rw [dW]; exact fD n t ht
  have h2 := (gF _ h1).2
  rw [iy _ (fD n), gq n (nameCk_zero.1 h).2, ← iA h] at h2
  rw [e1, e2, h2]
theorem fold_labs {a b : a6} (ha : bd a = 0) (hb : bd b = 0) : a7 a = a7 b ↔ (bk a).map bO = (bk b).map bO := by
  constructor
  · intro h
    rw [← labsN_fold ha, ← labsN_fold hb, h]
  · intro h
    rw [← iR, ← iR, h]
theorem ea {a b : a6} (ha : bd a = 0) (hb : bd b = 0) : bR a b = 0 ↔ a7 a = a7 b := by
  rw [bR, cmpLs_zero, List.map_reverse, List.map_reverse, List.reverse_inj, fold_labs ha hb]
theorem dM (a b : a6) : bR b a = - bR a b := cmpLs_anti _ _
theorem ef {a b c : a6} (h1 : bR a b < 0) (h2 : bR b c < 0) : bR a c < 0 := cmpLs_trans h1 h2
/-! Steps of the loops. -/
theorem dq {s t : a6} {k : Nat} (hs : k < s.length) (ht : k < t.length) : dK (s.drop k) (t.drop k) = if bt s k < bt t k then -1 else if bt t k < bt s k then 1 else dK (s.drop (k + 1)) (t.drop (k + 1)) := by
  rw [bG s 0 k hs, bG t 0 k ht, dK]
  rfl
theorem fO {s t : a6} {k : Nat} (h : k ≤ s.length ∧ k ≤ t.length) (he : k = s.length ∨ k = t.length) : dK (s.drop k) (t.drop k) = if s.length < t.length then -1 else if t.length < s.length then 1 else 0 := by
  rcases Nat.lt_trichotomy s.length t.length with h1 | h1 | h1
  · rw [if_pos h1]
    have : k = s.length := by omega
    rw [this, List.drop_length, bG t 0 _ h1]; rfl
  · rw [if_neg (by omega), if_neg (by omega)]
    have : k = s.length := by omega
    rw [this, List.drop_length, h1, List.drop_length]; rfl
  · rw [if_neg (by omega), if_pos h1]
    have : k = t.length := by omega
    rw [this, List.drop_length, bG s 0 _ h1]; rfl
theorem dR {s t : List a6} {k : Nat} (hs : k < s.length) (ht : k < t.length) : d6 (s.drop k) (t.drop k) = if dK (bO (s.getD k [])) (bO (t.getD k [])) ≠ 0 then dK (bO (s.getD k [])) (bO (t.getD k [])) else d6 (s.drop (k + 1)) (t.drop (k + 1)) := by
  rw [bG s [] k hs, bG t [] k ht, d6]
theorem cmpLs_end {s t : List a6} {k : Nat} (h : k ≤ s.length ∧ k ≤ t.length) (he : k = s.length ∨ k = t.length) : d6 (s.drop k) (t.drop k) = if s.length < t.length then -1 else if t.length < s.length then 1 else 0 := by
  rcases Nat.lt_trichotomy s.length t.length with h1 | h1 | h1
  · rw [if_pos h1]
    have : k = s.length := by omega
    rw [this, List.drop_length, bG t [] _ h1]; rfl
  · rw [if_neg (by omega), if_neg (by omega)]
    have : k = s.length := by omega
    rw [this, List.drop_length, h1, List.drop_length]; rfl
  · rw [if_neg (by omega), if_pos h1]
    have : k = t.length := by omega
    rw [this, List.drop_length, bG s [] _ h1]; rfl
theorem rev_getD {l : List a6} {k : Nat} (h : k < l.length) : l.reverse.getD k [] = l.getD (l.length - 1 - k) [] := by
  rw [List.getD_eq_getElem?_getD, List.getD_eq_getElem?_getD, List.getElem?_reverse h]
end Go.Proofs.YtnpdgmoeoidppaaGreat
