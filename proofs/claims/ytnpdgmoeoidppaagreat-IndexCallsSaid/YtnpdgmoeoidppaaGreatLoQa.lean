import Derived.Test.YtnpdgmoeoidppaaGreatClQa
import Derived.Test.YtnpdgmoeoidppaaGreatPcQa
import Derived.Test.YtnpdgmoeoidppaaGreatLlQa
/- the reference of entries; the law of calls -/
namespace Go.Proofs.YtnpdgmoeoidppaaGreat
open Go.RowKit Go.Shelf
set_option linter.unusedVariables false
set_option linter.unusedSimpArgs false

theorem ent_133 : Enters Tryz.prog 133 := enters_of Tryz.func133 (by kernel_rfl) rfl

theorem c_ref16_Key (e : En) (A B : Option Addr) (c d : Nat) (hn : e.host.length ≤ 1000000000) : dQ Tryz.prog 134 #[.agg (enC e A B c d).toArray] (.string (ba (aX e.host))) := by
 intro w0
 refine bH (ok0 := no) (S := []) (args := [.agg (enC e A B c d).toArray]) 6 Tryz.func134 rfl rfl rfl (by simp) (by simp) ?_
 refine ar ?_
 refine ai ?_
 refine cv rfl rfl rfl (fun b1 => ?_)
 refine au (ao rfl) rfl rfl ?_
 refine ah ?_
 refine aq ?_
 refine ar ?_
 refine ai ?_
 refine au (aD cQ rfl) rfl rfl ?_
 refine au (aM 0 bN rfl rfl rfl) rfl rfl ?_
 refine bb rfl ent_112 (g8 _ (by omega)) rfl ?_
 refine au (ao rfl) rfl rfl ?_
 refine ah ?_
 refine aq ?_
 refine aQ ?_
 refine aV (ts := [2]) rfl rfl rfl (fun w hw => ?_)
 exact ⟨rfl, hw.base⟩

set_option maxRecDepth 100000 in
theorem hZ (e : En) (A B : Option Addr) (c d : Nat) (f : En) (F G : Option Addr) (c2 d2 : Nat) (hla : e.addrs.length ≤ 1000000000000) (hlp : e.ports.length ≤ 1000000000000) : RC Tryz.prog 22 #[.agg (enC e A B c d).toArray, .agg (enC f F G c2 d2).toArray] [Ch.rd A 3 dT e.addrs, Ch.rd B 1 eX e.ports, Ch.rd F 3 dT f.addrs, Ch.rd G 1 eX f.ports] (α := Unit) (fun _ => .bool (decide (e = f))) (fun _ => []) := by
 refine bx (args := [.agg (enC e A B c d).toArray, .agg (enC f F G c2 d2).toArray]) 94 Tryz.func22 rfl rfl rfl (fun w0 => ?_)
 refine ar ?_
 refine ai ?_
 refine cv rfl rfl rfl (fun b1 => ?_)
 refine cv rfl rfl rfl (fun b2 => ?_)
 refine au (ao rfl) rfl rfl ?_
 refine ah ?_
 refine aq ?_
 refine ar ?_
 refine ar ?_
 refine ai ?_
 refine au (aD cQ rfl) rfl rfl ?_
 refine au (aM 1 bN rfl rfl rfl) rfl rfl ?_
 refine au (aD cQ rfl) rfl rfl ?_
 refine au (aM 0 bN rfl rfl rfl) rfl rfl ?_
 refine au (jb rfl rfl) rfl rfl ?_
 refine aB (t := 11) rfl (fun h1_4 => ?_) (fun h1_4 => ?_)
 refine au (ap rfl) rfl rfl ?_
 refine ax rfl rfl rfl rfl ?_
 refine ax rfl rfl rfl rfl ?_
 refine ax rfl rfl rfl rfl ?_
 refine ax rfl rfl rfl rfl ?_
 refine ax rfl rfl rfl rfl ?_
 refine au (aG rfl rfl) rfl rfl ?_
 refine au (ap rfl) rfl rfl ?_
 refine ax rfl rfl rfl rfl ?_
 refine ax rfl rfl rfl rfl ?_
 refine ax rfl rfl rfl rfl ?_
 refine ax rfl rfl rfl rfl ?_
 refine ax rfl rfl rfl rfl ?_
 refine au (aG rfl rfl) rfl rfl ?_
 refine au (ap rfl) rfl rfl ?_
 refine ax rfl rfl rfl rfl ?_
 refine ax rfl rfl rfl rfl ?_
 refine ax rfl rfl rfl rfl ?_
 refine ax rfl rfl rfl rfl ?_
 refine ax rfl rfl rfl rfl ?_
 refine au (aG rfl rfl) rfl rfl ?_
 refine au (ap rfl) rfl rfl ?_
 refine ax rfl rfl rfl rfl ?_
 refine ax rfl rfl rfl rfl ?_
 refine ax rfl rfl rfl rfl ?_
 refine ax rfl rfl rfl rfl ?_
 refine ax rfl rfl rfl rfl ?_
 refine au (aG rfl rfl) rfl rfl ?_
 refine au (ap rfl) rfl rfl ?_
 refine ax rfl rfl rfl rfl ?_
 refine ax rfl rfl rfl rfl ?_
 refine ax rfl rfl rfl rfl ?_
 refine ax rfl rfl rfl rfl ?_
 refine ax rfl rfl rfl rfl ?_
 refine ax rfl rfl rfl rfl ?_
 refine ax rfl rfl rfl rfl ?_
 refine au (aG rfl rfl) rfl rfl ?_
 refine au (ap rfl) rfl rfl ?_
 refine ax rfl rfl rfl rfl ?_
 refine ax rfl rfl rfl rfl ?_
 refine ax rfl rfl rfl rfl ?_
 refine ax rfl rfl rfl rfl ?_
 refine ax rfl rfl rfl rfl ?_
 refine ax rfl rfl rfl rfl ?_
 refine ax rfl rfl rfl rfl ?_
 refine au (aG rfl rfl) rfl rfl ?_
 refine ah ?_
 refine aq ?_
 refine aA rfl ?_
 refine ar ?_
 refine ai ?_
 refine au (ao rfl) rfl rfl ?_
 refine ah ?_
 refine aq ?_
 refine aQ ?_
 refine ay ?_
 refine aV (ts := [4]) rfl rfl rfl (fun w hw => ?_)
 refine ⟨(), ?_, hw.base, (hw.weak (List.nil_sublist _) (fun s hs => hs)).toNews⟩
 show Ending.returned (.bool _) = _
 congr 2
 focus first
   | (have hP := hP
      have he : e = f := by
        cases e; cases f
        simp_all
      rw [decide_eq_true he]
      done)
   | (have hne : e ≠ f := fun h => by
        subst h
        exact h11_10 rfl
      rw [decide_eq_false hne]
      done)
   | (have hne : e ≠ f := fun h => by
        subst h
        exact h6_10 rfl
      rw [decide_eq_false hne]
      done)
   | (have hne : e ≠ f := fun h => by
        subst h
        simp_all
      rw [decide_eq_false hne]
      done)
   | (trace_state; fail)
 refine au (ap rfl) rfl rfl ?_
 refine az rfl rfl ?_
 refine au (aD ea rfl) rfl rfl ?_
 refine az rfl rfl ?_
 refine au (aM 1 de rfl rfl rfl) rfl rfl ?_
 refine az rfl rfl ?_
 refine au (aD ea rfl) rfl rfl ?_
 refine az rfl rfl ?_
 refine au (aM 0 de rfl rfl rfl) rfl rfl ?_
 refine az rfl rfl ?_
 refine au (bX rfl rfl) rfl rfl ?_
 refine aB (t := 17) rfl (fun h1_10 => ?_) (fun h1_10 => ?_)
 refine au (aI rfl rfl) rfl rfl ?_
 refine au (ap rfl) rfl rfl ?_
 refine ax rfl rfl rfl rfl ?_
 refine ax rfl rfl rfl rfl ?_
 refine ax rfl rfl rfl rfl ?_
 refine ax rfl rfl rfl rfl ?_
 refine ax rfl rfl rfl rfl ?_
 refine au (aG rfl rfl) rfl rfl ?_
 refine au (ap rfl) rfl rfl ?_
 refine ax rfl rfl rfl rfl ?_
 refine ax rfl rfl rfl rfl ?_
 refine ax rfl rfl rfl rfl ?_
 refine ax rfl rfl rfl rfl ?_
 refine ax rfl rfl rfl rfl ?_
 refine au (aG rfl rfl) rfl rfl ?_
 refine au (ap rfl) rfl rfl ?_
 refine ax rfl rfl rfl rfl ?_
 refine ax rfl rfl rfl rfl ?_
 refine ax rfl rfl rfl rfl ?_
 refine ax rfl rfl rfl rfl ?_
 refine ax rfl rfl rfl rfl ?_
 refine au (aG rfl rfl) rfl rfl ?_
 refine au (ap rfl) rfl rfl ?_
 refine ax rfl rfl rfl rfl ?_
 refine ax rfl rfl rfl rfl ?_
 refine ax rfl rfl rfl rfl ?_
 refine ax rfl rfl rfl rfl ?_
 refine ax rfl rfl rfl rfl ?_
 refine ax rfl rfl rfl rfl ?_
 refine ax rfl rfl rfl rfl ?_
 refine au (aG rfl rfl) rfl rfl ?_
 refine au (ap rfl) rfl rfl ?_
 refine ax rfl rfl rfl rfl ?_
 refine ax rfl rfl rfl rfl ?_
 refine ax rfl rfl rfl rfl ?_
 refine ax rfl rfl rfl rfl ?_
 refine ax rfl rfl rfl rfl ?_
 refine ax rfl rfl rfl rfl ?_
 refine ax rfl rfl rfl rfl ?_
 refine au (aG rfl rfl) rfl rfl ?_
 refine ah ?_
 refine aq ?_
 refine aA rfl ?_
 refine ar ?_
 refine ai ?_
 refine au (ao rfl) rfl rfl ?_
 refine ah ?_
 refine aq ?_
 refine aQ ?_
 refine ay ?_
 refine aV (ts := [4]) rfl rfl rfl (fun w hw => ?_)
 refine ⟨(), ?_, hw.base, (hw.weak (List.nil_sublist _) (fun s hs => hs)).toNews⟩
 show Ending.returned (.bool _) = _
 congr 2
 focus first
   | (have hP := hP
      have he : e = f := by
        cases e; cases f
        simp_all
      rw [decide_eq_true he]
      done)
   | (have hne : e ≠ f := fun h => by
        subst h
        exact h11_10 rfl
      rw [decide_eq_false hne]
      done)
   | (have hne : e ≠ f := fun h => by
        subst h
        exact h6_10 rfl
      rw [decide_eq_false hne]
      done)
   | (have hne : e ≠ f := fun h => by
        subst h
        simp_all
      rw [decide_eq_false hne]
      done)
   | (trace_state; fail)
 refine au (aI rfl rfl) rfl rfl ?_
 refine au (ap rfl) rfl rfl ?_
 refine az rfl rfl ?_
 refine au (aD fV rfl) rfl rfl ?_
 refine az rfl rfl ?_
 refine au (aM 1 cB rfl rfl rfl) rfl rfl ?_
 refine az rfl rfl ?_
 refine au (aD fV rfl) rfl rfl ?_
 refine az rfl rfl ?_
 refine au (aM 0 cB rfl rfl rfl) rfl rfl ?_
 refine az rfl rfl ?_
 refine au (jb rfl rfl) rfl rfl ?_
 refine aB (t := 24) rfl (fun h1_17 => ?_) (fun h1_17 => ?_)
 refine au (aI rfl rfl) rfl rfl ?_
 refine au (ap rfl) rfl rfl ?_
 refine ax rfl rfl rfl rfl ?_
 refine ax rfl rfl rfl rfl ?_
 refine ax rfl rfl rfl rfl ?_
 refine ax rfl rfl rfl rfl ?_
 refine ax rfl rfl rfl rfl ?_
 refine au (aG rfl rfl) rfl rfl ?_
 refine au (ap rfl) rfl rfl ?_
 refine ax rfl rfl rfl rfl ?_
 refine ax rfl rfl rfl rfl ?_
 refine ax rfl rfl rfl rfl ?_
 refine ax rfl rfl rfl rfl ?_
 refine ax rfl rfl rfl rfl ?_
 refine au (aG rfl rfl) rfl rfl ?_
 refine au (ap rfl) rfl rfl ?_
 refine ax rfl rfl rfl rfl ?_
 refine ax rfl rfl rfl rfl ?_
 refine ax rfl rfl rfl rfl ?_
 refine ax rfl rfl rfl rfl ?_
 refine ax rfl rfl rfl rfl ?_
 refine ax rfl rfl rfl rfl ?_
 refine ax rfl rfl rfl rfl ?_
 refine au (aG rfl rfl) rfl rfl ?_
 refine au (ap rfl) rfl rfl ?_
 refine ax rfl rfl rfl rfl ?_
 refine ax rfl rfl rfl rfl ?_
 refine ax rfl rfl rfl rfl ?_
 refine ax rfl rfl rfl rfl ?_
 refine ax rfl rfl rfl rfl ?_
 refine ax rfl rfl rfl rfl ?_
 refine ax rfl rfl rfl rfl ?_
 refine au (aG rfl rfl) rfl rfl ?_
 refine ah ?_
 refine aq ?_
 refine aA rfl ?_
 refine ar ?_
 refine ai ?_
 refine au (ao rfl) rfl rfl ?_
 refine ah ?_
 refine aq ?_
 refine aQ ?_
 refine ay ?_
 refine aV (ts := [4]) rfl rfl rfl (fun w hw => ?_)
 refine ⟨(), ?_, hw.base, (hw.weak (List.nil_sublist _) (fun s hs => hs)).toNews⟩
 show Ending.returned (.bool _) = _
 congr 2
 focus first
   | (have hP := hP
      have he : e = f := by
        cases e; cases f
        simp_all
      rw [decide_eq_true he]
      done)
   | (have hne : e ≠ f := fun h => by
        subst h
        exact h11_10 rfl
      rw [decide_eq_false hne]
      done)
   | (have hne : e ≠ f := fun h => by
        subst h
        exact h6_10 rfl
      rw [decide_eq_false hne]
      done)
   | (have hne : e ≠ f := fun h => by
        subst h
        simp_all
      rw [decide_eq_false hne]
      done)
   | (trace_state; fail)
 refine au (aI rfl rfl) rfl rfl ?_
 refine au (ap rfl) rfl rfl ?_
 refine az rfl rfl ?_
 refine au (aD ep rfl) rfl rfl ?_
 refine az rfl rfl ?_
 refine au (aM 1 bN rfl rfl rfl) rfl rfl ?_
 refine az rfl rfl ?_
 refine au (aD ep rfl) rfl rfl ?_
 refine az rfl rfl ?_
 refine au (aM 0 bN rfl rfl rfl) rfl rfl ?_
 refine az rfl rfl ?_
 refine au (jb rfl rfl) rfl rfl ?_
 refine aB (t := 31) rfl (fun h1_24 => ?_) (fun h1_24 => ?_)
 refine au (aI rfl rfl) rfl rfl ?_
 refine au (ap rfl) rfl rfl ?_
 refine ax rfl rfl rfl rfl ?_
 refine ax rfl rfl rfl rfl ?_
 refine ax rfl rfl rfl rfl ?_
 refine ax rfl rfl rfl rfl ?_
 refine ax rfl rfl rfl rfl ?_
 refine au (aG rfl rfl) rfl rfl ?_
 refine au (ap rfl) rfl rfl ?_
 refine ax rfl rfl rfl rfl ?_
 refine ax rfl rfl rfl rfl ?_
 refine ax rfl rfl rfl rfl ?_
 refine ax rfl rfl rfl rfl ?_
 refine ax rfl rfl rfl rfl ?_
 refine ax rfl rfl rfl rfl ?_
 refine ax rfl rfl rfl rfl ?_
 refine au (aG rfl rfl) rfl rfl ?_
 refine au (ap rfl) rfl rfl ?_
 refine ax rfl rfl rfl rfl ?_
 refine ax rfl rfl rfl rfl ?_
 refine ax rfl rfl rfl rfl ?_
 refine ax rfl rfl rfl rfl ?_
 refine ax rfl rfl rfl rfl ?_
 refine ax rfl rfl rfl rfl ?_
 refine ax rfl rfl rfl rfl ?_
 refine au (aG rfl rfl) rfl rfl ?_
 refine ah ?_
 refine aq ?_
 refine aA rfl ?_
 refine ar ?_
 refine ai ?_
 refine au (ao rfl) rfl rfl ?_
 refine ah ?_
 refine aq ?_
 refine aQ ?_
 refine ay ?_
 refine aV (ts := [4]) rfl rfl rfl (fun w hw => ?_)
 refine ⟨(), ?_, hw.base, (hw.weak (List.nil_sublist _) (fun s hs => hs)).toNews⟩
 show Ending.returned (.bool _) = _
 congr 2
 focus first
   | (have hP := hP
      have he : e = f := by
        cases e; cases f
        simp_all
      rw [decide_eq_true he]
      done)
   | (have hne : e ≠ f := fun h => by
        subst h
        exact h11_10 rfl
      rw [decide_eq_false hne]
      done)
   | (have hne : e ≠ f := fun h => by
        subst h
        exact h6_10 rfl
      rw [decide_eq_false hne]
      done)
   | (have hne : e ≠ f := fun h => by
        subst h
        simp_all
      rw [decide_eq_false hne]
      done)
   | (trace_state; fail)
 refine au (aI rfl rfl) rfl rfl ?_
 refine au (ap rfl) rfl rfl ?_
 refine az rfl rfl ?_
 refine au (aD fa_34_6 rfl) rfl rfl ?_
 refine az rfl rfl ?_
 refine au (aM 1 ty_32 rfl rfl rfl) rfl rfl ?_
 refine az rfl rfl ?_
 refine au (aD fa_34_6 rfl) rfl rfl ?_
 refine az rfl rfl ?_
 refine au (aM 0 ty_32 rfl rfl rfl) rfl rfl ?_
 refine az rfl rfl ?_
 refine au (bX rfl rfl) rfl rfl ?_
 refine aB (t := 38) rfl (fun h1_31 => ?_) (fun h1_31 => ?_)
 refine au (aI rfl rfl) rfl rfl ?_
 refine au (ap rfl) rfl rfl ?_
 refine ax rfl rfl rfl rfl ?_
 refine ax rfl rfl rfl rfl ?_
 refine ax rfl rfl rfl rfl ?_
 refine ax rfl rfl rfl rfl ?_
 refine ax rfl rfl rfl rfl ?_
 refine ax rfl rfl rfl rfl ?_
 refine ax rfl rfl rfl rfl ?_
 refine au (aG rfl rfl) rfl rfl ?_
 refine au (ap rfl) rfl rfl ?_
 refine ax rfl rfl rfl rfl ?_
 refine ax rfl rfl rfl rfl ?_
 refine ax rfl rfl rfl rfl ?_
 refine ax rfl rfl rfl rfl ?_
 refine ax rfl rfl rfl rfl ?_
 refine ax rfl rfl rfl rfl ?_
 refine ax rfl rfl rfl rfl ?_
 refine au (aG rfl rfl) rfl rfl ?_
 refine ah ?_
 refine aq ?_
 refine aA rfl ?_
 refine ar ?_
 refine ai ?_
 refine au (ao rfl) rfl rfl ?_
 refine ah ?_
 refine aq ?_
 refine aQ ?_
 refine ay ?_
 refine aV (ts := [4]) rfl rfl rfl (fun w hw => ?_)
 refine ⟨(), ?_, hw.base, (hw.weak (List.nil_sublist _) (fun s hs => hs)).toNews⟩
 show Ending.returned (.bool _) = _
 congr 2
 focus first
   | (have hP := hP
      have he : e = f := by
        cases e; cases f
        simp_all
      rw [decide_eq_true he]
      done)
   | (have hne : e ≠ f := fun h => by
        subst h
        exact h11_10 rfl
      rw [decide_eq_false hne]
      done)
   | (have hne : e ≠ f := fun h => by
        subst h
        exact h6_10 rfl
      rw [decide_eq_false hne]
      done)
   | (have hne : e ≠ f := fun h => by
        subst h
        simp_all
      rw [decide_eq_false hne]
      done)
   | (trace_state; fail)
 refine au (aI rfl rfl) rfl rfl ?_
 refine au (ap rfl) rfl rfl ?_
 refine az rfl rfl ?_
 refine au (aD cH rfl) rfl rfl ?_
 refine az rfl rfl ?_
 refine au (aM 1 dN rfl rfl rfl) rfl rfl ?_
 refine az rfl rfl ?_
 refine au (bg Tryz.underlying30 rfl) rfl rfl ?_
 refine az rfl rfl ?_
 refine au (aD cH rfl) rfl rfl ?_
 refine az rfl rfl ?_
 refine au (aM 0 dN rfl rfl rfl) rfl rfl ?_
 refine az rfl rfl ?_
 refine au (bg Tryz.underlying30 rfl) rfl rfl ?_
 refine az rfl rfl ?_
 refine au (bX rfl rfl) rfl rfl ?_
 refine aB (t := 47) rfl (fun h1_40 => ?_) (fun h1_40 => ?_)
 refine au (aI rfl rfl) rfl rfl ?_
 refine au (ap rfl) rfl rfl ?_
 refine ax rfl rfl rfl rfl ?_
 refine ax rfl rfl rfl rfl ?_
 refine ax rfl rfl rfl rfl ?_
 refine ax rfl rfl rfl rfl ?_
 refine ax rfl rfl rfl rfl ?_
 refine ax rfl rfl rfl rfl ?_
 refine ax rfl rfl rfl rfl ?_
 refine au (aG rfl rfl) rfl rfl ?_
 refine ah ?_
 refine aq ?_
 refine aA rfl ?_
 refine ar ?_
 refine ai ?_
 refine au (ao rfl) rfl rfl ?_
 refine ah ?_
 refine aq ?_
 refine aQ ?_
 refine ay ?_
 refine aV (ts := [4]) rfl rfl rfl (fun w hw => ?_)
 refine ⟨(), ?_, hw.base, (hw.weak (List.nil_sublist _) (fun s hs => hs)).toNews⟩
 show Ending.returned (.bool _) = _
 congr 2
 focus first
   | (have hP := hP
      have he : e = f := by
        cases e; cases f
        simp_all
      rw [decide_eq_true he]
      done)
   | (have hne : e ≠ f := fun h => by
        subst h
        exact h11_10 rfl
      rw [decide_eq_false hne]
      done)
   | (have hne : e ≠ f := fun h => by
        subst h
        exact h6_10 rfl
      rw [decide_eq_false hne]
      done)
   | (have hne : e ≠ f := fun h => by
        subst h
        simp_all
      rw [decide_eq_false hne]
      done)
   | (trace_state; fail)
 refine au (aI rfl rfl) rfl rfl ?_
 refine au (ap rfl) rfl rfl ?_
 refine az rfl rfl ?_
 refine au (aD dq rfl) rfl rfl ?_
 refine az rfl rfl ?_
 refine au (aM 1 eP rfl rfl rfl) rfl rfl ?_
 refine az rfl rfl ?_
 refine au (bg Tryz.underlying31 rfl) rfl rfl ?_
 refine az rfl rfl ?_
 refine au (aD dq rfl) rfl rfl ?_
 refine az rfl rfl ?_
 refine au (aM 0 eP rfl rfl rfl) rfl rfl ?_
 refine az rfl rfl ?_
 refine au (bg Tryz.underlying31 rfl) rfl rfl ?_
 refine az rfl rfl ?_
 refine au (bX rfl rfl) rfl rfl ?_
 refine aB (t := 56) rfl (fun h1_49 => ?_) (fun h1_49 => ?_)
 refine au (aI rfl rfl) rfl rfl ?_
 refine ah ?_
 refine aq ?_
 refine aA rfl ?_
 refine ar ?_
 refine ai ?_
 refine au (ao rfl) rfl rfl ?_
 refine ah ?_
 refine aq ?_
 refine aQ ?_
 refine ay ?_
 refine aV (ts := [4]) rfl rfl rfl (fun w hw => ?_)
 refine ⟨(), ?_, hw.base, (hw.weak (List.nil_sublist _) (fun s hs => hs)).toNews⟩
 show Ending.returned (.bool _) = _
 congr 2
 focus first
   | (have hP := hP
      have he : e = f := by
        cases e; cases f
        simp_all
      rw [decide_eq_true he]
      done)
   | (have hne : e ≠ f := fun h => by
        subst h
        exact h11_10 rfl
      rw [decide_eq_false hne]
      done)
   | (have hne : e ≠ f := fun h => by
        subst h
        exact h6_10 rfl
      rw [decide_eq_false hne]
      done)
   | (have hne : e ≠ f := fun h => by
        subst h
        simp_all
      rw [decide_eq_false hne]
      done)
   | (trace_state; fail)
 refine au (aI rfl rfl) rfl rfl ?_
 refine ah ?_
 refine aq ?_
 refine aC rfl ?_
 refine aS ?_
 refine aq ?_
 refine ar ?_
 refine ar ?_
 refine ai ?_
 refine au (ao rfl) rfl rfl ?_
 refine ah ?_
 refine aq ?_
 refine aW ?_
 refine bV (σ := Nat) [4, 5, 58, 59, 60, 61, 62, 63, 64, 65, 66, 67, 68, 69, 70, 71, 72, 73, 74, 75] (fun k => k ≤ e.addrs.length ∧ e.addrs.take k = f.addrs.take k) (fun k => e.addrs.length - k) (fun k => [(5, .int .i64 k)]) (0) ?_ ⟨rfl, trivial⟩ (fun k hI => ?_)
 exact ⟨Nat.zero_le _, rfl⟩
 refine ar ?_
 refine ar ?_
 refine ai ?_
 refine au (ap rfl) rfl rfl ?_
 refine au (aD cH rfl) rfl rfl ?_
 refine au (aM 1 dN rfl rfl rfl) rfl rfl ?_
 refine au (bg Tryz.underlying30 rfl) rfl rfl ?_
 refine au (bI rfl rfl) rfl rfl ?_
 refine aB (t := 62) rfl (fun h4_4 => ?_) (fun h4_4 => ?_)
 refine ah ?_
 refine aq ?_
 refine aA rfl ?_
 refine aS ?_
 refine aq ?_
 refine ar ?_
 refine aW ?_
 refine ar ?_
 refine dz 11 rfl cu ?_
 refine aF (i := 0) rfl aj (aD cH rfl) aE aE rfl (aa (ae (aa (ak (ae (aa av)))))) (by kernel_rfl) rfl ?_
 refine aF (i := 1) rfl aj (aM 1 dN rfl rfl rfl) aE aE rfl (aa (ae (aa (ak (ae (aa av)))))) (by kernel_rfl) rfl ?_
 refine aF (i := 2) rfl aj (ap rfl) aE aE rfl (aa (ae (aa (ak (ae (aa av)))))) (by kernel_rfl) rfl ?_
 refine aF (i := 3) rfl aj (bz  Tryz.underlying30 bu rfl rfl (bE 0 rfl) rfl (by omega)) aE aE rfl (aa (ae (aa (ak (ae (aa av)))))) (by kernel_rfl) rfl ?_
 refine aF (i := 4) rfl aj (bW dI eZ bu rfl (bE 0 rfl) (by omega) rfl rfl rfl) aE aE rfl (aa (ae (aa (ak (ae (aa av)))))) (by kernel_rfl) rfl ?_
 refine aF (i := 5) rfl aj (aD cH rfl) aE aE rfl (aa (ae (aa (ak (ae (aa av)))))) (by kernel_rfl) rfl ?_
 refine aF (i := 6) rfl aj (aM 0 dN rfl rfl rfl) aE aE rfl (aa (ae (aa (ak (ae (aa av)))))) (by kernel_rfl) rfl ?_
 refine aF (i := 7) rfl aj (ap rfl) aE aE rfl (aa (ae (aa (ak (ae (aa av)))))) (by kernel_rfl) rfl ?_
 refine aF (i := 8) rfl aj (bz  Tryz.underlying30 bu rfl rfl (bE 2 rfl) rfl (by omega)) aE aE rfl (aa (ae (aa (ak (ae (aa av)))))) (by kernel_rfl) rfl ?_
 refine aF (i := 9) rfl aj (bW dI eZ bu rfl (bE 2 rfl) (by omega) rfl rfl rfl) aE aE rfl (aa (ae (aa (ak (ae (aa av)))))) (by kernel_rfl) rfl ?_
 refine aF (i := 10) rfl aj (y_nestd (by kernel_rfl) rfl rfl (jg _ _) rfl) aE aE rfl (aa (ae (aa (ak (ae (aa av)))))) (by kernel_rfl) rfl ?_
 refine dn (t := 75) rfl (fun h6_10 => ?_) (fun h6_10 => ?_)
 refine cp (by kernel_rfl) ?_
 refine aq ?_
 refine aA rfl ?_
 refine ar ?_
 refine ai ?_
 refine au (ao rfl) rfl rfl ?_
 refine ah ?_
 refine aq ?_
 refine aQ ?_
 refine aK ?_
 refine ay ?_
 refine a9 ?_
 refine aK ?_
 refine ay ?_
 refine aV (ts := [4]) rfl rfl rfl (fun w hw => ?_)
 refine ⟨(), ?_, hw.base, (hw.weak (List.nil_sublist _) (fun s hs => hs)).toNews⟩
 show Ending.returned (.bool _) = _
 congr 2
 focus first
   | (have hP := hP
      have he : e = f := by
        cases e; cases f
        simp_all
      rw [decide_eq_true he]
      done)
   | (have hne : e ≠ f := fun h => by
        subst h
        exact h11_10 rfl
      rw [decide_eq_false hne]
      done)
   | (have hne : e ≠ f := fun h => by
        subst h
        exact h6_10 rfl
      rw [decide_eq_false hne]
      done)
   | (have hne : e ≠ f := fun h => by
        subst h
        simp_all
      rw [decide_eq_false hne]
      done)
   | (trace_state; fail)
 refine cp (by kernel_rfl) ?_
 refine aq ?_
 refine aC rfl ?_
 refine aS ?_
 refine bo ?_
 refine aq ?_
 refine ai ?_
 refine au (ap rfl) rfl rfl ?_
 refine au (bl rfl rfl (by omega) (by omega)) rfl rfl ?_
 refine au (ao rfl) rfl rfl ?_
 refine ah ?_
 refine bq (k + 1) ?_ ?_ ⟨rfl, trivial⟩ (by repeat (first | exact trivial | refine ⟨rfl, ?_⟩)) aE
 exact ⟨by omega, fT eZ (by omega) (by omega) hI.2 (by simpa using h6_10)⟩
 omega
 refine ah ?_
 refine aq ?_
 refine aC rfl ?_
 refine bw ?_
 refine aY ?_
 refine aZ ?_
 refine a7 ?_
 refine aq ?_
 refine ar ?_
 refine ar ?_
 have hA : e.addrs = f.addrs := by
   have := hI.2
   rw [show k = e.addrs.length by omega, List.take_length, List.take_of_length_le (by omega)] at this
   exact this
 refine ai ?_
 refine au (ao rfl) rfl rfl ?_
 refine ah ?_
 refine aq ?_
 refine aW ?_
 refine bV (σ := Nat) [4, 6, 76, 77, 78, 79, 80, 81, 82, 83, 84, 85, 86, 87, 88, 89, 90, 91, 92, 93] (fun j => j ≤ e.ports.length ∧ e.ports.take j = f.ports.take j) (fun j => e.ports.length - j) (fun j => [(6, .int .i64 j)]) (0) ?_ ⟨rfl, trivial⟩ (fun j hI => ?_)
 exact ⟨Nat.zero_le _, rfl⟩
 refine ar ?_
 refine ar ?_
 refine ai ?_
 refine au (ap rfl) rfl rfl ?_
 refine au (aD dq rfl) rfl rfl ?_
 refine au (aM 1 eP rfl rfl rfl) rfl rfl ?_
 refine au (bg Tryz.underlying31 rfl) rfl rfl ?_
 refine au (bI rfl rfl) rfl rfl ?_
 refine aB (t := 80) rfl (fun h9_4 => ?_) (fun h9_4 => ?_)
 refine ah ?_
 refine aq ?_
 refine aA rfl ?_
 refine aS ?_
 refine aq ?_
 refine ar ?_
 refine aW ?_
 refine ar ?_
 refine dz 11 rfl cu ?_
 refine aF (i := 0) rfl aj (aD dq rfl) aE aE rfl (aa (ae (aa (ak (ae (aa av)))))) (by kernel_rfl) rfl ?_
 refine aF (i := 1) rfl aj (aM 1 eP rfl rfl rfl) aE aE rfl (aa (ae (aa (ak (ae (aa av)))))) (by kernel_rfl) rfl ?_
 refine aF (i := 2) rfl aj (ap rfl) aE aE rfl (aa (ae (aa (ak (ae (aa av)))))) (by kernel_rfl) rfl ?_
 refine aF (i := 3) rfl aj (bz  Tryz.underlying31 de rfl rfl (bE 1 rfl) rfl (by omega)) aE aE rfl (aa (ae (aa (ak (ae (aa av)))))) (by kernel_rfl) rfl ?_
 refine aF (i := 4) rfl aj (cf ga (0 : Int) de rfl (bE 1 rfl) (by omega) rfl rfl) aE aE rfl (aa (ae (aa (ak (ae (aa av)))))) (by kernel_rfl) rfl ?_
 refine aF (i := 5) rfl aj (aD dq rfl) aE aE rfl (aa (ae (aa (ak (ae (aa av)))))) (by kernel_rfl) rfl ?_
 refine aF (i := 6) rfl aj (aM 0 eP rfl rfl rfl) aE aE rfl (aa (ae (aa (ak (ae (aa av)))))) (by kernel_rfl) rfl ?_
 refine aF (i := 7) rfl aj (ap rfl) aE aE rfl (aa (ae (aa (ak (ae (aa av)))))) (by kernel_rfl) rfl ?_
 refine aF (i := 8) rfl aj (bz  Tryz.underlying31 de rfl rfl (bE 3 rfl) rfl (by omega)) aE aE rfl (aa (ae (aa (ak (ae (aa av)))))) (by kernel_rfl) rfl ?_
 refine aF (i := 9) rfl aj (cf ga (0 : Int) de rfl (bE 3 rfl) (by omega) rfl rfl) aE aE rfl (aa (ae (aa (ak (ae (aa av)))))) (by kernel_rfl) rfl ?_
 refine aF (i := 10) rfl aj (bX rfl rfl) aE aE rfl (aa (ae (aa (ak (ae (aa av)))))) (by kernel_rfl) rfl ?_
 refine dn (t := 93) rfl (fun h11_10 => ?_) (fun h11_10 => ?_)
 refine cp (by kernel_rfl) ?_
 refine aq ?_
 refine aA rfl ?_
 refine ar ?_
 refine ai ?_
 refine au (ao rfl) rfl rfl ?_
 refine ah ?_
 refine aq ?_
 refine aQ ?_
 refine aK ?_
 refine ay ?_
 refine a9 ?_
 refine aK ?_
 refine ay ?_
 refine aV (ts := [4]) rfl rfl rfl (fun w hw => ?_)
 refine ⟨(), ?_, hw.base, (hw.weak (List.nil_sublist _) (fun s hs => hs)).toNews⟩
 show Ending.returned (.bool _) = _
 congr 2
 focus first
   | (have hP := hP
      have he : e = f := by
        cases e; cases f
        simp_all
      rw [decide_eq_true he]
      done)
   | (have hne : e ≠ f := fun h => by
        subst h
        exact h11_10 rfl
      rw [decide_eq_false hne]
      done)
   | (have hne : e ≠ f := fun h => by
        subst h
        exact h6_10 rfl
      rw [decide_eq_false hne]
      done)
   | (have hne : e ≠ f := fun h => by
        subst h
        simp_all
      rw [decide_eq_false hne]
      done)
   | (trace_state; fail)
 refine cp (by kernel_rfl) ?_
 refine aq ?_
 refine aC rfl ?_
 refine aS ?_
 refine bo ?_
 refine aq ?_
 refine ai ?_
 refine au (ap rfl) rfl rfl ?_
 refine au (bl rfl rfl (by omega) (by omega)) rfl rfl ?_
 refine au (ao rfl) rfl rfl ?_
 refine ah ?_
 refine bq (j + 1) ?_ ?_ ⟨rfl, trivial⟩ (by repeat (first | exact trivial | refine ⟨rfl, ?_⟩)) aE
 exact ⟨by omega, fT (0 : Int) (by omega) (by omega) hI.2 (by simpa using h11_10)⟩
 omega
 refine ah ?_
 refine aq ?_
 refine aC rfl ?_
 refine bw ?_
 refine aY ?_
 refine aZ ?_
 refine a7 ?_
 refine aq ?_
 refine ar ?_
 have hP : e.ports = f.ports := by
   have := hI.2
   rw [show j = e.ports.length by omega, List.take_length, List.take_of_length_le (by omega)] at this
   exact this
 refine ai ?_
 refine au (ao rfl) rfl rfl ?_
 refine ah ?_
 refine aq ?_
 refine aQ ?_
 refine aV (ts := [4]) rfl rfl rfl (fun w hw => ?_)
 refine ⟨(), ?_, hw.base, (hw.weak (List.nil_sublist _) (fun s hs => hs)).toNews⟩
 show Ending.returned (.bool _) = _
 congr 2
 focus first
   | (have hP := hP
      have he : e = f := by
        cases e; cases f
        simp_all
      rw [decide_eq_true he]
      done)
   | (have hne : e ≠ f := fun h => by
        subst h
        exact h11_10 rfl
      rw [decide_eq_false hne]
      done)
   | (have hne : e ≠ f := fun h => by
        subst h
        exact h6_10 rfl
      rw [decide_eq_false hne]
      done)
   | (have hne : e ≠ f := fun h => by
        subst h
        simp_all
      rw [decide_eq_false hne]
      done)
   | (trace_state; fail)

theorem c_ref16_Addrs (e : En) (A B : Option Addr) (c d : Nat) (H : Option Addr) (h : Nat) (held : List Ad) (hwh : ∀ a ∈ held, 0 ≤ a.lo) (hlh : held.length ≤ 10000000000) (hwa : ∀ a ∈ e.addrs, 0 ≤ a.lo) (hla : e.addrs.length ≤ 10000000000) (hlp : e.ports.length ≤ 10000000000) (hk : -9223372036854775808 ≤ e.kind ∧ e.kind ≤ 9223372036854775807) : RC Tryz.prog 88 #[.agg (enC e A B c d).toArray, .slice H held.length h] [Ch.rd A 3 dT e.addrs, Ch.rd B 1 eX e.ports, Ch.rd H 3 dT held] (α := Option Addr × Nat) (fun p => .slice p.1 (di e held).length p.2) (fun p => [Ch.ls p.1 p.2 29 3 dT (di e held)]) := by
 refine bx (args := [.agg (enC e A B c d).toArray, .slice H held.length h]) 42 Tryz.func88 rfl rfl rfl (fun w0 => ?_)
 refine ar ?_
 refine ai ?_
 refine cv rfl rfl rfl (fun b1 => ?_)
 refine au (ao rfl) rfl rfl ?_
 refine ah ?_
 refine aq ?_
 refine ar ?_
 refine ai ?_
 refine au (ao rfl) rfl rfl ?_
 refine ah ?_
 refine aq ?_
 refine ar ?_
 refine ar ?_
 refine ai ?_
 refine au (a6 0 aR rfl rfl rfl rfl) rfl rfl ?_
 refine bp rfl ent_133 rfl (fA _ _ _ _ _ hwa (by omega) (by omega) hk) (fun w hw => (aO (bJ 0 rfl hw) (aO (bJ 1 rfl hw) bd))) ?_
 refine au (bX rfl rfl) rfl rfl ?_
 refine aB (t := 9) rfl (fun h2_2 => ?_) (fun h2_2 => ?_)
 refine ah ?_
 refine aq ?_
 refine aA rfl ?_
 refine ar ?_
 refine ai ?_
 refine au (ao rfl) rfl rfl ?_
 refine ah ?_
 refine aq ?_
 refine aQ ?_
 refine ay ?_
 refine aV (ts := [4]) rfl rfl rfl (fun w hw => ?_)
 have hq : di e held = [] := if_pos h2_2
 rw [hq]
 exact ⟨(none, 0), rfl, hw.base, ((hw.weak (List.nil_sublist _) (fun s hs => hs)).nilsl 29 3).toNews⟩
 refine ah ?_
 refine aq ?_
 refine aC rfl ?_
 refine aS ?_
 refine aq ?_
 refine ar ?_
 refine ar ?_
 refine ai ?_
 refine au (aD ea rfl) rfl rfl ?_
 refine au (aM 0 de rfl rfl rfl) rfl rfl ?_
 refine au (dk rfl rfl) rfl rfl ?_
 refine aB (t := 12) rfl (fun h4_2 => ?_) (fun h4_2 => ?_)
 refine ah ?_
 refine aq ?_
 refine aA rfl ?_
 refine ar ?_
 refine ai ?_
 refine au (ap rfl) rfl rfl ?_
 refine au (aD cH rfl) rfl rfl ?_
 refine au (aM 0 dN rfl rfl rfl) rfl rfl ?_
 refine ib (fun w h => h.nilsl 29 3) ?_
 refine cC (xs := ([] : List (Ad))) (enc := dT) (sz := 3) e.addrs Tryz.underlying30 bu rfl rfl rfl (fun A c => .z) (ic 0 Tryz.underlying30 rfl) (by simp only [List.length_cons, List.length_nil, Nat.zero_add]; omega) (by simp only [List.length_cons, List.length_nil, Nat.zero_add]; omega) rfl (fun A2 c2 => ?_)
 refine au (ao rfl) rfl rfl ?_
 refine ah ?_
 refine aq ?_
 refine aQ ?_
 refine ay ?_
 refine aV (ts := [4]) rfl rfl rfl (fun w hw => ?_)
 have hq : di e held = e.addrs := by rw [di, if_neg h2_2, if_pos h4_2]
 rw [hq]
 exact ⟨(A2, c2), rfl, hw.base, (hw.weak (.cons_cons _ (List.nil_sublist _)) (fun s hs => hs)).toNews⟩
 refine ah ?_
 refine aq ?_
 refine aC rfl ?_
 refine aS ?_
 refine aq ?_
 refine ar ?_
 refine ar ?_
 refine ai ?_
 refine au (ao rfl) rfl rfl ?_
 refine ah ?_
 refine aq ?_
 refine aW ?_
 refine bF (fun w h => h.nilsl 29 3) ?_
 refine cP (σ := Nat × Option Addr × Nat) [5, 6, 17, 18, 19, 20, 21, 22, 23, 24, 25, 26, 27, 28, 29, 30, 31, 32, 33, 34, 35, 36, 37, 38, 39, 40] (fun q => q.1 ≤ held.length ∧ (q.1 = 0 ∨ e.kind = 2)) (fun q => held.length - q.1) (fun q => [(6, .int .i64 q.1), (5, .slice q.2.1 ((held.take q.1).filter (fun a => decide (cz a = 0))).length q.2.2)]) (fun q => Ch.ls q.2.1 q.2.2 29 3 dT ((held.take q.1).filter (fun a => decide (cz a = 0)))) ((0, none, 0)) ?_ ⟨rfl, rfl, trivial⟩ rfl (fun q hI => ?_)
 exact ⟨Nat.zero_le _, .inl rfl⟩
 obtain ⟨k, Aq, cq⟩ := q
 dsimp only at hI ⊢
 have hfl := im (fun a => decide (cz a = 0)) held k
 refine ar ?_
 refine ar ?_
 refine ai ?_
 refine au (ap rfl) rfl rfl ?_
 refine au (ap rfl) rfl rfl ?_
 refine au (bg Tryz.underlying30 rfl) rfl rfl ?_
 refine au (bI rfl rfl) rfl rfl ?_
 refine aB (t := 20) rfl (fun h7_3 => ?_) (fun h7_3 => ?_)
 refine au (ap rfl) rfl rfl ?_
 refine az rfl rfl ?_
 refine au (aD ea rfl) rfl rfl ?_
 refine az rfl rfl ?_
 refine au (aM 1 de rfl rfl rfl) rfl rfl ?_
 refine az rfl rfl ?_
 refine au (dk rfl rfl) rfl rfl ?_
 refine aB (t := 24) rfl (fun h7_7 => ?_) (fun h7_7 => ?_)
 refine au (aG rfl rfl) rfl rfl ?_
 refine ah ?_
 refine aq ?_
 refine aA rfl ?_
 refine aS ?_
 refine aq ?_
 refine ar ?_
 refine aW ?_
 refine ar ?_
 refine ai ?_
 refine au (ap rfl) rfl rfl ?_
 refine au (ap rfl) rfl rfl ?_
 refine au (bz  Tryz.underlying30 bu rfl rfl (bE 2 rfl) rfl (by omega)) rfl rfl ?_
 refine au (bW dI eZ bu rfl (bE 2 rfl) (by omega) rfl rfl rfl) rfl rfl ?_
 refine bb rfl ent_79 (gw _ (hwh _ (jN (by omega)))) rfl ?_
 refine au (dk rfl rfl) rfl rfl ?_
 refine aB (t := 33) rfl (fun h9_5 => ?_) (fun h9_5 => ?_)
 refine ah ?_
 refine aq ?_
 refine aA rfl ?_
 refine ai ?_
 refine au (ap rfl) rfl rfl ?_
 refine au (ap rfl) rfl rfl ?_
 refine au (ap rfl) rfl rfl ?_
 refine au (bz  Tryz.underlying30 bu rfl rfl (bE 2 rfl) rfl (by omega)) rfl rfl ?_
 refine au (bW dI eZ bu rfl (bE 2 rfl) (by omega) rfl rfl rfl) rfl rfl ?_
 refine cD (vs := [_]) ([_] : List (Ad)) dI Tryz.underlying30 bu rfl rfl rfl rfl rfl rfl (fun As4 => ?_)
 refine cC (enc := dT) (sz := 3) _ Tryz.underlying30 bu rfl rfl rfl (fun A c => (.s (.z))) (d5 0 Tryz.underlying30 rfl) (by simp only [List.length_cons, List.length_nil, Nat.zero_add]; omega) (by simp only [List.length_cons, List.length_nil, Nat.zero_add]; omega) rfl (fun A4 c4 => ?_)
 refine au (ao rfl) rfl rfl ?_
 refine ah ?_
 refine bo ?_
 refine aq ?_
 refine ai ?_
 refine au (ap rfl) rfl rfl ?_
 refine au (bl rfl rfl (by omega) (by omega)) rfl rfl ?_
 refine au (ao rfl) rfl rfl ?_
 refine ah ?_
 have hfs := filter_yes (F := (fun a => decide (cz a = 0))) (l := held) (d := eZ) (k := k) (by omega) (by simpa using h9_5)
 refine bq ((k + 1, A4, c4)) ?_ ?_ ⟨rfl, lk rfl (by rw [hfs]), trivial⟩ (by repeat (first | exact trivial | refine ⟨rfl, ?_⟩)) (fun w h => by show Hp _ _ (Ch.ls _ _ _ _ _ ((held.take (k + 1)).filter (fun a => decide (cz a = 0))) :: _) _ _; rw [hfs]; exact h.weak (.cons _ (List.Sublist.refl _)) (fun s hs => hs))
 exact ⟨by show k + 1 ≤ _; omega, .inr (by omega)⟩
 show held.length - (k + 1) < held.length - k
 omega
 refine ah ?_
 refine aq ?_
 refine aC rfl ?_
 refine aS ?_
 refine bo ?_
 refine aq ?_
 refine ai ?_
 refine au (ap rfl) rfl rfl ?_
 refine au (bl rfl rfl (by omega) (by omega)) rfl rfl ?_
 refine au (ao rfl) rfl rfl ?_
 refine ah ?_
 have hfs := filter_no (F := (fun a => decide (cz a = 0))) (l := held) (d := eZ) (k := k) (by omega) (by simpa using h9_5)
 refine bq ((k + 1, Aq, cq)) ?_ ?_ ⟨rfl, lk rfl (by rw [hfs]), trivial⟩ (by repeat (first | exact trivial | refine ⟨rfl, ?_⟩)) (fun w h => by show Hp _ _ (Ch.ls _ _ _ _ _ ((held.take (k + 1)).filter (fun a => decide (cz a = 0))) :: _) _ _; rw [hfs]; exact h.weak (List.Sublist.refl _) (fun s hs => hs))
 exact ⟨by show k + 1 ≤ _; omega, .inr (by omega)⟩
 show held.length - (k + 1) < held.length - k
 omega
 refine au (aG rfl rfl) rfl rfl ?_
 refine ah ?_
 refine aq ?_
 refine aC rfl ?_
 refine bw ?_
 refine aY ?_
 refine aZ ?_
 refine a7 ?_
 refine aq ?_
 refine ar ?_
 refine ai ?_
 refine au (ap rfl) rfl rfl ?_
 refine au (ao rfl) rfl rfl ?_
 refine ah ?_
 refine aq ?_
 refine aQ ?_
 refine aV (ts := [4]) rfl rfl rfl (fun w hw => ?_)
 by_cases hk2 : e.kind = 2
 · have hkl : k = held.length := by omega
   have hq : di e held = held.filter fun a => decide (cz a = 0) := by rw [di, if_neg h2_2, if_neg h4_2, if_neg (by omega)]
   subst hkl
   rw [hq]
   rw [List.take_length] at hw ⊢
   exact ⟨(Aq, cq), rfl, hw.base, (hw.weak (.cons_cons _ (List.nil_sublist _)) (fun s hs => hs)).toNews⟩
 · have hk0 : k = 0 := by omega
   have hq : di e held = [] := by rw [di, if_neg h2_2, if_neg h4_2, if_pos (by omega)]
   have hz : (held.take k).filter (fun a => decide (cz a = 0)) = [] := by rw [hk0]; rfl
   rw [hz] at hw ⊢
   rw [hq]
   exact ⟨(Aq, cq), rfl, hw.base, (hw.weak (.cons_cons _ (List.nil_sublist _)) (fun s hs => hs)).toNews⟩
 refine au (ap rfl) rfl rfl ?_
 refine ax rfl rfl rfl rfl ?_
 refine ax rfl rfl rfl rfl ?_
 refine ax rfl rfl rfl rfl ?_
 refine au (aI rfl rfl) rfl rfl ?_
 refine ah ?_
 refine aq ?_
 refine aC rfl ?_
 refine bw ?_
 refine aY ?_
 refine aZ ?_
 refine a7 ?_
 refine aq ?_
 refine ar ?_
 refine ai ?_
 refine au (ap rfl) rfl rfl ?_
 refine au (ao rfl) rfl rfl ?_
 refine ah ?_
 refine aq ?_
 refine aQ ?_
 refine aV (ts := [4]) rfl rfl rfl (fun w hw => ?_)
 by_cases hk2 : e.kind = 2
 · have hkl : k = held.length := by omega
   have hq : di e held = held.filter fun a => decide (cz a = 0) := by rw [di, if_neg h2_2, if_neg h4_2, if_neg (by omega)]
   subst hkl
   rw [hq]
   rw [List.take_length] at hw ⊢
   exact ⟨(Aq, cq), rfl, hw.base, (hw.weak (.cons_cons _ (List.nil_sublist _)) (fun s hs => hs)).toNews⟩
 · have hk0 : k = 0 := by omega
   have hq : di e held = [] := by rw [di, if_neg h2_2, if_neg h4_2, if_pos (by omega)]
   have hz : (held.take k).filter (fun a => decide (cz a = 0)) = [] := by rw [hk0]; rfl
   rw [hz] at hw ⊢
   rw [hq]
   exact ⟨(Aq, cq), rfl, hw.base, (hw.weak (.cons_cons _ (List.nil_sublist _)) (fun s hs => hs)).toNews⟩

end Go.Proofs.YtnpdgmoeoidppaaGreat

/- Search: plain laws. -/
namespace Go.Proofs.YtnpdgmoeoidppaaGreat
open Go.RowKit Go.Shelf
set_option linter.unusedVariables false
set_option linter.unusedSimpArgs false

/-- A search. -/
structure Sr where
  ndots : Int
  doms : List bf
def ja : List bf → Int
  | [] => 0
  | d :: r => if a8 d ≠ 0 then a8 d else ja r
theorem domsCk_zero : ∀ {l : List bf}, ja l = 0 ↔ ∀ d ∈ l, a8 d = 0
  | [] => by simp [ja]
  | d :: r => by
    rw [ja]
    by_cases h : a8 d ≠ 0
    · rw [if_pos h]; simp [h]
    · rw [if_neg h, domsCk_zero]
      have : a8 d = 0 := by omega
      simp [this]
def srCk (s : Sr) : Int := if 6 < s.doms.length then 3 else if ja s.doms ≠ 0 then ja s.doms else if ([] : bf) ∈ s.doms ∨ s.ndots < 0 ∨ 15 < s.ndots then 2 else 0
theorem srCk_zero {s : Sr} (h : srCk s = 0) : s.doms.length ≤ 6 ∧ (∀ d ∈ s.doms, a8 d = 0 ∧ d ≠ []) ∧ 0 ≤ s.ndots ∧ s.ndots ≤ 15 := by
  unfold srCk at h
  split at h
  · omega
  · split at h
    · omega
    · rename_i h1 h2
      split at h
      · omega
      · rename_i h3
        have h4 := domsCk_zero.1 (show ja s.doms = 0 by omega)
        refine ⟨by omega, fun d hd => ⟨h4 d hd, fun e => h3 (.inl (e ▸ hd))⟩, ?_, ?_⟩
        · by_cases q : 0 ≤ s.ndots
          · exact q
          · exact absurd (.inr (.inl (by omega))) h3
        · by_cases q : s.ndots ≤ 15
          · exact q
          · exact absurd (.inr (.inr (by omega))) h3
/-- name.Join. -/
def ei (a b : bf) : Int := if a8 a ≠ 0 then a8 a else if a8 b ≠ 0 then a8 b else if 254 < a.length + b.length then 3 else 0
def joinN (a b : bf) : bf := if ei a b = 0 then a ++ b else []
theorem joinE_zero {a b : bf} : ei a b = 0 ↔ a8 a = 0 ∧ a8 b = 0 ∧ a.length + b.length ≤ 254 := by
  unfold ei
  by_cases h1 : a8 a = 0
  · by_cases h2 : a8 b = 0
    · rw [if_neg (by omega), if_neg (by omega)]
      by_cases h3 : 254 < a.length + b.length
      · rw [if_pos h3]; simp; omega
      · rw [if_neg h3]; simp [h1, h2]; omega
    · rw [if_neg (by omega), if_pos h2]; simp [h1, h2]
  · rw [if_pos h1]; simp [h1]
theorem okN_append {a b : bf} (ha : jk a = true) (hb : jk b = true) : jk (a ++ b) = true := by
  have h := (fH (dH a ++ dH b) (fun s hs => (List.mem_append.1 hs).elim (ec a s) (ec b s))).1
  rw [fE, e8 a ha, e8 b hb] at h
  exact h
theorem iX {a b : bf} (h : ei a b = 0) : a8 (a ++ b) = 0 := by
  obtain ⟨h1, h2, h3⟩ := joinE_zero.1 h
  exact nameCk_zero.2 ⟨by rw [List.length_append]; omega, okN_append (nameCk_zero.1 h1).2 (nameCk_zero.1 h2).2⟩
theorem fI {n : bf} (h : a8 n = 0) : aX n = bB n := if_pos h
theorem foldN_len {n : bf} (h : a8 n = 0) : (aX n).length = n.length := by rw [fI h, dF]
/-- The domains joined. -/
def iY (n : bf) (l : List bf) : List bf := (l.filter fun d => decide (ei n d = 0)).map fun d => n ++ d
def ownS (s : Sr) (n : bf) : Prop := n = [] ∨ s.ndots ≤ ((a5 n).length : Int) - 1
instance (s : Sr) (n : bf) : Decidable (ownS s n) := by unfold ownS; infer_instance
/-- The candidates, some of them twice. -/
def iZ (s : Sr) (n : bf) : List bf := if n = [] then [n] else if ownS s n then n :: iY n s.doms else iY n s.doms ++ [n]
/-- Each once. -/
def ded : List bf → List bf → List bf
  | _, [] => []
  | seen, x :: r => if aX x ∈ seen then ded seen r else x :: ded (aX x :: seen) r
def jV (s : Sr) (n : bf) : List bf := if srCk s ≠ 0 ∨ a8 n ≠ 0 then [] else ded [] (iZ s n)
theorem ded_mem {x : bf} : ∀ {seen l : List bf}, x ∈ ded seen l → x ∈ l ∧ aX x ∉ seen
  | _, [], h => by cases h
  | seen, y :: r, h => by
    rw [ded] at h
    split at h
    · have := ded_mem h; exact ⟨.tail _ this.1, this.2⟩
    · rcases List.mem_cons.1 h with rfl | h
      · exact ⟨.head _, ‹_›⟩
      · have := ded_mem h
        exact ⟨.tail _ this.1, fun q => this.2 (.tail _ q)⟩
theorem ded_dis : ∀ (seen l : List bf), (ded seen l).Pairwise fun x y => aX x ≠ aX y
  | _, [] => .nil
  | seen, y :: r => by
    rw [ded]
    split
    · exact ded_dis seen r
    · exact .cons (fun z hz e => (ded_mem hz).2 (e ▸ .head _)) (ded_dis _ r)
theorem ded_len : ∀ (seen l : List bf), (ded seen l).length ≤ l.length
  | _, [] => Nat.le_refl _
  | seen, y :: r => by
    rw [ded]
    split
    · have := ded_len seen r; simp; omega
    · have := ded_len (aX y :: seen) r; simp; omega
/-- What has been seen behind a part. -/
def dedS : List bf → List bf → List bf
  | seen, [] => seen
  | seen, x :: r => if aX x ∈ seen then dedS seen r else dedS (aX x :: seen) r
theorem jj : ∀ (seen a b : List bf), ded seen (a ++ b) = ded seen a ++ ded (dedS seen a) b
  | _, [], _ => rfl
  | seen, y :: r, b => by
    rw [List.cons_append, ded, ded, dedS]
    split
    · exact jj seen r b
    · rw [jj _ r b]; rfl
theorem dedS_mem {k : bf} : ∀ {seen l : List bf}, k ∈ dedS seen l ↔ k ∈ seen ∨ ∃ x ∈ l, aX x = k
  | seen, [] => by simp [dedS]
  | seen, y :: r => by
    rw [dedS]
    split
    · rw [dedS_mem]
      constructor
      · rintro (h | ⟨x, hx, e⟩)
        · exact .inl h
        · exact .inr ⟨x, .tail _ hx, e⟩
      · rintro (h | ⟨x, hx, e⟩)
        · exact .inl h
        · rcases List.mem_cons.1 hx with rfl | hx
          · exact .inl (e ▸ ‹_›)
          · exact .inr ⟨x, hx, e⟩
    · rw [dedS_mem]
      constructor
      · rintro (h | ⟨x, hx, e⟩)
        · rcases List.mem_cons.1 h with rfl | h
          · exact .inr ⟨y, .head _, rfl⟩
          · exact .inl h
        · exact .inr ⟨x, .tail _ hx, e⟩
      · rintro (h | ⟨x, hx, e⟩)
        · exact .inl (.tail _ h)
        · rcases List.mem_cons.1 hx with rfl | hx
          · exact .inl (e ▸ .head _)
          · exact .inr ⟨x, hx, e⟩
theorem joins_mem {n x : bf} {l : List bf} : x ∈ iY n l ↔ ∃ d ∈ l, ei n d = 0 ∧ x = n ++ d := by
  simp only [iY, List.mem_map, List.mem_filter, decide_eq_true_eq]
  constructor
  · rintro ⟨d, ⟨h1, h2⟩, rfl⟩; exact ⟨d, h1, h2, rfl⟩
  · rintro ⟨d, h1, h2, rfl⟩; exact ⟨d, ⟨h1, h2⟩, rfl⟩
theorem joins_len (n : bf) (l : List bf) : (iY n l).length ≤ l.length := by
  rw [iY, List.length_map]; exact List.length_filter_le _ _
theorem join_ne {n d : bf} (h : ei n d = 0) (hd : d ≠ []) : aX (n ++ d) ≠ aX n := fun e => by
  obtain ⟨h1, h2, h3⟩ := joinE_zero.1 h
  have e2 := congrArg List.length e
  rw [foldN_len (iX h), foldN_len h1, List.length_append] at e2
  exact hd (List.length_eq_zero_iff.1 (by omega))
theorem cands_mem {s : Sr} {n x : bf} (h : x ∈ iZ s n) : x = n ∨ x ∈ iY n s.doms := by
  unfold iZ at h
  split at h
  · left; simpa using h
  · split at h
    · simpa using h
    · rcases List.mem_append.1 h with h | h
      · exact .inr h
      · left; simpa using h
theorem cands_len (s : Sr) (n : bf) : (iZ s n).length ≤ s.doms.length + 1 := by
  have := joins_len n s.doms
  unfold iZ
  split
  · simp
  · split
    · simp; omega
    · simp; omega
/-- Of a search and a name that may be. -/
structure Ok (s : Sr) (n : bf) : Prop where
  s0 : srCk s = 0
  n0 : a8 n = 0
theorem Ok.each {s : Sr} {n : bf} (h : Ok s n) : jV s n = ded [] (iZ s n) := by
  rw [jV, if_neg (by rw [h.s0, h.n0]; simp)]
theorem Ok.joinNe {s : Sr} {n x : bf} (h : Ok s n) (hx : x ∈ iY n s.doms) : aX x ≠ aX n := by
  obtain ⟨d, hd, he, rfl⟩ := joins_mem.1 hx
  exact join_ne he ((srCk_zero h.s0).2.1 d hd).2
theorem Ok.xck {s : Sr} {n x : bf} (h : Ok s n) (hx : x ∈ iZ s n) : a8 x = 0 := by
  rcases cands_mem hx with rfl | hx
  · exact h.n0
  · obtain ⟨d, hd, he, rfl⟩ := joins_mem.1 hx
    exact iX he
theorem Ok.each_own {s : Sr} {n : bf} (h : Ok s n) (ho : ownS s n) : ∃ r, jV s n = n :: r := by
  rw [h.each, iZ]
  split
  · exact ⟨[], rfl⟩
  · first | (rw [if_pos ho]; exact ⟨_, rfl⟩) | exact ⟨_, rfl⟩
theorem Ok.each_last {s : Sr} {n : bf} (h : Ok s n) (ho : ¬ ownS s n) : jV s n = ded [] (iY n s.doms) ++ [n] := by
  have hn : n ≠ [] := fun e => ho (.inl e)
  rw [h.each, iZ, if_neg hn, if_neg ho, jj]
  congr 1
  rw [ded, if_neg]
  · rfl
  · rw [dedS_mem]
    rintro (h1 | ⟨x, hx, e⟩)
    · cases h1
    · exact h.joinNe hx e
theorem Ok.mem {s : Sr} {n : bf} (h : Ok s n) : n ∈ jV s n := by
  by_cases ho : ownS s n
  · obtain ⟨r, e⟩ := h.each_own ho
    rw [e]; exact .head _
  · rw [h.each_last ho]; simp
theorem Ok.xs {s : Sr} {n x : bf} (h : Ok s n) (hx : x ∈ jV s n) : a8 x = 0 ∧ (x = n ∨ ∃ d ∈ s.doms, ei n d = 0 ∧ x = n ++ d) := by
  rw [h.each] at hx
  have h1 := (ded_mem hx).1
  exact ⟨h.xck h1, (cands_mem h1).imp id joins_mem.1⟩
theorem Ok.dis {s : Sr} {n : bf} (h : Ok s n) : (jV s n).Pairwise fun x y => aX x ≠ aX y := by
  rw [h.each]; exact ded_dis _ _
theorem Ok.len {s : Sr} {n : bf} (h : Ok s n) : (jV s n).length ≤ s.doms.length + 1 := by
  rw [h.each]
  have h1 := ded_len [] (iZ s n)
  have h2 := cands_len s n
  omega
/-! Letters. -/
theorem dU {n : bf} (h : a8 n = 0) : a8 (aX n) = 0 := by rw [fI h]; exact nameCk_low h
theorem labs_pos {n : bf} (h : a8 n = 0) (hn : n ≠ []) : 1 ≤ (a5 n).length := by
  have e1 : a5 n = dH n := if_pos h
  rw [e1, fj]
  have h2 := (nameCk_zero.1 h).2
  rw [fx] at h2
  cases n with
  | nil => exact absurd rfl hn
  | cons a r =>
    simp only [List.isEmpty_cons, Bool.false_or, Bool.and_eq_true] at h2
    rw [if_pos h2.1]; simp
end Go.Proofs.YtnpdgmoeoidppaaGreat

/- Lists of entries: where each lies; chunks of chunks that are read. -/
namespace Go.Proofs.YtnpdgmoeoidppaaGreat
open Go.RowKit Go.Shelf
set_option linter.unusedVariables false
set_option linter.unusedSimpArgs false

/-- Chunks that are read, each of them; they may share blocks. -/
def Ch.rall (L : List Ch) : Ch := ⟨fun b => ∃ c ∈ L, c.ok b, fun w => ∀ c ∈ L, c.P w, fun w w' h hk c hc => c.st w w' (h c hc) fun b hb => hk b ⟨c, hc, hb⟩⟩
theorem bG {L : List Ch} {c : Ch} {w : World} (h : (Ch.rall L).P w ∧ ∀ b, (Ch.rall L).ok b → b < w.heap.size) (hc : c ∈ L) : c.P w ∧ ∀ b, c.ok b → b < w.heap.size := ⟨h.1 c hc, fun b hb => h.2 b ⟨c, hc, hb⟩⟩
theorem rd_rall {L : List Ch} {w : World} (h : Rd L w) : (Ch.rall L).P w ∧ ∀ b, (Ch.rall L).ok b → b < w.heap.size := ⟨fun c hc => (h c hc).1, fun b ⟨c, hc, hb⟩ => (h c hc).2 b hb⟩
theorem Hp.rall0 {ok0 : Nat → Prop} {w0 w : World} {L S : List Ch} (h : Hp ok0 w0 L S w) : Hp ok0 w0 (Ch.rall [] :: L) S w :=
  h.fresh (Upd.refl _ _) _ (fun c hc => nomatch hc) (fun b ⟨c, hc, _⟩ => nomatch hc) (fun b ⟨c, hc, _⟩ => nomatch hc)
/-- One's own chunk is added to those that are read. -/
theorem Hp.intoR {ok0 : Nat → Prop} {w0 w : World} {c c' : Ch} {M L S : List Ch} (h : Hp ok0 w0 (c :: Ch.rall M :: L) S w) (hc : c.P w → c'.P w) (hb : ∀ b, c'.ok b → c.ok b) : Hp ok0 w0 (Ch.rall (M ++ [c']) :: L) S w := by
  have hM : (Ch.rall M).P w := h.own _ (.tail _ (.head _))
  have hc0 : c.P w := h.own _ (.head _)
  have hp := h.dj
  obtain ⟨p1, p2⟩ := List.pairwise_cons.1 hp
  obtain ⟨p3, p4⟩ := List.pairwise_cons.1 p2
  have key : ∀ b, (Ch.rall (M ++ [c'])).ok b → c.ok b ∨ (Ch.rall M).ok b := fun b ⟨d, hd, hdb⟩ => by
    rcases List.mem_append.1 hd with hd | hd
    · exact .inr ⟨d, hd, hdb⟩
    · rw [List.mem_singleton] at hd; subst hd; exact .inl (hb b hdb)
  refine ⟨h.base, ?_, ?_, ?_, ?_, h.sh, h.slt, ?_⟩
  · intro d hd
    rcases List.mem_cons.1 hd with rfl | hd
    · intro d hd
      rcases List.mem_append.1 hd with hd | hd
      · exact hM d hd
      · rw [List.mem_singleton] at hd; subst hd; exact hc hc0
    · exact h.own d (.tail _ (.tail _ hd))
  · intro d hd b hdb
    rcases List.mem_cons.1 hd with rfl | hd
    · exact (key b hdb).elim (h.lt _ (.head _) b) (h.lt _ (.tail _ (.head _)) b)
    · exact h.lt d (.tail _ (.tail _ hd)) b hdb
  · intro d hd b hdb
    rcases List.mem_cons.1 hd with rfl | hd
    · exact (key b hdb).elim (h.ge _ (.head _) b) (h.ge _ (.tail _ (.head _)) b)
    · exact h.ge d (.tail _ (.tail _ hd)) b hdb
  · exact .cons (fun d hd b hb' => (key b hb').elim (p1 d (.tail _ hd) b) (p3 d hd b)) p4
  · intro s hs d hd b hdb
    rcases List.mem_cons.1 hd with rfl | hd
    · exact (key b hdb).elim (h.sdj s hs _ (.head _) b) (h.sdj s hs _ (.tail _ (.head _)) b)
    · exact h.sdj s hs d (.tail _ (.tail _ hd)) b hdb
/-- All of one's own chunks as one. -/
theorem Hp.toRall {ok0 : Nat → Prop} {w0 w : World} {L M S : List Ch} (h : Hp ok0 w0 L S w) (hP : (∀ c ∈ L, c.P w) → ∀ d ∈ M, d.P w) (hok : ∀ d ∈ M, ∀ b, d.ok b → ∃ c ∈ L, c.ok b) : Hp ok0 w0 [Ch.rall M] S w := by
  have key : ∀ b, (Ch.rall M).ok b → ∃ c ∈ L, c.ok b := fun b ⟨d, hd, hb⟩ => hok d hd b hb
  refine ⟨h.base, ?_, ?_, ?_, List.pairwise_singleton _ _, h.sh, h.slt, ?_⟩
  · intro c hc
    rw [List.mem_singleton] at hc; subst hc
    exact hP h.own
  · intro c hc b hb
    rw [List.mem_singleton] at hc; subst hc
    obtain ⟨d, hd, hdb⟩ := key b hb
    exact h.lt d hd b hdb
  · intro c hc b hb
    rw [List.mem_singleton] at hc; subst hc
    obtain ⟨d, hd, hdb⟩ := key b hb
    exact h.ge d hd b hdb
  · intro s hs c hc b hb
    rw [List.mem_singleton] at hc; subst hc
    obtain ⟨d, hd, hdb⟩ := key b hb
    exact h.sdj s hs d hd b hdb
/-- An entry and where its slices lie. -/
structure Le where
  e : En
  A : Option Addr
  c : Nat
  B : Option Addr
  d : Nat
def dB (x : Le) : List Value := enC x.e x.A x.B x.c x.d
theorem cj : Enc dB 7 := ⟨fun _ => rfl, fun _ => rfl⟩
def e6 (x : Le) : List Ch := [Ch.rd x.A 3 dT x.e.addrs, Ch.rd x.B 1 eX x.e.ports]
def en0 : En := ⟨[], 0, [], [], [], [], 0⟩
def br : Le := ⟨en0, none, 0, none, 0⟩
theorem elR0 : ∀ c ∈ e6 br, ∀ w : World, c.P w ∧ ∀ b, c.ok b → b < w.heap.size := by
  intro c hc w
  simp only [e6, List.mem_cons, List.not_mem_nil, or_false] at hc
  rcases hc with rfl | rfl
  · exact ⟨⟨by simp [br, en0, fl], (by simp [br, en0, fl]), .inl rfl⟩, fun b hb => by simp [Ch.rs, br, en0] at hb⟩
  · exact ⟨⟨by simp [br, en0, fl], (by simp [br, en0, fl]), .inl rfl⟩, fun b hb => by simp [Ch.rs, br, en0] at hb⟩
theorem bL {l : List Le} {x : Le} (h : x ∈ l) : ∀ c ∈ e6 x, c ∈ l.flatMap e6 := fun c hc => List.mem_flatMap.2 ⟨x, h, hc⟩
theorem gD (x : Le) : Ch.rd x.A 3 dT x.e.addrs ∈ e6 x := .head _
theorem jA (x : Le) : Ch.rd x.B 1 eX x.e.ports ∈ e6 x := .tail _ (.head _)
/-- An entry's own slices are added to those that are read. -/
theorem Hp.intoE {ok0 : Nat → Prop} {w0 w : World} {M L S : List Ch} {e : En} {A B : Option Addr} {c d : Nat} {T1 T2 : TypeId} (h : Hp ok0 w0 (Ch.ls B d T1 1 eX e.ports :: Ch.ls A c T2 3 dT e.addrs :: Ch.rall M :: L) S w) : Hp ok0 w0 (Ch.rall (M ++ e6 ⟨e, A, c, B, d⟩) :: L) S w := by
  have h1 := h.perm (List.perm_middle (l₁ := [Ch.ls A c T2 3 dT e.addrs, Ch.rall M]))
  have h2 := Hp.intoR (c' := Ch.rd A 3 dT e.addrs) h1 SlP.rs (fun b hb => hb.2)
  have h3 := Hp.intoR (c' := Ch.rd B 1 eX e.ports) h2.f1 SlP.rs (fun b hb => hb.2)
  rw [List.append_assoc] at h3
  exact h3
end Go.Proofs.YtnpdgmoeoidppaaGreat
