import Derived.Test.YtnpdgmoeoidppaaCkQb
import Derived.Test.YtnpdgmoeoidppaaPcQb
import Derived.Test.YtnpdgmoeoidppaaLlQb
/- copies of entries; the laws of folded hosts and of copies -/
namespace Go.Proofs.Ytnpdgmoeoidppaa
open Go.RowKit Go.Shelf
set_option linter.unusedVariables false
set_option linter.unusedSimpArgs false

theorem ent_89 : Enters Try.prog 89 := enters_of Try.func89 (by kernel_rfl) rfl
theorem ent_90 : Enters Try.prog 90 := enters_of Try.func90 (by kernel_rfl) rfl
theorem ent_91 : Enters Try.prog 91 := enters_of Try.func91 (by kernel_rfl) rfl
theorem ent_92 : Enters Try.prog 92 := enters_of Try.func92 (by kernel_rfl) rfl

theorem iH (e : En) (A B : Option Addr) (c d : Nat) (f : En) (F G : Option Addr) (c2 d2 : Nat) (hla : e.addrs.length ≤ 1000000000000) (hlp : e.ports.length ≤ 1000000000000) : RC Try.prog 51 #[.agg (enC e A B c d).toArray, .agg (enC f F G c2 d2).toArray] [Ch.rd A 3 fY e.addrs, Ch.rd B 1 eN e.ports, Ch.rd F 3 fY f.addrs, Ch.rd G 1 eN f.ports] (α := Unit) (fun _ => .bool (decide (e = f))) (fun _ => []) := by
 refine bZ (args := [.agg (enC e A B c d).toArray, .agg (enC f F G c2 d2).toArray]) 52 Try.func51 rfl rfl rfl (fun w0 => ?_)
 refine ar ?_
 refine ah ?_
 refine cT rfl rfl rfl (fun b1 => ?_)
 refine cT rfl rfl rfl (fun b2 => ?_)
 refine ap (ai rfl) rfl rfl ?_
 refine ae ?_
 refine ao ?_
 refine ar ?_
 refine ah ?_
 refine ap (aF dA rfl) rfl rfl ?_
 refine ap (aG 1 bF rfl rfl rfl) rfl rfl ?_
 refine ap (aF dA rfl) rfl rfl ?_
 refine ap (aG 0 bF rfl rfl rfl) rfl rfl ?_
 refine ap (eT rfl rfl) rfl rfl ?_
 refine aC (t := 9) rfl (fun h1_4 => ?_) (fun h1_4 => ?_)
 refine ap (am rfl) rfl rfl ?_
 refine aw rfl rfl ?_
 refine ap (aF ja rfl) rfl rfl ?_
 refine aw rfl rfl ?_
 refine ap (aG 1 cW rfl rfl rfl) rfl rfl ?_
 refine aw rfl rfl ?_
 refine ap (aF ja rfl) rfl rfl ?_
 refine aw rfl rfl ?_
 refine ap (aG 0 cW rfl rfl rfl) rfl rfl ?_
 refine aw rfl rfl ?_
 refine ap (dg rfl rfl) rfl rfl ?_
 refine aC (t := 15) rfl (fun h1_10 => ?_) (fun h1_10 => ?_)
 refine ap (aM rfl rfl) rfl rfl ?_
 refine ap (am rfl) rfl rfl ?_
 refine aw rfl rfl ?_
 refine ap (aF fN rfl) rfl rfl ?_
 refine aw rfl rfl ?_
 refine ap (aG 1 cF rfl rfl rfl) rfl rfl ?_
 refine aw rfl rfl ?_
 refine ap (aF fN rfl) rfl rfl ?_
 refine aw rfl rfl ?_
 refine ap (aG 0 cF rfl rfl rfl) rfl rfl ?_
 refine aw rfl rfl ?_
 refine ap (eT rfl rfl) rfl rfl ?_
 refine aC (t := 22) rfl (fun h1_17 => ?_) (fun h1_17 => ?_)
 refine ap (aM rfl rfl) rfl rfl ?_
 refine ap (am rfl) rfl rfl ?_
 refine aw rfl rfl ?_
 refine ap (aF eY rfl) rfl rfl ?_
 refine aw rfl rfl ?_
 refine ap (aG 1 bF rfl rfl rfl) rfl rfl ?_
 refine aw rfl rfl ?_
 refine ap (aF eY rfl) rfl rfl ?_
 refine aw rfl rfl ?_
 refine ap (aG 0 bF rfl rfl rfl) rfl rfl ?_
 refine aw rfl rfl ?_
 refine ap (eT rfl rfl) rfl rfl ?_
 refine aC (t := 29) rfl (fun h1_24 => ?_) (fun h1_24 => ?_)
 refine ap (aM rfl rfl) rfl rfl ?_
 refine ap (am rfl) rfl rfl ?_
 refine aw rfl rfl ?_
 refine ap (aF i9 rfl) rfl rfl ?_
 refine aw rfl rfl ?_
 refine ap (aG 1 ty_42 rfl rfl rfl) rfl rfl ?_
 refine aw rfl rfl ?_
 refine ap (aF i9 rfl) rfl rfl ?_
 refine aw rfl rfl ?_
 refine ap (aG 0 ty_42 rfl rfl rfl) rfl rfl ?_
 refine aw rfl rfl ?_
 refine ap (dg rfl rfl) rfl rfl ?_
 refine aC (t := 36) rfl (fun h1_31 => ?_) (fun h1_31 => ?_)
 refine ap (aM rfl rfl) rfl rfl ?_
 refine ap (am rfl) rfl rfl ?_
 refine aw rfl rfl ?_
 refine ap (aF dD rfl) rfl rfl ?_
 refine aw rfl rfl ?_
 refine ap (aG 1 eM rfl rfl rfl) rfl rfl ?_
 refine aw rfl rfl ?_
 refine ap (aF dD rfl) rfl rfl ?_
 refine aw rfl rfl ?_
 refine ap (aG 0 eM rfl rfl rfl) rfl rfl ?_
 refine aw rfl rfl ?_
 refine bi rfl ent_91 rfl (c_Equal_ad _ _ _ _ _ _ (by omega)) (fun w hw => (ak (bW 0 rfl hw) (ak (bW 2 rfl hw) aO))) ?_
 refine bS (t := 43) rfl (fun h1_38 => ?_) (fun h1_38 => ?_)
 refine ap (aM rfl rfl) rfl rfl ?_
 refine ap (am rfl) rfl rfl ?_
 refine aw rfl rfl ?_
 refine ap (aF dR rfl) rfl rfl ?_
 refine aw rfl rfl ?_
 refine ap (aG 1 fh rfl rfl rfl) rfl rfl ?_
 refine aw rfl rfl ?_
 refine ap (aF dR rfl) rfl rfl ?_
 refine aw rfl rfl ?_
 refine ap (aG 0 fh rfl rfl rfl) rfl rfl ?_
 refine aw rfl rfl ?_
 refine bi rfl ent_92 rfl (c_Equal_int _ _ _ _ _ _ (by omega)) (fun w hw => (ak (bW 1 rfl hw) (ak (bW 3 rfl hw) aO))) ?_
 refine ap (aM rfl rfl) rfl rfl ?_
 refine ap (ai rfl) rfl rfl ?_
 refine ae ?_
 refine ao ?_
 refine aV ?_
 refine aY (ts := [4]) rfl rfl rfl (fun w hw => ?_)
 refine ⟨(), ?_, hw.base, (hw.weak (List.nil_sublist _) (fun s hs => hs)).toNews⟩
 show Ending.returned (.bool _) = _
 congr 2
 focus first
   | (have hne : e ≠ f := fun h => by
        subst h
        simp_all
      rw [decide_eq_false hne]
      done)
   | (rw [decide_eq_decide]
      cases e; cases f
      simp_all
      done)
   | (trace_state; fail)
 refine ap (aM rfl rfl) rfl rfl ?_
 refine ap (am rfl) rfl rfl ?_
 refine aq rfl rfl rfl rfl ?_
 refine aq rfl rfl rfl rfl ?_
 refine aq rfl rfl rfl rfl ?_
 refine aq rfl rfl rfl rfl ?_
 refine aq rfl rfl rfl rfl ?_
 refine ap (aQ rfl rfl) rfl rfl ?_
 refine ap (ai rfl) rfl rfl ?_
 refine ae ?_
 refine ao ?_
 refine aV ?_
 refine aY (ts := [4]) rfl rfl rfl (fun w hw => ?_)
 refine ⟨(), ?_, hw.base, (hw.weak (List.nil_sublist _) (fun s hs => hs)).toNews⟩
 show Ending.returned (.bool _) = _
 congr 2
 focus first
   | (have hne : e ≠ f := fun h => by
        subst h
        simp_all
      rw [decide_eq_false hne]
      done)
   | (rw [decide_eq_decide]
      cases e; cases f
      simp_all
      done)
   | (trace_state; fail)
 refine ap (aM rfl rfl) rfl rfl ?_
 refine ap (am rfl) rfl rfl ?_
 refine aq rfl rfl rfl rfl ?_
 refine aq rfl rfl rfl rfl ?_
 refine aq rfl rfl rfl rfl ?_
 refine aq rfl rfl rfl rfl ?_
 refine aq rfl rfl rfl rfl ?_
 refine ap (aQ rfl rfl) rfl rfl ?_
 refine ap (am rfl) rfl rfl ?_
 refine aq rfl rfl rfl rfl ?_
 refine aq rfl rfl rfl rfl ?_
 refine aq rfl rfl rfl rfl ?_
 refine aq rfl rfl rfl rfl ?_
 refine aq rfl rfl rfl rfl ?_
 refine ap (aQ rfl rfl) rfl rfl ?_
 refine ap (ai rfl) rfl rfl ?_
 refine ae ?_
 refine ao ?_
 refine aV ?_
 refine aY (ts := [4]) rfl rfl rfl (fun w hw => ?_)
 refine ⟨(), ?_, hw.base, (hw.weak (List.nil_sublist _) (fun s hs => hs)).toNews⟩
 show Ending.returned (.bool _) = _
 congr 2
 focus first
   | (have hne : e ≠ f := fun h => by
        subst h
        simp_all
      rw [decide_eq_false hne]
      done)
   | (rw [decide_eq_decide]
      cases e; cases f
      simp_all
      done)
   | (trace_state; fail)
 refine ap (aM rfl rfl) rfl rfl ?_
 refine ap (am rfl) rfl rfl ?_
 refine aq rfl rfl rfl rfl ?_
 refine aq rfl rfl rfl rfl ?_
 refine aq rfl rfl rfl rfl ?_
 refine aq rfl rfl rfl rfl ?_
 refine aq rfl rfl rfl rfl ?_
 refine ap (aQ rfl rfl) rfl rfl ?_
 refine ap (am rfl) rfl rfl ?_
 refine aq rfl rfl rfl rfl ?_
 refine aq rfl rfl rfl rfl ?_
 refine aq rfl rfl rfl rfl ?_
 refine aq rfl rfl rfl rfl ?_
 refine aq rfl rfl rfl rfl ?_
 refine ap (aQ rfl rfl) rfl rfl ?_
 refine ap (am rfl) rfl rfl ?_
 refine aq rfl rfl rfl rfl ?_
 refine aq rfl rfl rfl rfl ?_
 refine aq rfl rfl rfl rfl ?_
 refine aq rfl rfl rfl rfl ?_
 refine aq rfl rfl rfl rfl ?_
 refine ap (aQ rfl rfl) rfl rfl ?_
 refine ap (ai rfl) rfl rfl ?_
 refine ae ?_
 refine ao ?_
 refine aV ?_
 refine aY (ts := [4]) rfl rfl rfl (fun w hw => ?_)
 refine ⟨(), ?_, hw.base, (hw.weak (List.nil_sublist _) (fun s hs => hs)).toNews⟩
 show Ending.returned (.bool _) = _
 congr 2
 focus first
   | (have hne : e ≠ f := fun h => by
        subst h
        simp_all
      rw [decide_eq_false hne]
      done)
   | (rw [decide_eq_decide]
      cases e; cases f
      simp_all
      done)
   | (trace_state; fail)
 refine ap (aM rfl rfl) rfl rfl ?_
 refine ap (am rfl) rfl rfl ?_
 refine aq rfl rfl rfl rfl ?_
 refine aq rfl rfl rfl rfl ?_
 refine aq rfl rfl rfl rfl ?_
 refine aq rfl rfl rfl rfl ?_
 refine aq rfl rfl rfl rfl ?_
 refine ap (aQ rfl rfl) rfl rfl ?_
 refine ap (am rfl) rfl rfl ?_
 refine aq rfl rfl rfl rfl ?_
 refine aq rfl rfl rfl rfl ?_
 refine aq rfl rfl rfl rfl ?_
 refine aq rfl rfl rfl rfl ?_
 refine aq rfl rfl rfl rfl ?_
 refine ap (aQ rfl rfl) rfl rfl ?_
 refine ap (am rfl) rfl rfl ?_
 refine aq rfl rfl rfl rfl ?_
 refine aq rfl rfl rfl rfl ?_
 refine aq rfl rfl rfl rfl ?_
 refine aq rfl rfl rfl rfl ?_
 refine aq rfl rfl rfl rfl ?_
 refine ap (aQ rfl rfl) rfl rfl ?_
 refine ap (am rfl) rfl rfl ?_
 refine aq rfl rfl rfl rfl ?_
 refine aq rfl rfl rfl rfl ?_
 refine aq rfl rfl rfl rfl ?_
 refine aq rfl rfl rfl rfl ?_
 refine aq rfl rfl rfl rfl ?_
 refine ap (aQ rfl rfl) rfl rfl ?_
 refine ap (ai rfl) rfl rfl ?_
 refine ae ?_
 refine ao ?_
 refine aV ?_
 refine aY (ts := [4]) rfl rfl rfl (fun w hw => ?_)
 refine ⟨(), ?_, hw.base, (hw.weak (List.nil_sublist _) (fun s hs => hs)).toNews⟩
 show Ending.returned (.bool _) = _
 congr 2
 focus first
   | (have hne : e ≠ f := fun h => by
        subst h
        simp_all
      rw [decide_eq_false hne]
      done)
   | (rw [decide_eq_decide]
      cases e; cases f
      simp_all
      done)
   | (trace_state; fail)
 refine ap (aM rfl rfl) rfl rfl ?_
 refine ap (am rfl) rfl rfl ?_
 refine aq rfl rfl rfl rfl ?_
 refine aq rfl rfl rfl rfl ?_
 refine aq rfl rfl rfl rfl ?_
 refine aq rfl rfl rfl rfl ?_
 refine aq rfl rfl rfl rfl ?_
 refine ap (aQ rfl rfl) rfl rfl ?_
 refine ap (am rfl) rfl rfl ?_
 refine aq rfl rfl rfl rfl ?_
 refine aq rfl rfl rfl rfl ?_
 refine aq rfl rfl rfl rfl ?_
 refine aq rfl rfl rfl rfl ?_
 refine aq rfl rfl rfl rfl ?_
 refine ap (aQ rfl rfl) rfl rfl ?_
 refine ap (am rfl) rfl rfl ?_
 refine aq rfl rfl rfl rfl ?_
 refine aq rfl rfl rfl rfl ?_
 refine aq rfl rfl rfl rfl ?_
 refine aq rfl rfl rfl rfl ?_
 refine aq rfl rfl rfl rfl ?_
 refine ap (aQ rfl rfl) rfl rfl ?_
 refine ap (am rfl) rfl rfl ?_
 refine aq rfl rfl rfl rfl ?_
 refine aq rfl rfl rfl rfl ?_
 refine aq rfl rfl rfl rfl ?_
 refine aq rfl rfl rfl rfl ?_
 refine aq rfl rfl rfl rfl ?_
 refine ap (aQ rfl rfl) rfl rfl ?_
 refine ap (am rfl) rfl rfl ?_
 refine aq rfl rfl rfl rfl ?_
 refine aq rfl rfl rfl rfl ?_
 refine aq rfl rfl rfl rfl ?_
 refine aq rfl rfl rfl rfl ?_
 refine aq rfl rfl rfl rfl ?_
 refine ap (aQ rfl rfl) rfl rfl ?_
 refine ap (ai rfl) rfl rfl ?_
 refine ae ?_
 refine ao ?_
 refine aV ?_
 refine aY (ts := [4]) rfl rfl rfl (fun w hw => ?_)
 refine ⟨(), ?_, hw.base, (hw.weak (List.nil_sublist _) (fun s hs => hs)).toNews⟩
 show Ending.returned (.bool _) = _
 congr 2
 focus first
   | (have hne : e ≠ f := fun h => by
        subst h
        simp_all
      rw [decide_eq_false hne]
      done)
   | (rw [decide_eq_decide]
      cases e; cases f
      simp_all
      done)
   | (trace_state; fail)
 refine ap (am rfl) rfl rfl ?_
 refine aq rfl rfl rfl rfl ?_
 refine aq rfl rfl rfl rfl ?_
 refine aq rfl rfl rfl rfl ?_
 refine aq rfl rfl rfl rfl ?_
 refine aq rfl rfl rfl rfl ?_
 refine ap (aQ rfl rfl) rfl rfl ?_
 refine ap (am rfl) rfl rfl ?_
 refine aq rfl rfl rfl rfl ?_
 refine aq rfl rfl rfl rfl ?_
 refine aq rfl rfl rfl rfl ?_
 refine aq rfl rfl rfl rfl ?_
 refine aq rfl rfl rfl rfl ?_
 refine ap (aQ rfl rfl) rfl rfl ?_
 refine ap (am rfl) rfl rfl ?_
 refine aq rfl rfl rfl rfl ?_
 refine aq rfl rfl rfl rfl ?_
 refine aq rfl rfl rfl rfl ?_
 refine aq rfl rfl rfl rfl ?_
 refine aq rfl rfl rfl rfl ?_
 refine ap (aQ rfl rfl) rfl rfl ?_
 refine ap (am rfl) rfl rfl ?_
 refine aq rfl rfl rfl rfl ?_
 refine aq rfl rfl rfl rfl ?_
 refine aq rfl rfl rfl rfl ?_
 refine aq rfl rfl rfl rfl ?_
 refine aq rfl rfl rfl rfl ?_
 refine ap (aQ rfl rfl) rfl rfl ?_
 refine ap (am rfl) rfl rfl ?_
 refine aq rfl rfl rfl rfl ?_
 refine aq rfl rfl rfl rfl ?_
 refine aq rfl rfl rfl rfl ?_
 refine aq rfl rfl rfl rfl ?_
 refine aq rfl rfl rfl rfl ?_
 refine ap (aQ rfl rfl) rfl rfl ?_
 refine ap (am rfl) rfl rfl ?_
 refine aq rfl rfl rfl rfl ?_
 refine aq rfl rfl rfl rfl ?_
 refine aq rfl rfl rfl rfl ?_
 refine aq rfl rfl rfl rfl ?_
 refine aq rfl rfl rfl rfl ?_
 refine ap (aQ rfl rfl) rfl rfl ?_
 refine ap (ai rfl) rfl rfl ?_
 refine ae ?_
 refine ao ?_
 refine aV ?_
 refine aY (ts := [4]) rfl rfl rfl (fun w hw => ?_)
 refine ⟨(), ?_, hw.base, (hw.weak (List.nil_sublist _) (fun s hs => hs)).toNews⟩
 show Ending.returned (.bool _) = _
 congr 2
 focus first
   | (have hne : e ≠ f := fun h => by
        subst h
        simp_all
      rw [decide_eq_false hne]
      done)
   | (rw [decide_eq_decide]
      cases e; cases f
      simp_all
      done)
   | (trace_state; fail)

set_option maxRecDepth 100000 in
theorem fm (e : En) (A B : Option Addr) (c d : Nat) (hla : e.addrs.length ≤ 1000000000000) (hlp : e.ports.length ≤ 1000000000000) : RC Try.prog 49 #[.agg (enC e A B c d).toArray] [Ch.rd A 3 fY e.addrs, Ch.rd B 1 eN e.ports] (α := Option Addr × Nat × Option Addr × Nat) (fun p => .agg (enC e p.1 p.2.2.1 p.2.1 p.2.2.2).toArray) (fun p => [Ch.ls p.2.2.1 p.2.2.2 3 1 eN (e).ports, Ch.ls p.1 p.2.1 62 3 fY (e).addrs]) := by
 refine bZ (args := [.agg (enC e A B c d).toArray]) 12 Try.func49 rfl rfl rfl (fun w0 => ?_)
 refine ar ?_
 refine ah ?_
 refine cT rfl rfl rfl (fun b1 => ?_)
 refine bu a7 rfl rfl (fun b2 => ?_)
 refine ae ?_
 refine ao ?_
 refine ar ?_
 refine dX 7 rfl mixed ?_
 refine aX (i := 0) rfl aa (aF dD rfl) aD aD rfl (aj av) (by kernel_rfl) rfl ?_
 refine aX (i := 1) rfl aa (aG 1 eM rfl rfl rfl) aD aD rfl (aj av) (by kernel_rfl) rfl ?_
 refine aX (i := 3) rfl aa (aF dR rfl) aD aD rfl (aj av) (by kernel_rfl) rfl ?_
 refine aX (i := 4) rfl aa (aG 1 fh rfl rfl rfl) aD aD rfl (aj av) (by kernel_rfl) rfl ?_
 refine dl (i := 2) rfl rfl rfl (aH rfl ent_89) (by kernel_rfl) rfl ?_
 refine d9 rfl ent_89 rfl (c_Clone_ad _ _ _ (by omega)) (fun w hw => (ak (bW 0 rfl hw) aO)) (fun ⟨A2, c2⟩ => ?_)
 refine ae ?_
 refine d8 (aL 1) ?_
 refine aX (i := 6) rfl aa (aF dD rfl) (aL 1) aD rfl (aj av) (by kernel_rfl) rfl ?_
 refine dl (i := 5) rfl rfl rfl (aH rfl ent_90) (by kernel_rfl) rfl ?_
 refine d9 rfl ent_90 rfl (c_Clone_int _ _ _ (by omega)) (fun w hw => (ak (bW 1 rfl hw) aO)) (fun ⟨A3, c3⟩ => ?_)
 refine ae ?_
 refine d8 (aL 2) ?_
 refine dl (i := 7) rfl rfl rfl (fun _ _ _ => ax (by kernel_rfl)) (by kernel_rfl) rfl ?_
 refine aS eM rfl rfl rfl (.s (.s (.s (.z)))) rfl rfl rfl rfl ?_
 refine ae ?_
 refine ea rfl ?_
 refine dl (i := 8) rfl rfl rfl (fun _ _ _ => ax (by kernel_rfl)) (by kernel_rfl) rfl ?_
 refine ap (aF dR rfl) rfl rfl ?_
 refine ae ?_
 refine ea rfl ?_
 refine dl (i := 9) rfl rfl rfl (fun _ _ _ => ax (by kernel_rfl)) (by kernel_rfl) rfl ?_
 refine aS fh rfl rfl rfl (.s (.s (.s (.z)))) rfl rfl rfl rfl ?_
 refine ae ?_
 refine ea rfl ?_
 refine dm (by kernel_rfl) ?_
 refine ao ?_
 refine ar ?_
 refine ah ?_
 refine ap (bp 3 a7 rfl rfl rfl rfl) rfl rfl ?_
 refine aS a7 rfl rfl rfl (.s (.s (.z))) rfl rfl rfl rfl ?_
 refine ae ?_
 refine ao ?_
 refine aV ?_
 refine ig (rs := [.cell 2 44]) rfl (dn 2 a7 rfl rfl rfl rfl d6) rfl (fun w hw => ?_)
 exact ⟨⟨A2, c2, A3, c3⟩, rfl, hw.base, (hw.weak (.cons_cons _ (.cons_cons _ (.cons _ (.cons _ .slnil)))) (fun s hs => hs)).toNews⟩

set_option maxRecDepth 100000 in
theorem c_OwnEntry (e : En) (A B : Option Addr) (c d : Nat) (hla : e.addrs.length ≤ 1000000000000) (hlp : e.ports.length ≤ 1000000000000) : RC Try.prog 52 #[.agg (enC e A B c d).toArray] [Ch.rd A 3 fY e.addrs, Ch.rd B 1 eN e.ports] (α := Option Addr × Nat × Option Addr × Nat) (fun p => .agg (enC e p.1 p.2.2.1 p.2.1 p.2.2.2).toArray) (fun p => [Ch.ls p.2.2.1 p.2.2.2 3 1 eN (e).ports, Ch.ls p.1 p.2.1 62 3 fY (e).addrs]) := by
 refine bZ (args := [.agg (enC e A B c d).toArray]) 14 Try.func52 rfl rfl rfl (fun w0 => ?_)
 refine ar ?_
 refine ah ?_
 refine cT rfl rfl rfl (fun b1 => ?_)
 refine bu a7 rfl rfl (fun b2 => ?_)
 refine ae ?_
 refine ao ?_
 refine ar ?_
 refine dX 9 rfl mixed ?_
 refine aX (i := 1) rfl aa (aF dD rfl) aD aD rfl (aj av) (by kernel_rfl) rfl ?_
 refine aX (i := 2) rfl aa (aG 1 eM rfl rfl rfl) aD aD rfl (aj av) (by kernel_rfl) rfl ?_
 refine aX (i := 5) rfl aa (aF dR rfl) aD aD rfl (aj av) (by kernel_rfl) rfl ?_
 refine aX (i := 6) rfl aa (aG 1 fh rfl rfl rfl) aD aD rfl (aj av) (by kernel_rfl) rfl ?_
 refine a_many (js := [0, 4]) (by kernel_rfl) rfl ?_
 refine wr_cons (i := 0) rfl rfl rfl (fun _ _ _ => ax (by kernel_rfl)) rfl ?_ ?_
 refine bf (vs := []) ([] : List (Ad)) gk Try.underlying40 en rfl rfl rfl rfl rfl rfl (fun As3 => ?_)
 refine ae ?_
 refine d8 (aL 1) ?_
 refine a_many (js := [3, 4]) (by kernel_rfl) rfl ?_
 refine wr_cons (i := 3) rfl rfl rfl (fun _ _ _ => ax (by kernel_rfl)) rfl ?_ ?_
 refine dh (enc := fY) (sz := 3) e.addrs Try.underlying40 en rfl rfl rfl (fun A c => .z) (iI 0 Try.underlying40 rfl) (by simp only [List.length_cons, List.length_nil, Nat.zero_add]; omega) (by simp only [List.length_cons, List.length_nil, Nat.zero_add]; omega) rfl (fun A3 c3 => ?_)
 refine ae ?_
 refine d8 (aL 1) ?_
 refine aX (i := 8) rfl aa (aF dD rfl) (aL 1) aD rfl (aj av) (by kernel_rfl) rfl ?_
 refine dl (i := 4) rfl rfl rfl (fun _ _ _ => ax (by kernel_rfl)) (by kernel_rfl) rfl ?_
 refine bf (vs := []) ([] : List (Int)) fZ Try.underlying41 cW rfl rfl rfl rfl rfl rfl (fun As5 => ?_)
 refine ae ?_
 refine d8 (aL 2) ?_
 refine dl (i := 7) rfl rfl rfl (fun _ _ _ => ax (by kernel_rfl)) (by kernel_rfl) rfl ?_
 refine dh (enc := eN) (sz := 1) e.ports Try.underlying41 cW rfl rfl rfl (fun A c => .z) (iI 1 Try.underlying41 rfl) (by simp only [List.length_cons, List.length_nil, Nat.zero_add]; omega) (by simp only [List.length_cons, List.length_nil, Nat.zero_add]; omega) rfl (fun A5 c5 => ?_)
 refine ae ?_
 refine d8 (aL 2) ?_
 refine dl (i := 9) rfl rfl rfl (fun _ _ _ => ax (by kernel_rfl)) (by kernel_rfl) rfl ?_
 refine aS eM rfl rfl rfl (.s (.s (.s (.z)))) rfl rfl rfl rfl ?_
 refine ae ?_
 refine ea rfl ?_
 refine dl (i := 10) rfl rfl rfl (fun _ _ _ => ax (by kernel_rfl)) (by kernel_rfl) rfl ?_
 refine ap (aF dR rfl) rfl rfl ?_
 refine ae ?_
 refine ea rfl ?_
 refine dl (i := 11) rfl rfl rfl (fun _ _ _ => ax (by kernel_rfl)) (by kernel_rfl) rfl ?_
 refine aS fh rfl rfl rfl (.s (.s (.s (.z)))) rfl rfl rfl rfl ?_
 refine ae ?_
 refine ea rfl ?_
 refine dm (by kernel_rfl) ?_
 refine ao ?_
 refine ar ?_
 refine ah ?_
 refine ap (bp 3 a7 rfl rfl rfl rfl) rfl rfl ?_
 refine aS a7 rfl rfl rfl (.s (.s (.z))) rfl rfl rfl rfl ?_
 refine ae ?_
 refine ao ?_
 refine aV ?_
 refine ig (rs := [.cell 2 44]) rfl (dn 2 a7 rfl rfl rfl rfl d6) rfl (fun w hw => ?_)
 exact ⟨⟨A3, c3, A5, c5⟩, rfl, hw.base, (hw.weak (.cons_cons _ (.cons_cons _ (.cons _ (.cons _ .slnil)))) (fun s hs => hs)).toNews⟩
 refine wr_cons (i := 4) rfl rfl rfl (fun _ _ _ => ax (by kernel_rfl)) rfl ?_ ?_
 refine bf (vs := []) ([] : List (Int)) fZ Try.underlying41 cW rfl rfl rfl rfl rfl rfl (fun As7 => ?_)
 refine ae ?_
 refine d8 (aL 2) ?_
 refine dl (i := 3) rfl rfl rfl (fun _ _ _ => ax (by kernel_rfl)) (by kernel_rfl) rfl ?_
 refine dh (enc := fY) (sz := 3) e.addrs Try.underlying40 en rfl rfl rfl (fun A c => (.s (.z))) (iI 0 Try.underlying40 rfl) (by simp only [List.length_cons, List.length_nil, Nat.zero_add]; omega) (by simp only [List.length_cons, List.length_nil, Nat.zero_add]; omega) rfl (fun A7 c7 => ?_)
 refine ae ?_
 refine d8 (aL 2) ?_
 refine aX (i := 8) rfl aa (aF dD rfl) (aL 2) aD rfl (aj av) (by kernel_rfl) rfl ?_
 refine dl (i := 7) rfl rfl rfl (fun _ _ _ => ax (by kernel_rfl)) (by kernel_rfl) rfl ?_
 refine dh (enc := eN) (sz := 1) e.ports Try.underlying41 cW rfl rfl rfl (fun A c => .z) (iI 1 Try.underlying41 rfl) (by simp only [List.length_cons, List.length_nil, Nat.zero_add]; omega) (by simp only [List.length_cons, List.length_nil, Nat.zero_add]; omega) rfl (fun A8 c8 => ?_)
 refine ae ?_
 refine d8 (aL 2) ?_
 refine dl (i := 9) rfl rfl rfl (fun _ _ _ => ax (by kernel_rfl)) (by kernel_rfl) rfl ?_
 refine aS eM rfl rfl rfl (.s (.s (.s (.z)))) rfl rfl rfl rfl ?_
 refine ae ?_
 refine ea rfl ?_
 refine dl (i := 10) rfl rfl rfl (fun _ _ _ => ax (by kernel_rfl)) (by kernel_rfl) rfl ?_
 refine ap (aF dR rfl) rfl rfl ?_
 refine ae ?_
 refine ea rfl ?_
 refine dl (i := 11) rfl rfl rfl (fun _ _ _ => ax (by kernel_rfl)) (by kernel_rfl) rfl ?_
 refine aS fh rfl rfl rfl (.s (.s (.s (.z)))) rfl rfl rfl rfl ?_
 refine ae ?_
 refine ea rfl ?_
 refine dm (by kernel_rfl) ?_
 refine ao ?_
 refine ar ?_
 refine ah ?_
 refine ap (bp 3 a7 rfl rfl rfl rfl) rfl rfl ?_
 refine aS a7 rfl rfl rfl (.s (.s (.z))) rfl rfl rfl rfl ?_
 refine ae ?_
 refine ao ?_
 refine aV ?_
 refine ig (rs := [.cell 2 44]) rfl (dn 2 a7 rfl rfl rfl rfl d6) rfl (fun w hw => ?_)
 exact ⟨⟨A7, c7, A8, c8⟩, rfl, hw.base, (hw.weak (.cons_cons _ (.cons_cons _ (.cons _ (.cons _ .slnil)))) (fun s hs => hs)).toNews⟩
 exact wr_nil
 refine wr_cons (i := 4) rfl rfl rfl (fun _ _ _ => ax (by kernel_rfl)) rfl ?_ ?_
 refine bf (vs := []) ([] : List (Int)) fZ Try.underlying41 cW rfl rfl rfl rfl rfl rfl (fun As10 => ?_)
 refine ae ?_
 refine d8 (aL 1) ?_
 refine dl (i := 0) rfl rfl rfl (fun _ _ _ => ax (by kernel_rfl)) (by kernel_rfl) rfl ?_
 refine bf (vs := []) ([] : List (Ad)) gk Try.underlying40 en rfl rfl rfl rfl rfl rfl (fun As11 => ?_)
 refine ae ?_
 refine d8 (aL 2) ?_
 refine dl (i := 3) rfl rfl rfl (fun _ _ _ => ax (by kernel_rfl)) (by kernel_rfl) rfl ?_
 refine dh (enc := fY) (sz := 3) e.addrs Try.underlying40 en rfl rfl rfl (fun A c => .z) (iI 0 Try.underlying40 rfl) (by simp only [List.length_cons, List.length_nil, Nat.zero_add]; omega) (by simp only [List.length_cons, List.length_nil, Nat.zero_add]; omega) rfl (fun A11 c11 => ?_)
 refine ae ?_
 refine d8 (aL 2) ?_
 refine aX (i := 8) rfl aa (aF dD rfl) (aL 2) aD rfl (aj av) (by kernel_rfl) rfl ?_
 refine dl (i := 7) rfl rfl rfl (fun _ _ _ => ax (by kernel_rfl)) (by kernel_rfl) rfl ?_
 refine dh (enc := eN) (sz := 1) e.ports Try.underlying41 cW rfl rfl rfl (fun A c => (.s (.z))) (iI 1 Try.underlying41 rfl) (by simp only [List.length_cons, List.length_nil, Nat.zero_add]; omega) (by simp only [List.length_cons, List.length_nil, Nat.zero_add]; omega) rfl (fun A12 c12 => ?_)
 refine ae ?_
 refine d8 (aL 2) ?_
 refine dl (i := 9) rfl rfl rfl (fun _ _ _ => ax (by kernel_rfl)) (by kernel_rfl) rfl ?_
 refine aS eM rfl rfl rfl (.s (.s (.s (.z)))) rfl rfl rfl rfl ?_
 refine ae ?_
 refine ea rfl ?_
 refine dl (i := 10) rfl rfl rfl (fun _ _ _ => ax (by kernel_rfl)) (by kernel_rfl) rfl ?_
 refine ap (aF dR rfl) rfl rfl ?_
 refine ae ?_
 refine ea rfl ?_
 refine dl (i := 11) rfl rfl rfl (fun _ _ _ => ax (by kernel_rfl)) (by kernel_rfl) rfl ?_
 refine aS fh rfl rfl rfl (.s (.s (.s (.z)))) rfl rfl rfl rfl ?_
 refine ae ?_
 refine ea rfl ?_
 refine dm (by kernel_rfl) ?_
 refine ao ?_
 refine ar ?_
 refine ah ?_
 refine ap (bp 3 a7 rfl rfl rfl rfl) rfl rfl ?_
 refine aS a7 rfl rfl rfl (.s (.s (.z))) rfl rfl rfl rfl ?_
 refine ae ?_
 refine ao ?_
 refine aV ?_
 refine ig (rs := [.cell 2 44]) rfl (dn 2 a7 rfl rfl rfl rfl d6) rfl (fun w hw => ?_)
 have hw := (hw.weak (.cons_cons _ (.cons_cons _ (.cons _ (.cons _ .slnil)))) (fun s hs => hs)).f1
 exact ⟨⟨A11, c11, A12, c12⟩, rfl, hw.base, hw.toNews⟩
 exact wr_nil

end Go.Proofs.Ytnpdgmoeoidppaa

/- the reference of entries; the law of calls -/
namespace Go.Proofs.Ytnpdgmoeoidppaa
open Go.RowKit Go.Shelf
set_option linter.unusedVariables false
set_option linter.unusedSimpArgs false

set_option maxRecDepth 100000 in
theorem gA (e : En) (A B : Option Addr) (c d : Nat) (f : En) (F G : Option Addr) (c2 d2 : Nat) (hla : e.addrs.length ≤ 1000000000000) (hlp : e.ports.length ≤ 1000000000000) : RC Try.prog 20 #[.agg (enC e A B c d).toArray, .agg (enC f F G c2 d2).toArray] [Ch.rd A 3 fY e.addrs, Ch.rd B 1 eN e.ports, Ch.rd F 3 fY f.addrs, Ch.rd G 1 eN f.ports] (α := Unit) (fun _ => .bool (decide (e = f))) (fun _ => []) := by
 refine bZ (args := [.agg (enC e A B c d).toArray, .agg (enC f F G c2 d2).toArray]) 94 Try.func20 rfl rfl rfl (fun w0 => ?_)
 refine ar ?_
 refine ah ?_
 refine cT rfl rfl rfl (fun b1 => ?_)
 refine cT rfl rfl rfl (fun b2 => ?_)
 refine ap (ai rfl) rfl rfl ?_
 refine ae ?_
 refine ao ?_
 refine ar ?_
 refine ar ?_
 refine ah ?_
 refine ap (aF dA rfl) rfl rfl ?_
 refine ap (aG 1 bF rfl rfl rfl) rfl rfl ?_
 refine ap (aF dA rfl) rfl rfl ?_
 refine ap (aG 0 bF rfl rfl rfl) rfl rfl ?_
 refine ap (y_neqs rfl rfl) rfl rfl ?_
 refine aC (t := 11) rfl (fun h1_4 => ?_) (fun h1_4 => ?_)
 refine ap (am rfl) rfl rfl ?_
 refine aq rfl rfl rfl rfl ?_
 refine aq rfl rfl rfl rfl ?_
 refine aq rfl rfl rfl rfl ?_
 refine aq rfl rfl rfl rfl ?_
 refine aq rfl rfl rfl rfl ?_
 refine ap (aM rfl rfl) rfl rfl ?_
 refine ap (am rfl) rfl rfl ?_
 refine aq rfl rfl rfl rfl ?_
 refine aq rfl rfl rfl rfl ?_
 refine aq rfl rfl rfl rfl ?_
 refine aq rfl rfl rfl rfl ?_
 refine aq rfl rfl rfl rfl ?_
 refine ap (aM rfl rfl) rfl rfl ?_
 refine ap (am rfl) rfl rfl ?_
 refine aq rfl rfl rfl rfl ?_
 refine aq rfl rfl rfl rfl ?_
 refine aq rfl rfl rfl rfl ?_
 refine aq rfl rfl rfl rfl ?_
 refine aq rfl rfl rfl rfl ?_
 refine ap (aM rfl rfl) rfl rfl ?_
 refine ap (am rfl) rfl rfl ?_
 refine aq rfl rfl rfl rfl ?_
 refine aq rfl rfl rfl rfl ?_
 refine aq rfl rfl rfl rfl ?_
 refine aq rfl rfl rfl rfl ?_
 refine aq rfl rfl rfl rfl ?_
 refine ap (aM rfl rfl) rfl rfl ?_
 refine ap (am rfl) rfl rfl ?_
 refine aq rfl rfl rfl rfl ?_
 refine aq rfl rfl rfl rfl ?_
 refine aq rfl rfl rfl rfl ?_
 refine aq rfl rfl rfl rfl ?_
 refine aq rfl rfl rfl rfl ?_
 refine aq rfl rfl rfl rfl ?_
 refine aq rfl rfl rfl rfl ?_
 refine ap (aM rfl rfl) rfl rfl ?_
 refine ap (am rfl) rfl rfl ?_
 refine aq rfl rfl rfl rfl ?_
 refine aq rfl rfl rfl rfl ?_
 refine aq rfl rfl rfl rfl ?_
 refine aq rfl rfl rfl rfl ?_
 refine aq rfl rfl rfl rfl ?_
 refine aq rfl rfl rfl rfl ?_
 refine aq rfl rfl rfl rfl ?_
 refine ap (aM rfl rfl) rfl rfl ?_
 refine ae ?_
 refine ao ?_
 refine aI rfl ?_
 refine ar ?_
 refine ah ?_
 refine ap (ai rfl) rfl rfl ?_
 refine ae ?_
 refine ao ?_
 refine aV ?_
 refine aB ?_
 refine aY (ts := [4]) rfl rfl rfl (fun w hw => ?_)
 refine ⟨(), ?_, hw.base, (hw.weak (List.nil_sublist _) (fun s hs => hs)).toNews⟩
 show Ending.returned (.bool _) = _
 congr 2
 focus first
   | (have hP := hP
      have he : e = f := by
        cases e; cases f
        simp_all
      rw [decide_eq_true he]
      done)
   | (have hne : e ≠ f := fun h => by
        subst h
        exact h11_10 rfl
      rw [decide_eq_false hne]
      done)
   | (have hne : e ≠ f := fun h => by
        subst h
        exact h6_10 rfl
      rw [decide_eq_false hne]
      done)
   | (have hne : e ≠ f := fun h => by
        subst h
        simp_all
      rw [decide_eq_false hne]
      done)
   | (trace_state; fail)
 refine ap (am rfl) rfl rfl ?_
 refine aw rfl rfl ?_
 refine ap (aF ja rfl) rfl rfl ?_
 refine aw rfl rfl ?_
 refine ap (aG 1 cW rfl rfl rfl) rfl rfl ?_
 refine aw rfl rfl ?_
 refine ap (aF ja rfl) rfl rfl ?_
 refine aw rfl rfl ?_
 refine ap (aG 0 cW rfl rfl rfl) rfl rfl ?_
 refine aw rfl rfl ?_
 refine ap (db rfl rfl) rfl rfl ?_
 refine aC (t := 17) rfl (fun h1_10 => ?_) (fun h1_10 => ?_)
 refine ap (aQ rfl rfl) rfl rfl ?_
 refine ap (am rfl) rfl rfl ?_
 refine aq rfl rfl rfl rfl ?_
 refine aq rfl rfl rfl rfl ?_
 refine aq rfl rfl rfl rfl ?_
 refine aq rfl rfl rfl rfl ?_
 refine aq rfl rfl rfl rfl ?_
 refine ap (aM rfl rfl) rfl rfl ?_
 refine ap (am rfl) rfl rfl ?_
 refine aq rfl rfl rfl rfl ?_
 refine aq rfl rfl rfl rfl ?_
 refine aq rfl rfl rfl rfl ?_
 refine aq rfl rfl rfl rfl ?_
 refine aq rfl rfl rfl rfl ?_
 refine ap (aM rfl rfl) rfl rfl ?_
 refine ap (am rfl) rfl rfl ?_
 refine aq rfl rfl rfl rfl ?_
 refine aq rfl rfl rfl rfl ?_
 refine aq rfl rfl rfl rfl ?_
 refine aq rfl rfl rfl rfl ?_
 refine aq rfl rfl rfl rfl ?_
 refine ap (aM rfl rfl) rfl rfl ?_
 refine ap (am rfl) rfl rfl ?_
 refine aq rfl rfl rfl rfl ?_
 refine aq rfl rfl rfl rfl ?_
 refine aq rfl rfl rfl rfl ?_
 refine aq rfl rfl rfl rfl ?_
 refine aq rfl rfl rfl rfl ?_
 refine aq rfl rfl rfl rfl ?_
 refine aq rfl rfl rfl rfl ?_
 refine ap (aM rfl rfl) rfl rfl ?_
 refine ap (am rfl) rfl rfl ?_
 refine aq rfl rfl rfl rfl ?_
 refine aq rfl rfl rfl rfl ?_
 refine aq rfl rfl rfl rfl ?_
 refine aq rfl rfl rfl rfl ?_
 refine aq rfl rfl rfl rfl ?_
 refine aq rfl rfl rfl rfl ?_
 refine aq rfl rfl rfl rfl ?_
 refine ap (aM rfl rfl) rfl rfl ?_
 refine ae ?_
 refine ao ?_
 refine aI rfl ?_
 refine ar ?_
 refine ah ?_
 refine ap (ai rfl) rfl rfl ?_
 refine ae ?_
 refine ao ?_
 refine aV ?_
 refine aB ?_
 refine aY (ts := [4]) rfl rfl rfl (fun w hw => ?_)
 refine ⟨(), ?_, hw.base, (hw.weak (List.nil_sublist _) (fun s hs => hs)).toNews⟩
 show Ending.returned (.bool _) = _
 congr 2
 focus first
   | (have hP := hP
      have he : e = f := by
        cases e; cases f
        simp_all
      rw [decide_eq_true he]
      done)
   | (have hne : e ≠ f := fun h => by
        subst h
        exact h11_10 rfl
      rw [decide_eq_false hne]
      done)
   | (have hne : e ≠ f := fun h => by
        subst h
        exact h6_10 rfl
      rw [decide_eq_false hne]
      done)
   | (have hne : e ≠ f := fun h => by
        subst h
        simp_all
      rw [decide_eq_false hne]
      done)
   | (trace_state; fail)
 refine ap (aQ rfl rfl) rfl rfl ?_
 refine ap (am rfl) rfl rfl ?_
 refine aw rfl rfl ?_
 refine ap (aF fN rfl) rfl rfl ?_
 refine aw rfl rfl ?_
 refine ap (aG 1 cF rfl rfl rfl) rfl rfl ?_
 refine aw rfl rfl ?_
 refine ap (aF fN rfl) rfl rfl ?_
 refine aw rfl rfl ?_
 refine ap (aG 0 cF rfl rfl rfl) rfl rfl ?_
 refine aw rfl rfl ?_
 refine ap (y_neqs rfl rfl) rfl rfl ?_
 refine aC (t := 24) rfl (fun h1_17 => ?_) (fun h1_17 => ?_)
 refine ap (aQ rfl rfl) rfl rfl ?_
 refine ap (am rfl) rfl rfl ?_
 refine aq rfl rfl rfl rfl ?_
 refine aq rfl rfl rfl rfl ?_
 refine aq rfl rfl rfl rfl ?_
 refine aq rfl rfl rfl rfl ?_
 refine aq rfl rfl rfl rfl ?_
 refine ap (aM rfl rfl) rfl rfl ?_
 refine ap (am rfl) rfl rfl ?_
 refine aq rfl rfl rfl rfl ?_
 refine aq rfl rfl rfl rfl ?_
 refine aq rfl rfl rfl rfl ?_
 refine aq rfl rfl rfl rfl ?_
 refine aq rfl rfl rfl rfl ?_
 refine ap (aM rfl rfl) rfl rfl ?_
 refine ap (am rfl) rfl rfl ?_
 refine aq rfl rfl rfl rfl ?_
 refine aq rfl rfl rfl rfl ?_
 refine aq rfl rfl rfl rfl ?_
 refine aq rfl rfl rfl rfl ?_
 refine aq rfl rfl rfl rfl ?_
 refine aq rfl rfl rfl rfl ?_
 refine aq rfl rfl rfl rfl ?_
 refine ap (aM rfl rfl) rfl rfl ?_
 refine ap (am rfl) rfl rfl ?_
 refine aq rfl rfl rfl rfl ?_
 refine aq rfl rfl rfl rfl ?_
 refine aq rfl rfl rfl rfl ?_
 refine aq rfl rfl rfl rfl ?_
 refine aq rfl rfl rfl rfl ?_
 refine aq rfl rfl rfl rfl ?_
 refine aq rfl rfl rfl rfl ?_
 refine ap (aM rfl rfl) rfl rfl ?_
 refine ae ?_
 refine ao ?_
 refine aI rfl ?_
 refine ar ?_
 refine ah ?_
 refine ap (ai rfl) rfl rfl ?_
 refine ae ?_
 refine ao ?_
 refine aV ?_
 refine aB ?_
 refine aY (ts := [4]) rfl rfl rfl (fun w hw => ?_)
 refine ⟨(), ?_, hw.base, (hw.weak (List.nil_sublist _) (fun s hs => hs)).toNews⟩
 show Ending.returned (.bool _) = _
 congr 2
 focus first
   | (have hP := hP
      have he : e = f := by
        cases e; cases f
        simp_all
      rw [decide_eq_true he]
      done)
   | (have hne : e ≠ f := fun h => by
        subst h
        exact h11_10 rfl
      rw [decide_eq_false hne]
      done)
   | (have hne : e ≠ f := fun h => by
        subst h
        exact h6_10 rfl
      rw [decide_eq_false hne]
      done)
   | (have hne : e ≠ f := fun h => by
        subst h
        simp_all
      rw [decide_eq_false hne]
      done)
   | (trace_state; fail)
 refine ap (aQ rfl rfl) rfl rfl ?_
 refine ap (am rfl) rfl rfl ?_
 refine aw rfl rfl ?_
 refine ap (aF eY rfl) rfl rfl ?_
 refine aw rfl rfl ?_
 refine ap (aG 1 bF rfl rfl rfl) rfl rfl ?_
 refine aw rfl rfl ?_
 refine ap (aF eY rfl) rfl rfl ?_
 refine aw rfl rfl ?_
 refine ap (aG 0 bF rfl rfl rfl) rfl rfl ?_
 refine aw rfl rfl ?_
 refine ap (y_neqs rfl rfl) rfl rfl ?_
 refine aC (t := 31) rfl (fun h1_24 => ?_) (fun h1_24 => ?_)
 refine ap (aQ rfl rfl) rfl rfl ?_
 refine ap (am rfl) rfl rfl ?_
 refine aq rfl rfl rfl rfl ?_
 refine aq rfl rfl rfl rfl ?_
 refine aq rfl rfl rfl rfl ?_
 refine aq rfl rfl rfl rfl ?_
 refine aq rfl rfl rfl rfl ?_
 refine ap (aM rfl rfl) rfl rfl ?_
 refine ap (am rfl) rfl rfl ?_
 refine aq rfl rfl rfl rfl ?_
 refine aq rfl rfl rfl rfl ?_
 refine aq rfl rfl rfl rfl ?_
 refine aq rfl rfl rfl rfl ?_
 refine aq rfl rfl rfl rfl ?_
 refine aq rfl rfl rfl rfl ?_
 refine aq rfl rfl rfl rfl ?_
 refine ap (aM rfl rfl) rfl rfl ?_
 refine ap (am rfl) rfl rfl ?_
 refine aq rfl rfl rfl rfl ?_
 refine aq rfl rfl rfl rfl ?_
 refine aq rfl rfl rfl rfl ?_
 refine aq rfl rfl rfl rfl ?_
 refine aq rfl rfl rfl rfl ?_
 refine aq rfl rfl rfl rfl ?_
 refine aq rfl rfl rfl rfl ?_
 refine ap (aM rfl rfl) rfl rfl ?_
 refine ae ?_
 refine ao ?_
 refine aI rfl ?_
 refine ar ?_
 refine ah ?_
 refine ap (ai rfl) rfl rfl ?_
 refine ae ?_
 refine ao ?_
 refine aV ?_
 refine aB ?_
 refine aY (ts := [4]) rfl rfl rfl (fun w hw => ?_)
 refine ⟨(), ?_, hw.base, (hw.weak (List.nil_sublist _) (fun s hs => hs)).toNews⟩
 show Ending.returned (.bool _) = _
 congr 2
 focus first
   | (have hP := hP
      have he : e = f := by
        cases e; cases f
        simp_all
      rw [decide_eq_true he]
      done)
   | (have hne : e ≠ f := fun h => by
        subst h
        exact h11_10 rfl
      rw [decide_eq_false hne]
      done)
   | (have hne : e ≠ f := fun h => by
        subst h
        exact h6_10 rfl
      rw [decide_eq_false hne]
      done)
   | (have hne : e ≠ f := fun h => by
        subst h
        simp_all
      rw [decide_eq_false hne]
      done)
   | (trace_state; fail)
 refine ap (aQ rfl rfl) rfl rfl ?_
 refine ap (am rfl) rfl rfl ?_
 refine aw rfl rfl ?_
 refine ap (aF i9 rfl) rfl rfl ?_
 refine aw rfl rfl ?_
 refine ap (aG 1 ty_42 rfl rfl rfl) rfl rfl ?_
 refine aw rfl rfl ?_
 refine ap (aF i9 rfl) rfl rfl ?_
 refine aw rfl rfl ?_
 refine ap (aG 0 ty_42 rfl rfl rfl) rfl rfl ?_
 refine aw rfl rfl ?_
 refine ap (db rfl rfl) rfl rfl ?_
 refine aC (t := 38) rfl (fun h1_31 => ?_) (fun h1_31 => ?_)
 refine ap (aQ rfl rfl) rfl rfl ?_
 refine ap (am rfl) rfl rfl ?_
 refine aq rfl rfl rfl rfl ?_
 refine aq rfl rfl rfl rfl ?_
 refine aq rfl rfl rfl rfl ?_
 refine aq rfl rfl rfl rfl ?_
 refine aq rfl rfl rfl rfl ?_
 refine aq rfl rfl rfl rfl ?_
 refine aq rfl rfl rfl rfl ?_
 refine ap (aM rfl rfl) rfl rfl ?_
 refine ap (am rfl) rfl rfl ?_
 refine aq rfl rfl rfl rfl ?_
 refine aq rfl rfl rfl rfl ?_
 refine aq rfl rfl rfl rfl ?_
 refine aq rfl rfl rfl rfl ?_
 refine aq rfl rfl rfl rfl ?_
 refine aq rfl rfl rfl rfl ?_
 refine aq rfl rfl rfl rfl ?_
 refine ap (aM rfl rfl) rfl rfl ?_
 refine ae ?_
 refine ao ?_
 refine aI rfl ?_
 refine ar ?_
 refine ah ?_
 refine ap (ai rfl) rfl rfl ?_
 refine ae ?_
 refine ao ?_
 refine aV ?_
 refine aB ?_
 refine aY (ts := [4]) rfl rfl rfl (fun w hw => ?_)
 refine ⟨(), ?_, hw.base, (hw.weak (List.nil_sublist _) (fun s hs => hs)).toNews⟩
 show Ending.returned (.bool _) = _
 congr 2
 focus first
   | (have hP := hP
      have he : e = f := by
        cases e; cases f
        simp_all
      rw [decide_eq_true he]
      done)
   | (have hne : e ≠ f := fun h => by
        subst h
        exact h11_10 rfl
      rw [decide_eq_false hne]
      done)
   | (have hne : e ≠ f := fun h => by
        subst h
        exact h6_10 rfl
      rw [decide_eq_false hne]
      done)
   | (have hne : e ≠ f := fun h => by
        subst h
        simp_all
      rw [decide_eq_false hne]
      done)
   | (trace_state; fail)
 refine ap (aQ rfl rfl) rfl rfl ?_
 refine ap (am rfl) rfl rfl ?_
 refine aw rfl rfl ?_
 refine ap (aF dD rfl) rfl rfl ?_
 refine aw rfl rfl ?_
 refine ap (aG 1 eM rfl rfl rfl) rfl rfl ?_
 refine aw rfl rfl ?_
 refine ap (bI Try.underlying40 rfl) rfl rfl ?_
 refine aw rfl rfl ?_
 refine ap (aF dD rfl) rfl rfl ?_
 refine aw rfl rfl ?_
 refine ap (aG 0 eM rfl rfl rfl) rfl rfl ?_
 refine aw rfl rfl ?_
 refine ap (bI Try.underlying40 rfl) rfl rfl ?_
 refine aw rfl rfl ?_
 refine ap (db rfl rfl) rfl rfl ?_
 refine aC (t := 47) rfl (fun h1_40 => ?_) (fun h1_40 => ?_)
 refine ap (aQ rfl rfl) rfl rfl ?_
 refine ap (am rfl) rfl rfl ?_
 refine aq rfl rfl rfl rfl ?_
 refine aq rfl rfl rfl rfl ?_
 refine aq rfl rfl rfl rfl ?_
 refine aq rfl rfl rfl rfl ?_
 refine aq rfl rfl rfl rfl ?_
 refine aq rfl rfl rfl rfl ?_
 refine aq rfl rfl rfl rfl ?_
 refine ap (aM rfl rfl) rfl rfl ?_
 refine ae ?_
 refine ao ?_
 refine aI rfl ?_
 refine ar ?_
 refine ah ?_
 refine ap (ai rfl) rfl rfl ?_
 refine ae ?_
 refine ao ?_
 refine aV ?_
 refine aB ?_
 refine aY (ts := [4]) rfl rfl rfl (fun w hw => ?_)
 refine ⟨(), ?_, hw.base, (hw.weak (List.nil_sublist _) (fun s hs => hs)).toNews⟩
 show Ending.returned (.bool _) = _
 congr 2
 focus first
   | (have hP := hP
      have he : e = f := by
        cases e; cases f
        simp_all
      rw [decide_eq_true he]
      done)
   | (have hne : e ≠ f := fun h => by
        subst h
        exact h11_10 rfl
      rw [decide_eq_false hne]
      done)
   | (have hne : e ≠ f := fun h => by
        subst h
        exact h6_10 rfl
      rw [decide_eq_false hne]
      done)
   | (have hne : e ≠ f := fun h => by
        subst h
        simp_all
      rw [decide_eq_false hne]
      done)
   | (trace_state; fail)
 refine ap (aQ rfl rfl) rfl rfl ?_
 refine ap (am rfl) rfl rfl ?_
 refine aw rfl rfl ?_
 refine ap (aF dR rfl) rfl rfl ?_
 refine aw rfl rfl ?_
 refine ap (aG 1 fh rfl rfl rfl) rfl rfl ?_
 refine aw rfl rfl ?_
 refine ap (bI Try.underlying41 rfl) rfl rfl ?_
 refine aw rfl rfl ?_
 refine ap (aF dR rfl) rfl rfl ?_
 refine aw rfl rfl ?_
 refine ap (aG 0 fh rfl rfl rfl) rfl rfl ?_
 refine aw rfl rfl ?_
 refine ap (bI Try.underlying41 rfl) rfl rfl ?_
 refine aw rfl rfl ?_
 refine ap (db rfl rfl) rfl rfl ?_
 refine aC (t := 56) rfl (fun h1_49 => ?_) (fun h1_49 => ?_)
 refine ap (aQ rfl rfl) rfl rfl ?_
 refine ae ?_
 refine ao ?_
 refine aI rfl ?_
 refine ar ?_
 refine ah ?_
 refine ap (ai rfl) rfl rfl ?_
 refine ae ?_
 refine ao ?_
 refine aV ?_
 refine aB ?_
 refine aY (ts := [4]) rfl rfl rfl (fun w hw => ?_)
 refine ⟨(), ?_, hw.base, (hw.weak (List.nil_sublist _) (fun s hs => hs)).toNews⟩
 show Ending.returned (.bool _) = _
 congr 2
 focus first
   | (have hP := hP
      have he : e = f := by
        cases e; cases f
        simp_all
      rw [decide_eq_true he]
      done)
   | (have hne : e ≠ f := fun h => by
        subst h
        exact h11_10 rfl
      rw [decide_eq_false hne]
      done)
   | (have hne : e ≠ f := fun h => by
        subst h
        exact h6_10 rfl
      rw [decide_eq_false hne]
      done)
   | (have hne : e ≠ f := fun h => by
        subst h
        simp_all
      rw [decide_eq_false hne]
      done)
   | (trace_state; fail)
 refine ap (aQ rfl rfl) rfl rfl ?_
 refine ae ?_
 refine ao ?_
 refine aN rfl ?_
 refine bd ?_
 refine ao ?_
 refine ar ?_
 refine ar ?_
 refine ah ?_
 refine ap (ai rfl) rfl rfl ?_
 refine ae ?_
 refine ao ?_
 refine bn ?_
 refine dd (σ := Nat) [4, 5, 58, 59, 60, 61, 62, 63, 64, 65, 66, 67, 68, 69, 70, 71, 72, 73, 74, 75] (fun k => k ≤ e.addrs.length ∧ e.addrs.take k = f.addrs.take k) (fun k => e.addrs.length - k) (fun k => [(5, .int .i64 k)]) (0) ?_ ⟨rfl, trivial⟩ (fun k hI => ?_)
 exact ⟨Nat.zero_le _, rfl⟩
 refine ar ?_
 refine ar ?_
 refine ah ?_
 refine ap (am rfl) rfl rfl ?_
 refine ap (aF dD rfl) rfl rfl ?_
 refine ap (aG 1 eM rfl rfl rfl) rfl rfl ?_
 refine ap (bI Try.underlying40 rfl) rfl rfl ?_
 refine ap (cV rfl rfl) rfl rfl ?_
 refine aC (t := 62) rfl (fun h4_4 => ?_) (fun h4_4 => ?_)
 refine ae ?_
 refine ao ?_
 refine aI rfl ?_
 refine bd ?_
 refine ao ?_
 refine ar ?_
 refine bn ?_
 refine ar ?_
 refine dX 11 rfl mixed ?_
 refine aX (i := 0) rfl aa (aF dD rfl) aD aD rfl (aj (aA (aj (aW (aA (aj av)))))) (by kernel_rfl) rfl ?_
 refine aX (i := 1) rfl aa (aG 1 eM rfl rfl rfl) aD aD rfl (aj (aA (aj (aW (aA (aj av)))))) (by kernel_rfl) rfl ?_
 refine aX (i := 2) rfl aa (am rfl) aD aD rfl (aj (aA (aj (aW (aA (aj av)))))) (by kernel_rfl) rfl ?_
 refine aX (i := 3) rfl aa (cj  Try.underlying40 en rfl rfl (cD 0 rfl) rfl (by omega)) aD aD rfl (aj (aA (aj (aW (aA (aj av)))))) (by kernel_rfl) rfl ?_
 refine aX (i := 4) rfl aa (cS gk ad0 en rfl (cD 0 rfl) (by omega) rfl rfl rfl) aD aD rfl (aj (aA (aj (aW (aA (aj av)))))) (by kernel_rfl) rfl ?_
 refine aX (i := 5) rfl aa (aF dD rfl) aD aD rfl (aj (aA (aj (aW (aA (aj av)))))) (by kernel_rfl) rfl ?_
 refine aX (i := 6) rfl aa (aG 0 eM rfl rfl rfl) aD aD rfl (aj (aA (aj (aW (aA (aj av)))))) (by kernel_rfl) rfl ?_
 refine aX (i := 7) rfl aa (am rfl) aD aD rfl (aj (aA (aj (aW (aA (aj av)))))) (by kernel_rfl) rfl ?_
 refine aX (i := 8) rfl aa (cj  Try.underlying40 en rfl rfl (cD 2 rfl) rfl (by omega)) aD aD rfl (aj (aA (aj (aW (aA (aj av)))))) (by kernel_rfl) rfl ?_
 refine aX (i := 9) rfl aa (cS gk ad0 en rfl (cD 2 rfl) (by omega) rfl rfl rfl) aD aD rfl (aj (aA (aj (aW (aA (aj av)))))) (by kernel_rfl) rfl ?_
 refine aX (i := 10) rfl aa (y_nestd (by kernel_rfl) rfl rfl (eqd_ad _ _) rfl) aD aD rfl (aj (aA (aj (aW (aA (aj av)))))) (by kernel_rfl) rfl ?_
 refine gg (t := 75) rfl (fun h6_10 => ?_) (fun h6_10 => ?_)
 refine dm (by kernel_rfl) ?_
 refine ao ?_
 refine aI rfl ?_
 refine ar ?_
 refine ah ?_
 refine ap (ai rfl) rfl rfl ?_
 refine ae ?_
 refine ao ?_
 refine aV ?_
 refine aT ?_
 refine aB ?_
 refine bL ?_
 refine aT ?_
 refine aB ?_
 refine aY (ts := [4]) rfl rfl rfl (fun w hw => ?_)
 refine ⟨(), ?_, hw.base, (hw.weak (List.nil_sublist _) (fun s hs => hs)).toNews⟩
 show Ending.returned (.bool _) = _
 congr 2
 focus first
   | (have hP := hP
      have he : e = f := by
        cases e; cases f
        simp_all
      rw [decide_eq_true he]
      done)
   | (have hne : e ≠ f := fun h => by
        subst h
        exact h11_10 rfl
      rw [decide_eq_false hne]
      done)
   | (have hne : e ≠ f := fun h => by
        subst h
        exact h6_10 rfl
      rw [decide_eq_false hne]
      done)
   | (have hne : e ≠ f := fun h => by
        subst h
        simp_all
      rw [decide_eq_false hne]
      done)
   | (trace_state; fail)
 refine dm (by kernel_rfl) ?_
 refine ao ?_
 refine aN rfl ?_
 refine bd ?_
 refine bV ?_
 refine ao ?_
 refine ah ?_
 refine ap (am rfl) rfl rfl ?_
 refine ap (bY rfl rfl (by omega) (by omega)) rfl rfl ?_
 refine ap (ai rfl) rfl rfl ?_
 refine ae ?_
 refine cr (k + 1) ?_ ?_ ⟨rfl, trivial⟩ (by repeat (first | exact trivial | refine ⟨rfl, ?_⟩)) aD
 exact ⟨by omega, fv ad0 (by omega) (by omega) hI.2 (by simpa using h6_10)⟩
 omega
 refine ae ?_
 refine ao ?_
 refine aN rfl ?_
 refine cz ?_
 refine br ?_
 refine bC ?_
 refine bK ?_
 refine ao ?_
 refine ar ?_
 refine ar ?_
 have hA : e.addrs = f.addrs := by
   have := hI.2
   rw [show k = e.addrs.length by omega, List.take_length, List.take_of_length_le (by omega)] at this
   exact this
 refine ah ?_
 refine ap (ai rfl) rfl rfl ?_
 refine ae ?_
 refine ao ?_
 refine bn ?_
 refine dd (σ := Nat) [4, 6, 76, 77, 78, 79, 80, 81, 82, 83, 84, 85, 86, 87, 88, 89, 90, 91, 92, 93] (fun j => j ≤ e.ports.length ∧ e.ports.take j = f.ports.take j) (fun j => e.ports.length - j) (fun j => [(6, .int .i64 j)]) (0) ?_ ⟨rfl, trivial⟩ (fun j hI => ?_)
 exact ⟨Nat.zero_le _, rfl⟩
 refine ar ?_
 refine ar ?_
 refine ah ?_
 refine ap (am rfl) rfl rfl ?_
 refine ap (aF dR rfl) rfl rfl ?_
 refine ap (aG 1 fh rfl rfl rfl) rfl rfl ?_
 refine ap (bI Try.underlying41 rfl) rfl rfl ?_
 refine ap (cV rfl rfl) rfl rfl ?_
 refine aC (t := 80) rfl (fun h9_4 => ?_) (fun h9_4 => ?_)
 refine ae ?_
 refine ao ?_
 refine aI rfl ?_
 refine bd ?_
 refine ao ?_
 refine ar ?_
 refine bn ?_
 refine ar ?_
 refine dX 11 rfl mixed ?_
 refine aX (i := 0) rfl aa (aF dR rfl) aD aD rfl (aj (aA (aj (aW (aA (aj av)))))) (by kernel_rfl) rfl ?_
 refine aX (i := 1) rfl aa (aG 1 fh rfl rfl rfl) aD aD rfl (aj (aA (aj (aW (aA (aj av)))))) (by kernel_rfl) rfl ?_
 refine aX (i := 2) rfl aa (am rfl) aD aD rfl (aj (aA (aj (aW (aA (aj av)))))) (by kernel_rfl) rfl ?_
 refine aX (i := 3) rfl aa (cj  Try.underlying41 cW rfl rfl (cD 1 rfl) rfl (by omega)) aD aD rfl (aj (aA (aj (aW (aA (aj av)))))) (by kernel_rfl) rfl ?_
 refine aX (i := 4) rfl aa (cR fZ (0 : Int) cW rfl (cD 1 rfl) (by omega) rfl rfl) aD aD rfl (aj (aA (aj (aW (aA (aj av)))))) (by kernel_rfl) rfl ?_
 refine aX (i := 5) rfl aa (aF dR rfl) aD aD rfl (aj (aA (aj (aW (aA (aj av)))))) (by kernel_rfl) rfl ?_
 refine aX (i := 6) rfl aa (aG 0 fh rfl rfl rfl) aD aD rfl (aj (aA (aj (aW (aA (aj av)))))) (by kernel_rfl) rfl ?_
 refine aX (i := 7) rfl aa (am rfl) aD aD rfl (aj (aA (aj (aW (aA (aj av)))))) (by kernel_rfl) rfl ?_
 refine aX (i := 8) rfl aa (cj  Try.underlying41 cW rfl rfl (cD 3 rfl) rfl (by omega)) aD aD rfl (aj (aA (aj (aW (aA (aj av)))))) (by kernel_rfl) rfl ?_
 refine aX (i := 9) rfl aa (cR fZ (0 : Int) cW rfl (cD 3 rfl) (by omega) rfl rfl) aD aD rfl (aj (aA (aj (aW (aA (aj av)))))) (by kernel_rfl) rfl ?_
 refine aX (i := 10) rfl aa (db rfl rfl) aD aD rfl (aj (aA (aj (aW (aA (aj av)))))) (by kernel_rfl) rfl ?_
 refine gg (t := 93) rfl (fun h11_10 => ?_) (fun h11_10 => ?_)
 refine dm (by kernel_rfl) ?_
 refine ao ?_
 refine aI rfl ?_
 refine ar ?_
 refine ah ?_
 refine ap (ai rfl) rfl rfl ?_
 refine ae ?_
 refine ao ?_
 refine aV ?_
 refine aT ?_
 refine aB ?_
 refine bL ?_
 refine aT ?_
 refine aB ?_
 refine aY (ts := [4]) rfl rfl rfl (fun w hw => ?_)
 refine ⟨(), ?_, hw.base, (hw.weak (List.nil_sublist _) (fun s hs => hs)).toNews⟩
 show Ending.returned (.bool _) = _
 congr 2
 focus first
   | (have hP := hP
      have he : e = f := by
        cases e; cases f
        simp_all
      rw [decide_eq_true he]
      done)
   | (have hne : e ≠ f := fun h => by
        subst h
        exact h11_10 rfl
      rw [decide_eq_false hne]
      done)
   | (have hne : e ≠ f := fun h => by
        subst h
        exact h6_10 rfl
      rw [decide_eq_false hne]
      done)
   | (have hne : e ≠ f := fun h => by
        subst h
        simp_all
      rw [decide_eq_false hne]
      done)
   | (trace_state; fail)
 refine dm (by kernel_rfl) ?_
 refine ao ?_
 refine aN rfl ?_
 refine bd ?_
 refine bV ?_
 refine ao ?_
 refine ah ?_
 refine ap (am rfl) rfl rfl ?_
 refine ap (bY rfl rfl (by omega) (by omega)) rfl rfl ?_
 refine ap (ai rfl) rfl rfl ?_
 refine ae ?_
 refine cr (j + 1) ?_ ?_ ⟨rfl, trivial⟩ (by repeat (first | exact trivial | refine ⟨rfl, ?_⟩)) aD
 exact ⟨by omega, fv (0 : Int) (by omega) (by omega) hI.2 (by simpa using h11_10)⟩
 omega
 refine ae ?_
 refine ao ?_
 refine aN rfl ?_
 refine cz ?_
 refine br ?_
 refine bC ?_
 refine bK ?_
 refine ao ?_
 refine ar ?_
 have hP : e.ports = f.ports := by
   have := hI.2
   rw [show j = e.ports.length by omega, List.take_length, List.take_of_length_le (by omega)] at this
   exact this
 refine ah ?_
 refine ap (ai rfl) rfl rfl ?_
 refine ae ?_
 refine ao ?_
 refine aV ?_
 refine aY (ts := [4]) rfl rfl rfl (fun w hw => ?_)
 refine ⟨(), ?_, hw.base, (hw.weak (List.nil_sublist _) (fun s hs => hs)).toNews⟩
 show Ending.returned (.bool _) = _
 congr 2
 focus first
   | (have hP := hP
      have he : e = f := by
        cases e; cases f
        simp_all
      rw [decide_eq_true he]
      done)
   | (have hne : e ≠ f := fun h => by
        subst h
        exact h11_10 rfl
      rw [decide_eq_false hne]
      done)
   | (have hne : e ≠ f := fun h => by
        subst h
        exact h6_10 rfl
      rw [decide_eq_false hne]
      done)
   | (have hne : e ≠ f := fun h => by
        subst h
        simp_all
      rw [decide_eq_false hne]
      done)
   | (trace_state; fail)

end Go.Proofs.Ytnpdgmoeoidppaa

/- Search: plain laws. -/
namespace Go.Proofs.Ytnpdgmoeoidppaa
open Go.RowKit Go.Shelf
set_option linter.unusedVariables false
set_option linter.unusedSimpArgs false

/-- A search. -/
structure Sr where
  ndots : Int
  doms : List bg
def iz : List bg → Int
  | [] => 0
  | d :: r => if bj d ≠ 0 then bj d else iz r
theorem domsCk_zero : ∀ {l : List bg}, iz l = 0 ↔ ∀ d ∈ l, bj d = 0
  | [] => by simp [iz]
  | d :: r => by
    rw [iz]
    by_cases h : bj d ≠ 0
    · rw [if_pos h]; simp [h]
    · rw [if_neg h, domsCk_zero]
      have : bj d = 0 := by omega
      simp [this]
def srCk (s : Sr) : Int := if 6 < s.doms.length then 3 else if iz s.doms ≠ 0 then iz s.doms else if ([] : bg) ∈ s.doms ∨ s.ndots < 0 ∨ 15 < s.ndots then 2 else 0
theorem srCk_zero {s : Sr} (h : srCk s = 0) : s.doms.length ≤ 6 ∧ (∀ d ∈ s.doms, bj d = 0 ∧ d ≠ []) ∧ 0 ≤ s.ndots ∧ s.ndots ≤ 15 := by
  unfold srCk at h
  split at h
  · omega
  · split at h
    · omega
    · rename_i h1 h2
      split at h
      · omega
      · rename_i h3
        have h4 := domsCk_zero.1 (show iz s.doms = 0 by omega)
        refine ⟨by omega, fun d hd => ⟨h4 d hd, fun e => h3 (.inl (e ▸ hd))⟩, ?_, ?_⟩
        · by_cases q : 0 ≤ s.ndots
          · exact q
          · exact absurd (.inr (.inl (by omega))) h3
        · by_cases q : s.ndots ≤ 15
          · exact q
          · exact absurd (.inr (.inr (by omega))) h3
/-- name.Join. -/
def joinE (a b : bg) : Int := if bj a ≠ 0 then bj a else if bj b ≠ 0 then bj b else if 254 < a.length + b.length then 3 else 0
theorem joinE_zero {a b : bg} : joinE a b = 0 ↔ bj a = 0 ∧ bj b = 0 ∧ a.length + b.length ≤ 254 := by
  unfold joinE
  by_cases h1 : bj a = 0
  · by_cases h2 : bj b = 0
    · rw [if_neg (by omega), if_neg (by omega)]
      by_cases h3 : 254 < a.length + b.length
      · rw [if_pos h3]; simp; omega
      · rw [if_neg h3]; simp [h1, h2]; omega
    · rw [if_neg (by omega), if_pos h2]; simp [h1, h2]
  · rw [if_pos h1]; simp [h1]
theorem okN_append {a b : bg} (ha : iF a = true) (hb : iF b = true) : iF (a ++ b) = true := by
  have h := (fM (eK a ++ eK b) (fun s hs => (List.mem_append.1 hs).elim (eR a s) (eR b s))).1
  rw [fe, fH a ha, fH b hb] at h
  exact h
theorem ic {a b : bg} (h : joinE a b = 0) : bj (a ++ b) = 0 := by
  obtain ⟨h1, h2, h3⟩ := joinE_zero.1 h
  exact nameCk_zero.2 ⟨by rw [List.length_append]; omega, okN_append (nameCk_zero.1 h1).2 (nameCk_zero.1 h2).2⟩
theorem gL {n : bg} (h : bj n = 0) : bh n = cN n := if_pos h
theorem foldN_len {n : bg} (h : bj n = 0) : (bh n).length = n.length := by rw [gL h, dV]
/-- The domains joined. -/
def ij (n : bg) (l : List bg) : List bg := (l.filter fun d => decide (joinE n d = 0)).map fun d => n ++ d
def ownS (s : Sr) (n : bg) : Prop := n = [] ∨ s.ndots ≤ ((bP n).length : Int) - 1
instance (s : Sr) (n : bg) : Decidable (ownS s n) := by unfold ownS; infer_instance
/-- The candidates, some of them twice. -/
def ii (s : Sr) (n : bg) : List bg := if n = [] then [n] else if ownS s n then n :: ij n s.doms else ij n s.doms ++ [n]
/-- Each once. -/
def ded : List bg → List bg → List bg
  | _, [] => []
  | seen, x :: r => if bh x ∈ seen then ded seen r else x :: ded (bh x :: seen) r
def iV (s : Sr) (n : bg) : List bg := if srCk s ≠ 0 ∨ bj n ≠ 0 then [] else ded [] (ii s n)
theorem ded_mem {x : bg} : ∀ {seen l : List bg}, x ∈ ded seen l → x ∈ l ∧ bh x ∉ seen
  | _, [], h => by cases h
  | seen, y :: r, h => by
    rw [ded] at h
    split at h
    · have := ded_mem h; exact ⟨.tail _ this.1, this.2⟩
    · rcases List.mem_cons.1 h with rfl | h
      · exact ⟨.head _, ‹_›⟩
      · have := ded_mem h
        exact ⟨.tail _ this.1, fun q => this.2 (.tail _ q)⟩
theorem ded_dis : ∀ (seen l : List bg), (ded seen l).Pairwise fun x y => bh x ≠ bh y
  | _, [] => .nil
  | seen, y :: r => by
    rw [ded]
    split
    · exact ded_dis seen r
    · exact .cons (fun z hz e => (ded_mem hz).2 (e ▸ .head _)) (ded_dis _ r)
theorem ded_len : ∀ (seen l : List bg), (ded seen l).length ≤ l.length
  | _, [] => Nat.le_refl _
  | seen, y :: r => by
    rw [ded]
    split
    · have := ded_len seen r; simp; omega
    · have := ded_len (bh y :: seen) r; simp; omega
/-- What has been seen behind a part. -/
def dedS : List bg → List bg → List bg
  | seen, [] => seen
  | seen, x :: r => if bh x ∈ seen then dedS seen r else dedS (bh x :: seen) r
theorem iy : ∀ (seen a b : List bg), ded seen (a ++ b) = ded seen a ++ ded (dedS seen a) b
  | _, [], _ => rfl
  | seen, y :: r, b => by
    rw [List.cons_append, ded, ded, dedS]
    split
    · exact iy seen r b
    · rw [iy _ r b]; rfl
theorem dedS_mem {k : bg} : ∀ {seen l : List bg}, k ∈ dedS seen l ↔ k ∈ seen ∨ ∃ x ∈ l, bh x = k
  | seen, [] => by simp [dedS]
  | seen, y :: r => by
    rw [dedS]
    split
    · rw [dedS_mem]
      constructor
      · rintro (h | ⟨x, hx, e⟩)
        · exact .inl h
        · exact .inr ⟨x, .tail _ hx, e⟩
      · rintro (h | ⟨x, hx, e⟩)
        · exact .inl h
        · rcases List.mem_cons.1 hx with rfl | hx
          · exact .inl (e ▸ ‹_›)
          · exact .inr ⟨x, hx, e⟩
    · rw [dedS_mem]
      constructor
      · rintro (h | ⟨x, hx, e⟩)
        · rcases List.mem_cons.1 h with rfl | h
          · exact .inr ⟨y, .head _, rfl⟩
          · exact .inl h
        · exact .inr ⟨x, .tail _ hx, e⟩
      · rintro (h | ⟨x, hx, e⟩)
        · exact .inl (.tail _ h)
        · rcases List.mem_cons.1 hx with rfl | hx
          · exact .inl (e ▸ .head _)
          · exact .inr ⟨x, hx, e⟩
theorem joins_mem {n x : bg} {l : List bg} : x ∈ ij n l ↔ ∃ d ∈ l, joinE n d = 0 ∧ x = n ++ d := by
  simp only [ij, List.mem_map, List.mem_filter, decide_eq_true_eq]
  constructor
  · rintro ⟨d, ⟨h1, h2⟩, rfl⟩; exact ⟨d, h1, h2, rfl⟩
  · rintro ⟨d, h1, h2, rfl⟩; exact ⟨d, ⟨h1, h2⟩, rfl⟩
theorem joins_len (n : bg) (l : List bg) : (ij n l).length ≤ l.length := by
  rw [ij, List.length_map]; exact List.length_filter_le _ _
theorem join_ne {n d : bg} (h : joinE n d = 0) (hd : d ≠ []) : bh (n ++ d) ≠ bh n := fun e => by
  obtain ⟨h1, h2, h3⟩ := joinE_zero.1 h
  have e2 := congrArg List.length e
  rw [foldN_len (ic h), foldN_len h1, List.length_append] at e2
  exact hd (List.length_eq_zero_iff.1 (by omega))
theorem cands_mem {s : Sr} {n x : bg} (h : x ∈ ii s n) : x = n ∨ x ∈ ij n s.doms := by
  unfold ii at h
  split at h
  · left; simpa using h
  · split at h
    · simpa using h
    · rcases List.mem_append.1 h with h | h
      · exact .inr h
      · left; simpa using h
theorem cands_len (s : Sr) (n : bg) : (ii s n).length ≤ s.doms.length + 1 := by
  have := joins_len n s.doms
  unfold ii
  split
  · simp
  · split
    · simp; omega
    · simp; omega
/-- Of a search and a name that may be. -/
structure Ok (s : Sr) (n : bg) : Prop where
  s0 : srCk s = 0
  n0 : bj n = 0
theorem Ok.each {s : Sr} {n : bg} (h : Ok s n) : iV s n = ded [] (ii s n) := by
  rw [iV, if_neg (by rw [h.s0, h.n0]; simp)]
theorem Ok.joinNe {s : Sr} {n x : bg} (h : Ok s n) (hx : x ∈ ij n s.doms) : bh x ≠ bh n := by
  obtain ⟨d, hd, he, rfl⟩ := joins_mem.1 hx
  exact join_ne he ((srCk_zero h.s0).2.1 d hd).2
theorem Ok.xck {s : Sr} {n x : bg} (h : Ok s n) (hx : x ∈ ii s n) : bj x = 0 := by
  rcases cands_mem hx with rfl | hx
  · exact h.n0
  · obtain ⟨d, hd, he, rfl⟩ := joins_mem.1 hx
    exact ic he
theorem Ok.each_own {s : Sr} {n : bg} (h : Ok s n) (ho : ownS s n) : ∃ r, iV s n = n :: r := by
  rw [h.each, ii]
  split
  · exact ⟨[], rfl⟩
  · first | (rw [if_pos ho]; exact ⟨_, rfl⟩) | exact ⟨_, rfl⟩
theorem Ok.each_last {s : Sr} {n : bg} (h : Ok s n) (ho : ¬ ownS s n) : iV s n = ded [] (ij n s.doms) ++ [n] := by
  have hn : n ≠ [] := fun e => ho (.inl e)
  rw [h.each, ii, if_neg hn, if_neg ho, iy]
  congr 1
  rw [ded, if_neg]
  · rfl
  · rw [dedS_mem]
    rintro (h1 | ⟨x, hx, e⟩)
    · cases h1
    · exact h.joinNe hx e
theorem Ok.mem {s : Sr} {n : bg} (h : Ok s n) : n ∈ iV s n := by
  by_cases ho : ownS s n
  · obtain ⟨r, e⟩ := h.each_own ho
    rw [e]; exact .head _
  · rw [h.each_last ho]; simp
theorem Ok.xs {s : Sr} {n x : bg} (h : Ok s n) (hx : x ∈ iV s n) : bj x = 0 ∧ (x = n ∨ ∃ d ∈ s.doms, joinE n d = 0 ∧ x = n ++ d) := by
  rw [h.each] at hx
  have h1 := (ded_mem hx).1
  exact ⟨h.xck h1, (cands_mem h1).imp id joins_mem.1⟩
theorem Ok.dis {s : Sr} {n : bg} (h : Ok s n) : (iV s n).Pairwise fun x y => bh x ≠ bh y := by
  rw [h.each]; exact ded_dis _ _
theorem Ok.len {s : Sr} {n : bg} (h : Ok s n) : (iV s n).length ≤ s.doms.length + 1 := by
  rw [h.each]
  have h1 := ded_len [] (ii s n)
  have h2 := cands_len s n
  omega
/-! Letters. -/
theorem lowS_idem (s : bg) : cN (cN s) = cN s := by simp [cN, lowB_lowB]
theorem e7 {n : bg} (h : bj n = 0) : bj (bh n) = 0 := by rw [gL h]; exact nameCk_low h
theorem iB {n : bg} (h : bj n = 0) : bh (bh n) = bh n := by
  rw [gL (e7 h), gL h, lowS_idem]
end Go.Proofs.Ytnpdgmoeoidppaa
