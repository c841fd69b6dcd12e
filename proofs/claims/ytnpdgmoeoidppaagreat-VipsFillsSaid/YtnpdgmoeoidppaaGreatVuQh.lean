import Derived.Test.YtnpdgmoeoidppaaGreatVrQh
import Derived.SizedLaws
/- law 14: who holds what -/
namespace Go.Proofs.YtnpdgmoeoidppaaGreat
open Go.RowKit Go.Shelf
set_option linter.unusedVariables false
set_option linter.unusedSimpArgs false

theorem ent_105 : Enters Tryz.prog 105 := enters_of Tryz.func105 (by kernel_rfl) rfl
theorem ent_33 : Enters Tryz.prog 33 := enters_of Tryz.func33 (by kernel_rfl) rfl
theorem ent_37 : Enters Tryz.prog 37 := enters_of Tryz.func37 (by kernel_rfl) rfl
theorem ent_39 : Enters Tryz.prog 39 := enters_of Tryz.func39 (by kernel_rfl) rfl
theorem fa_46_0 : FA Tryz.prog 46 0 0 := fun b o w => by kernel_rfl

set_option maxRecDepth 100000 in
theorem c_holds14 (rg : Rg) (res : List Rg) (A : Option Addr) (c : Nat) (hs : List Hd) (Q : Option Addr) (q : Nat) (hr : RgOk rg) (hrs : ∀ x ∈ res, RgOk x) (hl : res.length ≤ 4398046510976) (hhl : hs.length ≤ 1000000) (hH : HeldG rg res hs) : RC Tryz.prog 39 #[.agg (plC rg A res.length c).toArray, .slice Q hs.length q] [Ch.rd A 4 dJ res, Ch.rd Q 4 hdC hs] (α := Unit) (fun _ => .bool true) (fun _ => []) := by
 refine bh (args := [.agg (plC rg A res.length c).toArray, .slice Q hs.length q]) 84 Tryz.func39 rfl rfl rfl (fun w0 => ?_)
 refine ao ?_
 refine ab ?_
 refine bx rfl rfl rfl (fun b1 => ?_)
 refine ap (ai rfl) rfl rfl ?_
 refine ae ?_
 refine aj ?_
 refine ao ?_
 refine ao ?_
 refine ab ?_
 refine ap (ai rfl) rfl rfl ?_
 refine ae ?_
 refine aj ?_
 refine aT ?_
 refine bZ (σ := Nat) [4, 5, 6, 7, 8, 9, 10, 11, 12, 13, 14, 15, 16, 17, 18, 19, 20, 21, 22, 23, 24, 25, 26, 27, 28, 29, 30, 31, 32, 33, 34, 35, 36, 37, 38, 39, 40, 41, 42, 43, 44, 45, 46, 47, 48, 49, 50, 51, 52, 53, 54, 55, 56, 57, 58, 59, 60, 61, 62, 63, 64, 65, 66, 67, 68, 69, 70, 71, 72, 73, 74, 75, 76, 77, 78, 79, 80, 81, 82, 83] (fun i => i ≤ hs.length) (fun i => hs.length - i) (fun i => [(5, .int .i64 i)]) (0) ?_ ⟨rfl, trivial⟩ (fun i hI => ?_)
 exact Nat.zero_le _
 refine ao ?_
 refine ao ?_
 refine ab ?_
 refine ap (ak rfl) rfl rfl ?_
 refine ap (ak rfl) rfl rfl ?_
 refine ap (ck Tryz.underlying25 rfl) rfl rfl ?_
 refine ap (bQ rfl rfl) rfl rfl ?_
 refine aG (t := 13) rfl (fun h2_3 => ?_) (fun h2_3 => ?_)
 have hi : i < hs.length := by omega
 obtain ⟨hi1, hi2, hi3⟩ := hH i hi
 refine ae ?_
 refine aj ?_
 refine ay rfl ?_
 refine aL ?_
 refine aj ?_
 refine ao ?_
 refine aT ?_
 refine ao ?_
 refine dN 13 rfl mixed ?_
 refine aC (i := 0) rfl ah (aD dZ rfl) au au rfl (aa (ar (aa (aF (ar (aa aq)))))) (by kernel_rfl) rfl ?_
 refine aC (i := 1) rfl ah (aI 0 bR rfl rfl rfl rfl) au au rfl (aa (ar (aa (aF (ar (aa aq)))))) (by kernel_rfl) rfl ?_
 refine aC (i := 2) rfl ah (ak rfl) au au rfl (aa (ar (aa (aF (ar (aa aq)))))) (by kernel_rfl) rfl ?_
 refine aC (i := 3) rfl ah (ak rfl) au au rfl (aa (ar (aa (aF (ar (aa aq)))))) (by kernel_rfl) rfl ?_
 refine aC (i := 4) rfl ah (cp  Tryz.underlying25 bS rfl rfl (cI 1 rfl) rfl (by omega)) au au rfl (aa (ar (aa (aF (ar (aa aq)))))) (by kernel_rfl) rfl ?_
 refine aC (i := 5) rfl ah (aD dy rfl) au au rfl (aa (ar (aa (aF (ar (aa aq)))))) (by kernel_rfl) rfl ?_
 refine aC (i := 6) rfl ah (y_ldsm 1 fH d2 aO rfl (cI 1 rfl) (by omega) rfl rfl rfl) au au rfl (aa (ar (aa (aF (ar (aa aq)))))) (by kernel_rfl) rfl ?_
 refine cr (i := 7) rfl rfl rfl (a8 rfl ent_105) (by kernel_rfl) rfl ?_
 refine o_callr0 rfl ent_105 rfl (c_ref05Index rg (hs.getD i d2).ad hr hi1.2.1) (fun w hw => bf) (fun oi => ?_)
 refine ae ?_
 refine br au ?_
 refine aC (i := 8) rfl ah (ak rfl) au au rfl (aa (ar (aa (aF (ar (aa aq)))))) (by kernel_rfl) rfl ?_
 refine aC (i := 9) rfl ah (aJ rfl rfl) au au rfl (aa (ar (aa (aF (ar (aa aq)))))) (by kernel_rfl) rfl ?_
 refine aC (i := 10) rfl ah (aJ rfl rfl) au au rfl (aa (ar (aa (aF (ar (aa aq)))))) (by kernel_rfl) rfl ?_
 refine d7 (t := 26) (.bool true) rfl (congrArg Value.bool hi1.1) ?_
 refine aC (i := 11) rfl ah (ai rfl) au au rfl (aa (ar (aa (aF (ar (aa aq)))))) (by kernel_rfl) rfl ?_
 refine aC (i := 12) rfl ah (ai rfl) au au rfl (aa (ar (aa (aF (ar (aa aq)))))) (by kernel_rfl) rfl ?_
 refine cu (by kernel_rfl) ?_
 refine aj ?_
 refine ao ?_
 refine ao ?_
 refine ab ?_
 refine ap (ai rfl) rfl rfl ?_
 refine ae ?_
 refine aj ?_
 refine aT ?_
 refine bZ (σ := Nat) [7, 8, 27, 28, 29, 30, 31, 32, 33, 34, 35, 36, 37, 38, 39, 40, 41, 42, 43, 44, 45, 46, 47, 48] (fun k => k ≤ res.length) (fun k => res.length - k) (fun k => [(8, .int .i64 k), (7, .bool true)]) (0) ?_ ⟨rfl, rfl, trivial⟩ (fun k hI => ?_)
 exact Nat.zero_le _
 refine ao ?_
 refine ao ?_
 refine ab ?_
 refine ap (ak rfl) rfl rfl ?_
 refine ap (aD dV rfl) rfl rfl ?_
 refine ap (aM 0 fS rfl rfl rfl) rfl rfl ?_
 refine ap (ck Tryz.underlying65 rfl) rfl rfl ?_
 refine ap (bQ rfl rfl) rfl rfl ?_
 refine aG (t := 31) rfl (fun h6_4 => ?_) (fun h6_4 => ?_)
 have hk : k < res.length := by omega
 refine ae ?_
 refine aj ?_
 refine ay rfl ?_
 refine aL ?_
 refine aj ?_
 refine ao ?_
 refine aT ?_
 refine dN 16 rfl mixed ?_
 refine aC (i := 0) rfl ah (ak rfl) au au rfl (ar (aa (aF (ar (aa (ar (aa (aF (ar (aa aq)))))))))) (by kernel_rfl) rfl ?_
 refine aC (i := 1) rfl ah (ak rfl) au au rfl (ar (aa (aF (ar (aa (ar (aa (aF (ar (aa aq)))))))))) (by kernel_rfl) rfl ?_
 refine aC (i := 2) rfl (ax rfl rfl) (aD dV rfl) au au rfl (ar (aa (aF (ar (aa (ar (aa (aF (ar (aa aq)))))))))) (by kernel_rfl) rfl ?_
 refine aC (i := 3) rfl (ax rfl rfl) (aM 0 fS rfl rfl rfl) au au rfl (ar (aa (aF (ar (aa (ar (aa (aF (ar (aa aq)))))))))) (by kernel_rfl) rfl ?_
 refine aC (i := 4) rfl (ax rfl rfl) (ak rfl) au au rfl (ar (aa (aF (ar (aa (ar (aa (aF (ar (aa aq)))))))))) (by kernel_rfl) rfl ?_
 refine aC (i := 5) rfl (ax rfl rfl) (cp  Tryz.underlying65 bR rfl rfl (cI 0 rfl) rfl (by omega)) au au rfl (ar (aa (aF (ar (aa (ar (aa (aF (ar (aa aq)))))))))) (by kernel_rfl) rfl ?_
 refine aC (i := 6) rfl (ax rfl rfl) (gC fC rg0 bR rfl (cI 0 rfl) (by omega) rfl rfl rfl) au au rfl (ar (aa (aF (ar (aa (ar (aa (aF (ar (aa aq)))))))))) (by kernel_rfl) rfl ?_
 refine aC (i := 7) rfl (ax rfl rfl) (ak rfl) au au rfl (ar (aa (aF (ar (aa (ar (aa (aF (ar (aa aq)))))))))) (by kernel_rfl) rfl ?_
 refine aC (i := 8) rfl (ax rfl rfl) (ak rfl) au au rfl (ar (aa (aF (ar (aa (ar (aa (aF (ar (aa aq)))))))))) (by kernel_rfl) rfl ?_
 refine aC (i := 9) rfl (ax rfl rfl) (cp  Tryz.underlying25 bS rfl rfl (cI 1 rfl) rfl (by omega)) au au rfl (ar (aa (aF (ar (aa (ar (aa (aF (ar (aa aq)))))))))) (by kernel_rfl) rfl ?_
 refine aC (i := 10) rfl (ax rfl rfl) (aD dy rfl) au au rfl (ar (aa (aF (ar (aa (ar (aa (aF (ar (aa aq)))))))))) (by kernel_rfl) rfl ?_
 refine aC (i := 11) rfl (ax rfl rfl) (y_ldsm 1 fH d2 aO rfl (cI 1 rfl) (by omega) rfl rfl rfl) au au rfl (ar (aa (aF (ar (aa (ar (aa (aF (ar (aa aq)))))))))) (by kernel_rfl) rfl ?_
 refine cr (i := 12) rfl rfl rfl (a8 rfl ent_94) (by kernel_rfl) rfl ?_
 refine aA rfl rfl ?_
 refine aR rfl ent_94 (f8 (res.getD k rg0) (hs.getD i d2).ad (hrs _ (cF hk)).1 hi1.2.1) rfl ?_
 refine ae ?_
 refine br au ?_
 refine d7 (t := 46) (.bool false) rfl (congrArg Value.bool (hi1.2.2 _ (cF hk))) ?_
 refine aC (i := 13) rfl (ax rfl rfl) (bJ rfl) au au rfl (ar (aa (aF (ar (aa (ar (aa (aF (ar (aa aq)))))))))) (by kernel_rfl) rfl ?_
 refine aC (i := 14) rfl ah (aP rfl rfl) au au rfl (ar (aa (aF (ar (aa (ar (aa (aF (ar (aa aq)))))))))) (by kernel_rfl) rfl ?_
 refine aC (i := 15) rfl ah (ai rfl) au au rfl (ar (aa (aF (ar (aa (ar (aa (aF (ar (aa aq)))))))))) (by kernel_rfl) rfl ?_
 refine cu (by kernel_rfl) ?_
 refine bw ?_
 refine aj ?_
 refine ab ?_
 refine ap (ak rfl) rfl rfl ?_
 refine ap (bi rfl rfl (by omega) (by omega)) rfl rfl ?_
 refine ap (ai rfl) rfl rfl ?_
 refine ae ?_
 refine bA (k + 1) ?_ ?_ ⟨rfl, rfl, trivial⟩ (by repeat (first | exact trivial | refine ⟨rfl, ?_⟩)) au
 show k + 1 ≤ _
 omega
 omega
 refine ae ?_
 refine aj ?_
 refine aw rfl ?_
 refine bG ?_
 refine a7 ?_
 refine aZ ?_
 refine bc ?_
 refine aj ?_
 refine ao ?_
 refine ao ?_
 refine ab ?_
 refine ap (ai rfl) rfl rfl ?_
 refine ae ?_
 refine aj ?_
 refine aT ?_
 refine bZ (σ := Nat) [7, 9, 49, 50, 51, 52, 53, 54, 55, 56, 57, 58, 59, 60, 61, 62, 63, 64, 65, 66, 67, 68, 69, 70, 71, 72, 73, 74, 75, 76, 77, 78, 79, 80, 81] (fun k => k ≤ i) (fun k => i - k) (fun k => [(9, .int .i64 k), (7, .bool true)]) (0) ?_ ⟨rfl, rfl, trivial⟩ (fun k hI => ?_)
 exact Nat.zero_le _
 refine ao ?_
 refine ao ?_
 refine ab ?_
 refine ap (ak rfl) rfl rfl ?_
 refine ap (ak rfl) rfl rfl ?_
 refine ap (bQ rfl rfl) rfl rfl ?_
 refine aG (t := 51) rfl (fun h10_2 => ?_) (fun h10_2 => ?_)
 have hk : k < i := by omega
 refine ae ?_
 refine aj ?_
 refine ay rfl ?_
 refine aL ?_
 refine aj ?_
 refine ao ?_
 refine aT ?_
 refine dN 29 rfl mixed ?_
 refine aC (i := 0) rfl ah (ak rfl) au au rfl (ar (aa (aF (ar (aa (ar (aa (aF (ar (aa aq)))))))))) (by kernel_rfl) rfl ?_
 refine aC (i := 1) rfl ah (ak rfl) au au rfl (ar (aa (aF (ar (aa (ar (aa (aF (ar (aa aq)))))))))) (by kernel_rfl) rfl ?_
 refine aC (i := 2) rfl (ax rfl rfl) (ak rfl) au au rfl (ar (aa (aF (ar (aa (ar (aa (aF (ar (aa aq)))))))))) (by kernel_rfl) rfl ?_
 refine aC (i := 3) rfl (ax rfl rfl) (ak rfl) au au rfl (ar (aa (aF (ar (aa (ar (aa (aF (ar (aa aq)))))))))) (by kernel_rfl) rfl ?_
 refine aC (i := 4) rfl (ax rfl rfl) (cp  Tryz.underlying25 bS rfl rfl (cI 1 rfl) rfl (by omega)) au au rfl (ar (aa (aF (ar (aa (ar (aa (aF (ar (aa aq)))))))))) (by kernel_rfl) rfl ?_
 refine aC (i := 5) rfl (ax rfl rfl) (aD dy rfl) au au rfl (ar (aa (aF (ar (aa (ar (aa (aF (ar (aa aq)))))))))) (by kernel_rfl) rfl ?_
 refine aC (i := 6) rfl (ax rfl rfl) (y_ldsm 1 fH d2 aO rfl (cI 1 rfl) (by omega) rfl rfl rfl) au au rfl (ar (aa (aF (ar (aa (ar (aa (aF (ar (aa aq)))))))))) (by kernel_rfl) rfl ?_
 refine aC (i := 7) rfl (ax rfl rfl) (ak rfl) au au rfl (ar (aa (aF (ar (aa (ar (aa (aF (ar (aa aq)))))))))) (by kernel_rfl) rfl ?_
 refine aC (i := 8) rfl (ax rfl rfl) (ak rfl) au au rfl (ar (aa (aF (ar (aa (ar (aa (aF (ar (aa aq)))))))))) (by kernel_rfl) rfl ?_
 refine aC (i := 9) rfl (ax rfl rfl) (cp  Tryz.underlying25 bS rfl rfl (cI 1 rfl) rfl (by omega)) au au rfl (ar (aa (aF (ar (aa (ar (aa (aF (ar (aa aq)))))))))) (by kernel_rfl) rfl ?_
 refine aC (i := 10) rfl (ax rfl rfl) (aD dy rfl) au au rfl (ar (aa (aF (ar (aa (ar (aa (aF (ar (aa aq)))))))))) (by kernel_rfl) rfl ?_
 refine aC (i := 11) rfl (ax rfl rfl) (y_ldsm 1 fH d2 aO rfl (cI 1 rfl) (by omega) rfl rfl rfl) au au rfl (ar (aa (aF (ar (aa (ar (aa (aF (ar (aa aq)))))))))) (by kernel_rfl) rfl ?_
 refine aC (i := 12) rfl (ax rfl rfl) (y_nestd (by kernel_rfl) rfl rfl (gj _ _) rfl) au au rfl (ar (aa (aF (ar (aa (ar (aa (aF (ar (aa aq)))))))))) (by kernel_rfl) rfl ?_
 refine wu_at (t := 66) rfl (hi3 k hk).1 ?_
 refine aC (i := 13) rfl ah (aP rfl rfl) au au rfl (ar (aa (aF (ar (aa (ar (aa (aF (ar (aa aq)))))))))) (by kernel_rfl) rfl ?_
 refine aC (i := 14) rfl ah (ak rfl) au au rfl (ar (aa (aF (ar (aa (ar (aa (aF (ar (aa aq)))))))))) (by kernel_rfl) rfl ?_
 refine aC (i := 15) rfl (ax rfl rfl) (ak rfl) au au rfl (ar (aa (aF (ar (aa (ar (aa (aF (ar (aa aq)))))))))) (by kernel_rfl) rfl ?_
 refine aC (i := 16) rfl (ax rfl rfl) (ak rfl) au au rfl (ar (aa (aF (ar (aa (ar (aa (aF (ar (aa aq)))))))))) (by kernel_rfl) rfl ?_
 refine aC (i := 17) rfl (ax rfl rfl) (cp  Tryz.underlying25 bS rfl rfl (cI 1 rfl) rfl (by omega)) au au rfl (ar (aa (aF (ar (aa (ar (aa (aF (ar (aa aq)))))))))) (by kernel_rfl) rfl ?_
 refine aC (i := 18) rfl (ax rfl rfl) (aD fa_46_0 rfl) au au rfl (ar (aa (aF (ar (aa (ar (aa (aF (ar (aa aq)))))))))) (by kernel_rfl) rfl ?_
 refine aC (i := 19) rfl (ax rfl rfl) (dd fH d2 cW rfl (cI 1 rfl) (by omega) rfl rfl) au au rfl (ar (aa (aF (ar (aa (ar (aa (aF (ar (aa aq)))))))))) (by kernel_rfl) rfl ?_
 refine aC (i := 20) rfl (ax rfl rfl) (ak rfl) au au rfl (ar (aa (aF (ar (aa (ar (aa (aF (ar (aa aq)))))))))) (by kernel_rfl) rfl ?_
 refine aC (i := 21) rfl (ax rfl rfl) (ak rfl) au au rfl (ar (aa (aF (ar (aa (ar (aa (aF (ar (aa aq)))))))))) (by kernel_rfl) rfl ?_
 refine aC (i := 22) rfl (ax rfl rfl) (cp  Tryz.underlying25 bS rfl rfl (cI 1 rfl) rfl (by omega)) au au rfl (ar (aa (aF (ar (aa (ar (aa (aF (ar (aa aq)))))))))) (by kernel_rfl) rfl ?_
 refine aC (i := 23) rfl (ax rfl rfl) (aD fa_46_0 rfl) au au rfl (ar (aa (aF (ar (aa (ar (aa (aF (ar (aa aq)))))))))) (by kernel_rfl) rfl ?_
 refine aC (i := 24) rfl (ax rfl rfl) (dd fH d2 cW rfl (cI 1 rfl) (by omega) rfl rfl) au au rfl (ar (aa (aF (ar (aa (ar (aa (aF (ar (aa aq)))))))))) (by kernel_rfl) rfl ?_
 refine cr (i := 25) rfl rfl rfl (a8 rfl ent_46) (by kernel_rfl) rfl ?_
 refine aA rfl rfl ?_
 refine aR rfl ent_46 (c_ref02_Same _ _ (by have := (hH k (by omega)).2.1; omega) (by omega)) rfl ?_
 refine ae ?_
 refine br au ?_
 refine d7 (t := 79) (.bool false) rfl (congrArg Value.bool (hi3 k hk).2) ?_
 refine aC (i := 26) rfl (ax rfl rfl) (bJ rfl) au au rfl (ar (aa (aF (ar (aa (ar (aa (aF (ar (aa aq)))))))))) (by kernel_rfl) rfl ?_
 refine aC (i := 27) rfl ah (aP rfl rfl) au au rfl (ar (aa (aF (ar (aa (ar (aa (aF (ar (aa aq)))))))))) (by kernel_rfl) rfl ?_
 refine aC (i := 28) rfl ah (ai rfl) au au rfl (ar (aa (aF (ar (aa (ar (aa (aF (ar (aa aq)))))))))) (by kernel_rfl) rfl ?_
 refine cu (by kernel_rfl) ?_
 refine bw ?_
 refine aj ?_
 refine ab ?_
 refine ap (ak rfl) rfl rfl ?_
 refine ap (bi rfl rfl (by omega) (by omega)) rfl rfl ?_
 refine ap (ai rfl) rfl rfl ?_
 refine ae ?_
 refine bA (k + 1) ?_ ?_ ⟨rfl, rfl, trivial⟩ (by repeat (first | exact trivial | refine ⟨rfl, ?_⟩)) au
 show k + 1 ≤ _
 omega
 omega
 refine ae ?_
 refine aj ?_
 refine aw rfl ?_
 refine bG ?_
 refine a7 ?_
 refine aZ ?_
 refine bc ?_
 refine aj ?_
 refine ao ?_
 refine ab ?_
 refine ap (ak rfl) rfl rfl ?_
 refine ap (bJ rfl) rfl rfl ?_
 refine ae ?_
 refine aj ?_
 refine aw rfl ?_
 refine aL ?_
 refine bw ?_
 refine aj ?_
 refine ab ?_
 refine ap (ak rfl) rfl rfl ?_
 refine ap (bi rfl rfl (by omega) (by omega)) rfl rfl ?_
 refine ap (ai rfl) rfl rfl ?_
 refine ae ?_
 refine bA (i + 1) ?_ ?_ ⟨rfl, trivial⟩ (by repeat (first | exact trivial | refine ⟨rfl, ?_⟩)) au
 show i + 1 ≤ _
 omega
 omega
 refine ae ?_
 refine aj ?_
 refine aw rfl ?_
 refine bG ?_
 refine a7 ?_
 refine aZ ?_
 refine bc ?_
 refine aj ?_
 refine ao ?_
 refine ab ?_
 refine ap (ai rfl) rfl rfl ?_
 refine ae ?_
 refine aj ?_
 refine aH ?_
 refine aN (ts := [4]) rfl rfl rfl (fun w hw => ?_)
 exact ⟨(), rfl, hw.base, (hw.weak (List.nil_sublist _) (fun s hs => hs)).toNews⟩

end Go.Proofs.YtnpdgmoeoidppaaGreat

/- law 14: a pool is filled -/
namespace Go.Proofs.YtnpdgmoeoidppaaGreat
open Go.RowKit Go.Shelf
set_option linter.unusedVariables false
set_option linter.unusedSimpArgs false

theorem op_fsize {P : Program} {H : Type} {enc : TypeId × Value → H} {w : World} {b0 : Nat} {sp : Nat → Bool} {hd : Bool} {t ft e : TypeId} {fs : Array Field} {i off : Nat} {cs : Array Value} {d : DataW H} {ps : List MemPlace} {A : Option Addr} {n c : Nat} (ht : P.underlying t = some (.struct fs)) (h : DataW.Trod enc P w b0 sp hd t (.agg cs) d ps) (hi : (fs[i]?).map (fun f => (f.type, f.offset)) = some (ft, off)) (hk : P.cellsOf ft = 1) (hu : P.underlying ft = some (.slice e)) (hc : (cs.toList.drop off).take 1 = [.slice A n c]) (hall : ∀ z ∈ DataW.weights P t d, z ≤ reachBytes) : n * P.bytesOf e ≤ reachBytes := by
  obtain ⟨fuel, hf⟩ := h
  obtain ⟨xs, m, rfl, hx, hcl, hxl, hfi⟩ := DataW.trod_struct ht hf
  cases hfi0 : fs[i]? with
  | none => rw [hfi0] at hi; cases hi
  | some f =>
    rw [hfi0] at hi
    simp only [Option.map_some, Option.some.injEq, Prod.mk.injEq] at hi
    obtain ⟨rfl, rfl⟩ := hi
    have h1 := hfi i f hfi0
    have h2 : i < fs.size := (Array.getElem?_eq_some_iff.1 hfi0).1
    rw [List.getElem?_eq_getElem (by omega), hk] at h1
    have hc' : (List.drop f.offset (Value.agg cs).cells.toList).take 1 = [.slice A n c] := hc
    rw [hc'] at h1
    rcases DataW.trod_slice hu h1 with ⟨h3, _⟩ | ⟨a, len, cap, els, rest, n', _, h3, h4, _, _, _, hl, _⟩
    · cases h3; rw [Nat.zero_mul]; exact Nat.zero_le _
    · cases h3
      obtain ⟨rfl, -⟩ := Prod.mk.inj hx
      have hm : ((els.map (·.1)).length + (rest.map (·.1)).length) * P.bytesOf e ∈ DataW.weights P t (.agg (xs.map (·.1))) := by
        simp only [DataW.weights, ht]
        refine DataW.weights_mem_each (j := i) (t := f.type) (d := .slice (els.map (·.1)) (rest.map (·.1))) ?_ ?_ _ ?_
        · rw [List.getElem?_map, Array.getElem?_toList, hfi0]; rfl
        · rw [List.getElem?_map, List.getElem?_eq_getElem (by omega), h4]; rfl
        · simp only [DataW.weights, hu]; exact .head _
      have := hall _ hm
      rw [List.length_map, hl] at this
      exact Nat.le_trans (Nat.mul_le_mul_right _ (Nat.le_add_right _ _)) this
theorem c_gE {v : Vp} {rg : Rg} {res : List Rg} (h : v.rg = rg ∧ v.res = res ∧ v.room = bT rg res) (hr : RgOk rg) (hrs : ∀ x ∈ res, RgOk x) (hl : res.length ≤ 4398046510976) {hm hm2 : Hm} {n : aX} {a : Ad} {e : Int} (hG : bI (vR rg res) hm (ci hm) n = ((a, e), hm2, ci hm2)) (hn : n.length ≤ 1000000000) (hml : hm.length ≤ 1000000) :
    UC Tryz.prog 34 #[.pointer (some ⟨v.b, 0, none⟩), .string (ba n)] [Ch.row v.b (vpC v) 146, Ch.rd v.A 4 dJ v.res] (vmC v hm (ci hm)) (fun _ : Unit => .tuple #[.agg (dC a).toArray, .int .i64 e]) (fun _ : Unit => vmC v hm2 (ci hm2)) := by
  have q := c_vGive v hm (ci hm) n (new_ok hr hrs hl h) hn hml
  rw [give_cong (v := v) (v' := vR rg res) h, hG] at q
  exact q
theorem c_dE {v : Vp} {hm hm2 : Hm} {n : aX} {e : Int} (hD : cV hm (ci hm) n = (e, hm2, ci hm2)) (hn : n.length ≤ 1000000000) :
    UC Tryz.prog 38 #[.pointer (some ⟨v.b, 0, none⟩), .string (ba n)] [Ch.row v.b (vpC v) 146] (vmC v hm (ci hm)) (fun _ : Unit => .int .i64 e) (fun _ : Unit => vmC v hm2 (ci hm2)) := by
  have q := c_vDrop v hm (ci hm) n hn
  rw [hD] at q
  exact q
section
variable {v : Vp} (hr : RgOk v.rg) (hz : bY v.rg = 0) (hroom : v.room = bT v.rg v.res)
include hr hz hroom
/-- As long as there is room, a new name is given a place. -/
theorem give_room {hm : Hm} {n : aX} (h : HInv v hm) (hn : bz n = true) (hk : aY n ∉ hm.map fun p => p.1) (hl : hm.length < bT v.rg v.res) : ∃ a, a ∈ plcV v ∧ (a ∉ hm.map fun p => p.2.ad) ∧ bI v hm (ci hm) n = ((a, 0), hm ++ [(aY n, ⟨n, a⟩)], ci (hm ++ [(aY n, ⟨n, a⟩)])) := by
  have h0 := give_not hn (not_fail h hr hz hroom hl)
  have h3 := (give_inv (v := v) h.inv n).1
  rcases give_shape (v := v) (hm := hm) hn with ⟨_, g2⟩ | ⟨i, i0, i1, hf, _, g1, g2⟩
  · exact absurd (g2 h0) hk
  · simp only [du, Bool.and_eq_true, Bool.not_eq_true'] at hf
    refine ⟨(atR v.rg i).1, List.mem_filter.2 ⟨each_mem.2 ⟨i, i0, i1, rfl⟩, hf.2⟩, fun e => ?_, ?_⟩
    · rw [← fP] at e
      have := lkp_mem.2 e
      rw [hf.1] at this; cases this
    · rw [← g2, ← h3]; exact Prod.ext g1 rfl
omit hr hz in
theorem give_fullV {hm : Hm} {n : aX} (hn : bz n = true) (hk : aY n ∉ hm.map fun p => p.1) (hl : hm.length = bT v.rg v.res) : bI v hm (ci hm) n = ((ad0, 10), hm, ci hm) :=
  cv hn (by rw [Bool.eq_false_iff]; exact fun e => hk (lkp_mem.1 e)) (by omega)
omit hr hz hroom in
theorem full_has {hm : Hm} (h : HInv v hm) (hl : hm.length = bT v.rg v.res) {a : Ad} (ha : a ∈ plcV v) : a ∈ hm.map fun p => p.2.ad := by
  refine Decidable.not_not.1 fun hno => ?_
  have := nd_len (l := a :: hm.map fun p => p.2.ad) (m := plcV v) (List.nodup_cons.2 ⟨hno, h.inv.ads⟩) (fun b hb => by
    rcases List.mem_cons.1 hb with rfl | hb
    · exact ha
    · obtain ⟨p, hp, rfl⟩ := List.mem_map.1 hb
      exact h.pl p hp)
  rw [List.length_cons, List.length_map] at this
  have e : (plcV v).length = bT v.rg v.res := rfl
  omega
end
theorem drop_ok {hm : Hm} (h : PInv hm) {n : aX} (hn : bz n = true) (hk : aY n ∈ hm.map fun p => p.1) : cV hm (ci hm) n = (0, hm.filter (fun p => decide (p.1 ≠ aY n)), ci (hm.filter fun p => decide (p.1 ≠ aY n))) := by
  have h1 := lkp_mem.2 hk
  rw [cV, if_neg (by rw [hn]; decide), if_neg (by rw [h1]; decide), drop_am h h1]
theorem drop_len : ∀ {hm : Hm} {k : aX}, k ∈ (hm.map fun p => p.1) → (hm.map fun p => p.1).Nodup → (hm.filter fun p => decide (p.1 ≠ k)).length + 1 = hm.length
  | [], _, h, _ => by cases h
  | p :: t, k, h, hn => by
    rw [List.map_cons, List.nodup_cons] at hn
    rw [List.filter_cons]
    by_cases e : p.1 = k
    · have ht : t.filter (fun q => decide (q.1 ≠ k)) = t := by
        rw [List.filter_eq_self]
        intro q hq
        exact decide_eq_true fun e2 => hn.1 (List.mem_map.2 ⟨q, hq, e2.trans e.symm⟩)
      rw [if_neg (by simp [e]), ht]; rfl
    · rw [if_pos (by simp [e])]
      have := drop_len (hm := t) (k := k) ((List.mem_cons.1 h).resolve_left (fun q => e q.symm)) hn.2
      rw [List.length_cons, List.length_cons]; omega
/-- The k-th host. -/
def nmF (k : Nat) : aX := [2, UInt8.ofNat (97 + k % 16), UInt8.ofNat (97 + k / 16)]
theorem nmF_ok : ∀ k : Fin 128, bz (nmF k.val) = true ∧ aY (nmF k.val) = nmF k.val := by decide +kernel
theorem nmF_inj {j k : Nat} (hj : j < 128) (hk : k < 128) (h : nmF j = nmF k) : j = k := by
  simp only [nmF, List.cons.injEq, true_and, and_true] at h
  have h1 := congrArg UInt8.toNat h.1
  have h2 := congrArg UInt8.toNat h.2
  simp only [UInt8.toNat_ofNat'] at h1 h2
  omega
theorem nmF_new {k : Nat} (hk : k < 128) : nmF k ∉ (List.range k).map nmF := fun h => by
  obtain ⟨j, hj, e⟩ := List.mem_map.1 h
  rw [List.mem_range] at hj
  have := nmF_inj (by omega) hk e
  omega
theorem nmF_z {k : Nat} : aY [1, 122] ∉ (List.range k).map nmF := fun h => by
  obtain ⟨j, _, e⟩ := List.mem_map.1 h
  have h2 : aY [1, 122] = [1, 122] := by decide +kernel
  rw [h2] at e
  simp [nmF] at e
theorem z_ok : bz [1, 122] = true := by decide +kernel
theorem nmF_fold {k : Nat} (hk : k < 128) : aY (nmF k) = nmF k ∧ bz (nmF k) = true := ⟨(nmF_ok ⟨k, hk⟩).2, (nmF_ok ⟨k, hk⟩).1⟩
theorem A_ok : bz [2, 65, 65] = true ∧ aY [2, 65, 65] = nmF 0 ∧ bz [2, 97, 97] = true ∧ aY [2, 97, 97] = nmF 0 := by decide +kernel
theorem free_size (rg : Rg) (res : List Rg) : bT rg res ≤ bk rg := Nat.le_trans (List.length_filter_le _ _) (by rw [dq]; exact Nat.le_refl _)
theorem rem16 (k : Nat) : (k : Int).tmod 16 = ((k % 16 : Nat) : Int) := by rw [Int.tmod_eq_emod_of_nonneg (by omega)]; omega
theorem quo16 {k : Nat} (hk : k < 128) : IntKind.i64.wrap ((k : Int).tdiv 16) = ((k / 16 : Nat) : Int) := by
  rw [Int.tdiv_eq_ediv_of_nonneg (by omega), fp (by omega) (by omega)]; omega
theorem oct_a {j : Nat} (hj : j < 16) : (97 : Int) + (j : Int) = ((UInt8.ofNat (97 + j)).toNat : Int) := by
  rw [UInt8.toNat_ofNat']; omega
/-- Filled up; one is dropped; another one has its place. -/
theorem fill_end {v : Vp} (hr : RgOk v.rg) (hz : bY v.rg = 0) (hroom : v.room = bT v.rg v.res) {hm : Hm} {k : Nat} (h : HInv v hm) (hkeys : (hm.map fun p => p.1) = (List.range k).map nmF) (hk : k = bT v.rg v.res) (hpos : 0 < k) :
    ∃ a hm3 hm4, (ofV hm [2, 97, 97]) = (a, true) ∧ cV hm (ci hm) [2, 65, 65] = (0, hm3, ci hm3) ∧ hm3.length ≤ hm.length ∧ bI v hm3 (ci hm3) [1, 122] = ((a, 0), hm4, ci hm4) ∧ HInv v hm4 ∧ hm4.length = bT v.rg v.res := by
  obtain ⟨a1, a2, a3, a4⟩ := A_ok
  have hlen : hm.length = k := by have := congrArg List.length hkeys; simpa using this
  have hin : nmF 0 ∈ hm.map fun p => p.1 := by rw [hkeys]; exact List.mem_map.2 ⟨0, List.mem_range.2 hpos, rfl⟩
  obtain ⟨x, hx⟩ := Option.isSome_iff_exists.1 (lkp_mem.2 hin)
  have hxm := eU hx
  have hd := drop_ok h.inv a1 (by rw [a2]; exact hin)
  have h3 : HInv v (hm.filter fun p => decide (p.1 ≠ aY [2, 65, 65])) := h.filter _
  have hl3 := drop_len hin h.inv.keys
  rw [← a2] at hl3
  have hk3 : aY [1, 122] ∉ (hm.filter fun p => decide (p.1 ≠ aY [2, 65, 65])).map fun p => p.1 := fun e => by
    obtain ⟨p, hp, e⟩ := List.mem_map.1 e
    exact nmF_z (k := k) (by rw [← hkeys, ← e]; exact List.mem_map.2 ⟨p, (List.mem_filter.1 hp).1, rfl⟩)
  obtain ⟨b, hb1, hb2, hg⟩ := give_room hr hz hroom h3 z_ok hk3 (by omega)
  have hb : b = x.ad := by
    obtain ⟨p, hp, e⟩ := List.mem_map.1 (full_has h (hlen.trans hk) hb1)
    by_cases hpk : p.1 = nmF 0
    · have e1 := lkp_some_of h.inv.keys (a := p.1) (v := p.2) hp
      rw [hpk, hx] at e1
      rw [← e, ← Option.some.inj e1]
    · exact absurd (List.mem_map.2 ⟨p, List.mem_filter.2 ⟨hp, decide_eq_true (by rw [a2]; exact hpk)⟩, e⟩) hb2
  refine ⟨x.ad, _, _, ?_, hd, by omega, by rw [← hb]; exact hg, ?_, ?_⟩
  · rw [ofV_ok a3, a4, hx]; rfl
  · have := h3.give (n := [1, 122]) z_ok
    rw [hg] at this; exact this
  · rw [List.length_append]; show _ + 1 = _; omega

set_option maxRecDepth 100000 in
set_option maxHeartbeats 4000000 in
theorem c_VipsFills (rg : Rg) (res : List Rg) (A : Option Addr) (c : Nat) (hr : RgOk rg) (hrs : ∀ x ∈ res, RgOk x) (hres : res.length ≤ 9223372036854775807) (hlb : res.length ≤ 4398046510976) : RC Tryz.prog 4 #[.agg (plC rg A res.length c).toArray] [Ch.rd A 4 dJ res] (α := Unit) (fun _ => .bool true) (fun _ => []) := by
 refine bh (args := [.agg (plC rg A res.length c).toArray]) 135 Tryz.func4 rfl rfl rfl (fun w0 => ?_)
 rcases Decidable.em (fh (rg :: res) = 0) with hT | hT
 have hz9 : bY rg = 0 := cks_head hT
 have hfr := free_le rg res
 refine ao ?_
 refine ab ?_
 refine bx rfl rfl rfl (fun b1 => ?_)
 refine ap (ai rfl) rfl rfl ?_
 refine ae ?_
 refine aj ?_
 refine ao ?_
 refine ao ?_
 refine ab ?_
 refine aR rfl ent_30 c_lives14 rfl ?_
 refine bW (t := 16) (.bool true) rfl (congrArg Value.bool rfl) ?_
 refine ap (bJ rfl) rfl rfl ?_
 refine ae ?_
 refine aj ?_
 refine aw rfl ?_
 refine aL ?_
 refine aj ?_
 refine ao ?_
 refine ab ?_
 refine ap (aI 0 el rfl rfl rfl rfl) rfl rfl ?_
 refine o_callr3 rfl ent_31 rfl (c_vNew rg res A c hr hrs hlb hT) (fun w hw => (aW (c8 0 rfl hw) bf)) (fun ⟨x, hx⟩ => ?_)
 refine fc (fun w h => h.f1.toRdV.f1.freeze) ?_
 refine ap (ak rfl) rfl rfl ?_
 refine ap (aJ rfl rfl) rfl rfl ?_
 refine ap (aJ rfl rfl) rfl rfl ?_
 refine ap (ai rfl) rfl rfl ?_
 refine ap (ai rfl) rfl rfl ?_
 refine ae ?_
 refine aj ?_
 refine ao ?_
 refine ao ?_
 refine ab ?_
 refine ap (aI 1 el rfl rfl rfl rfl) rfl rfl ?_
 refine bu rfl ent_32 rfl (eL rg res.length A c [] none 0 hr.1 hres (by decide)) (fun w hw => (aW (fN) (aW (gF nofun) bf))) ?_
 refine bl (t := 24) rfl (fun h4_1 => ?_) (fun h4_1 => ?_)
 have hl6 := light_nil h4_1
 have hf8 : bT rg res ≤ 128 := Nat.le_trans (free_size rg res) hl6.2
 refine ap (bJ rfl) rfl rfl ?_
 refine ap (ak rfl) rfl rfl ?_
 refine aA rfl rfl ?_
 refine ap (ak rfl) rfl rfl ?_
 refine aA rfl rfl ?_
 refine ap (cc rfl rfl) rfl rfl ?_
 refine fT (t := 28) rfl (fun h => h rfl) ?_
 refine ap (aQ rfl rfl) rfl rfl ?_
 refine ap (ak rfl) rfl rfl ?_
 refine aA rfl rfl ?_
 refine ap (ak rfl) rfl rfl ?_
 refine aA rfl rfl ?_
 refine ap (gp Tryz.underlying68 rfl rfl) rfl rfl ?_
 refine bW (t := 32) (.bool false) rfl (congrArg Value.bool rfl) ?_
 refine ap (aQ rfl rfl) rfl rfl ?_
 refine ae ?_
 refine aj ?_
 refine aw rfl ?_
 refine aL ?_
 refine aj ?_
 refine ao ?_
 refine ab ?_
 refine ap (aD dZ rfl) rfl rfl ?_
 refine ap (aI 1 bR rfl rfl rfl rfl) rfl rfl ?_
 refine ap (aD dV rfl) rfl rfl ?_
 refine ap (aM 1 fS rfl rfl rfl) rfl rfl ?_
 refine bu rfl ent_33 rfl (c_ref05Free rg res A c hr hrs hlb) (fun w hw => (aW (c8 2 rfl hw) bf)) ?_
 refine ap (ai rfl) rfl rfl ?_
 refine ae ?_
 refine aj ?_
 refine ao ?_
 refine ao ?_
 refine ab ?_
 refine ap (ai rfl) rfl rfl ?_
 refine ae ?_
 refine aj ?_
 refine aT ?_
 refine dO (σ := Nat × Hm) [2, 6, 7, 8, 46, 47, 48, 49, 50, 51, 52, 53, 54, 55, 56, 57, 58, 59, 60, 61, 62, 63, 64, 65, 66, 67, 68, 69, 70, 71, 72, 73, 74, 75, 76] (fun q => q.1 ≤ bT rg res ∧ HInv (vR rg res) q.2 ∧ (q.2.map fun p => p.1) = (List.range q.1).map nmF) (fun q => bT rg res - q.1) (fun q => [(6, .int .i64 q.1)]) (fun q => vmC x q.2 (ci q.2)) ((0, [])) ?_ ⟨rfl, trivial⟩ rfl (fun q hI => ?_)
 exact ⟨Nat.zero_le _, HInv.nil, rfl⟩
 obtain ⟨k, hm⟩ := q
 dsimp only at hI ⊢
 refine ao ?_
 refine ao ?_
 refine ab ?_
 refine ap (ak rfl) rfl rfl ?_
 refine ap (ak rfl) rfl rfl ?_
 refine ap (bQ rfl rfl) rfl rfl ?_
 refine aG (t := 48) rfl (fun h8_2 => ?_) (fun h8_2 => ?_)
 have hk8 : k < 128 := by omega
 obtain ⟨hn8, ho8⟩ := nmF_fold hk8
 have hlk : hm.length = k := by have := congrArg List.length hI.2.2; simpa using this
 obtain ⟨a9, -, -, hG⟩ := give_room (v := vR rg res) hr hz9 rfl hI.2.1 ho8 (by rw [hn8, hI.2.2]; exact nmF_new hk8) (show hm.length < bT rg res by omega)
 have hI9 : HInv (vR rg res) (hm ++ [(aY (nmF k), ⟨nmF k, a9⟩)]) := by have := hI.2.1.give (n := nmF k) ho8; rw [hG] at this; exact this
 obtain ⟨hm9, he9⟩ : ∃ z, z = hm ++ [(aY (nmF k), (⟨nmF k, a9⟩ : Hd))] := ⟨_, rfl⟩
 rw [← he9] at hG hI9
 have hk9 : (hm9.map fun p => p.1) = (List.range (k + 1)).map nmF := by rw [he9, List.range_succ, List.map_append, List.map_append, hI.2.2, hn8]; rfl
 have hl9 : hm9.length = k + 1 := by have := congrArg List.length hk9; simpa using this
 refine ae ?_
 refine aj ?_
 refine ay rfl ?_
 refine aL ?_
 refine aj ?_
 refine ao ?_
 refine aT ?_
 refine ao ?_
 refine ab ?_
 refine ap (ak rfl) rfl rfl ?_
 refine ap (ak rfl) rfl rfl ?_
 refine ap (y_rem rfl rfl (by omega)) rfl rfl ?_
 refine bW (t := 54) (.int .i64 ((k % 16 : Nat) : Int)) rfl (congrArg (Value.int .i64) (rem16 k)) ?_
 refine ap (bi rfl rfl (by omega) (by omega)) rfl rfl ?_
 refine ap (cS Tryz.underlying3 Tryz.underlying5 rfl (dW (by omega) (by omega))) rfl rfl ?_
 refine bW (t := 56) (.int .u8 ((UInt8.ofNat (97 + k % 16)).toNat : Int)) rfl (congrArg (Value.int .u8) (oct_a (by omega))) ?_
 refine ap (ak rfl) rfl rfl ?_
 refine ap (y_quo rfl rfl (by omega)) rfl rfl ?_
 refine bW (t := 58) (.int .i64 ((k / 16 : Nat) : Int)) rfl (congrArg (Value.int .i64) (quo16 hk8)) ?_
 refine ap (bi rfl rfl (by omega) (by omega)) rfl rfl ?_
 refine ap (cS Tryz.underlying3 Tryz.underlying5 rfl (dW (by omega) (by omega))) rfl rfl ?_
 refine bW (t := 60) (.int .u8 ((UInt8.ofNat (97 + k / 16)).toNat : Int)) rfl (congrArg (Value.int .u8) (oct_a (by omega))) ?_
 refine gq (vs := [_, _, _]) (nmF k : List (UInt8)) gP Tryz.underlying75 fA rfl rfl rfl rfl rfl rfl (fun As3 => ?_)
 refine ap (y_b2s Tryz.underlying75 Tryz.underlying26 Tryz.underlying5 rfl (ec 0 rfl)) rfl rfl ?_
 refine bW (t := 62) (.string (ba (nmF k))) rfl rfl ?_
 refine cD rfl f0 rfl (c_gE hx hr hrs hlb hG (Nat.le_of_ble_eq_true rfl) (by omega)) (fun o => (.s (.z))) (List.mem_of_getElem? (i := 1) rfl) (fun s hs => sub2 (List.mem_of_getElem? (i := 0) rfl) (List.mem_of_getElem? (i := 1) rfl) hs) (fun o3 => ?_)
 refine ap (ak rfl) rfl rfl ?_
 refine ap (aJ rfl rfl) rfl rfl ?_
 refine ap (aJ rfl rfl) rfl rfl ?_
 refine bj aO rfl rfl (fun b5 => ?_)
 refine aS aO rfl rfl rfl .z rfl rfl rfl rfl ?_
 refine ap (ai rfl) rfl rfl ?_
 refine ae ?_
 refine aj ?_
 refine ao ?_
 refine ab ?_
 refine ap (ak rfl) rfl rfl ?_
 refine ap (cc rfl rfl) rfl rfl ?_
 refine fT (t := 67) rfl (fun h => h rfl) ?_
 refine ap (ak rfl) rfl rfl ?_
 refine aA rfl rfl ?_
 refine ap (ak rfl) rfl rfl ?_
 refine aA rfl rfl ?_
 refine bu rfl ent_35 rfl (c_vFree x hm9 (new_ok hr hrs hlb hx) (by rw [hl9]; omega)) (fun w hw => (aW (c8 0 rfl hw) (aW (gN (rd_L 2 rfl hw)) bf))) ?_
 refine aA rfl rfl ?_
 refine ap (ak rfl) rfl rfl ?_
 refine aA rfl rfl ?_
 refine ap (ak rfl) rfl rfl ?_
 refine aA rfl rfl ?_
 refine ap (fb rfl rfl (by omega) (by omega)) rfl rfl ?_
 refine aA rfl rfl ?_
 refine ap (fb rfl rfl (by omega) (by omega)) rfl rfl ?_
 refine aA rfl rfl ?_
 refine ap (cc rfl rfl) rfl rfl ?_
 refine fT (t := 75) rfl (fun h => h (by rw [hx.2.2, hl9]; omega)) ?_
 refine ap (aQ rfl rfl) rfl rfl ?_
 refine ae ?_
 refine aj ?_
 refine aw rfl ?_
 refine aL ?_
 refine bw ?_
 refine aj ?_
 refine ab ?_
 refine ap (ak rfl) rfl rfl ?_
 refine ap (bi rfl rfl (by omega) (by omega)) rfl rfl ?_
 refine ap (ai rfl) rfl rfl ?_
 refine ae ?_
 refine bA ((k + 1, hm9)) ?_ ?_ ⟨rfl, trivial⟩ (by repeat (first | exact trivial | refine ⟨rfl, ?_⟩)) (fun w h => (h.weak (.cons _ (.cons _ (.cons_cons _ (.cons_cons _ .slnil)))) (fun s hs => hs)).f1.f1)
 exact ⟨by show k + 1 ≤ _; omega, hI9, hk9⟩
 show bT rg res - (k + 1) < bT rg res - k
 omega
 have hkf : k = bT rg res := by omega
 have hlk : hm.length = k := by have := congrArg List.length hI.2.2; simpa using this
 refine ae ?_
 refine aj ?_
 refine aw rfl ?_
 refine bG ?_
 refine a7 ?_
 refine aZ ?_
 refine bc ?_
 refine aj ?_
 refine ao ?_
 refine ab ?_
 refine ap (ak rfl) rfl rfl ?_
 refine cD rfl f0 rfl (c_gE hx hr hrs hlb (give_fullV (v := vR rg res) rfl z_ok (by rw [hI.2.2]; exact nmF_z) (hlk.trans hkf)) (by decide) (by omega)) (fun o => .z) (List.mem_of_getElem? (i := 0) rfl) (fun s hs => sub2 (List.mem_of_getElem? (i := 0) rfl) (List.mem_of_getElem? (i := 1) rfl) hs) (fun o5 => ?_)
 refine ap (ak rfl) rfl rfl ?_
 refine ap (aJ rfl rfl) rfl rfl ?_
 refine ap (aJ rfl rfl) rfl rfl ?_
 refine bj aO rfl rfl (fun b7 => ?_)
 refine aS aO rfl rfl rfl .z rfl rfl rfl rfl ?_
 refine ap (ai rfl) rfl rfl ?_
 refine ae ?_
 refine aj ?_
 refine ao ?_
 refine ao ?_
 refine ab ?_
 refine ap (ak rfl) rfl rfl ?_
 refine ap (dl rfl rfl) rfl rfl ?_
 refine aG (t := 83) rfl (fun h14_1 => ?_) (fun h14_1 => ?_)
 refine ae ?_
 refine aj ?_
 refine ay rfl ?_
 refine ao ?_
 refine ab ?_
 refine ap (ak rfl) rfl rfl ?_
 refine ap (dl rfl rfl) rfl rfl ?_
 refine fj (t := 85) rfl rfl ?_
 refine ap (ak rfl) rfl rfl ?_
 refine aA rfl rfl ?_
 refine ap (ak rfl) rfl rfl ?_
 refine aA rfl rfl ?_
 refine cw rfl ent_36 rfl (c_vAll x hm (by have := eG hI.2.1; omega)) (fun w hw => (aW (c8 0 rfl hw) (aW (gN (rd_L 1 rfl hw)) bf))) (fun ⟨⟨o1, Ao1, co1⟩, ho1⟩ => ?_)
 refine bW (t := 88) (.slice Ao1 o1.length co1) rfl rfl ?_
 have ho1p : o1.Perm (hm.map (·.2)) ∧ o1.Pairwise fun a b => ¬ cmpA b.ad a.ad < 0 := ho1
 have hol1 : o1.length ≤ 65536 := by rw [fD ho1p.1]; exact eG hI.2.1
 refine aA rfl rfl ?_
 refine ap (ck Tryz.underlying25 rfl) rfl rfl ?_
 refine aA rfl rfl ?_
 refine ap (dl rfl rfl) rfl rfl ?_
 refine fj (t := 90) rfl (by rw [fD ho1p.1]; omega) ?_
 refine ap (aP rfl rfl) rfl rfl ?_
 refine ap (ai rfl) rfl rfl ?_
 refine ae ?_
 refine aj ?_
 refine aH ?_
 refine az ?_
 refine aN (ts := [2]) rfl rfl rfl (fun w hw => ?_)
 exact ⟨(), rfl, hw.base, (hw.weak (List.nil_sublist _) (fun s hs => hs)).toNews⟩
 obtain ⟨a9, hm3, hm4, hOf, hD, hl3, hG, hI4, hl4⟩ := fill_end (v := vR rg res) hr hz9 rfl hI.2.1 hI.2.2 hkf (by omega)
 have hl5 : hm4.length = bT rg res := hl4
 refine ae ?_
 refine aj ?_
 refine aw rfl ?_
 refine aL ?_
 refine aj ?_
 refine ao ?_
 refine ab ?_
 refine ap (ak rfl) rfl rfl ?_
 refine bu rfl ent_37 rfl (c_vOf x hm [2, 97, 97] (by decide)) (fun w hw => (aW (c8 0 rfl hw) (aW (gN (rd_L 1 rfl hw)) bf))) ?_
 refine bW (t := 94) (.tuple #[.agg (dC a9).toArray, .bool true]) rfl (by rw [hOf]) ?_
 refine ap (ak rfl) rfl rfl ?_
 refine ap (aJ rfl rfl) rfl rfl ?_
 refine ap (aJ rfl rfl) rfl rfl ?_
 refine bW (t := 96) (.bool true) rfl (congrArg Value.bool rfl) ?_
 refine bj aO rfl rfl (fun b9 => ?_)
 refine aS aO rfl rfl rfl .z rfl rfl rfl rfl ?_
 refine ap (ai rfl) rfl rfl ?_
 refine ae ?_
 refine aj ?_
 refine ao ?_
 refine ab ?_
 refine ap (ak rfl) rfl rfl ?_
 refine cD rfl ent_38 rfl (c_dE hD (by decide)) (fun o => (.s (.s (.z)))) (List.mem_of_getElem? (i := 2) rfl) (fun s hs => sub1 (List.mem_of_getElem? (i := 0) rfl) hs) (fun o9 => ?_)
 refine ap (ai rfl) rfl rfl ?_
 refine ae ?_
 refine aj ?_
 refine ao ?_
 refine ab ?_
 refine ap (ak rfl) rfl rfl ?_
 refine cD rfl f0 rfl (c_gE hx hr hrs hlb hG (by decide) (by omega)) (fun o => (.s (.s (.z)))) (List.mem_of_getElem? (i := 2) rfl) (fun s hs => sub2 (List.mem_of_getElem? (i := 0) rfl) (List.mem_of_getElem? (i := 1) rfl) hs) (fun o10 => ?_)
 refine ap (ak rfl) rfl rfl ?_
 refine ap (aJ rfl rfl) rfl rfl ?_
 refine ap (aJ rfl rfl) rfl rfl ?_
 refine bj aO rfl rfl (fun b12 => ?_)
 refine aS aO rfl rfl rfl .z rfl rfl rfl rfl ?_
 refine ap (ai rfl) rfl rfl ?_
 refine ae ?_
 refine aj ?_
 refine ao ?_
 refine dN 32 rfl mixed ?_
 refine aC (i := 0) rfl ah (ak rfl) au au rfl (aa aq) (by kernel_rfl) rfl ?_
 refine aC (i := 1) rfl ah (dl rfl rfl) au au rfl (aa aq) (by kernel_rfl) rfl ?_
 refine wu_at (t := 105) rfl rfl ?_
 refine aC (i := 2) rfl ah (ak rfl) au au rfl (aa aq) (by kernel_rfl) rfl ?_
 refine aC (i := 3) rfl (ax rfl rfl) (ak rfl) au au rfl (aa aq) (by kernel_rfl) rfl ?_
 refine aC (i := 6) rfl (ax rfl rfl) (ak rfl) au au rfl (aa aq) (by kernel_rfl) rfl ?_
 refine cr (i := 4) rfl rfl rfl (a8 rfl ent_36) (by kernel_rfl) rfl ?_
 refine aA rfl rfl ?_
 refine cw rfl ent_36 rfl (c_vAll x hm4 (by have := eG hI4; omega)) (fun w hw => (aW (c8 0 rfl hw) (aW (gN (rd_L 3 rfl hw)) bf))) (fun ⟨⟨o3, Ao3, co3⟩, ho3⟩ => ?_)
 refine ae ?_
 refine br (bP 1) ?_
 refine d7 (t := 108) (.slice Ao3 o3.length co3) rfl rfl ?_
 have ho3p : o3.Perm (hm4.map (·.2)) ∧ o3.Pairwise fun a b => ¬ cmpA b.ad a.ad < 0 := ho3
 have hol3 : o3.length ≤ 65536 := by rw [fD ho3p.1]; exact eG hI4
 refine aC (i := 5) rfl (ax rfl rfl) (ck Tryz.underlying25 rfl) (bP 1) au rfl (aa aq) (by kernel_rfl) rfl ?_
 refine aC (i := 7) rfl (ax rfl rfl) (dl rfl rfl) (bP 1) au rfl (aa aq) (by kernel_rfl) rfl ?_
 refine wu_at (t := 111) rfl (by rw [fD ho3p.1]; omega) ?_
 refine aC (i := 8) rfl ah (aP rfl rfl) (bP 1) au rfl (aa aq) (by kernel_rfl) rfl ?_
 refine aC (i := 9) rfl ah (ak rfl) (bP 1) au rfl (aa aq) (by kernel_rfl) rfl ?_
 refine aC (i := 10) rfl (ax rfl rfl) (ak rfl) (bP 1) au rfl (aa aq) (by kernel_rfl) rfl ?_
 refine aC (i := 11) rfl ah (aP rfl rfl) (bP 1) au rfl (aa aq) (by kernel_rfl) rfl ?_
 refine aC (i := 12) rfl ah (ak rfl) (bP 1) au rfl (aa aq) (by kernel_rfl) rfl ?_
 refine aC (i := 13) rfl (ax rfl rfl) (ak rfl) (bP 1) au rfl (aa aq) (by kernel_rfl) rfl ?_
 refine aC (i := 14) rfl (ax rfl rfl) (dl rfl rfl) (bP 1) au rfl (aa aq) (by kernel_rfl) rfl ?_
 refine wu_at (t := 118) rfl rfl ?_
 refine aC (i := 15) rfl ah (aP rfl rfl) (bP 1) au rfl (aa aq) (by kernel_rfl) rfl ?_
 refine aC (i := 16) rfl ah (ak rfl) (bP 1) au rfl (aa aq) (by kernel_rfl) rfl ?_
 refine aC (i := 17) rfl (ax rfl rfl) (ak rfl) (bP 1) au rfl (aa aq) (by kernel_rfl) rfl ?_
 refine aC (i := 18) rfl (ax rfl rfl) (dl rfl rfl) (bP 1) au rfl (aa aq) (by kernel_rfl) rfl ?_
 refine wu_at (t := 122) rfl rfl ?_
 refine aC (i := 19) rfl ah (aP rfl rfl) (bP 1) au rfl (aa aq) (by kernel_rfl) rfl ?_
 refine aC (i := 20) rfl ah (ak rfl) (bP 1) au rfl (aa aq) (by kernel_rfl) rfl ?_
 refine aC (i := 21) rfl (ax rfl rfl) (aI 1 aO rfl rfl rfl rfl) (bP 1) au rfl (aa aq) (by kernel_rfl) rfl ?_
 refine aC (i := 22) rfl (ax rfl rfl) (aI 0 aO rfl rfl rfl rfl) (bP 1) au rfl (aa aq) (by kernel_rfl) rfl ?_
 refine aC (i := 23) rfl (ax rfl rfl) (y_eqst (by kernel_rfl) rfl rfl (gj _ _) rfl) (bP 1) au rfl (aa aq) (by kernel_rfl) rfl ?_
 refine wu_at (t := 127) rfl rfl ?_
 refine aC (i := 24) rfl ah (aP rfl rfl) (bP 1) au rfl (aa aq) (by kernel_rfl) rfl ?_
 refine aC (i := 25) rfl ah (ak rfl) (bP 1) au rfl (aa aq) (by kernel_rfl) rfl ?_
 refine aC (i := 26) rfl (ax rfl rfl) (aI 4 el rfl rfl rfl rfl) (bP 1) au rfl (aa aq) (by kernel_rfl) rfl ?_
 refine aC (i := 27) rfl (ax rfl rfl) (ak rfl) (bP 1) au rfl (aa aq) (by kernel_rfl) rfl ?_
 refine cr (i := 28) rfl rfl rfl (a8 rfl ent_36) (by kernel_rfl) rfl ?_
 refine aA rfl rfl ?_
 refine cw rfl ent_36 rfl (c_vAll x hm4 (by have := eG hI4; omega)) (fun w hw => (aW (c8 0 rfl hw) (aW (gN (rd_L 4 rfl hw)) bf))) (fun ⟨⟨o4, Ao4, co4⟩, ho4⟩ => ?_)
 refine ae ?_
 refine br (bP 2) ?_
 refine d7 (t := 132) (.slice Ao4 o4.length co4) rfl rfl ?_
 have ho4p : o4.Perm (hm4.map (·.2)) ∧ o4.Pairwise fun a b => ¬ cmpA b.ad a.ad < 0 := ho4
 have hol4 : o4.length ≤ 65536 := by rw [fD ho4p.1]; exact eG hI4
 refine cr (i := 29) rfl rfl rfl (a8 rfl ent_39) (by kernel_rfl) rfl ?_
 refine aA rfl rfl ?_
 refine bu rfl ent_39 rfl (c_holds14 rg res A c o4 _ _ hr hrs hlb (by omega) (held_g hI4 hr hz9 ho4p.1)) (fun w hw => (aW (c8 2 rfl hw) (aW (gM 0 rfl hw) bf))) ?_
 refine ae ?_
 refine br (bP 2) ?_
 refine d7 (t := 133) (.bool true) rfl (congrArg Value.bool rfl) ?_
 refine aC (i := 30) rfl ah (aP rfl rfl) (bP 2) au rfl (aa aq) (by kernel_rfl) rfl ?_
 refine aC (i := 31) rfl ah (ai rfl) (bP 2) au rfl (aa aq) (by kernel_rfl) rfl ?_
 refine cu (by kernel_rfl) ?_
 refine aj ?_
 refine aH ?_
 refine aN (ts := [2]) rfl rfl rfl (fun w hw => ?_)
 exact ⟨(), rfl, hw.base, (hw.weak (List.nil_sublist _) (fun s hs => hs)).toNews⟩
 refine ap (bJ rfl) rfl rfl ?_
 refine ap (ak rfl) rfl rfl ?_
 refine aK rfl rfl rfl rfl ?_
 refine aK rfl rfl rfl rfl ?_
 refine ap (aP rfl rfl) rfl rfl ?_
 refine ap (ak rfl) rfl rfl ?_
 refine aK rfl rfl rfl rfl ?_
 refine aK rfl rfl rfl rfl ?_
 refine ap (aP rfl rfl) rfl rfl ?_
 refine ae ?_
 refine aj ?_
 refine ay rfl ?_
 refine ao ?_
 refine ab ?_
 refine ap (aI 1 el rfl rfl rfl rfl) rfl rfl ?_
 refine bu rfl ent_32 rfl (eL rg res.length A c [] none 0 hr.1 hres (by decide)) (fun w hw => (aW (fN) (aW (gF nofun) bf))) ?_
 refine bW (t := 35) (.bool false) rfl (congrArg Value.bool h4_1) ?_
 refine ap (bJ rfl) rfl rfl ?_
 refine ap (ak rfl) rfl rfl ?_
 refine aK rfl rfl rfl rfl ?_
 refine aK rfl rfl rfl rfl ?_
 refine ap (aP rfl rfl) rfl rfl ?_
 refine ap (ai rfl) rfl rfl ?_
 refine ae ?_
 refine aj ?_
 refine aH ?_
 refine az ?_
 refine aN (ts := [2]) rfl rfl rfl (fun w hw => ?_)
 exact ⟨(), rfl, hw.base, (hw.weak (List.nil_sublist _) (fun s hs => hs)).toNews⟩
 refine ao ?_
 refine ab ?_
 refine bx rfl rfl rfl (fun b15 => ?_)
 refine ap (ai rfl) rfl rfl ?_
 refine ae ?_
 refine aj ?_
 refine ao ?_
 refine ao ?_
 refine ab ?_
 refine aR rfl ent_30 c_lives14 rfl ?_
 refine bW (t := 16) (.bool true) rfl (congrArg Value.bool rfl) ?_
 refine ap (bJ rfl) rfl rfl ?_
 refine ae ?_
 refine aj ?_
 refine aw rfl ?_
 refine aL ?_
 refine aj ?_
 refine ao ?_
 refine ab ?_
 refine ap (aI 0 el rfl rfl rfl rfl) rfl rfl ?_
 refine bu rfl ent_31 rfl (c_vNewbad rg res A c hr hrs hlb hT) (fun w hw => (aW (c8 0 rfl hw) bf)) ?_
 refine ap (ak rfl) rfl rfl ?_
 refine ap (aJ rfl rfl) rfl rfl ?_
 refine ap (aJ rfl rfl) rfl rfl ?_
 refine ap (ai rfl) rfl rfl ?_
 refine ap (ai rfl) rfl rfl ?_
 refine ae ?_
 refine aj ?_
 refine ao ?_
 refine ao ?_
 refine ab ?_
 refine ap (aI 0 el rfl rfl rfl rfl) rfl rfl ?_
 refine bu rfl ent_32 rfl (eL rg res.length A c [] none 0 hr.1 hres (by decide)) (fun w hw => (aW (fN) (aW (gF nofun) bf))) ?_
 refine bl (t := 24) rfl (fun h4_1 => ?_) (fun h4_1 => ?_)
 have hl6 := light_nil h4_1
 have hf8 : bT rg res ≤ 128 := Nat.le_trans (free_size rg res) hl6.2
 refine ap (bJ rfl) rfl rfl ?_
 refine ap (ak rfl) rfl rfl ?_
 refine aA rfl rfl ?_
 refine ap (ak rfl) rfl rfl ?_
 refine aA rfl rfl ?_
 refine ap (cc rfl rfl) rfl rfl ?_
 refine fj (t := 28) rfl hT ?_
 refine ap (aQ rfl rfl) rfl rfl ?_
 refine ap (ak rfl) rfl rfl ?_
 refine aK rfl rfl rfl rfl ?_
 refine aK rfl rfl rfl rfl ?_
 refine ap (aP rfl rfl) rfl rfl ?_
 refine ae ?_
 refine aj ?_
 refine ay rfl ?_
 refine ao ?_
 refine ab ?_
 refine ap (aI 0 el rfl rfl rfl rfl) rfl rfl ?_
 refine bu rfl ent_32 rfl (eL rg res.length A c [] none 0 hr.1 hres (by decide)) (fun w hw => (aW (fN) (aW (gF nofun) bf))) ?_
 refine bW (t := 35) (.bool true) rfl (congrArg Value.bool h4_1) ?_
 refine ap (bJ rfl) rfl rfl ?_
 refine ap (ak rfl) rfl rfl ?_
 refine aA rfl rfl ?_
 refine ap (ak rfl) rfl rfl ?_
 refine aA rfl rfl ?_
 refine ap (cc rfl rfl) rfl rfl ?_
 refine fj (t := 39) rfl hT ?_
 refine ap (aQ rfl rfl) rfl rfl ?_
 refine ap (ai rfl) rfl rfl ?_
 refine ae ?_
 refine aj ?_
 refine aH ?_
 refine az ?_
 refine aN (ts := [2]) rfl rfl rfl (fun w hw => ?_)
 exact ⟨(), rfl, hw.base, (hw.weak (List.nil_sublist _) (fun s hs => hs)).toNews⟩
 refine ap (bJ rfl) rfl rfl ?_
 refine ap (ak rfl) rfl rfl ?_
 refine aK rfl rfl rfl rfl ?_
 refine aK rfl rfl rfl rfl ?_
 refine ap (aP rfl rfl) rfl rfl ?_
 refine ap (ak rfl) rfl rfl ?_
 refine aK rfl rfl rfl rfl ?_
 refine aK rfl rfl rfl rfl ?_
 refine ap (aP rfl rfl) rfl rfl ?_
 refine ae ?_
 refine aj ?_
 refine ay rfl ?_
 refine ao ?_
 refine ab ?_
 refine ap (aI 0 el rfl rfl rfl rfl) rfl rfl ?_
 refine bu rfl ent_32 rfl (eL rg res.length A c [] none 0 hr.1 hres (by decide)) (fun w hw => (aW (fN) (aW (gF nofun) bf))) ?_
 refine bW (t := 35) (.bool false) rfl (congrArg Value.bool h4_1) ?_
 refine ap (bJ rfl) rfl rfl ?_
 refine ap (ak rfl) rfl rfl ?_
 refine aK rfl rfl rfl rfl ?_
 refine aK rfl rfl rfl rfl ?_
 refine ap (aP rfl rfl) rfl rfl ?_
 refine ap (ai rfl) rfl rfl ?_
 refine ae ?_
 refine aj ?_
 refine aH ?_
 refine az ?_
 refine aN (ts := [2]) rfl rfl rfl (fun w hw => ?_)
 exact ⟨(), rfl, hw.base, (hw.weak (List.nil_sublist _) (fun s hs => hs)).toNews⟩
end Go.Proofs.YtnpdgmoeoidppaaGreat
