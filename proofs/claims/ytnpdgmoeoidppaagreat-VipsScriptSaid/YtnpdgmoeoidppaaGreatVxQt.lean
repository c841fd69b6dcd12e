import Derived.Test.YtnpdgmoeoidppaaGreatVwQt
/- vips: the document pool is made, keeps, tells all -/
namespace Go.Proofs.YtnpdgmoeoidppaaGreat
open Go.RowKit Go.Shelf
set_option linter.unusedVariables false
set_option linter.unusedSimpArgs false

theorem bu_174_0 (x0 : Bool) (x1 : Int) (x2 : Int) (x3 : Int) (x4 : Option Addr) (x5 : Nat) (x6 : Nat) : Tryz.prog.built 174 [(0, .agg [.bool x0, .int .u64 x1, .int .u64 x2, .int .i64 x3, .slice x4 x5 x6].toArray)] = some [.bool x0, .int .u64 x1, .int .u64 x2, .int .i64 x3, .slice x4 x5 x6, .slice none 0 0].toArray := by kernel_rfl
theorem bu_67_0_1 (x0 : Bool) (x1 : Int) (x2 : Int) (x3 : Int) (x4 : Option Addr) (x5 : Nat) (x6 : Nat) : Tryz.prog.built 67 [(0, .agg [.bool x0, .int .u64 x1, .int .u64 x2, .int .i64 x3].toArray), (1, .slice x4 x5 x6)] = some [.bool x0, .int .u64 x1, .int .u64 x2, .int .i64 x3, .slice x4 x5 x6].toArray := by kernel_rfl
theorem ent_113 : Enters Tryz.prog 113 := enters_of Tryz.func113 (by kernel_rfl) rfl
theorem ent_114 : Enters Tryz.prog 114 := enters_of Tryz.func114 (by kernel_rfl) rfl
theorem ent_120 : Enters Tryz.prog 120 := enters_of Tryz.func120 (by kernel_rfl) rfl
theorem ent_185 : Enters Tryz.prog 185 := enters_of Tryz.func185 (by kernel_rfl) rfl

def cmp4 (a b : Ad) : Int := if a = b then 0 else if a.six ≠ b.six then (if b.six = true then -1 else 1) else if a.hi < b.hi ∨ a.hi = b.hi ∧ a.lo < b.lo then -1 else 1

theorem cmp4_pos {a b : Ad} : 0 < cmp4 a b ↔ dX b a < 0 := by
  rw [fm]
  obtain ⟨s, h, l⟩ := a
  obtain ⟨s2, h2, l2⟩ := b
  unfold cmp4
  by_cases e : (⟨s, h, l⟩ : Ad) = ⟨s2, h2, l2⟩
  · rw [if_pos e]
    cases e
    constructor
    · intro q; exact absurd q (by decide)
    · omega
  · rw [if_neg e]
    have k0 : ∀ h l, kdA ⟨false, h, l⟩ = 0 := fun _ _ => rfl
    have k1 : ∀ h l, kdA ⟨true, h, l⟩ = 1 := fun _ _ => rfl
    cases s <;> cases s2
    · rw [if_neg (fun q => q rfl), k0, k0]
      have e2 : ¬ (h = h2 ∧ l = l2) := fun q => e (by rw [q.1, q.2])
      by_cases q : h < h2 ∨ h = h2 ∧ l < l2
      · rw [if_pos q]; dsimp only; omega
      · rw [if_neg q]; dsimp only; omega
    · rw [if_pos (fun e => nomatch e), if_pos rfl, k0, k1]; omega
    · rw [if_pos (fun e => nomatch e), if_neg (fun e => nomatch e), k0, k1]; omega
    · rw [if_neg (fun q => q rfl), k1, k1]
      have e2 : ¬ (h = h2 ∧ l = l2) := fun q => e (by rw [q.1, q.2])
      by_cases q : h < h2 ∨ h = h2 ∧ l < l2
      · rw [if_pos q]; dsimp only; omega
      · rw [if_neg q]; dsimp only; omega

theorem le_trA {a b c : Ad} (h1 : ¬ dX b a < 0) (h2 : ¬ dX c b < 0) : ¬ dX c a < 0 := by
  rw [fm] at *; omega

theorem lt_leA {a b : Ad} (h : dX a b < 0) : ¬ dX b a < 0 := by rw [fm] at *; omega
/-- One more is put in its place. -/
theorem ins_ok {out : List Hd} {X : Hd} {k : Nat} (hs : out.Pairwise fun a b => ¬ dX b.ad a.ad < 0) (hk : k ≤ out.length) (hhi : ∀ q, k ≤ q → q < out.length → dX X.ad (out.getD q ct).ad < 0) (hlo : k = 0 ∨ ¬ 0 < cmp4 (out.getD (k - 1) ct).ad X.ad) : ((([] ++ out.take k) ++ [X]) ++ out.drop k).Pairwise fun a b : Hd => ¬ dX b.ad a.ad < 0 := by
  have hg : ∀ q (h : q < out.length), out.getD q ct = out[q] := fun q h => by rw [List.getD_eq_getElem?_getD, List.getElem?_eq_getElem h]; rfl
  have hd : ∀ y ∈ out.drop k, dX X.ad y.ad < 0 := fun y hy => by
    obtain ⟨q, hq, rfl⟩ := List.mem_iff_getElem.1 hy
    rw [List.length_drop] at hq
    have := hhi (k + q) (by omega) (by omega)
    rw [hg _ (by omega)] at this
    rw [List.getElem_drop]; exact this
  have ht : ∀ y ∈ out.take k, ¬ dX X.ad y.ad < 0 := fun y hy => by
    obtain ⟨q, hq, rfl⟩ := List.mem_iff_getElem.1 hy
    rw [List.length_take] at hq
    rcases hlo with rfl | hlo
    · omega
    · rw [cmp4_pos, hg _ (by omega)] at hlo
      rw [List.getElem_take]
      by_cases e : q = k - 1
      · subst e; exact hlo
      · rw [List.pairwise_iff_getElem] at hs
        exact le_trA (hs q (k - 1) (by omega) (by omega) (by omega)) hlo
  have h0 := hs
  rw [← List.take_append_drop k out, List.pairwise_append] at h0
  rw [List.nil_append, List.pairwise_append, List.pairwise_append]
  refine ⟨⟨h0.1, List.pairwise_singleton _ _, fun y hy z hz => ?_⟩, h0.2.1, fun y hy z hz => ?_⟩
  · rw [List.mem_singleton.1 hz]; exact ht y hy
  · rcases List.mem_append.1 hy with hy | hy
    · exact h0.2.2 y hy z hz
    · rw [List.mem_singleton.1 hy]; exact lt_leA (hd z hz)
theorem fW {out xs : List Hd} {i k : Nat} (hi : i < xs.length) (hp : out.Perm (xs.take i)) : ((([] ++ out.take k) ++ [xs.getD i ct]) ++ out.drop k).Perm (xs.take (i + 1)) := by
  rw [bH xs ct i hi, List.nil_append, List.append_assoc]
  refine (List.perm_append_comm (l₁ := [xs.getD i ct]) (l₂ := out.drop k)).append_left (out.take k) |>.trans ?_
  rw [← List.append_assoc, List.take_append_drop]
  exact hp.append_right _
theorem stay_hs {hm : Hm} (h : PInv hm) {hosts : List aV} (hok : ∀ n ∈ hosts, bl n = true) : cj (dx hm hosts) = (cj hm).filter fun x => gx hosts x.host := by
  rw [cj, dx, cj, List.filter_map]
  congr 1
  refine List.filter_congr fun p hp => ?_
  obtain ⟨f1, f2⟩ := h.fold p hp
  rw [Bool.eq_iff_iff, decide_eq_true_eq, f1]
  exact (among_iff hok f2).symm
theorem give_form {v : Vp} {hm : Hm} (h : PInv hm) (n : aV) : ∃ a e hm2, bK v hm (bw hm) n = ((a, e), hm2, bw hm2) ∧ hm2.length ≤ hm.length + 1 := by
  obtain ⟨h1, -, h3⟩ := iV (v := v) h n
  exact ⟨_, _, _, Prod.ext rfl (Prod.ext rfl h1), h3⟩
theorem keepF_at {v : Vp} {hc hc2 : Hm} {lost : List aV} {n : aV} {a : Ad} {e : Int} (hG : bK v hc (bw hc) n = ((a, e), hc2, bw hc2)) (hl : ∀ x ∈ lost, bl x = true) (hn : bl n = true) : fI v (hc, lost) n = (hc2, if e ≠ 0 ∧ ¬ gx lost n = true then lost ++ [n] else lost) := by
  have h1 := among_iff hl hn
  unfold fI
  rw [hG]
  refine Prod.ext rfl ?_
  show (if e ≠ 0 ∧ a6 n ∉ lost.map a6 then lost ++ [n] else lost) = _
  by_cases q : a6 n ∈ lost.map a6
  · rw [if_neg (fun z => z.2 q), if_neg (fun z => z.2 (h1.2 q))]
  · by_cases q2 : e ≠ 0
    · rw [if_pos ⟨q2, q⟩, if_pos ⟨q2, fun z => q (h1.1 z)⟩]
    · rw [if_neg (fun z => q2 z.1), if_neg (fun z => q2 z.1)]

theorem c_Cmp04b (a b : Ad) : cO Tryz.prog 120 #[.agg (dN a).toArray, .agg (dN b).toArray] (.int .i64 (cmp4 a b)) := by
 intro w0
 refine bd (ok0 := no) (S := []) (args := [.agg (dN a).toArray, .agg (dN b).toArray]) 37 Tryz.func120 rfl rfl rfl (by simp) (by simp) ?_
 refine ao ?_
 refine ab ?_
 refine bE rfl rfl rfl (fun b1 => ?_)
 refine bE rfl rfl rfl (fun b2 => ?_)
 refine ap (ai rfl) rfl rfl ?_
 refine ae ?_
 refine aj ?_
 refine ao ?_
 refine aP ?_
 refine ao ?_
 refine ab ?_
 refine ap (aK 1 aN rfl rfl rfl rfl) rfl rfl ?_
 refine ap (aK 0 aN rfl rfl rfl rfl) rfl rfl ?_
 refine ap (il (by kernel_rfl) rfl rfl (fq _ _) rfl) rfl rfl ?_
 refine aC (t := 8) rfl (fun h1_2 => ?_) (fun h1_2 => ?_)
 ·skip
  refine ap (ai rfl) rfl rfl ?_
  refine ae ?_
  refine aj ?_
  refine ay rfl ?_
  refine ao ?_
  refine ab ?_
  refine ap (ai rfl) rfl rfl ?_
  refine ae ?_
  refine aj ?_
  refine aF ?_
  refine aL ?_
  refine aA ?_
  refine aJ (ts := [4]) rfl rfl rfl (fun w hw => ?_)
  refine ⟨?_, hw.base⟩
  show Ending.returned (.int _ _) = _
  congr 2
  unfold cmp4
  repeat' split
  all_goals first | rfl | (exfalso; first | omega | (simp_all; done) | (simp_all; omega))
 ·skip
  refine ap (ai rfl) rfl rfl ?_
  refine ae ?_
  refine aj ?_
  refine au rfl ?_
  refine ao ?_
  refine ab ?_
  refine ap (aB dc rfl) rfl rfl ?_
  refine ap (aM 1 gk rfl rfl rfl) rfl rfl ?_
  refine ap (aB dc rfl) rfl rfl ?_
  refine ap (aM 0 gk rfl rfl rfl) rfl rfl ?_
  refine ap (y_neqb Tryz.underlying4 rfl rfl) rfl rfl ?_
  refine aC (t := 14) rfl (fun h3_4 => ?_) (fun h3_4 => ?_)
  ·skip
   refine ap (ai rfl) rfl rfl ?_
   refine ae ?_
   refine aj ?_
   refine ay rfl ?_
   refine ao ?_
   refine ao ?_
   refine ab ?_
   refine ap (aB dc rfl) rfl rfl ?_
   refine ap (aM 0 gk rfl rfl rfl) rfl rfl ?_
   refine bk (t := 16) rfl (fun h4_1 => ?_) (fun h4_1 => ?_)
   ·skip
    refine ae ?_
    refine aj ?_
    refine ay rfl ?_
    refine ao ?_
    refine ab ?_
    refine ap (ai rfl) rfl rfl ?_
    refine ae ?_
    refine aj ?_
    refine aF ?_
    refine aA ?_
    refine aL ?_
    refine aA ?_
    refine aJ (ts := [4]) rfl rfl rfl (fun w hw => ?_)
    refine ⟨?_, hw.base⟩
    show Ending.returned (.int _ _) = _
    congr 2
    unfold cmp4
    repeat' split
    all_goals first | rfl | (exfalso; first | omega | (simp_all; done) | (simp_all; omega))
   ·skip
    refine ae ?_
    refine aj ?_
    refine au rfl ?_
    refine aH ?_
    refine aj ?_
    refine ao ?_
    refine ab ?_
    refine ap (ai rfl) rfl rfl ?_
    refine ae ?_
    refine aj ?_
    refine aF ?_
    refine aL ?_
    refine aA ?_
    refine aJ (ts := [4]) rfl rfl rfl (fun w hw => ?_)
    refine ⟨?_, hw.base⟩
    show Ending.returned (.int _ _) = _
    congr 2
    unfold cmp4
    repeat' split
    all_goals first | rfl | (exfalso; first | omega | (simp_all; done) | (simp_all; omega))
  ·skip
   refine ap (ai rfl) rfl rfl ?_
   refine ae ?_
   refine aj ?_
   refine au rfl ?_
   refine ao ?_
   refine ab ?_
   refine ap (aB dG rfl) rfl rfl ?_
   refine ap (aM 1 cP rfl rfl rfl) rfl rfl ?_
   refine ap (aB dG rfl) rfl rfl ?_
   refine ap (aM 0 cP rfl rfl rfl) rfl rfl ?_
   refine ap (bF rfl rfl) rfl rfl ?_
   refine aC (t := 22) rfl (fun h7_4 => ?_) (fun h7_4 => ?_)
   ·skip
    refine ap (ak rfl) rfl rfl ?_
    refine aO rfl rfl rfl rfl ?_
    refine aO rfl rfl rfl rfl ?_
    refine aO rfl rfl rfl rfl ?_
    refine aO rfl rfl rfl rfl ?_
    refine aO rfl rfl rfl rfl ?_
    refine aO rfl rfl rfl rfl ?_
    refine d9 rfl rfl rfl ?_
    refine d9 rfl rfl rfl ?_
    refine d9 rfl rfl rfl ?_
    refine d9 rfl rfl rfl ?_
    refine d9 rfl rfl rfl ?_
    refine aO rfl rfl rfl rfl ?_
    refine ap (aX rfl rfl) rfl rfl ?_
    refine ap (ai rfl) rfl rfl ?_
    refine ae ?_
    refine aj ?_
    refine ay rfl ?_
    refine ao ?_
    refine ab ?_
    refine ap (ai rfl) rfl rfl ?_
    refine ae ?_
    refine aj ?_
    refine aF ?_
    refine aL ?_
    refine aA ?_
    refine aJ (ts := [4]) rfl rfl rfl (fun w hw => ?_)
    refine ⟨?_, hw.base⟩
    show Ending.returned (.int _ _) = _
    congr 2
    unfold cmp4
    repeat' split
    all_goals first | rfl | (exfalso; first | omega | (simp_all; done) | (simp_all; omega))
   ·skip
    refine ap (ak rfl) rfl rfl ?_
    refine az rfl rfl ?_
    refine ap (aB dG rfl) rfl rfl ?_
    refine az rfl rfl ?_
    refine ap (aM 1 cP rfl rfl rfl) rfl rfl ?_
    refine az rfl rfl ?_
    refine ap (aB dG rfl) rfl rfl ?_
    refine az rfl rfl ?_
    refine ap (aM 0 cP rfl rfl rfl) rfl rfl ?_
    refine az rfl rfl ?_
    refine ap (dB rfl rfl) rfl rfl ?_
    refine aC (t := 28) rfl (fun h7_10 => ?_) (fun h7_10 => ?_)
    ·skip
     refine az rfl rfl ?_
     refine ap (ak rfl) rfl rfl ?_
     refine az rfl rfl ?_
     refine ap (aB cW rfl) rfl rfl ?_
     refine az rfl rfl ?_
     refine ap (aM 1 cP rfl rfl rfl) rfl rfl ?_
     refine az rfl rfl ?_
     refine ap (aB cW rfl) rfl rfl ?_
     refine az rfl rfl ?_
     refine ap (aM 0 cP rfl rfl rfl) rfl rfl ?_
     refine az rfl rfl ?_
     refine ap (bF rfl rfl) rfl rfl ?_
     refine aC (t := 34) rfl (fun h7_16 => ?_) (fun h7_16 => ?_)
     ·skip
      refine az rfl rfl ?_
      refine ap (aX rfl rfl) rfl rfl ?_
      refine ap (aW rfl rfl) rfl rfl ?_
      refine ap (ai rfl) rfl rfl ?_
      refine ae ?_
      refine aj ?_
      refine ay rfl ?_
      refine ao ?_
      refine ab ?_
      refine ap (ai rfl) rfl rfl ?_
      refine ae ?_
      refine aj ?_
      refine aF ?_
      refine aL ?_
      refine aA ?_
      refine aJ (ts := [4]) rfl rfl rfl (fun w hw => ?_)
      refine ⟨?_, hw.base⟩
      show Ending.returned (.int _ _) = _
      congr 2
      unfold cmp4
      repeat' split
      all_goals first | rfl | (exfalso; first | omega | (simp_all; done) | (simp_all; omega))
     ·skip
      refine az rfl rfl ?_
      refine ap (aX rfl rfl) rfl rfl ?_
      refine ap (aW rfl rfl) rfl rfl ?_
      refine ap (ai rfl) rfl rfl ?_
      refine ae ?_
      refine aj ?_
      refine au rfl ?_
      refine aH ?_
      refine bq ?_
      refine aj ?_
      refine ao ?_
      refine ab ?_
      refine ap (ai rfl) rfl rfl ?_
      refine ae ?_
      refine aj ?_
      refine aF ?_
      refine aJ (ts := [4]) rfl rfl rfl (fun w hw => ?_)
      refine ⟨?_, hw.base⟩
      show Ending.returned (.int _ _) = _
      congr 2
      unfold cmp4
      repeat' split
      all_goals first | rfl | (exfalso; first | omega | (simp_all; done) | (simp_all; omega))
    ·skip
     refine az rfl rfl ?_
     refine ap (ak rfl) rfl rfl ?_
     refine aO rfl rfl rfl rfl ?_
     refine aO rfl rfl rfl rfl ?_
     refine aO rfl rfl rfl rfl ?_
     refine aO rfl rfl rfl rfl ?_
     refine aO rfl rfl rfl rfl ?_
     refine az rfl rfl ?_
     refine ap (aW rfl rfl) rfl rfl ?_
     refine ap (aW rfl rfl) rfl rfl ?_
     refine ap (ai rfl) rfl rfl ?_
     refine ae ?_
     refine aj ?_
     refine au rfl ?_
     refine aH ?_
     refine bq ?_
     refine aj ?_
     refine ao ?_
     refine ab ?_
     refine ap (ai rfl) rfl rfl ?_
     refine ae ?_
     refine aj ?_
     refine aF ?_
     refine aJ (ts := [4]) rfl rfl rfl (fun w hw => ?_)
     refine ⟨?_, hw.base⟩
     show Ending.returned (.int _ _) = _
     congr 2
     unfold cmp4
     repeat' split
     all_goals first | rfl | (exfalso; first | omega | (simp_all; done) | (simp_all; omega))

set_option maxRecDepth 100000 in
set_option maxHeartbeats 4000000 in
theorem c_oAll (o : Rp) (Ah : Option Addr) (ch : Nat) (hm : Hm) (hml : hm.length ≤ 1000000) : RC Tryz.prog 50 #[.pointer (some ⟨o.b, 0, none⟩)] [Ch.row o.b (rpC o Ah (cj hm).length ch) 174, Ch.rd Ah 4 d4 (cj hm)] (α := {z : List Hd × Option Addr × Nat // z.1.Perm (cj hm) ∧ z.1.Pairwise fun a b => ¬ dX b.ad a.ad < 0}) (fun z => .slice z.1.2.1 z.1.1.length z.1.2.2) (fun z => [Ch.ls z.1.2.1 z.1.2.2 46 4 d4 z.1.1]) := by
 refine bi (args := [.pointer (some ⟨o.b, 0, none⟩)]) 58 Tryz.func50 rfl rfl rfl (fun w0 => ?_)
 have hhl := cK hm
 refine ao ?_
 refine ab ?_
 refine ap (ai rfl) rfl rfl ?_
 refine ae ?_
 refine aj ?_
 refine ao ?_
 refine ab ?_
 refine ap (ai rfl) rfl rfl ?_
 refine ae ?_
 refine aj ?_
 refine ao ?_
 refine ao ?_
 refine ab ?_
 refine ap (ai rfl) rfl rfl ?_
 refine ae ?_
 refine aj ?_
 refine aP ?_
 refine cH (fun w h => h.nilsl 46 4) ?_
 refine d6 (σ := Nat × List Hd × Option Addr × Nat) [3, 4, 5, 6, 7, 8, 9, 10, 11, 12, 13, 14, 15, 16, 17, 18, 19, 20, 21, 22, 23, 24, 25, 26, 27, 28, 29, 30, 31, 32, 33, 34, 35, 36, 37, 38, 39, 40, 41, 42, 43, 44, 45, 46, 47, 48, 49, 50, 51, 52, 53, 54, 55, 56] (fun z => z.1 ≤ (cj hm).length ∧ z.2.1.Perm ((cj hm).take z.1) ∧ z.2.1.Pairwise fun a b => ¬ dX b.ad a.ad < 0) (fun z => (cj hm).length - z.1) (fun z => [(4, .int .i64 z.1), (3, .slice z.2.2.1 z.2.1.length z.2.2.2)]) (fun z => Ch.ls z.2.2.1 z.2.2.2 46 4 d4 z.2.1) ((0, [], none, 0)) ?_ ⟨rfl, rfl, trivial⟩ rfl (fun z hI => ?_)
 exact ⟨Nat.zero_le _, .refl _, .nil⟩
 obtain ⟨i, out, Aq, cq⟩ := z
 dsimp only at hI ⊢
 refine ao ?_
 refine ao ?_
 refine ab ?_
 refine ap (ak rfl) rfl rfl ?_
 refine ap (ak rfl) rfl rfl ?_
 refine ap (aR rfl) rfl rfl ?_
 refine ap (aB bU rfl) rfl rfl ?_
 refine ap (bp 0 dl rfl rfl rfl) rfl rfl ?_
 refine ap (bM Tryz.underlying25 rfl) rfl rfl ?_
 refine ap (bF rfl rfl) rfl rfl ?_
 refine aC (t := 12) rfl (fun h3_6 => ?_) (fun h3_6 => ?_)
 have hi : i < (cj hm).length := by omega
 have hol : out.length = i := by rw [hI.2.1.length_eq, List.length_take]; omega
 have hIo := hI
 refine ae ?_
 refine aj ?_
 refine ay rfl ?_
 refine aH ?_
 refine aj ?_
 refine ao ?_
 refine aP ?_
 refine ao ?_
 refine ab ?_
 refine ap (ak rfl) rfl rfl ?_
 refine ap (bM Tryz.underlying25 rfl) rfl rfl ?_
 refine ap (ai rfl) rfl rfl ?_
 refine ae ?_
 refine aj ?_
 refine ao ?_
 refine aP ?_
 refine b8 (σ := Nat) [5, 17, 18, 19, 20, 21, 22, 23, 24, 25, 26, 27, 28, 29, 30, 31, 32, 33, 34, 35, 36, 37, 38] (fun k => k ≤ out.length ∧ ∀ q, k ≤ q → q < out.length → dX ((cj hm).getD i ct).ad (out.getD q ct).ad < 0) (fun k => k) (fun k => [(5, .int .i64 k)]) (out.length) ?_ ⟨rfl, trivial⟩ (fun k hI => ?_)
 exact ⟨Nat.le_refl _, fun q h1 h2 => by omega⟩
 refine ao ?_
 refine ao ?_
 refine de 20 rfl mixed ?_
 refine ax (i := 0) rfl ah (ak rfl) aw aw rfl (aa (aa (av (aq (aa (aq (aa (av (aq (aa ar)))))))))) (by kernel_rfl) rfl ?_
 refine ax (i := 1) rfl ah (eI rfl rfl) aw aw rfl (aa (aa (av (aq (aa (aq (aa (av (aq (aa ar)))))))))) (by kernel_rfl) rfl ?_
 refine g5 (t := 18) rfl (fun h6_1 => ?_) (fun h6_1 => ?_)
 refine ax (i := 2) rfl ah (ak rfl) aw aw rfl (aa (aa (av (aq (aa (aq (aa (av (aq (aa ar)))))))))) (by kernel_rfl) rfl ?_
 refine ax (i := 3) rfl (aZ rfl rfl) (ak rfl) aw aw rfl (aa (aa (av (aq (aa (aq (aa (av (aq (aa ar)))))))))) (by kernel_rfl) rfl ?_
 refine ax (i := 4) rfl (aZ rfl rfl) (ak rfl) aw aw rfl (aa (aa (av (aq (aa (aq (aa (av (aq (aa ar)))))))))) (by kernel_rfl) rfl ?_
 refine ax (i := 5) rfl (aZ rfl rfl) (fM rfl rfl (by omega) (by omega)) aw aw rfl (aa (aa (av (aq (aa (aq (aa (av (aq (aa ar)))))))))) (by kernel_rfl) rfl ?_
 refine ax (i := 6) rfl (aZ rfl rfl) (bP (k := k - 1) Tryz.underlying25 bh rfl rfl (ek 0 rfl) (by omega) (by omega)) aw aw rfl (aa (aa (av (aq (aa (aq (aa (av (aq (aa ar)))))))))) (by kernel_rfl) rfl ?_
 refine ax (i := 7) rfl (aZ rfl rfl) (aB dU rfl) aw aw rfl (aa (aa (av (aq (aa (aq (aa (av (aq (aa ar)))))))))) (by kernel_rfl) rfl ?_
 refine ax (i := 8) rfl (aZ rfl rfl) (iw 1 bI ct aN rfl (ek 0 rfl) (by omega) rfl rfl rfl) aw aw rfl (aa (aa (av (aq (aa (aq (aa (av (aq (aa ar)))))))))) (by kernel_rfl) rfl ?_
 refine ax (i := 9) rfl (aZ rfl rfl) (ak rfl) aw aw rfl (aa (aa (av (aq (aa (aq (aa (av (aq (aa ar)))))))))) (by kernel_rfl) rfl ?_
 refine ax (i := 10) rfl (aZ rfl rfl) (aR rfl) aw aw rfl (aa (aa (av (aq (aa (aq (aa (av (aq (aa ar)))))))))) (by kernel_rfl) rfl ?_
 refine ax (i := 11) rfl (aZ rfl rfl) (aB bU rfl) aw aw rfl (aa (aa (av (aq (aa (aq (aa (av (aq (aa ar)))))))))) (by kernel_rfl) rfl ?_
 refine ax (i := 12) rfl (aZ rfl rfl) (bp 0 dl rfl rfl rfl) aw aw rfl (aa (aa (av (aq (aa (aq (aa (av (aq (aa ar)))))))))) (by kernel_rfl) rfl ?_
 refine ax (i := 13) rfl (aZ rfl rfl) (ak rfl) aw aw rfl (aa (aa (av (aq (aa (aq (aa (av (aq (aa ar)))))))))) (by kernel_rfl) rfl ?_
 refine ax (i := 14) rfl (aZ rfl rfl) (bP  Tryz.underlying25 bh rfl rfl (bY 1 rfl) rfl (by omega)) aw aw rfl (aa (aa (av (aq (aa (aq (aa (av (aq (aa ar)))))))))) (by kernel_rfl) rfl ?_
 refine ax (i := 15) rfl (aZ rfl rfl) (aB dU rfl) aw aw rfl (aa (aa (av (aq (aa (aq (aa (av (aq (aa ar)))))))))) (by kernel_rfl) rfl ?_
 refine ax (i := 16) rfl (aZ rfl rfl) (iw 1 bI ct aN rfl (bY 1 rfl) (by omega) rfl rfl rfl) aw aw rfl (aa (aa (av (aq (aa (aq (aa (av (aq (aa ar)))))))))) (by kernel_rfl) rfl ?_
 refine bD (i := 17) rfl rfl rfl (br rfl ent_120) (by kernel_rfl) rfl ?_
 refine az rfl rfl ?_
 refine aS rfl ent_120 (c_Cmp04b (out.getD (k - 1) ct).ad ((cj hm).getD i ct).ad) rfl ?_
 refine ae ?_
 refine bc aw ?_
 refine ax (i := 18) rfl (aZ rfl rfl) (eI rfl rfl) aw aw rfl (aa (aa (av (aq (aa (aq (aa (av (aq (aa ar)))))))))) (by kernel_rfl) rfl ?_
 refine g5 (t := 35) rfl (fun h6_18 => ?_) (fun h6_18 => ?_)
 refine ax (i := 19) rfl ah (aX rfl rfl) aw aw rfl (aa (aa (av (aq (aa (aq (aa (av (aq (aa ar)))))))))) (by kernel_rfl) rfl ?_
 refine bQ (by kernel_rfl) ?_
 refine aj ?_
 refine ay rfl ?_
 refine aH ?_
 refine aj ?_
 refine aP ?_
 refine ab ?_
 refine ap (ak rfl) rfl rfl ?_
 refine ap (fM rfl rfl (by omega) (by omega)) rfl rfl ?_
 refine ap (ai rfl) rfl rfl ?_
 refine ae ?_
 refine bq ?_
 refine bo (k - 1) ?_ ?_ ⟨lk rfl (congrArg (Value.int .i64) (by omega)), trivial⟩ (by repeat (first | exact trivial | refine ⟨rfl, ?_⟩)) aw
 refine ⟨by omega, fun q h1 h2 => ?_⟩
 by_cases e : q = k - 1
 · rw [e]; exact cmp4_pos.1 h6_18
 · exact hI.2 q (by omega) h2
 omega
 refine ax (i := 19) rfl ah (aX rfl rfl) aw aw rfl (aa (aa (av (aq (aa (aq (aa (av (aq (aa ar)))))))))) (by kernel_rfl) rfl ?_
 refine bQ (by kernel_rfl) ?_
 refine aj ?_
 refine au rfl ?_
 refine bC ?_
 refine aY ?_
 refine aU ?_
 refine a8 ?_
 refine aj ?_
 refine de 19 rfl mixed ?_
 apply wu_k1 #[true, true, true, true, false, true, true, true, true, true, true, true, false, false, true, true, true, false, false] 5
 intro K8_1
 apply wu_k0 #[false, true, true, true, false, true, true, true, true, true, true, true, false, false, true, true, true, false, false] 6
 intro K8_0
 refine ax (i := 1) rfl ah (ak rfl) aw aw rfl (aq (aa (av (aq (aa ar))))) (by kernel_rfl) rfl ?_
 refine ax (i := 2) rfl ah (ak rfl) aw aw rfl (aq (aa (av (aq (aa ar))))) (by kernel_rfl) rfl ?_
 refine ax (i := 3) rfl ah (y_takes (m := k) Tryz.underlying25 bh rfl rfl (by omega) (by omega) (cap_L 0 rfl)) aw aw rfl (aq (aa (av (aq (aa ar))))) (by kernel_rfl) rfl ?_
 refine ax (i := 5) rfl ah (ak rfl) aw aw rfl (aq (aa (av (aq (aa ar))))) (by kernel_rfl) rfl ?_
 refine ax (i := 6) rfl ah (aR rfl) aw aw rfl (aq (aa (av (aq (aa ar))))) (by kernel_rfl) rfl ?_
 refine ax (i := 7) rfl ah (aB bU rfl) aw aw rfl (aq (aa (av (aq (aa ar))))) (by kernel_rfl) rfl ?_
 refine ax (i := 8) rfl ah (bp 0 dl rfl rfl rfl) aw aw rfl (aq (aa (av (aq (aa ar))))) (by kernel_rfl) rfl ?_
 refine ax (i := 9) rfl ah (ak rfl) aw aw rfl (aq (aa (av (aq (aa ar))))) (by kernel_rfl) rfl ?_
 refine ax (i := 10) rfl ah (bP  Tryz.underlying25 bh rfl rfl (bY 1 rfl) rfl (by omega)) aw aw rfl (aq (aa (av (aq (aa ar))))) (by kernel_rfl) rfl ?_
 refine ax (i := 11) rfl ah (dV bI ct bh rfl (bY 1 rfl) (by omega) rfl rfl rfl) aw aw rfl (aq (aa (av (aq (aa ar))))) (by kernel_rfl) rfl ?_
 refine ax (i := 14) rfl ah (ak rfl) aw aw rfl (aq (aa (av (aq (aa ar))))) (by kernel_rfl) rfl ?_
 refine ax (i := 15) rfl ah (ak rfl) aw aw rfl (aq (aa (av (aq (aa ar))))) (by kernel_rfl) rfl ?_
 refine ax (i := 16) rfl ah (y_drop (m := k) Tryz.underlying25 bh rfl rfl (by omega) (by omega)) aw aw rfl (aq (aa (av (aq (aa ar))))) (by kernel_rfl) rfl ?_
 refine wu_lst (listed' := #[false, true, true, true, false, true, true, true, true, true, true, true, false, false, true, true, true, false, false]) (by kernel_rfl) ?_
 exact K8_0 _ iB
 refine eX (js := [0, 12]) (by kernel_rfl) rfl ?_
 refine bZ (i := 0) rfl rfl rfl (fun _ _ _ => a7 (by kernel_rfl)) rfl ?_ ?_
 refine du (vs := []) (([] : List Hd) : List (Hd)) bI Tryz.underlying25 bh rfl rfl rfl rfl rfl rfl (fun As1 => ?_)
 refine ae ?_
 refine bc (bS 1) ?_
 refine wu_lst (listed' := #[true, true, true, true, false, true, true, true, true, true, true, true, false, false, true, true, true, false, false]) (by kernel_rfl) ?_
 exact K8_1 As1 _ iB
 refine bZ (i := 12) rfl rfl rfl (fun _ _ _ => a7 (by kernel_rfl)) rfl ?_ ?_
 refine du (vs := [_]) ([(cj hm).getD i ct] : List (Hd)) bI Tryz.underlying25 bh rfl rfl rfl rfl rfl rfl (fun As2 => ?_)
 refine ae ?_
 refine bc (bS 1) ?_
 refine bD (i := 0) rfl rfl rfl (fun _ _ _ => a7 (by kernel_rfl)) (by kernel_rfl) rfl ?_
 refine du (vs := []) (([] : List Hd) : List (Hd)) bI Tryz.underlying25 bh rfl rfl rfl rfl rfl rfl (fun As3 => ?_)
 refine ae ?_
 refine bc (bS 2) ?_
 refine bD (i := 4) rfl rfl rfl (fun _ _ _ => a7 (by kernel_rfl)) (by kernel_rfl) rfl ?_
 refine cg (enc := d4) (sz := 4) (out.take k) Tryz.underlying25 bh rfl rfl rfl (fun A c => .z) (fun w hw => RsP.src Tryz.underlying25 (fp bI 2 rfl (by omega) hw).1) (by simp; omega) (by simp; omega) rfl (fun A3 c3 => ?_)
 refine ae ?_
 refine bc (bS 2) ?_
 refine bD (i := 13) rfl rfl rfl (fun _ _ _ => a7 (by kernel_rfl)) (by kernel_rfl) rfl ?_
 refine cg (enc := d4) (sz := 4) [(cj hm).getD i ct] Tryz.underlying25 bh rfl rfl rfl (fun A c => .z) (eZ 1 Tryz.underlying25 rfl) (by simp; omega) (by simp; omega) rfl (fun A4 c4 => ?_)
 refine ae ?_
 refine bc (bS 2) ?_
 refine bD (i := 17) rfl rfl rfl (fun _ _ _ => a7 (by kernel_rfl)) (by kernel_rfl) rfl ?_
 refine cg (enc := d4) (sz := 4) (out.drop k) Tryz.underlying25 bh rfl rfl rfl (fun A c => .z) (fun w hw => RsP.src Tryz.underlying25 (fj bI 2 rfl (by omega) hw).1) (by simp; omega) (by simp; omega) rfl (fun A5 c5 => ?_)
 refine ae ?_
 refine bc (bS 2) ?_
 refine ax (i := 18) rfl ah (ai rfl) (bS 2) aw rfl (aq (aa (av (aq (aa ar))))) (by kernel_rfl) rfl ?_
 refine bQ (by kernel_rfl) ?_
 refine bq ?_
 refine aj ?_
 refine ab ?_
 refine ap (ak rfl) rfl rfl ?_
 refine ap (bg rfl rfl (by omega) (by omega)) rfl rfl ?_
 refine ap (ai rfl) rfl rfl ?_
 refine ae ?_
 refine bo ((i + 1, ((([] ++ out.take k) ++ [(cj hm).getD i ct]) ++ out.drop k), A5, c5)) ?_ ?_ ⟨rfl, rfl, trivial⟩ (by repeat (first | exact trivial | refine ⟨rfl, ?_⟩)) (fun w h => (h.weak (.cons_cons _ (.cons _ (.cons _ .slnil))) (fun s hs => hs)))
 exact ⟨by show i + 1 ≤ _; omega, fW hi hIo.2.1, ins_ok hIo.2.2 hI.1 hI.2 (by first | exact .inl (by omega) | exact .inr h6_18)⟩
 show (cj hm).length - (i + 1) < (cj hm).length - i
 omega
 exact d8
 intro As1
 refine eX (js := [4, 12]) (by kernel_rfl) rfl ?_
 refine bZ (i := 4) rfl rfl rfl (fun _ _ _ => a7 (by kernel_rfl)) rfl ?_ ?_
 refine cg (enc := d4) (sz := 4) (out.take k) Tryz.underlying25 bh rfl rfl rfl (fun A c => .z) (fun w hw => RsP.src Tryz.underlying25 (fp bI 1 rfl (by omega) hw).1) (by simp; omega) (by simp; omega) rfl (fun A6 c6 => ?_)
 refine ae ?_
 refine bc (bS 1) ?_
 refine bD (i := 12) rfl rfl rfl (fun _ _ _ => a7 (by kernel_rfl)) (by kernel_rfl) rfl ?_
 refine du (vs := [_]) ([(cj hm).getD i ct] : List (Hd)) bI Tryz.underlying25 bh rfl rfl rfl rfl rfl rfl (fun As8 => ?_)
 refine ae ?_
 refine bc (bS 2) ?_
 refine bD (i := 13) rfl rfl rfl (fun _ _ _ => a7 (by kernel_rfl)) (by kernel_rfl) rfl ?_
 refine cg (enc := d4) (sz := 4) [(cj hm).getD i ct] Tryz.underlying25 bh rfl rfl rfl (fun A c => (.s (.z))) (eZ 0 Tryz.underlying25 rfl) (by simp; omega) (by simp; omega) rfl (fun A8 c8 => ?_)
 refine ae ?_
 refine bc (bS 2) ?_
 refine bD (i := 17) rfl rfl rfl (fun _ _ _ => a7 (by kernel_rfl)) (by kernel_rfl) rfl ?_
 refine cg (enc := d4) (sz := 4) (out.drop k) Tryz.underlying25 bh rfl rfl rfl (fun A c => (.s (.z))) (fun w hw => RsP.src Tryz.underlying25 (fj bI 2 rfl (by omega) hw).1) (by simp; omega) (by simp; omega) rfl (fun A9 c9 => ?_)
 refine ae ?_
 refine bc (bS 2) ?_
 refine ax (i := 18) rfl ah (ai rfl) (bS 2) aw rfl (aq (aa (av (aq (aa ar))))) (by kernel_rfl) rfl ?_
 refine bQ (by kernel_rfl) ?_
 refine bq ?_
 refine aj ?_
 refine ab ?_
 refine ap (ak rfl) rfl rfl ?_
 refine ap (bg rfl rfl (by omega) (by omega)) rfl rfl ?_
 refine ap (ai rfl) rfl rfl ?_
 refine ae ?_
 refine bo ((i + 1, ((([] ++ out.take k) ++ [(cj hm).getD i ct]) ++ out.drop k), A9, c9)) ?_ ?_ ⟨rfl, rfl, trivial⟩ (by repeat (first | exact trivial | refine ⟨rfl, ?_⟩)) (fun w h => (h.weak (.cons _ (.cons_cons _ (.cons _ .slnil))) (fun s hs => hs)))
 exact ⟨by show i + 1 ≤ _; omega, fW hi hIo.2.1, ins_ok hIo.2.2 hI.1 hI.2 (by first | exact .inl (by omega) | exact .inr h6_18)⟩
 show (cj hm).length - (i + 1) < (cj hm).length - i
 omega
 refine bZ (i := 12) rfl rfl rfl (fun _ _ _ => a7 (by kernel_rfl)) rfl ?_ ?_
 refine du (vs := [_]) ([(cj hm).getD i ct] : List (Hd)) bI Tryz.underlying25 bh rfl rfl rfl rfl rfl rfl (fun As11 => ?_)
 refine ae ?_
 refine bc (bS 2) ?_
 refine bD (i := 4) rfl rfl rfl (fun _ _ _ => a7 (by kernel_rfl)) (by kernel_rfl) rfl ?_
 refine cg (enc := d4) (sz := 4) (out.take k) Tryz.underlying25 bh rfl rfl rfl (fun A c => (.s (.z))) (fun w hw => RsP.src Tryz.underlying25 (fp bI 2 rfl (by omega) hw).1) (by simp; omega) (by simp; omega) rfl (fun A11 c11 => ?_)
 refine ae ?_
 refine bc (bS 2) ?_
 refine bD (i := 13) rfl rfl rfl (fun _ _ _ => a7 (by kernel_rfl)) (by kernel_rfl) rfl ?_
 refine cg (enc := d4) (sz := 4) [(cj hm).getD i ct] Tryz.underlying25 bh rfl rfl rfl (fun A c => (.s (.z))) (eZ 0 Tryz.underlying25 rfl) (by simp; omega) (by simp; omega) rfl (fun A12 c12 => ?_)
 refine ae ?_
 refine bc (bS 2) ?_
 refine bD (i := 17) rfl rfl rfl (fun _ _ _ => a7 (by kernel_rfl)) (by kernel_rfl) rfl ?_
 refine cg (enc := d4) (sz := 4) (out.drop k) Tryz.underlying25 bh rfl rfl rfl (fun A c => (.s (.z))) (fun w hw => RsP.src Tryz.underlying25 (fj bI 2 rfl (by omega) hw).1) (by simp; omega) (by simp; omega) rfl (fun A13 c13 => ?_)
 refine ae ?_
 refine bc (bS 2) ?_
 refine ax (i := 18) rfl ah (ai rfl) (bS 2) aw rfl (aq (aa (av (aq (aa ar))))) (by kernel_rfl) rfl ?_
 refine bQ (by kernel_rfl) ?_
 refine bq ?_
 refine aj ?_
 refine ab ?_
 refine ap (ak rfl) rfl rfl ?_
 refine ap (bg rfl rfl (by omega) (by omega)) rfl rfl ?_
 refine ap (ai rfl) rfl rfl ?_
 refine ae ?_
 refine bo ((i + 1, ((([] ++ out.take k) ++ [(cj hm).getD i ct]) ++ out.drop k), A13, c13)) ?_ ?_ ⟨rfl, rfl, trivial⟩ (by repeat (first | exact trivial | refine ⟨rfl, ?_⟩)) (fun w h => (h.weak (.cons _ (.cons_cons _ (.cons _ .slnil))) (fun s hs => hs)))
 exact ⟨by show i + 1 ≤ _; omega, fW hi hIo.2.1, ins_ok hIo.2.2 hI.1 hI.2 (by first | exact .inl (by omega) | exact .inr h6_18)⟩
 show (cj hm).length - (i + 1) < (cj hm).length - i
 omega
 exact d8
 refine ax (i := 2) rfl ah (ak rfl) aw aw rfl (aa (aa (av (aq (aa (aq (aa (av (aq (aa ar)))))))))) (by kernel_rfl) rfl ?_
 refine dY (i := 3) rfl (aG rfl rfl rfl) aw rfl (aa (aa (av (aq (aa (aq (aa (av (aq (aa ar)))))))))) (by kernel_rfl) rfl ?_
 refine dY (i := 4) rfl (aG rfl rfl rfl) aw rfl (aa (aa (av (aq (aa (aq (aa (av (aq (aa ar)))))))))) (by kernel_rfl) rfl ?_
 refine dY (i := 5) rfl (aG rfl rfl rfl) aw rfl (aa (aa (av (aq (aa (aq (aa (av (aq (aa ar)))))))))) (by kernel_rfl) rfl ?_
 refine dY (i := 6) rfl (aG rfl rfl rfl) aw rfl (aa (aa (av (aq (aa (aq (aa (av (aq (aa ar)))))))))) (by kernel_rfl) rfl ?_
 refine dY (i := 7) rfl (aG rfl rfl rfl) aw rfl (aa (aa (av (aq (aa (aq (aa (av (aq (aa ar)))))))))) (by kernel_rfl) rfl ?_
 refine dY (i := 8) rfl (aG rfl rfl rfl) aw rfl (aa (aa (av (aq (aa (aq (aa (av (aq (aa ar)))))))))) (by kernel_rfl) rfl ?_
 refine dY (i := 9) rfl (aG rfl rfl rfl) aw rfl (aa (aa (av (aq (aa (aq (aa (av (aq (aa ar)))))))))) (by kernel_rfl) rfl ?_
 refine dY (i := 10) rfl (aG rfl rfl rfl) aw rfl (aa (aa (av (aq (aa (aq (aa (av (aq (aa ar)))))))))) (by kernel_rfl) rfl ?_
 refine dY (i := 11) rfl (aG rfl rfl rfl) aw rfl (aa (aa (av (aq (aa (aq (aa (av (aq (aa ar)))))))))) (by kernel_rfl) rfl ?_
 refine dY (i := 12) rfl (aG rfl rfl rfl) aw rfl (aa (aa (av (aq (aa (aq (aa (av (aq (aa ar)))))))))) (by kernel_rfl) rfl ?_
 refine dY (i := 13) rfl (aG rfl rfl rfl) aw rfl (aa (aa (av (aq (aa (aq (aa (av (aq (aa ar)))))))))) (by kernel_rfl) rfl ?_
 refine dY (i := 14) rfl (aG rfl rfl rfl) aw rfl (aa (aa (av (aq (aa (aq (aa (av (aq (aa ar)))))))))) (by kernel_rfl) rfl ?_
 refine dY (i := 15) rfl (aG rfl rfl rfl) aw rfl (aa (aa (av (aq (aa (aq (aa (av (aq (aa ar)))))))))) (by kernel_rfl) rfl ?_
 refine dY (i := 16) rfl (aG rfl rfl rfl) aw rfl (aa (aa (av (aq (aa (aq (aa (av (aq (aa ar)))))))))) (by kernel_rfl) rfl ?_
 refine dY (i := 17) rfl (aG rfl rfl rfl) aw rfl (aa (aa (av (aq (aa (aq (aa (av (aq (aa ar)))))))))) (by kernel_rfl) rfl ?_
 refine dY (i := 18) rfl (aG rfl rfl rfl) aw rfl (aa (aa (av (aq (aa (aq (aa (av (aq (aa ar)))))))))) (by kernel_rfl) rfl ?_
 refine ax (i := 19) rfl ah (aW rfl rfl) aw aw rfl (aa (aa (av (aq (aa (aq (aa (av (aq (aa ar)))))))))) (by kernel_rfl) rfl ?_
 refine bQ (by kernel_rfl) ?_
 refine aj ?_
 refine au rfl ?_
 refine bC ?_
 refine aY ?_
 refine aU ?_
 refine a8 ?_
 refine aj ?_
 refine de 19 rfl mixed ?_
 apply wu_k1 #[true, true, true, true, false, true, true, true, true, true, true, true, false, false, true, true, true, false, false] 5
 intro K8_1
 apply wu_k0 #[false, true, true, true, false, true, true, true, true, true, true, true, false, false, true, true, true, false, false] 6
 intro K8_0
 refine ax (i := 1) rfl ah (ak rfl) aw aw rfl (aq (aa (av (aq (aa ar))))) (by kernel_rfl) rfl ?_
 refine ax (i := 2) rfl ah (ak rfl) aw aw rfl (aq (aa (av (aq (aa ar))))) (by kernel_rfl) rfl ?_
 refine ax (i := 3) rfl ah (y_takes (m := k) Tryz.underlying25 bh rfl rfl (by omega) (by omega) (cap_L 0 rfl)) aw aw rfl (aq (aa (av (aq (aa ar))))) (by kernel_rfl) rfl ?_
 refine ax (i := 5) rfl ah (ak rfl) aw aw rfl (aq (aa (av (aq (aa ar))))) (by kernel_rfl) rfl ?_
 refine ax (i := 6) rfl ah (aR rfl) aw aw rfl (aq (aa (av (aq (aa ar))))) (by kernel_rfl) rfl ?_
 refine ax (i := 7) rfl ah (aB bU rfl) aw aw rfl (aq (aa (av (aq (aa ar))))) (by kernel_rfl) rfl ?_
 refine ax (i := 8) rfl ah (bp 0 dl rfl rfl rfl) aw aw rfl (aq (aa (av (aq (aa ar))))) (by kernel_rfl) rfl ?_
 refine ax (i := 9) rfl ah (ak rfl) aw aw rfl (aq (aa (av (aq (aa ar))))) (by kernel_rfl) rfl ?_
 refine ax (i := 10) rfl ah (bP  Tryz.underlying25 bh rfl rfl (bY 1 rfl) rfl (by omega)) aw aw rfl (aq (aa (av (aq (aa ar))))) (by kernel_rfl) rfl ?_
 refine ax (i := 11) rfl ah (dV bI ct bh rfl (bY 1 rfl) (by omega) rfl rfl rfl) aw aw rfl (aq (aa (av (aq (aa ar))))) (by kernel_rfl) rfl ?_
 refine ax (i := 14) rfl ah (ak rfl) aw aw rfl (aq (aa (av (aq (aa ar))))) (by kernel_rfl) rfl ?_
 refine ax (i := 15) rfl ah (ak rfl) aw aw rfl (aq (aa (av (aq (aa ar))))) (by kernel_rfl) rfl ?_
 refine ax (i := 16) rfl ah (y_drop (m := k) Tryz.underlying25 bh rfl rfl (by omega) (by omega)) aw aw rfl (aq (aa (av (aq (aa ar))))) (by kernel_rfl) rfl ?_
 refine wu_lst (listed' := #[false, true, true, true, false, true, true, true, true, true, true, true, false, false, true, true, true, false, false]) (by kernel_rfl) ?_
 exact K8_0 _ iB
 refine eX (js := [0, 12]) (by kernel_rfl) rfl ?_
 refine bZ (i := 0) rfl rfl rfl (fun _ _ _ => a7 (by kernel_rfl)) rfl ?_ ?_
 refine du (vs := []) (([] : List Hd) : List (Hd)) bI Tryz.underlying25 bh rfl rfl rfl rfl rfl rfl (fun As15 => ?_)
 refine ae ?_
 refine bc (bS 1) ?_
 refine wu_lst (listed' := #[true, true, true, true, false, true, true, true, true, true, true, true, false, false, true, true, true, false, false]) (by kernel_rfl) ?_
 exact K8_1 As15 _ iB
 refine bZ (i := 12) rfl rfl rfl (fun _ _ _ => a7 (by kernel_rfl)) rfl ?_ ?_
 refine du (vs := [_]) ([(cj hm).getD i ct] : List (Hd)) bI Tryz.underlying25 bh rfl rfl rfl rfl rfl rfl (fun As16 => ?_)
 refine ae ?_
 refine bc (bS 1) ?_
 refine bD (i := 0) rfl rfl rfl (fun _ _ _ => a7 (by kernel_rfl)) (by kernel_rfl) rfl ?_
 refine du (vs := []) (([] : List Hd) : List (Hd)) bI Tryz.underlying25 bh rfl rfl rfl rfl rfl rfl (fun As17 => ?_)
 refine ae ?_
 refine bc (bS 2) ?_
 refine bD (i := 4) rfl rfl rfl (fun _ _ _ => a7 (by kernel_rfl)) (by kernel_rfl) rfl ?_
 refine cg (enc := d4) (sz := 4) (out.take k) Tryz.underlying25 bh rfl rfl rfl (fun A c => .z) (fun w hw => RsP.src Tryz.underlying25 (fp bI 2 rfl (by omega) hw).1) (by simp; omega) (by simp; omega) rfl (fun A17 c17 => ?_)
 refine ae ?_
 refine bc (bS 2) ?_
 refine bD (i := 13) rfl rfl rfl (fun _ _ _ => a7 (by kernel_rfl)) (by kernel_rfl) rfl ?_
 refine cg (enc := d4) (sz := 4) [(cj hm).getD i ct] Tryz.underlying25 bh rfl rfl rfl (fun A c => .z) (eZ 1 Tryz.underlying25 rfl) (by simp; omega) (by simp; omega) rfl (fun A18 c18 => ?_)
 refine ae ?_
 refine bc (bS 2) ?_
 refine bD (i := 17) rfl rfl rfl (fun _ _ _ => a7 (by kernel_rfl)) (by kernel_rfl) rfl ?_
 refine cg (enc := d4) (sz := 4) (out.drop k) Tryz.underlying25 bh rfl rfl rfl (fun A c => .z) (fun w hw => RsP.src Tryz.underlying25 (fj bI 2 rfl (by omega) hw).1) (by simp; omega) (by simp; omega) rfl (fun A19 c19 => ?_)
 refine ae ?_
 refine bc (bS 2) ?_
 refine ax (i := 18) rfl ah (ai rfl) (bS 2) aw rfl (aq (aa (av (aq (aa ar))))) (by kernel_rfl) rfl ?_
 refine bQ (by kernel_rfl) ?_
 refine bq ?_
 refine aj ?_
 refine ab ?_
 refine ap (ak rfl) rfl rfl ?_
 refine ap (bg rfl rfl (by omega) (by omega)) rfl rfl ?_
 refine ap (ai rfl) rfl rfl ?_
 refine ae ?_
 refine bo ((i + 1, ((([] ++ out.take k) ++ [(cj hm).getD i ct]) ++ out.drop k), A19, c19)) ?_ ?_ ⟨rfl, rfl, trivial⟩ (by repeat (first | exact trivial | refine ⟨rfl, ?_⟩)) (fun w h => (h.weak (.cons_cons _ (.cons _ (.cons _ .slnil))) (fun s hs => hs)))
 exact ⟨by show i + 1 ≤ _; omega, fW hi hIo.2.1, ins_ok hIo.2.2 hI.1 hI.2 (by first | exact .inl (by omega) | exact .inr h6_18)⟩
 show (cj hm).length - (i + 1) < (cj hm).length - i
 omega
 exact d8
 intro As15
 refine eX (js := [4, 12]) (by kernel_rfl) rfl ?_
 refine bZ (i := 4) rfl rfl rfl (fun _ _ _ => a7 (by kernel_rfl)) rfl ?_ ?_
 refine cg (enc := d4) (sz := 4) (out.take k) Tryz.underlying25 bh rfl rfl rfl (fun A c => .z) (fun w hw => RsP.src Tryz.underlying25 (fp bI 1 rfl (by omega) hw).1) (by simp; omega) (by simp; omega) rfl (fun A20 c20 => ?_)
 refine ae ?_
 refine bc (bS 1) ?_
 refine bD (i := 12) rfl rfl rfl (fun _ _ _ => a7 (by kernel_rfl)) (by kernel_rfl) rfl ?_
 refine du (vs := [_]) ([(cj hm).getD i ct] : List (Hd)) bI Tryz.underlying25 bh rfl rfl rfl rfl rfl rfl (fun As22 => ?_)
 refine ae ?_
 refine bc (bS 2) ?_
 refine bD (i := 13) rfl rfl rfl (fun _ _ _ => a7 (by kernel_rfl)) (by kernel_rfl) rfl ?_
 refine cg (enc := d4) (sz := 4) [(cj hm).getD i ct] Tryz.underlying25 bh rfl rfl rfl (fun A c => (.s (.z))) (eZ 0 Tryz.underlying25 rfl) (by simp; omega) (by simp; omega) rfl (fun A22 c22 => ?_)
 refine ae ?_
 refine bc (bS 2) ?_
 refine bD (i := 17) rfl rfl rfl (fun _ _ _ => a7 (by kernel_rfl)) (by kernel_rfl) rfl ?_
 refine cg (enc := d4) (sz := 4) (out.drop k) Tryz.underlying25 bh rfl rfl rfl (fun A c => (.s (.z))) (fun w hw => RsP.src Tryz.underlying25 (fj bI 2 rfl (by omega) hw).1) (by simp; omega) (by simp; omega) rfl (fun A23 c23 => ?_)
 refine ae ?_
 refine bc (bS 2) ?_
 refine ax (i := 18) rfl ah (ai rfl) (bS 2) aw rfl (aq (aa (av (aq (aa ar))))) (by kernel_rfl) rfl ?_
 refine bQ (by kernel_rfl) ?_
 refine bq ?_
 refine aj ?_
 refine ab ?_
 refine ap (ak rfl) rfl rfl ?_
 refine ap (bg rfl rfl (by omega) (by omega)) rfl rfl ?_
 refine ap (ai rfl) rfl rfl ?_
 refine ae ?_
 refine bo ((i + 1, ((([] ++ out.take k) ++ [(cj hm).getD i ct]) ++ out.drop k), A23, c23)) ?_ ?_ ⟨rfl, rfl, trivial⟩ (by repeat (first | exact trivial | refine ⟨rfl, ?_⟩)) (fun w h => (h.weak (.cons _ (.cons_cons _ (.cons _ .slnil))) (fun s hs => hs)))
 exact ⟨by show i + 1 ≤ _; omega, fW hi hIo.2.1, ins_ok hIo.2.2 hI.1 hI.2 (by first | exact .inl (by omega) | exact .inr h6_18)⟩
 show (cj hm).length - (i + 1) < (cj hm).length - i
 omega
 refine bZ (i := 12) rfl rfl rfl (fun _ _ _ => a7 (by kernel_rfl)) rfl ?_ ?_
 refine du (vs := [_]) ([(cj hm).getD i ct] : List (Hd)) bI Tryz.underlying25 bh rfl rfl rfl rfl rfl rfl (fun As25 => ?_)
 refine ae ?_
 refine bc (bS 2) ?_
 refine bD (i := 4) rfl rfl rfl (fun _ _ _ => a7 (by kernel_rfl)) (by kernel_rfl) rfl ?_
 refine cg (enc := d4) (sz := 4) (out.take k) Tryz.underlying25 bh rfl rfl rfl (fun A c => (.s (.z))) (fun w hw => RsP.src Tryz.underlying25 (fp bI 2 rfl (by omega) hw).1) (by simp; omega) (by simp; omega) rfl (fun A25 c25 => ?_)
 refine ae ?_
 refine bc (bS 2) ?_
 refine bD (i := 13) rfl rfl rfl (fun _ _ _ => a7 (by kernel_rfl)) (by kernel_rfl) rfl ?_
 refine cg (enc := d4) (sz := 4) [(cj hm).getD i ct] Tryz.underlying25 bh rfl rfl rfl (fun A c => (.s (.z))) (eZ 0 Tryz.underlying25 rfl) (by simp; omega) (by simp; omega) rfl (fun A26 c26 => ?_)
 refine ae ?_
 refine bc (bS 2) ?_
 refine bD (i := 17) rfl rfl rfl (fun _ _ _ => a7 (by kernel_rfl)) (by kernel_rfl) rfl ?_
 refine cg (enc := d4) (sz := 4) (out.drop k) Tryz.underlying25 bh rfl rfl rfl (fun A c => (.s (.z))) (fun w hw => RsP.src Tryz.underlying25 (fj bI 2 rfl (by omega) hw).1) (by simp; omega) (by simp; omega) rfl (fun A27 c27 => ?_)
 refine ae ?_
 refine bc (bS 2) ?_
 refine ax (i := 18) rfl ah (ai rfl) (bS 2) aw rfl (aq (aa (av (aq (aa ar))))) (by kernel_rfl) rfl ?_
 refine bQ (by kernel_rfl) ?_
 refine bq ?_
 refine aj ?_
 refine ab ?_
 refine ap (ak rfl) rfl rfl ?_
 refine ap (bg rfl rfl (by omega) (by omega)) rfl rfl ?_
 refine ap (ai rfl) rfl rfl ?_
 refine ae ?_
 refine bo ((i + 1, ((([] ++ out.take k) ++ [(cj hm).getD i ct]) ++ out.drop k), A27, c27)) ?_ ?_ ⟨rfl, rfl, trivial⟩ (by repeat (first | exact trivial | refine ⟨rfl, ?_⟩)) (fun w h => (h.weak (.cons _ (.cons_cons _ (.cons _ .slnil))) (fun s hs => hs)))
 exact ⟨by show i + 1 ≤ _; omega, fW hi hIo.2.1, ins_ok hIo.2.2 hI.1 hI.2 (by first | exact .inl (by omega) | exact .inr h6_18)⟩
 show (cj hm).length - (i + 1) < (cj hm).length - i
 omega
 exact d8
 refine ae ?_
 refine aj ?_
 refine au rfl ?_
 refine bC ?_
 refine aY ?_
 refine aU ?_
 refine a8 ?_
 refine aj ?_
 refine ao ?_
 refine ab ?_
 refine ap (ak rfl) rfl rfl ?_
 refine ap (ai rfl) rfl rfl ?_
 refine ae ?_
 refine aj ?_
 refine aF ?_
 refine aJ (ts := [2]) rfl rfl rfl (fun w hw => ?_)
 have hil : i = (cj hm).length := by omega
 exact ⟨⟨(out, Aq, cq), by have := hI.2.1; rw [hil, List.take_length] at this; exact this, hI.2.2⟩, rfl, hw.base, (hw.weak (.cons_cons _ .slnil) (fun s hs => hs)).toNews⟩

set_option maxRecDepth 100000 in
theorem c_oNewbad (rg : Rg) (res : List Rg) (A : Option Addr) (c : Nat) (hr : RgOk rg) (hrs : ∀ x ∈ res, RgOk x) (hl : res.length ≤ 4398046510976) (h0 : dn (rg :: res) ≠ 0) : RC Tryz.prog 47 #[.agg (plC rg A res.length c).toArray] [Ch.rd A 4 dR res] (α := Unit) (fun _ => .tuple #[.pointer none, .int .i64 (dn (rg :: res))]) (fun _ => []) := by
 refine bi (args := [.agg (plC rg A res.length c).toArray]) 19 Tryz.func47 rfl rfl rfl (fun w0 => ?_)
 refine ao ?_
 refine ab ?_
 refine bE rfl rfl rfl (fun b1 => ?_)
 refine ap (ai rfl) rfl rfl ?_
 refine ap (ai rfl) rfl rfl ?_
 refine ae ?_
 refine aj ?_
 refine ao ?_
 refine ab ?_
 refine ap (aK 0 eU rfl rfl rfl rfl) rfl rfl ?_
 refine bv rfl ent_113 rfl (c_oCheck rg res A c hr hrs hl) (fun w hw => (aQ (cI 0 rfl hw) bf)) ?_
 refine ap (ai rfl) rfl rfl ?_
 refine ae ?_
 refine aj ?_
 refine ao ?_
 refine ao ?_
 refine ab ?_
 refine ap (ak rfl) rfl rfl ?_
 refine ap (cv rfl rfl) rfl rfl ?_
 refine fu (t := 8) rfl h0 ?_
 refine ae ?_
 refine aj ?_
 refine ay rfl ?_
 refine ao ?_
 refine ab ?_
 refine ap (ak rfl) rfl rfl ?_
 refine ap (ai rfl) rfl rfl ?_
 refine ap (ai rfl) rfl rfl ?_
 refine ae ?_
 refine aj ?_
 refine aF ?_
 refine aA ?_
 refine aJ (ts := [2, 3]) rfl rfl rfl (fun w hw => ?_)
 exact ⟨(), rfl, hw.base, (hw.weak (List.nil_sublist _) (fun s hs => hs)).toNews⟩

set_option maxRecDepth 100000 in
theorem c_oNew (rg : Rg) (res : List Rg) (A : Option Addr) (c : Nat) (hr : RgOk rg) (hrs : ∀ x ∈ res, RgOk x) (hl : res.length ≤ 4398046510976) (h0 : dn (rg :: res) = 0) : RC Tryz.prog 47 #[.agg (plC rg A res.length c).toArray] [Ch.rd A 4 dR res] (α := {o : Rp // o.rg = rg ∧ o.res = res}) (fun o => .tuple #[.pointer (some ⟨o.1.b, 0, none⟩), .int .i64 0]) (fun o => [rpCh o.1 none 0 [], Ch.ls o.1.A o.1.c 64 4 dR o.1.res]) := by
 refine bi (args := [.agg (plC rg A res.length c).toArray]) 19 Tryz.func47 rfl rfl rfl (fun w0 => ?_)
 refine ao ?_
 refine ab ?_
 refine bE rfl rfl rfl (fun b1 => ?_)
 refine ap (ai rfl) rfl rfl ?_
 refine ap (ai rfl) rfl rfl ?_
 refine ae ?_
 refine aj ?_
 refine ao ?_
 refine ab ?_
 refine ap (aK 0 eU rfl rfl rfl rfl) rfl rfl ?_
 refine bv rfl ent_113 rfl (c_oCheck rg res A c hr hrs hl) (fun w hw => (aQ (cI 0 rfl hw) bf)) ?_
 refine ap (ai rfl) rfl rfl ?_
 refine ae ?_
 refine aj ?_
 refine ao ?_
 refine ao ?_
 refine ab ?_
 refine ap (ak rfl) rfl rfl ?_
 refine ap (cv rfl rfl) rfl rfl ?_
 refine e5 (t := 8) rfl (fun h => h h0) ?_
 refine ae ?_
 refine aj ?_
 refine au rfl ?_
 refine aH ?_
 refine aj ?_
 refine ao ?_
 refine de 11 rfl mixed ?_
 refine ax (i := 0) rfl ah (aB d7 rfl) aw aw rfl (aa ar) (by kernel_rfl) rfl ?_
 refine ax (i := 1) rfl ah (aK 0 cm rfl rfl rfl rfl) aw aw rfl (aa ar) (by kernel_rfl) rfl ?_
 refine ax (i := 3) rfl ah (aB eb rfl) aw aw rfl (aa ar) (by kernel_rfl) rfl ?_
 refine ax (i := 4) rfl ah (aM 0 fZ rfl rfl rfl) aw aw rfl (aa ar) (by kernel_rfl) rfl ?_
 refine bD (i := 2) rfl rfl rfl (fun _ _ _ => a7 (by kernel_rfl)) (by kernel_rfl) rfl ?_
 refine du (vs := []) (([] : List Rg) : List (Rg)) fO Tryz.underlying65 cm rfl rfl rfl rfl rfl rfl (fun As2 => ?_)
 refine ae ?_
 refine bc (bS 1) ?_
 refine bD (i := 5) rfl rfl rfl (fun _ _ _ => a7 (by kernel_rfl)) (by kernel_rfl) rfl ?_
 refine cg (enc := dR) (sz := 4) res Tryz.underlying65 cm rfl rfl rfl (fun A c => .z) (src_S 0 Tryz.underlying65 rfl) (by simp only [List.length_nil]; omega) (by simp only [List.length_nil]; omega) rfl (fun A2 c2 => ?_)
 refine ae ?_
 refine bc (bS 1) ?_
 refine ax (i := 6) rfl ah (bN rfl (bu_67_0_1 _ _ _ _ _ _ _)) (bS 1) aw rfl (aa ar) (by kernel_rfl) rfl ?_
 refine ax (i := 7) rfl ah (bN rfl (bu_174_0 _ _ _ _ _ _ _)) (bS 1) aw rfl (aa ar) (by kernel_rfl) rfl ?_
 refine bD (i := 8) rfl rfl rfl (fun _ _ _ => a7 (by kernel_rfl)) (by kernel_rfl) rfl ?_
 refine bE rfl rfl rfl (fun b4 => ?_)
 refine ae ?_
 refine bc (bS 2) ?_
 refine ax (i := 9) rfl ah (ai rfl) (bS 2) aw rfl (aa ar) (by kernel_rfl) rfl ?_
 refine ax (i := 10) rfl ah (ai rfl) (bS 2) aw rfl (aa ar) (by kernel_rfl) rfl ?_
 refine bQ (by kernel_rfl) ?_
 refine aj ?_
 refine aF ?_
 refine aJ (ts := [2, 3]) rfl rfl rfl (fun w hw => ?_)
 exact ⟨⟨⟨rg, res, A2, c2, b4⟩, rfl, rfl⟩, rfl, hw.base, ((((hw.weak (.cons_cons _ (.cons_cons _ (.cons _ .slnil))) (fun s hs => hs)).f1.f1).nilsl 46 4).f1.two).toNews⟩

theorem c_among14r (l : List aV) (A : Option Addr) (c : Nat) (n : aV) (hl : ∀ x ∈ l, x.length ≤ 1000000000) (hn : n.length ≤ 1000000000) (hll : l.length ≤ 9223372036854775807) : RC Tryz.prog 185 #[.slice A l.length c, .string (ba n)] [Ch.rd A 1 dw l] (α := Unit) (fun _ => .bool (gx l n)) (fun _ => []) := by
 refine bi (args := [.slice A l.length c, .string (ba n)]) 18 Tryz.func185 rfl rfl rfl (fun w0 => ?_)
 refine ao ?_
 refine ab ?_
 refine ap (ai rfl) rfl rfl ?_
 refine ae ?_
 refine aj ?_
 refine ao ?_
 refine ao ?_
 refine ab ?_
 refine ap (ai rfl) rfl rfl ?_
 refine ae ?_
 refine aj ?_
 refine aP ?_
 refine b8 (σ := Nat) [4, 5, 6, 7, 8, 9, 10, 11, 12, 13, 14, 15, 16, 17] (fun k => k ≤ l.length ∧ ∀ q, q < k → eY (l.getD q []) n = false) (fun k => l.length - k) (fun k => [(5, .int .i64 k)]) (0) ?_ ⟨rfl, trivial⟩ (fun k hI => ?_)
 exact ⟨Nat.zero_le _, nofun⟩
 refine ao ?_
 refine ao ?_
 refine ab ?_
 refine ap (ak rfl) rfl rfl ?_
 refine ap (ak rfl) rfl rfl ?_
 refine ap (bM Tryz.underlying59 rfl) rfl rfl ?_
 refine ap (bF rfl rfl) rfl rfl ?_
 refine aC (t := 9) rfl (fun h2_3 => ?_) (fun h2_3 => ?_)
 have hk : k < l.length := by omega
 refine ae ?_
 refine aj ?_
 refine ay rfl ?_
 refine aH ?_
 refine aj ?_
 refine ao ?_
 refine aP ?_
 refine ao ?_
 refine ab ?_
 refine ap (ak rfl) rfl rfl ?_
 refine ap (ak rfl) rfl rfl ?_
 refine ap (bP  Tryz.underlying59 bL rfl rfl (bY 0 rfl) rfl (by omega)) rfl rfl ?_
 refine ap (cG dq ([] : aV) bL rfl (bY 0 rfl) (by omega) rfl rfl) rfl rfl ?_
 refine ap (ak rfl) rfl rfl ?_
 refine aS rfl ent_46 (iX _ _ (hl _ (bX hk)) hn) rfl ?_
 refine bk (t := 17) rfl (fun h4_5 => ?_) (fun h4_5 => ?_)
 refine ae ?_
 refine aj ?_
 refine ay rfl ?_
 refine ao ?_
 refine ab ?_
 refine ap (ai rfl) rfl rfl ?_
 refine ae ?_
 refine aj ?_
 refine aF ?_
 refine aL ?_
 refine aA ?_
 refine bu ?_
 refine aL ?_
 refine aA ?_
 refine aJ (ts := [4]) rfl rfl rfl (fun w hw => ?_)
 focus first
   | (have hE := among_yes hk h4_5
      exact ⟨(), by rw [hE]; rfl, hw.base, (hw.weak (List.nil_sublist _) (fun s hs => hs)).toNews⟩)
   | (have hE := among_no (l := l) (n := n) (fun q hq => hI.2 q (by omega))
      exact ⟨(), by rw [hE]; rfl, hw.base, (hw.weak (List.nil_sublist _) (fun s hs => hs)).toNews⟩)
   | (trace_state; fail)
 refine ae ?_
 refine aj ?_
 refine au rfl ?_
 refine aH ?_
 refine bq ?_
 refine aj ?_
 refine ab ?_
 refine ap (ak rfl) rfl rfl ?_
 refine ap (bg rfl rfl (by omega) (by omega)) rfl rfl ?_
 refine ap (ai rfl) rfl rfl ?_
 refine ae ?_
 refine bo (k + 1) ?_ ?_ ⟨rfl, trivial⟩ (by repeat (first | exact trivial | refine ⟨rfl, ?_⟩)) aw
 refine ⟨by omega, fun q hq => ?_⟩
 by_cases e : q = k
 · rw [e]; exact h4_5
 · exact hI.2 q (by omega)
 omega
 refine ae ?_
 refine aj ?_
 refine au rfl ?_
 refine bC ?_
 refine aY ?_
 refine aU ?_
 refine a8 ?_
 refine aj ?_
 refine ao ?_
 refine ab ?_
 refine ap (ai rfl) rfl rfl ?_
 refine ae ?_
 refine aj ?_
 refine aF ?_
 refine aJ (ts := [4]) rfl rfl rfl (fun w hw => ?_)
 focus first
   | (have hE := among_yes hk h4_5
      exact ⟨(), by rw [hE]; rfl, hw.base, (hw.weak (List.nil_sublist _) (fun s hs => hs)).toNews⟩)
   | (have hE := among_no (l := l) (n := n) (fun q hq => hI.2 q (by omega))
      exact ⟨(), by rw [hE]; rfl, hw.base, (hw.weak (List.nil_sublist _) (fun s hs => hs)).toNews⟩)
   | (trace_state; fail)

set_option maxRecDepth 100000 in
set_option maxHeartbeats 4000000 in
theorem c_oKeep (o : Rp) (Ah : Option Addr) (ch : Nat) (hm : Hm) (hosts : List aV) (X : Option Addr) (xc : Nat) (hi0 : HInv (vR o.rg o.res) hm) (hml : hm.length + hosts.length ≤ 1000000) (hhb : ∀ n ∈ hosts, n.length ≤ 1000000000) (hr : RgOk o.rg) (hz : cw o.rg = 0) (hrs : ∀ x ∈ o.res, RgOk x) (hrl : o.res.length ≤ 4398046510976) (ls : List aV) (er : Int) (hm2 : Hm) (hK : cZ (vR o.rg o.res) hm hosts = ((ls, er), hm2)) : UC Tryz.prog 117 #[.pointer (some ⟨o.b, 0, none⟩), .slice X hosts.length xc] [Ch.rd o.A 4 dR o.res, Ch.rd X 1 dw hosts] (rpCh o Ah ch (cj hm)) (α := (Option Addr × Nat) × Option Addr × Nat) (fun p => .tuple #[.slice p.2.1 ls.length p.2.2, .int .i64 er]) (fun p => Ch.two (rpCh o p.1.1 p.1.2 (cj hm2)) (Ch.ls p.2.1 p.2.2 26 1 dw ls)) := by
 refine ea (args := [.pointer (some ⟨o.b, 0, none⟩), .slice X hosts.length xc]) 92 Tryz.func117 rfl rfl rfl (fun w0 => ?_)
 refine cH (fun w h => h.untwo) ?_
 have hhl := cK hm
 refine ao ?_
 refine ab ?_
 refine ap (ai rfl) rfl rfl ?_
 refine ap (ai rfl) rfl rfl ?_
 refine ae ?_
 refine aj ?_
 refine ao ?_
 refine ao ?_
 refine ab ?_
 refine ap (ai rfl) rfl rfl ?_
 refine ae ?_
 refine aj ?_
 refine aP ?_
 refine b8 (σ := Nat) [4, 5, 6, 13, 14, 15, 16, 17, 18, 19, 20, 21, 22, 23, 24] (fun k => k ≤ hosts.length ∧ ∀ q, q < k → bl (hosts.getD q []) = true) (fun k => hosts.length - k) (fun k => [(6, .int .i64 k)]) (0) ?_ ⟨rfl, trivial⟩ (fun k hI => ?_)
 exact ⟨Nat.zero_le _, nofun⟩
 refine ao ?_
 refine ao ?_
 refine ab ?_
 refine ap (ak rfl) rfl rfl ?_
 refine ap (ak rfl) rfl rfl ?_
 refine ap (bM Tryz.underlying59 rfl) rfl rfl ?_
 refine ap (bF rfl rfl) rfl rfl ?_
 refine aC (t := 16) rfl (fun h2_3 => ?_) (fun h2_3 => ?_)
 have hk : k < hosts.length := by omega
 refine ae ?_
 refine aj ?_
 refine ay rfl ?_
 refine aH ?_
 refine aj ?_
 refine ao ?_
 refine aP ?_
 refine ao ?_
 refine ab ?_
 refine ap (ak rfl) rfl rfl ?_
 refine ap (ak rfl) rfl rfl ?_
 refine ap (bP  Tryz.underlying59 bL rfl rfl (bY 1 rfl) rfl (by omega)) rfl rfl ?_
 refine ap (cG dq ([] : aV) bL rfl (bY 1 rfl) (by omega) rfl rfl) rfl rfl ?_
 refine aS rfl ent_181 (c_ohost _) rfl ?_
 refine bk (t := 23) rfl (fun h4_4 => ?_) (fun h4_4 => ?_)
 refine ap (bJ rfl) rfl rfl ?_
 refine ae ?_
 refine aj ?_
 refine au rfl ?_
 refine aH ?_
 refine bq ?_
 refine aj ?_
 refine ab ?_
 refine ap (ak rfl) rfl rfl ?_
 refine ap (bg rfl rfl (by omega) (by omega)) rfl rfl ?_
 refine ap (ai rfl) rfl rfl ?_
 refine ae ?_
 refine bo (k + 1) ?_ ?_ ⟨rfl, trivial⟩ (by repeat (first | exact trivial | refine ⟨rfl, ?_⟩)) aw
 refine ⟨by omega, fun q hq => ?_⟩
 by_cases e : q = k
 · rw [e]; exact h4_4
 · exact hI.2 q (by omega)
 omega
 refine ap (bJ rfl) rfl rfl ?_
 refine ae ?_
 refine aj ?_
 refine ay rfl ?_
 refine ao ?_
 refine ab ?_
 refine ap (ai rfl) rfl rfl ?_
 refine ap (ai rfl) rfl rfl ?_
 refine ae ?_
 refine aj ?_
 refine aF ?_
 refine aL ?_
 refine aA ?_
 refine bu ?_
 refine aL ?_
 refine aA ?_
 refine aJ (ts := [4, 5]) rfl rfl rfl (fun w hw => ?_)
 have hE : cZ (vR o.rg o.res) hm hosts = (([], 2), hm) := if_pos (by rw [Bool.eq_false_iff]; intro h; have := List.all_eq_true.1 h _ (bX (d := ([] : aV)) hk); rw [h4_4] at this; cases this)
 rw [hE] at hK
 cases hK
 obtain ⟨h1, h2, h3⟩ := (((hw.weak (.cons_cons _ (.cons_cons _ .slnil)) (fun s hs => hs)).f1.f1).two.nilsl 26 1).f1.two.uc
 exact ⟨((Ah, ch), none, 0), rfl, h1, h2, h3⟩
 refine ae ?_
 refine aj ?_
 refine au rfl ?_
 refine bC ?_
 refine aY ?_
 refine aU ?_
 refine a8 ?_
 refine aj ?_
 refine ao ?_
 have hall : ∀ n ∈ hosts, bl n = true := fun n hn => by
   obtain ⟨q, hq, rfl⟩ := List.mem_iff_getElem.1 hn
   have := hI.2 q (by omega)
   rw [List.getD_eq_getElem?_getD, List.getElem?_eq_getElem hq] at this
   exact this
 refine ab ?_
 refine ap (ai rfl) rfl rfl ?_
 refine ae ?_
 refine aj ?_
 refine ao ?_
 refine ao ?_
 refine ab ?_
 refine ap (ai rfl) rfl rfl ?_
 refine ae ?_
 refine aj ?_
 refine aP ?_
 refine cH (fun w h => h.nilsl 46 4) ?_
 refine d6 (σ := Nat × List Hd × Option Addr × Nat) [7, 8, 25, 26, 27, 28, 29, 30, 31, 32, 33, 34, 35, 36, 37, 38, 39, 40, 41, 42, 43, 44, 45, 46, 47, 48, 49, 50, 51, 52, 53] (fun z => z.1 ≤ (cj hm).length ∧ z.2.1 = ((cj hm).take z.1).filter fun x => gx hosts x.host) (fun z => (cj hm).length - z.1) (fun z => [(8, .int .i64 z.1), (7, .slice z.2.2.1 z.2.1.length z.2.2.2)]) (fun z => Ch.ls z.2.2.1 z.2.2.2 46 4 d4 z.2.1) ((0, [], none, 0)) ?_ ⟨rfl, rfl, trivial⟩ rfl (fun z hI => ?_)
 exact ⟨Nat.zero_le _, rfl⟩
 obtain ⟨i, sy, Aq, cq⟩ := z
 dsimp only at hI ⊢
 have hsyl : sy.length ≤ i := by rw [hI.2]; exact Nat.le_trans (List.length_filter_le _ _) (by rw [List.length_take]; omega)
 refine ao ?_
 refine ao ?_
 refine ab ?_
 refine ap (ak rfl) rfl rfl ?_
 refine ap (ak rfl) rfl rfl ?_
 refine ap (aR rfl) rfl rfl ?_
 refine ap (aB bU rfl) rfl rfl ?_
 refine ap (aM 1 dl rfl rfl rfl) rfl rfl ?_
 refine ap (bM Tryz.underlying25 rfl) rfl rfl ?_
 refine ap (bF rfl rfl) rfl rfl ?_
 refine aC (t := 31) rfl (fun h8_6 => ?_) (fun h8_6 => ?_)
 have hi : i < (cj hm).length := by omega
 refine ae ?_
 refine aj ?_
 refine ay rfl ?_
 refine aH ?_
 refine aj ?_
 refine ao ?_
 refine aP ?_
 refine ao ?_
 refine ab ?_
 refine ap (ak rfl) rfl rfl ?_
 refine ap (ak rfl) rfl rfl ?_
 refine ap (aR rfl) rfl rfl ?_
 refine ap (aB bU rfl) rfl rfl ?_
 refine ap (aM 1 dl rfl rfl rfl) rfl rfl ?_
 refine ap (ak rfl) rfl rfl ?_
 refine ap (bP  Tryz.underlying25 bh rfl rfl (ek 2 rfl) rfl (by omega)) rfl rfl ?_
 refine ap (aB fa_46_0 rfl) rfl rfl ?_
 refine ap (cG bI ct bL rfl (ek 2 rfl) (by omega) rfl rfl) rfl rfl ?_
 refine bv rfl ent_185 rfl (c_among14r hosts X xc ((cj hm).getD i ct).host hhb (hs_short hi0.inv hi) (by omega)) (fun w hw => (aQ (cI 1 rfl hw) bf)) ?_
 refine bk (t := 43) rfl (fun h10_9 => ?_) (fun h10_9 => ?_)
 refine ae ?_
 refine aj ?_
 refine ay rfl ?_
 refine ab ?_
 refine ap (ak rfl) rfl rfl ?_
 refine ap (ak rfl) rfl rfl ?_
 refine ap (aR rfl) rfl rfl ?_
 refine ap (aB bU rfl) rfl rfl ?_
 refine ap (aM 1 dl rfl rfl rfl) rfl rfl ?_
 refine ap (ak rfl) rfl rfl ?_
 refine ap (bP  Tryz.underlying25 bh rfl rfl (ek 2 rfl) rfl (by omega)) rfl rfl ?_
 refine ap (dV bI ct bh rfl (ek 2 rfl) (by omega) rfl rfl rfl) rfl rfl ?_
 refine du (vs := [_]) ([(cj hm).getD i ct] : List (Hd)) bI Tryz.underlying25 bh rfl rfl rfl rfl rfl rfl (fun As1 => ?_)
 refine cg (enc := d4) (sz := 4) [(cj hm).getD i ct] Tryz.underlying25 bh rfl rfl rfl (fun A c => (.s (.z))) (eZ 0 Tryz.underlying25 rfl) (by have := hsyl; simp; omega) (by have := hsyl; simp; omega) rfl (fun A1 c1 => ?_)
 refine ap (ai rfl) rfl rfl ?_
 refine ae ?_
 refine bq ?_
 refine aj ?_
 refine ab ?_
 refine ap (ak rfl) rfl rfl ?_
 refine ap (bg rfl rfl (by omega) (by omega)) rfl rfl ?_
 refine ap (ai rfl) rfl rfl ?_
 refine ae ?_
 refine bo ((i + 1, sy ++ [(cj hm).getD i ct], A1, c1)) ?_ ?_ ⟨rfl, rfl, trivial⟩ (by repeat (first | exact trivial | refine ⟨rfl, ?_⟩)) (fun w h => (h.weak (.cons _ (.cons_cons _ (.cons_cons _ (.cons_cons _ .slnil)))) (fun s hs => hs)).f2.f2.f2)
 exact ⟨by show i + 1 ≤ _; omega, by show _ = List.filter _ ((cj hm).take (i + 1)); rw [bH (cj hm) ct i hi, List.filter_append, ← hI.2, List.filter_cons, h10_9]; simp⟩
 show (cj hm).length - (i + 1) < (cj hm).length - i
 omega
 refine ae ?_
 refine aj ?_
 refine au rfl ?_
 refine aH ?_
 refine bq ?_
 refine aj ?_
 refine ab ?_
 refine ap (ak rfl) rfl rfl ?_
 refine ap (bg rfl rfl (by omega) (by omega)) rfl rfl ?_
 refine ap (ai rfl) rfl rfl ?_
 refine ae ?_
 refine bo ((i + 1, sy, Aq, cq)) ?_ ?_ ⟨rfl, rfl, trivial⟩ (by repeat (first | exact trivial | refine ⟨rfl, ?_⟩)) (fun w h => (h.weak (.cons_cons _ (.cons_cons _ (.cons_cons _ .slnil))) (fun s hs => hs)).f2.f2.f2)
 exact ⟨by show i + 1 ≤ _; omega, by show _ = List.filter _ ((cj hm).take (i + 1)); rw [bH (cj hm) ct i hi, List.filter_append, ← hI.2, List.filter_cons, h10_9]; simp⟩
 show (cj hm).length - (i + 1) < (cj hm).length - i
 omega
 refine ae ?_
 refine aj ?_
 refine au rfl ?_
 refine bC ?_
 refine aY ?_
 refine aU ?_
 refine a8 ?_
 refine aj ?_
 refine ao ?_
 refine ab ?_
 refine ap (ak rfl) rfl rfl ?_
 refine ap (ak rfl) rfl rfl ?_
 refine ap (aR rfl) rfl rfl ?_
 refine ap (aB bU rfl) rfl rfl ?_
 refine aT dl rfl rfl rfl (.s (.z)) rfl rfl rfl rfl ?_
 refine ae ?_
 refine aj ?_
 refine ao ?_
 have hst : sy = cj (dx hm hosts) := by
   rw [stay_hs hi0.inv hall, hI.2, show i = (cj hm).length by omega, List.take_length]
 subst hst
 have hIs : HInv (vR o.rg o.res) (dx hm hosts) := hi0.filter _
 have hsl : (dx hm hosts).length ≤ hm.length := List.length_filter_le _ _
 refine ab ?_
 refine ap (ai rfl) rfl rfl ?_
 refine ae ?_
 refine aj ?_
 refine ao ?_
 refine ao ?_
 refine ab ?_
 refine ap (ai rfl) rfl rfl ?_
 refine ae ?_
 refine aj ?_
 refine aP ?_
 refine cH (fun w h => (((h.weak (.cons_cons _ (.cons_cons _ (.cons _ .slnil))) (fun s hs => hs)).f1).two.nilsl 26 1).f1) ?_
 refine w_loop2 (σ := Nat × (Hm × List aV) × (Option Addr × Nat) × Option Addr × Nat) [9, 10, 11, 12, 58, 59, 60, 61, 62, 63, 64, 65, 66, 67, 68, 69, 70, 71, 72, 73, 74, 75, 76, 77, 78, 79, 80, 81, 82, 83, 84, 85, 86, 87, 88, 89, 90] (fun z => z.1 ≤ hosts.length ∧ z.2.1 = ew (vR o.rg o.res) (dx hm hosts) (hosts.take z.1) ∧ HInv (vR o.rg o.res) z.2.1.1 ∧ z.2.1.1.length ≤ hm.length + z.1 ∧ z.2.1.2.length ≤ z.1 ∧ ∀ x ∈ z.2.1.2, bl x = true) (fun z => hosts.length - z.1) (fun z => [(10, .int .i64 z.1), (9, .slice z.2.2.2.1 z.2.1.2.length z.2.2.2.2)]) (fun z => rpCh o z.2.2.1.1 z.2.2.1.2 (cj z.2.1.1)) (fun z => Ch.ls z.2.2.2.1 z.2.2.2.2 26 1 dw z.2.1.2) ((0, (dx hm hosts, []), (Aq, cq), none, 0)) ?_ ⟨rfl, rfl, trivial⟩ rfl rfl (fun z hI => ?_)
 exact ⟨Nat.zero_le _, rfl, hIs, by show (dx hm hosts).length ≤ hm.length + 0; omega, Nat.le_refl _, nofun⟩
 obtain ⟨i, ⟨hc, lost⟩, ⟨Ac, cc⟩, Aq, cq⟩ := z
 dsimp only at hI ⊢
 refine ao ?_
 refine ao ?_
 refine ab ?_
 refine ap (ak rfl) rfl rfl ?_
 refine ap (ak rfl) rfl rfl ?_
 refine ap (bM Tryz.underlying59 rfl) rfl rfl ?_
 refine ap (bF rfl rfl) rfl rfl ?_
 refine aC (t := 61) rfl (fun h15_3 => ?_) (fun h15_3 => ?_)
 have hi : i < hosts.length := by omega
 have hin := bX (d := ([] : aV)) hi
 have hlc := hI.2.2.2.1
 obtain ⟨a9, e9, hc2, hG, hgl⟩ := give_form (v := (vR o.rg o.res)) hI.2.2.1.inv (hosts.getD i [])
 have hIg : HInv (vR o.rg o.res) hc2 := by have := hI.2.2.1.give (hall _ hin); rw [hG] at this; exact this
 refine ae ?_
 refine aj ?_
 refine ay rfl ?_
 refine aH ?_
 refine aj ?_
 refine ao ?_
 refine aP ?_
 refine ao ?_
 refine ab ?_
 refine ap (ak rfl) rfl rfl ?_
 refine ap (ak rfl) rfl rfl ?_
 refine ap (ak rfl) rfl rfl ?_
 refine ap (bP  Tryz.underlying59 bL rfl rfl (bY 1 rfl) rfl (by omega)) rfl rfl ?_
 refine ap (cG dq ([] : aV) bL rfl (bY 1 rfl) (by omega) rfl rfl) rfl rfl ?_
 refine cu rfl ent_114 rfl (c_oGive o Ac cc hc (hosts.getD i []) hI.2.2.1 (hhb _ hin) (by omega) hr hz hrs hrl a9 e9 hc2 hG) (fun o => .z) (List.mem_of_getElem? (i := 0) rfl) (fun s hs => sub1 (List.mem_of_getElem? (i := 0) rfl) hs) (fun ⟨A9, c9⟩ => ?_)
 refine ap (ak rfl) rfl rfl ?_
 refine ap (aI rfl rfl) rfl rfl ?_
 refine ap (aI rfl rfl) rfl rfl ?_
 refine bz aN rfl rfl (fun b4 => ?_)
 refine aT aN rfl rfl rfl .z rfl rfl rfl rfl ?_
 refine ap (ai rfl) rfl rfl ?_
 refine ae ?_
 refine aj ?_
 refine ao ?_
 refine ab ?_
 refine ap (ak rfl) rfl rfl ?_
 refine ap (cv rfl rfl) rfl rfl ?_
 refine aC (t := 74) rfl (fun h18_1 => ?_) (fun h18_1 => ?_)
 refine ap (ak rfl) rfl rfl ?_
 refine az rfl rfl ?_
 refine ap (ak rfl) rfl rfl ?_
 refine az rfl rfl ?_
 refine ap (ak rfl) rfl rfl ?_
 refine az rfl rfl ?_
 refine ap (ak rfl) rfl rfl ?_
 refine az rfl rfl ?_
 refine ap (bP  Tryz.underlying59 bL rfl rfl (bY 1 rfl) rfl (by omega)) rfl rfl ?_
 refine az rfl rfl ?_
 refine ap (cG dq ([] : aV) bL rfl (bY 1 rfl) (by omega) rfl rfl) rfl rfl ?_
 refine az rfl rfl ?_
 refine bv rfl ent_185 rfl (c_among14r lost _ _ (hosts.getD i []) (fun x hx => by have := hostOk_len (hI.2.2.2.2.2 x hx); omega) (hhb _ hin) (by have := hI.2.2.2.2.1; omega)) (fun w hw => (aQ (eF 2 rfl hw) bf)) ?_
 refine bk (t := 81) rfl (fun h18_8 => ?_) (fun h18_8 => ?_)
 refine az rfl rfl ?_
 refine ap (bJ rfl) rfl rfl ?_
 refine ap (aX rfl rfl) rfl rfl ?_
 refine ae ?_
 refine aj ?_
 refine au rfl ?_
 refine aH ?_
 refine bq ?_
 refine aj ?_
 refine ab ?_
 refine ap (ak rfl) rfl rfl ?_
 refine ap (bg rfl rfl (by omega) (by omega)) rfl rfl ?_
 refine ap (ai rfl) rfl rfl ?_
 refine ae ?_
 refine bo ((i + 1, (hc2, lost), (A9, c9), Aq, cq)) ?_ ?_ ⟨rfl, rfl, trivial⟩ (by repeat (first | exact trivial | refine ⟨rfl, ?_⟩)) (fun w h => (h.weak (.cons _ (.cons_cons _ (.cons_cons _ .slnil))) (fun s hs => hs)).f1.f1)
 refine ⟨by show i + 1 ≤ _; omega, ?_, hIg, by show hc2.length ≤ _; have := hI.2.2.2.1; omega, ?_, ?_⟩
 · show (_, _) = ew _ _ (hosts.take (i + 1))
   rw [bH hosts [] i hi, eO, ← hI.2.1, keepF_at hG hI.2.2.2.2.2 (hall _ hin)]
   focus first
     | (rw [if_pos ⟨h18_1, by rw [h18_8]; decide⟩]; done)
     | (rw [if_neg (fun z => h18_1 z.1)]; done)
     | (rw [if_neg (fun z => z.2 h18_8)]; done)
 · show lost.length ≤ i + 1
   have := hI.2.2.2.2.1
   omega
 · exact hI.2.2.2.2.2
 show hosts.length - (i + 1) < hosts.length - i
 omega
 refine az rfl rfl ?_
 refine ap (bJ rfl) rfl rfl ?_
 refine ap (aX rfl rfl) rfl rfl ?_
 refine ae ?_
 refine aj ?_
 refine ay rfl ?_
 refine ab ?_
 refine ap (ak rfl) rfl rfl ?_
 refine ap (ak rfl) rfl rfl ?_
 refine ap (ak rfl) rfl rfl ?_
 refine ap (bP  Tryz.underlying59 bL rfl rfl (bY 1 rfl) rfl (by omega)) rfl rfl ?_
 refine ap (cG dq ([] : aV) bL rfl (bY 1 rfl) (by omega) rfl rfl) rfl rfl ?_
 refine du (vs := [_]) ([(hosts.getD i [])] : List (aV)) dq Tryz.underlying59 bL rfl rfl rfl rfl rfl rfl (fun As5 => ?_)
 refine cg (enc := dw) (sz := 1) [(hosts.getD i [])] Tryz.underlying59 bL rfl rfl rfl (fun A c => (.s (.s (.s (.z))))) (eZ 0 Tryz.underlying59 rfl) (by have := hI.2.2.2.2.1; simp; omega) (by have := hI.2.2.2.2.1; simp; omega) rfl (fun A5 c5 => ?_)
 refine ap (ai rfl) rfl rfl ?_
 refine ae ?_
 refine bq ?_
 refine aj ?_
 refine ab ?_
 refine ap (ak rfl) rfl rfl ?_
 refine ap (bg rfl rfl (by omega) (by omega)) rfl rfl ?_
 refine ap (ai rfl) rfl rfl ?_
 refine ae ?_
 refine bo ((i + 1, (hc2, lost ++ [(hosts.getD i [])]), (A9, c9), A5, c5)) ?_ ?_ ⟨rfl, rfl, trivial⟩ (by repeat (first | exact trivial | refine ⟨rfl, ?_⟩)) (fun w h => (h.weak (.cons _ (.cons _ (.cons_cons _ (.cons_cons _ .slnil)))) (fun s hs => hs)).f1.f1)
 refine ⟨by show i + 1 ≤ _; omega, ?_, hIg, by show hc2.length ≤ _; have := hI.2.2.2.1; omega, ?_, ?_⟩
 · show (_, _) = ew _ _ (hosts.take (i + 1))
   rw [bH hosts [] i hi, eO, ← hI.2.1, keepF_at hG hI.2.2.2.2.2 (hall _ hin)]
   focus first
     | (rw [if_pos ⟨h18_1, by rw [h18_8]; decide⟩]; done)
     | (rw [if_neg (fun z => h18_1 z.1)]; done)
     | (rw [if_neg (fun z => z.2 h18_8)]; done)
 · show (lost ++ [_]).length ≤ i + 1
   have := hI.2.2.2.2.1
   simp; omega
 · intro x hx
   exact (List.mem_append.1 hx).elim (hI.2.2.2.2.2 x) (fun z => by rw [List.mem_singleton.1 z]; exact hall _ hin)
 show hosts.length - (i + 1) < hosts.length - i
 omega
 refine ap (ak rfl) rfl rfl ?_
 refine aO rfl rfl rfl rfl ?_
 refine aO rfl rfl rfl rfl ?_
 refine aO rfl rfl rfl rfl ?_
 refine aO rfl rfl rfl rfl ?_
 refine aO rfl rfl rfl rfl ?_
 refine aO rfl rfl rfl rfl ?_
 refine aO rfl rfl rfl rfl ?_
 refine ap (aW rfl rfl) rfl rfl ?_
 refine ae ?_
 refine aj ?_
 refine au rfl ?_
 refine aH ?_
 refine bq ?_
 refine aj ?_
 refine ab ?_
 refine ap (ak rfl) rfl rfl ?_
 refine ap (bg rfl rfl (by omega) (by omega)) rfl rfl ?_
 refine ap (ai rfl) rfl rfl ?_
 refine ae ?_
 refine bo ((i + 1, (hc2, lost), (A9, c9), Aq, cq)) ?_ ?_ ⟨rfl, rfl, trivial⟩ (by repeat (first | exact trivial | refine ⟨rfl, ?_⟩)) (fun w h => (h.weak (.cons _ (.cons_cons _ (.cons_cons _ .slnil))) (fun s hs => hs)).f1.f1)
 refine ⟨by show i + 1 ≤ _; omega, ?_, hIg, by show hc2.length ≤ _; have := hI.2.2.2.1; omega, ?_, ?_⟩
 · show (_, _) = ew _ _ (hosts.take (i + 1))
   rw [bH hosts [] i hi, eO, ← hI.2.1, keepF_at hG hI.2.2.2.2.2 (hall _ hin)]
   focus first
     | (rw [if_pos ⟨h18_1, by rw [h18_8]; decide⟩]; done)
     | (rw [if_neg (fun z => h18_1 z.1)]; done)
     | (rw [if_neg (fun z => z.2 h18_8)]; done)
 · show lost.length ≤ i + 1
   have := hI.2.2.2.2.1
   omega
 · exact hI.2.2.2.2.2
 show hosts.length - (i + 1) < hosts.length - i
 omega
 refine ae ?_
 refine aj ?_
 refine au rfl ?_
 refine bC ?_
 refine aY ?_
 refine aU ?_
 refine a8 ?_
 refine aj ?_
 refine ao ?_
 refine ab ?_
 refine ap (ak rfl) rfl rfl ?_
 refine ap (ai rfl) rfl rfl ?_
 refine ap (ai rfl) rfl rfl ?_
 refine ae ?_
 refine aj ?_
 refine aF ?_
 refine aJ (ts := [4, 5]) rfl rfl rfl (fun w hw => ?_)
 have hil : i = hosts.length := by omega
 have hE : cZ (vR o.rg o.res) hm hosts = ((lost, 0), hc) := by
   have h9 := hI.2.1
   rw [hil, List.take_length] at h9
   rw [cZ, if_neg (fun z => by rw [List.all_eq_true.2 hall] at z; cases z), ← h9]
 rw [hE] at hK
 cases hK
 obtain ⟨h1, h2, h3⟩ := ((hw.weak (.cons_cons _ (.cons_cons _ .slnil)) (fun s hs => hs)).f1.f1).two.uc
 exact ⟨((Ac, cc), Aq, cq), rfl, h1, h2, h3⟩
end Go.Proofs.YtnpdgmoeoidppaaGreat
