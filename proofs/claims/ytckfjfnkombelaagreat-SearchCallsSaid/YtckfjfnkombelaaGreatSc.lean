/- the laws of candidates -/
import Derived.Test.YtckfjfnkombelaaGreatSb
namespace Go.Proofs.YtckfjfnkombelaaGreat
open Go.RowKit Go.Shelf
set_option linter.unusedVariables false
set_option linter.unusedSimpArgs false


def hitJ (n : Str) (l : List Str) (x : Str) : Bool := l.any fun d => decide (joinE n d = 0) && decide (joinN n d = x)
theorem hit_succ {n x : Str} {l : List Str} {k : Nat} (hk : k < l.length) : hitJ n (l.take (k + 1)) x = (hitJ n (l.take k) x || (decide (joinE n (l.getD k []) = 0) && decide (joinN n (l.getD k []) = x))) := by
  rw [take_getD l [] k hk, hitJ, List.any_append]; simp [hitJ]
theorem hit_yes {s : Sr} {n x : Str} (h : Ok s n) (hx : x ∈ eachS s n) (hn : ¬ x = n) : hitJ n s.doms x = true := by
  obtain ⟨_, h2⟩ := h.xs hx
  obtain ⟨d, hd, he, e⟩ := h2.resolve_left hn
  rw [hitJ, List.any_eq_true]
  exact ⟨d, hd, by rw [decide_eq_true he, join_good he, e]; simp⟩
theorem count_yes {l : List Str} {n : Str} {k : Nat} (hk : k < l.length) (h : l.getD k [] = n) : (l.take (k + 1)).count n = (l.take k).count n + 1 := by
  rw [take_getD l [] k hk, List.count_append, h]; simp
theorem count_no {l : List Str} {n : Str} {k : Nat} (hk : k < l.length) (h : ¬ l.getD k [] = n) : (l.take (k + 1)).count n = (l.take k).count n := by
  have h2 : List.count n [l.getD k []] = 0 := List.count_eq_zero.2 (fun e => h (List.mem_singleton.1 e).symm)
  rw [take_getD l [] k hk, List.count_append, h2]; rfl
theorem same2_no {a b : Str} (h : foldN a ≠ foldN b) : same2 a b = false := by rw [same2, decide_eq_false h, Bool.and_false]
theorem same2_yes {a b : Str} (h1 : nameCk a = 0) (h2 : nameCk b = 0) (h : foldN a = foldN b) : same2 a b = true := by rw [same2, decide_eq_true h1, decide_eq_true h2, decide_eq_true h]; rfl
theorem first_own {s : Sr} {n : Str} (h : Ok s n) (ho : ownS s n) : (eachS s n).getD 0 [] = n := by
  obtain ⟨r, e⟩ := h.each_own ho
  rw [e]; rfl
theorem last_own {s : Sr} {n : Str} (h : Ok s n) (ho : ¬ ownS s n) : (eachS s n).getD ((eachS s n).length - 1) [] = n := by
  rw [h.each_last ho]; simp
theorem Ok.xlen {s : Sr} {n : Str} (h : Ok s n) : ∀ x ∈ eachS s n, x.length ≤ 1000000000 := fun x hx => by
  have := (nameCk_zero.1 (h.xs hx).1).1; omega
theorem Ok.pos {s : Sr} {n : Str} (h : Ok s n) : 1 ≤ (eachS s n).length := List.length_pos_of_mem h.mem
theorem Ok.nd {s : Sr} {n : Str} (h : Ok s n) (k : Int) (h1 : 0 ≤ k) (h2 : k ≤ 15) : Ok { s with ndots := k } n := by
  refine ⟨?_, h.n0⟩
  have h3 := h.s0
  unfold srCk at h3 ⊢
  split at h3
  · omega
  · rename_i q1
    split at h3
    · omega
    · rename_i q2
      split at h3
      · omega
      · rename_i q3
        rw [if_neg q1, if_neg q2, if_neg]
        rintro (q | q)
        · exact q3 (.inl q)
        · show False
          have q' : k < 0 ∨ 15 < k := q
          omega
theorem Ok.names {s : Sr} {n : Str} (h : Ok s n) : namesE s n = 0 := by rw [namesE, if_neg (by rw [h.s0]; decide)]; exact h.n0
theorem Ok.foldLen {s : Sr} {n : Str} (h : Ok s n) : (eachS s n).length = (eachS s (foldN n)).length := by
  have := congrArg List.length h.each_fold
  simpa using this



theorem dc_names {w : World} : Dc Tryz.prog w 59 (fun p : List Str × Option Addr × Nat => [.slice p.2.1 p.1.length p.2.2]) (fun p => Ch.rd p.2.1 1 encs p.1 :: p.1.flatMap (fun _ => [])) (fun p => p.1.length ≤ 9223372036854775807 ∧ ∀ s ∈ p.1, s.length ≤ 9223372036854775807) := dc_slice Tryz.underlying59 (by kernel_rfl) (by decide) enc_s (dc_str Tryz.underlying26)


theorem dc_sr {w : World} : Dc Tryz.prog w 82 (α := Sr × Option Addr × Nat) (fun q => srC q.1 q.2.1 q.2.2) (fun q => [Ch.rd q.2.1 1 encs q.1.doms]) (fun q => q.1.doms.length ≤ 9223372036854775807) := fun H enc base sp hd fuel cs x h => by
  obtain ⟨xs, n, rfl, _, hcl, hxl, hf⟩ := DataW.trod_struct Tryz.underlying82 h
  have hcl2 : cs.length = 2 := hcl.trans (by kernel_rfl)
  obtain ⟨x0, c0, r0, o0⟩ := dc_field hxl hf 0 (ft := 3) (off := 0) (k := 1) (by kernel_rfl) (by kernel_rfl) (dc_int Tryz.underlying3)
  obtain ⟨⟨x1, A, c⟩, c1, r1, o1⟩ := dc_field hxl hf 1 (ft := 59) (off := 1) (k := 1) (by kernel_rfl) (by kernel_rfl) dc_names
  have hcs := cut0 (cutc c0 (cutc c1 (cutn hcl2) rfl) rfl)
  exact ⟨(⟨x0, x1⟩, A, c), hcs, rd_cons (r1 _ List.mem_cons_self) nofun, o1.1⟩
end Go.Proofs.YtckfjfnkombelaaGreat
