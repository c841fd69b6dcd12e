import Derived.Test.YtnpdgmoeoidppaaGreatHaQa
/- tables: pushed to (nothing dropped) -/
namespace Go.Proofs.YtnpdgmoeoidppaaGreat
open Go.RowKit Go.Shelf
set_option linter.unusedVariables false
set_option linter.unusedSimpArgs false

theorem bu_24_0_1 (x0 : Int) (x1 : Option Addr) (x2 : Nat) (x3 : Nat) : Tryz.prog.built 24 [(0, .int .i64 x0), (1, .slice x1 x2 x3)] = some [.int .i64 x0, .slice x1 x2 x3].toArray := by kernel_rfl
theorem ent_134 : Enters Tryz.prog 134 := enters_of Tryz.func134 (by kernel_rfl) rfl
theorem ent_136 : Enters Tryz.prog 136 := enters_of Tryz.func136 (by kernel_rfl) rfl
theorem gI : FA Tryz.prog 103 0 0 := fun b o w => by kernel_rfl
theorem fa_103_1 : FA Tryz.prog 103 1 1 := fun b o w => by kernel_rfl
theorem gT : FA Tryz.prog 103 2 2 := fun b o w => by kernel_rfl
theorem dX : FA Tryz.prog 103 3 3 := fun b o w => by kernel_rfl
theorem gc : FA Tryz.prog 103 4 4 := fun b o w => by kernel_rfl

/-- ref17.put. -/
def eB (x : Le) : Bool → List Le → List Le
  | done, [] => if done then [] else [x]
  | done, y :: r => (if !done && decide (du x.e.host y.e.host ≤ 0) then [x] else []) ++ (if du x.e.host y.e.host ≠ 0 then [y] else []) ++ eB x (done || decide (du x.e.host y.e.host ≤ 0)) r
def ey (l : List Le) (x : Le) : List Le := eB x false l
def gb (l : List Le) (p : List Le) : List Le := p.foldl ey l
theorem putG_mem {x y : Le} : ∀ {l : List Le} {d : Bool}, y ∈ eB x d l → y = x ∨ y ∈ l
  | [], d, h => by
    rw [eB] at h; split at h
    · cases h
    · exact .inl (List.mem_singleton.1 h)
  | z :: r, d, h => by
    rw [eB, List.mem_append, List.mem_append] at h
    rcases h with (h | h) | h
    · split at h
      · exact .inl (List.mem_singleton.1 h)
      · cases h
    · split at h
      · exact .inr (by rw [List.mem_singleton.1 h]; exact .head _)
      · cases h
    · exact (putG_mem h).imp id (.tail _)
theorem putG_len (x : Le) : ∀ (l : List Le) (d : Bool), (eB x d l).length ≤ l.length + (if d then 0 else 1)
  | [], d => by cases d <;> simp [eB]
  | z :: r, d => by
    rw [eB, List.length_append, List.length_append]
    have h1 := putG_len x r true
    have h2 := putG_len x r d
    have h3 : ∀ b : Bool, (if b = true then [x] else []).length = if b = true then 1 else 0 := fun b => by cases b <;> rfl
    have h4 : (if du x.e.host z.e.host ≠ 0 then [z] else []).length ≤ 1 := by split <;> simp
    by_cases hc : du x.e.host z.e.host ≤ 0
    · rw [decide_eq_true hc] at *
      cases d <;> simp at h1 h2 h4 ⊢ <;> omega
    · rw [decide_eq_false hc] at *
      cases d <;> simp at h1 h2 h4 ⊢ <;> omega
theorem putG_dn {x y : Le} {d : Bool} {r : List Le} (h : d = true) (h2 : du x.e.host y.e.host ≠ 0) : eB x d (y :: r) = [y] ++ eB x d r := by
  rw [eB, h, if_pos h2]; simp
theorem putG_dz {x y : Le} {d : Bool} {r : List Le} (h : d = true) (h2 : ¬ du x.e.host y.e.host ≠ 0) : eB x d (y :: r) = eB x d r := by
  rw [eB, h, if_neg h2]; simp
theorem putG_nl {x y : Le} {d : Bool} {r : List Le} (h : d = false) (h3 : du x.e.host y.e.host ≤ 0) (h2 : du x.e.host y.e.host ≠ 0) : eB x d (y :: r) = [x] ++ [y] ++ eB x true r := by
  rw [eB, h, if_pos h2, decide_eq_true h3]; simp
theorem putG_nz {x y : Le} {d : Bool} {r : List Le} (h : d = false) (h3 : du x.e.host y.e.host ≤ 0) (h2 : ¬ du x.e.host y.e.host ≠ 0) : eB x d (y :: r) = [x] ++ eB x true r := by
  rw [eB, h, if_neg h2, decide_eq_true h3]; simp
theorem putG_ng {x y : Le} {d : Bool} {r : List Le} (h : d = false) (h3 : ¬ du x.e.host y.e.host ≤ 0) (h2 : du x.e.host y.e.host ≠ 0) : eB x d (y :: r) = [y] ++ eB x d r := by
  rw [eB, h, if_pos h2, decide_eq_false h3]; simp
theorem putE_tb {l : List Le} {x : Le} (h : TbOk l) (hx : EnOk x.e ∧ ek x.e = true) : TbOk (ey l x) := fun y hy => by
  rcases putG_mem hy with rfl | h2
  · exact hx
  · exact h y h2
theorem putE_len (l : List Le) (x : Le) : (ey l x).length ≤ l.length + 1 := putG_len x l false
theorem putAll_succ {l p : List Le} {k : Nat} (h : k < p.length) : gb l (p.take (k + 1)) = ey (gb l (p.take k)) (p.getD k br) := by
  rw [gb, bK p br k h, List.foldl_append]; rfl
def MapIs (m : List (bf × Bool)) (pre : List bf) : Prop := ∀ key, bT m key = if key ∈ pre then some true else none
theorem mapIs_val {m : List (bf × Bool)} {pre : List bf} (h : MapIs m pre) (a : bf) : ((bT m a).map fun b : Bool => Value.bool b).getD (.bool false) = .bool (decide (a ∈ pre)) := by
  rw [h a]; split
  · rename_i h1; rw [decide_eq_true h1]; rfl
  · rename_i h1; rw [decide_eq_false h1]; rfl
theorem mapIs_succ {m : List (bf × Bool)} {l : List bf} {k : Nat} (h : MapIs m (l.take k)) (hk : k < l.length) : MapIs (upd m (l.getD k []) true) (l.take (k + 1)) := fun key => by
  rw [lkp_upd, h key, bK l [] k hk]
  by_cases e : key = l.getD k []
  · rw [if_pos e, if_pos (by rw [e]; simp)]
  · rw [if_neg e]
    by_cases h3 : key ∈ l.take k
    · rw [if_pos h3, if_pos (List.mem_append_left _ h3)]
    · rw [if_neg h3, if_neg (fun q => (List.mem_append.1 q).elim h3 (fun q => e (List.mem_singleton.1 q)))]
theorem jt {l : List bf} (h : l.Nodup) {k : Nat} (hk : k < l.length) : ¬ l.getD k [] ∈ l.take k := fun q => by
  obtain ⟨i, hi, e⟩ := List.mem_iff_getElem.1 q
  have hi2 : i < k := by simp at hi; omega
  rw [List.getElem_take, List.getD_eq_getElem?_getD, List.getElem?_eq_getElem hk] at e
  have := List.pairwise_iff_getElem.1 h i k (by omega) hk hi2
  exact this e

set_option maxRecDepth 100000 in
set_option maxHeartbeats 1000000 in
theorem c_ref17_put (l : List Le) (A : Option Addr) (c : Nat) (x : Le) (hok : TbOk l) (hx : x.e.host.length ≤ 1000) (hlen : l.length ≤ 1000000) : RC Tryz.prog 136 #[.slice A l.length c, .agg (dB x).toArray] [Ch.rd A 7 dB l] (α := Option Addr × Nat) (fun p => .slice p.1 (ey l x).length p.2) (fun p => [Ch.ls p.1 p.2 34 7 dB (ey l x)]) := by
 refine bx (args := [.slice A l.length c, .agg (dB x).toArray]) 49 Tryz.func136 rfl rfl rfl (fun w0 => ?_)
 refine ar ?_
 refine ai ?_
 refine cv rfl rfl rfl (fun b1 => ?_)
 refine au (ao rfl) rfl rfl ?_
 refine ah ?_
 refine aq ?_
 refine ar ?_
 refine ai ?_
 refine au (ao rfl) rfl rfl ?_
 refine ah ?_
 refine aq ?_
 refine ar ?_
 refine ai ?_
 refine au (ao rfl) rfl rfl ?_
 refine ah ?_
 refine aq ?_
 refine ar ?_
 refine ar ?_
 refine ai ?_
 refine au (ao rfl) rfl rfl ?_
 refine ah ?_
 refine aq ?_
 refine aW ?_
 refine bF (fun w h => h.nilsl 34 7) ?_
 refine cP (σ := Nat × Bool × List Le × Option Addr × Nat) [5, 6, 7, 8, 9, 10, 11, 12, 13, 14, 15, 16, 17, 18, 19, 20, 21, 22, 23, 24, 25, 26, 27, 28, 29, 30, 31, 32, 33, 34, 35, 36, 37, 38, 39, 40, 41] (fun q => q.1 ≤ l.length ∧ ey l x = q.2.2.1 ++ eB x q.2.1 (l.drop q.1) ∧ q.2.2.1.length ≤ 2 * q.1) (fun q => l.length - q.1) (fun q => [(7, .int .i64 q.1), (6, .bool q.2.1), (5, .slice q.2.2.2.1 q.2.2.1.length q.2.2.2.2)]) (fun q => Ch.ls q.2.2.2.1 q.2.2.2.2 34 7 dB q.2.2.1) ((0, false, [], none, 0)) ?_ ⟨rfl, rfl, rfl, trivial⟩ rfl (fun q hI => ?_)
 exact ⟨Nat.zero_le _, rfl, Nat.zero_le _⟩
 obtain ⟨k, done, acc, A5, c5⟩ := q
 dsimp only at hI ⊢
 refine ar ?_
 refine ar ?_
 refine ai ?_
 refine au (ap rfl) rfl rfl ?_
 refine au (ap rfl) rfl rfl ?_
 refine au (bg Tryz.underlying22 rfl) rfl rfl ?_
 refine au (bI rfl rfl) rfl rfl ?_
 refine aB (t := 12) rfl (fun h4_3 => ?_) (fun h4_3 => ?_)
 have hk : k < l.length := by omega
 have hb9 := hok.at hk
 have hh9 := hb9.h
 refine ah ?_
 refine aq ?_
 refine aA rfl ?_
 refine aS ?_
 refine aq ?_
 refine ar ?_
 refine aW ?_
 refine ar ?_
 refine dz 9 rfl cu ?_
 refine aF (i := 0) rfl aj (aD cQ rfl) aE aE rfl (aa (ae (aa (ak (ae (aa av)))))) (by kernel_rfl) rfl ?_
 refine aF (i := 1) rfl aj (aM 1 bN rfl rfl rfl) aE aE rfl (aa (ae (aa (ak (ae (aa av)))))) (by kernel_rfl) rfl ?_
 refine aF (i := 2) rfl aj (ap rfl) aE aE rfl (aa (ae (aa (ak (ae (aa av)))))) (by kernel_rfl) rfl ?_
 refine aF (i := 3) rfl aj (ap rfl) aE aE rfl (aa (ae (aa (ak (ae (aa av)))))) (by kernel_rfl) rfl ?_
 refine aF (i := 4) rfl aj (bz  Tryz.underlying22 aR rfl rfl (bE 0 rfl) rfl (by omega)) aE aE rfl (aa (ae (aa (ak (ae (aa av)))))) (by kernel_rfl) rfl ?_
 refine aF (i := 5) rfl aj (aD cQ rfl) aE aE rfl (aa (ae (aa (ak (ae (aa av)))))) (by kernel_rfl) rfl ?_
 refine aF (i := 6) rfl aj (cf cj br bN rfl (bE 0 rfl) (by omega) rfl rfl) aE aE rfl (aa (ae (aa (ak (ae (aa av)))))) (by kernel_rfl) rfl ?_
 refine cy (i := 7) rfl rfl rfl (bm rfl ent_141) (by kernel_rfl) rfl ?_
 refine bb rfl ent_141 (ii _ _ (by omega) (by omega)) rfl ?_
 refine ah ?_
 refine cW aE ?_
 refine aF (i := 8) rfl aj (ao rfl) aE aE rfl (aa (ae (aa (ak (ae (aa av)))))) (by kernel_rfl) rfl ?_
 refine cp (by kernel_rfl) ?_
 refine aq ?_
 refine ar ?_
 refine ar ?_
 refine ai ?_
 refine au (ap rfl) rfl rfl ?_
 refine bD (t := 23) rfl (fun h7_0 => ?_) (fun h7_0 => ?_)
 refine au (bC rfl) rfl rfl ?_
 refine au (ap rfl) rfl rfl ?_
 refine ax rfl rfl rfl rfl ?_
 refine ax rfl rfl rfl rfl ?_
 refine au (aI rfl rfl) rfl rfl ?_
 refine ah ?_
 refine aq ?_
 refine aC rfl ?_
 refine aS ?_
 refine aq ?_
 refine ar ?_
 refine ai ?_
 refine au (ap rfl) rfl rfl ?_
 refine au (bX rfl rfl) rfl rfl ?_
 refine aB (t := 34) rfl (fun h9_1 => ?_) (fun h9_1 => ?_)
 refine ah ?_
 refine aq ?_
 refine aA rfl ?_
 refine ai ?_
 refine au (ap rfl) rfl rfl ?_
 refine au (ap rfl) rfl rfl ?_
 refine au (ap rfl) rfl rfl ?_
 refine au (bz  Tryz.underlying22 aR rfl rfl (bE 0 rfl) rfl (by omega)) rfl rfl ?_
 refine au (bW cj br aR rfl (bE 0 rfl) (by omega) rfl rfl rfl) rfl rfl ?_
 refine cD (vs := [_]) ([l.getD k br] : List (Le)) cj Tryz.underlying22 aR rfl rfl rfl rfl rfl rfl (fun As2 => ?_)
 refine cC (enc := dB) (sz := 7) _ Tryz.underlying22 aR rfl rfl rfl (fun A c => (.s (.z))) (d5 0 Tryz.underlying22 rfl) (by simp only [List.length_append, List.length_cons, List.length_nil]; omega) (by simp only [List.length_append, List.length_cons, List.length_nil]; omega) rfl (fun A2 c2 => ?_)
 refine au (ao rfl) rfl rfl ?_
 refine ah ?_
 refine bo ?_
 refine aq ?_
 refine ai ?_
 refine au (ap rfl) rfl rfl ?_
 refine au (bl rfl rfl (by omega) (by omega)) rfl rfl ?_
 refine au (ao rfl) rfl rfl ?_
 refine ah ?_
 refine bq ((k + 1, done, acc ++ [l.getD k br], A2, c2)) ?_ ?_ ⟨rfl, rfl, rfl, trivial⟩ (by repeat (first | exact trivial | refine ⟨rfl, ?_⟩)) (fun w h => h.weak (.cons _ (List.Sublist.refl _)) (fun s hs => hs))
 exact ⟨by show k + 1 ≤ _; omega, by show ey l x = (acc ++ [l.getD k br]) ++ eB x done (l.drop (k + 1)); rw [hI.2.1, cG l br k hk, putG_dn h7_0 h9_1] <;> try simp only [List.append_assoc], by show (acc ++ [l.getD k br]).length ≤ 2 * (k + 1); (try simp only [List.length_append, List.length_cons, List.length_nil]); omega⟩
 show l.length - (k + 1) < l.length - k
 omega
 refine ah ?_
 refine aq ?_
 refine aC rfl ?_
 refine aS ?_
 refine bo ?_
 refine aq ?_
 refine ai ?_
 refine au (ap rfl) rfl rfl ?_
 refine au (bl rfl rfl (by omega) (by omega)) rfl rfl ?_
 refine au (ao rfl) rfl rfl ?_
 refine ah ?_
 refine bq ((k + 1, done, acc, A5, c5)) ?_ ?_ ⟨rfl, rfl, rfl, trivial⟩ (by repeat (first | exact trivial | refine ⟨rfl, ?_⟩)) aE
 exact ⟨by show k + 1 ≤ _; omega, by show ey l x = (acc) ++ eB x done (l.drop (k + 1)); rw [hI.2.1, cG l br k hk, putG_dz h7_0 h9_1] <;> try simp only [List.append_assoc], by show (acc).length ≤ 2 * (k + 1); (try simp only [List.length_append, List.length_cons, List.length_nil]); omega⟩
 show l.length - (k + 1) < l.length - k
 omega
 refine au (bC rfl) rfl rfl ?_
 refine au (ap rfl) rfl rfl ?_
 refine az rfl rfl ?_
 refine au (ap rfl) rfl rfl ?_
 refine az rfl rfl ?_
 refine au (fp rfl rfl) rfl rfl ?_
 refine aB (t := 27) rfl (fun h7_4 => ?_) (fun h7_4 => ?_)
 refine au (aG rfl rfl) rfl rfl ?_
 refine ah ?_
 refine aq ?_
 refine aA rfl ?_
 refine ai ?_
 refine au (ap rfl) rfl rfl ?_
 refine au (a6 1 aR rfl rfl rfl rfl) rfl rfl ?_
 refine cD (vs := [_]) ([x] : List (Le)) cj Tryz.underlying22 aR rfl rfl rfl rfl rfl rfl (fun As4 => ?_)
 refine cC (enc := dB) (sz := 7) _ Tryz.underlying22 aR rfl rfl rfl (fun A c => (.s (.z))) (d5 0 Tryz.underlying22 rfl) (by simp only [List.length_append, List.length_cons, List.length_nil]; omega) (by simp only [List.length_append, List.length_cons, List.length_nil]; omega) rfl (fun A4 c4 => ?_)
 refine au (ao rfl) rfl rfl ?_
 refine au (ao rfl) rfl rfl ?_
 refine ah ?_
 refine aq ?_
 refine ar ?_
 refine ai ?_
 refine au (ap rfl) rfl rfl ?_
 refine au (bX rfl rfl) rfl rfl ?_
 refine aB (t := 34) rfl (fun h9_1 => ?_) (fun h9_1 => ?_)
 refine ah ?_
 refine aq ?_
 refine aA rfl ?_
 refine ai ?_
 refine au (ap rfl) rfl rfl ?_
 refine au (ap rfl) rfl rfl ?_
 refine au (ap rfl) rfl rfl ?_
 refine au (bz  Tryz.underlying22 aR rfl rfl (bE 0 rfl) rfl (by omega)) rfl rfl ?_
 refine au (bW cj br aR rfl (bE 0 rfl) (by omega) rfl rfl rfl) rfl rfl ?_
 refine cD (vs := [_]) ([l.getD k br] : List (Le)) cj Tryz.underlying22 aR rfl rfl rfl rfl rfl rfl (fun As6 => ?_)
 refine cC (enc := dB) (sz := 7) _ Tryz.underlying22 aR rfl rfl rfl (fun A c => (.s (.s (.z)))) (d5 0 Tryz.underlying22 rfl) (by simp only [List.length_append, List.length_cons, List.length_nil]; omega) (by simp only [List.length_append, List.length_cons, List.length_nil]; omega) rfl (fun A6 c6 => ?_)
 refine au (ao rfl) rfl rfl ?_
 refine ah ?_
 refine bo ?_
 refine aq ?_
 refine ai ?_
 refine au (ap rfl) rfl rfl ?_
 refine au (bl rfl rfl (by omega) (by omega)) rfl rfl ?_
 refine au (ao rfl) rfl rfl ?_
 refine ah ?_
 refine bq ((k + 1, true, acc ++ [x] ++ [l.getD k br], A6, c6)) ?_ ?_ ⟨rfl, rfl, rfl, trivial⟩ (by repeat (first | exact trivial | refine ⟨rfl, ?_⟩)) (fun w h => h.weak (.cons _ (.cons _ (List.Sublist.refl _))) (fun s hs => hs))
 exact ⟨by show k + 1 ≤ _; omega, by show ey l x = (acc ++ [x] ++ [l.getD k br]) ++ eB x true (l.drop (k + 1)); rw [hI.2.1, cG l br k hk, putG_nl h7_0 h7_4 h9_1] <;> try simp only [List.append_assoc], by show (acc ++ [x] ++ [l.getD k br]).length ≤ 2 * (k + 1); (try simp only [List.length_append, List.length_cons, List.length_nil]); omega⟩
 show l.length - (k + 1) < l.length - k
 omega
 refine ah ?_
 refine aq ?_
 refine aC rfl ?_
 refine aS ?_
 refine bo ?_
 refine aq ?_
 refine ai ?_
 refine au (ap rfl) rfl rfl ?_
 refine au (bl rfl rfl (by omega) (by omega)) rfl rfl ?_
 refine au (ao rfl) rfl rfl ?_
 refine ah ?_
 refine bq ((k + 1, true, acc ++ [x], A4, c4)) ?_ ?_ ⟨rfl, rfl, rfl, trivial⟩ (by repeat (first | exact trivial | refine ⟨rfl, ?_⟩)) (fun w h => h.weak (.cons _ (List.Sublist.refl _)) (fun s hs => hs))
 exact ⟨by show k + 1 ≤ _; omega, by show ey l x = (acc ++ [x]) ++ eB x true (l.drop (k + 1)); rw [hI.2.1, cG l br k hk, putG_nz h7_0 h7_4 h9_1] <;> try simp only [List.append_assoc], by show (acc ++ [x]).length ≤ 2 * (k + 1); (try simp only [List.length_append, List.length_cons, List.length_nil]); omega⟩
 show l.length - (k + 1) < l.length - k
 omega
 refine au (aG rfl rfl) rfl rfl ?_
 refine ah ?_
 refine aq ?_
 refine aC rfl ?_
 refine aS ?_
 refine aq ?_
 refine ar ?_
 refine ai ?_
 refine au (ap rfl) rfl rfl ?_
 refine au (bX rfl rfl) rfl rfl ?_
 refine aB (t := 34) rfl (fun h9_1 => ?_) (fun h9_1 => ?_)
 refine ah ?_
 refine aq ?_
 refine aA rfl ?_
 refine ai ?_
 refine au (ap rfl) rfl rfl ?_
 refine au (ap rfl) rfl rfl ?_
 refine au (ap rfl) rfl rfl ?_
 refine au (bz  Tryz.underlying22 aR rfl rfl (bE 0 rfl) rfl (by omega)) rfl rfl ?_
 refine au (bW cj br aR rfl (bE 0 rfl) (by omega) rfl rfl rfl) rfl rfl ?_
 refine cD (vs := [_]) ([l.getD k br] : List (Le)) cj Tryz.underlying22 aR rfl rfl rfl rfl rfl rfl (fun As8 => ?_)
 refine cC (enc := dB) (sz := 7) _ Tryz.underlying22 aR rfl rfl rfl (fun A c => (.s (.z))) (d5 0 Tryz.underlying22 rfl) (by simp only [List.length_append, List.length_cons, List.length_nil]; omega) (by simp only [List.length_append, List.length_cons, List.length_nil]; omega) rfl (fun A8 c8 => ?_)
 refine au (ao rfl) rfl rfl ?_
 refine ah ?_
 refine bo ?_
 refine aq ?_
 refine ai ?_
 refine au (ap rfl) rfl rfl ?_
 refine au (bl rfl rfl (by omega) (by omega)) rfl rfl ?_
 refine au (ao rfl) rfl rfl ?_
 refine ah ?_
 refine bq ((k + 1, done, acc ++ [l.getD k br], A8, c8)) ?_ ?_ ⟨rfl, rfl, rfl, trivial⟩ (by repeat (first | exact trivial | refine ⟨rfl, ?_⟩)) (fun w h => h.weak (.cons _ (List.Sublist.refl _)) (fun s hs => hs))
 exact ⟨by show k + 1 ≤ _; omega, by show ey l x = (acc ++ [l.getD k br]) ++ eB x done (l.drop (k + 1)); rw [hI.2.1, cG l br k hk, putG_ng h7_0 h7_4 h9_1] <;> try simp only [List.append_assoc], by show (acc ++ [l.getD k br]).length ≤ 2 * (k + 1); (try simp only [List.length_append, List.length_cons, List.length_nil]); omega⟩
 show l.length - (k + 1) < l.length - k
 omega
 refine ah ?_
 refine aq ?_
 refine aC rfl ?_
 refine aS ?_
 refine bo ?_
 refine aq ?_
 refine ai ?_
 refine au (ap rfl) rfl rfl ?_
 refine au (bl rfl rfl (by omega) (by omega)) rfl rfl ?_
 refine au (ao rfl) rfl rfl ?_
 refine ah ?_
 refine bq ((k + 1, done, acc, A5, c5)) ?_ ?_ ⟨rfl, rfl, rfl, trivial⟩ (by repeat (first | exact trivial | refine ⟨rfl, ?_⟩)) aE
 exfalso; omega
 show l.length - (k + 1) < l.length - k
 omega
 refine ah ?_
 refine aq ?_
 refine aC rfl ?_
 refine bw ?_
 refine aY ?_
 refine aZ ?_
 refine a7 ?_
 refine aq ?_
 refine ar ?_
 refine ar ?_
 have hkl : k = l.length := by omega
 have hE0 := hI.2.1
 rw [List.drop_of_length_le (by omega), eB] at hE0
 refine ai ?_
 refine au (ap rfl) rfl rfl ?_
 refine bD (t := 42) rfl (fun h11_0 => ?_) (fun h11_0 => ?_)
 refine au (bC rfl) rfl rfl ?_
 refine ah ?_
 refine aq ?_
 refine aC rfl ?_
 refine aS ?_
 refine aq ?_
 refine ar ?_
 refine ai ?_
 refine au (ap rfl) rfl rfl ?_
 refine au (ao rfl) rfl rfl ?_
 refine ah ?_
 refine aq ?_
 refine aQ ?_
 refine aV (ts := [4]) rfl rfl rfl (fun w hw => ?_)
 have hE : ey l x = acc := by rw [hE0, h11_0]; simp
 exact ⟨(A5, c5), by rw [hE]; rfl, hw.base, by rw [hE]; exact (hw.weak (.cons_cons _ (.cons _ .slnil)) (fun s hs => hs)).toNews⟩
 refine au (bC rfl) rfl rfl ?_
 refine ah ?_
 refine aq ?_
 refine aA rfl ?_
 refine ai ?_
 refine au (ap rfl) rfl rfl ?_
 refine au (a6 1 aR rfl rfl rfl rfl) rfl rfl ?_
 refine cD (vs := [_]) ([x] : List (Le)) cj Tryz.underlying22 aR rfl rfl rfl rfl rfl rfl (fun As10 => ?_)
 refine cC (enc := dB) (sz := 7) _ Tryz.underlying22 aR rfl rfl rfl (fun A c => (.s (.z))) (d5 0 Tryz.underlying22 rfl) (by simp only [List.length_append, List.length_cons, List.length_nil]; omega) (by simp only [List.length_append, List.length_cons, List.length_nil]; omega) rfl (fun A10 c10 => ?_)
 refine au (ao rfl) rfl rfl ?_
 refine ah ?_
 refine aq ?_
 refine ar ?_
 refine ai ?_
 refine au (ap rfl) rfl rfl ?_
 refine au (ao rfl) rfl rfl ?_
 refine ah ?_
 refine aq ?_
 refine aQ ?_
 refine aV (ts := [4]) rfl rfl rfl (fun w hw => ?_)
 have hE : ey l x = acc ++ [x] := by rw [hE0, h11_0]; simp
 exact ⟨(A10, c10), by rw [hE]; rfl, hw.base, by rw [hE]; exact (hw.weak (.cons _ (.cons_cons _ (.cons _ .slnil))) (fun s hs => hs)).toNews⟩

set_option maxRecDepth 100000 in
set_option maxHeartbeats 4000000 in
theorem c_Apply0 (v : Int) (l : List Le) (A : Option Addr) (c : Nat) (full : Bool) (bs ver : Int) (put : List Le) (P : Option Addr) (pc : Nat) (D : Option Addr) (dc : Nat) (hok : TbOk l) (hlen : l.length ≤ 1000) (h0 : bO v l = 0) (hver : v < ver ∧ ver ≤ 2147483647) (hfull : full = true → bs = 0) (hdelta : full = false → bs = v) (hpok : TbOk put) (hpl : put.length ≤ 1000) (hck : ∀ y ∈ put, cJ y.e = 0) (hnd : (put.map (fun y : Le => aX y.e.host)).Nodup) (hsz : (gb (if full = true then [] else l) put).length ≤ 256) : RC Tryz.prog 56 #[.agg (iM v A l.length c).toArray, .agg #[.bool full, .int .i64 bs, .int .i64 ver, .slice P put.length pc, .slice D 0 dc]] [Ch.rd A 7 dB l, Ch.rall (l.flatMap e6), Ch.rd P 7 dB put, Ch.rall (put.flatMap e6)] (α := Option Addr × Nat) (fun p => .tuple #[.agg (iM ver p.1 (gb (if full = true then [] else l) put).length p.2).toArray, .int .i64 0]) (fun p => [Ch.ls p.1 p.2 34 7 dB (gb (if full = true then [] else l) put)]) := by
 refine bx (args := [.agg (iM v A l.length c).toArray, .agg #[.bool full, .int .i64 bs, .int .i64 ver, .slice P put.length pc, .slice D 0 dc]]) 201 Tryz.func56 rfl rfl rfl (fun w0 => ?_)
 cases full
 have hbv := hdelta rfl
 refine ar ?_
 refine ai ?_
 refine cv rfl rfl rfl (fun b1 => ?_)
 refine cv rfl rfl rfl (fun b2 => ?_)
 refine bj dh rfl rfl (fun b3 => ?_)
 refine au (ao rfl) rfl rfl ?_
 refine ah ?_
 refine aq ?_
 refine ar ?_
 refine ai ?_
 refine au (a6 2 dh rfl rfl rfl rfl) rfl rfl ?_
 refine bp rfl ent_62 rfl (eO _ _ _ _ hok (by omega)) (fun w hw => (aO (bJ 0 rfl hw) (aO (bJ 1 rfl hw) bd))) ?_
 refine au (ao rfl) rfl rfl ?_
 refine ah ?_
 refine aq ?_
 refine ar ?_
 refine ar ?_
 refine ai ?_
 refine au (ap rfl) rfl rfl ?_
 refine au (bX rfl rfl) rfl rfl ?_
 refine dJ (t := 21) rfl (fun h => h h0) ?_
 refine ah ?_
 refine aq ?_
 refine aC rfl ?_
 refine aS ?_
 refine aq ?_
 refine ar ?_
 refine ar ?_
 refine ai ?_
 refine au (aD gT rfl) rfl rfl ?_
 refine au (aM 1 de rfl rfl rfl) rfl rfl ?_
 refine au (aD eQ rfl) rfl rfl ?_
 refine au (aM 2 de rfl rfl rfl) rfl rfl ?_
 refine au (fp rfl rfl) rfl rfl ?_
 refine dJ (t := 28) rfl (by omega) ?_
 refine au (ap rfl) rfl rfl ?_
 refine az rfl rfl ?_
 refine au (aD gT rfl) rfl rfl ?_
 refine az rfl rfl ?_
 refine au (aM 1 de rfl rfl rfl) rfl rfl ?_
 refine az rfl rfl ?_
 refine au (c9 rfl rfl) rfl rfl ?_
 refine dJ (t := 32) rfl (by omega) ?_
 refine au (aI rfl rfl) rfl rfl ?_
 refine ah ?_
 refine aq ?_
 refine aC rfl ?_
 refine aS ?_
 refine aq ?_
 refine ar ?_
 refine ar ?_
 refine ai ?_
 refine au (aD gI rfl) rfl rfl ?_
 refine au (aM 1 jT rfl rfl rfl) rfl rfl ?_
 refine cU (t := 36) (.bool false) rfl (congrArg Value.bool rfl) ?_
 refine au (ap rfl) rfl rfl ?_
 refine ax rfl rfl rfl rfl ?_
 refine ax rfl rfl rfl rfl ?_
 refine ax rfl rfl rfl rfl ?_
 refine ax rfl rfl rfl rfl ?_
 refine cY rfl rfl rfl ?_
 refine cY rfl rfl rfl ?_
 refine cY rfl rfl rfl ?_
 refine cY rfl rfl rfl ?_
 refine ax rfl rfl rfl rfl ?_
 refine au (aI rfl rfl) rfl rfl ?_
 refine ah ?_
 refine aq ?_
 refine aC rfl ?_
 refine aS ?_
 refine aq ?_
 refine ar ?_
 refine ar ?_
 refine ai ?_
 refine au (aD gI rfl) rfl rfl ?_
 refine au (aM 1 jT rfl rfl rfl) rfl rfl ?_
 refine cU (t := 50) (.bool false) rfl (congrArg Value.bool rfl) ?_
 refine au (bC rfl) rfl rfl ?_
 refine au (ap rfl) rfl rfl ?_
 refine az rfl rfl ?_
 refine au (aD fa_103_1 rfl) rfl rfl ?_
 refine az rfl rfl ?_
 refine au (aM 1 de rfl rfl rfl) rfl rfl ?_
 refine az rfl rfl ?_
 refine au (aD eQ rfl) rfl rfl ?_
 refine az rfl rfl ?_
 refine au (aM 2 de rfl rfl rfl) rfl rfl ?_
 refine az rfl rfl ?_
 refine au (bX rfl rfl) rfl rfl ?_
 refine dJ (t := 57) rfl (by omega) ?_
 refine au (aG rfl rfl) rfl rfl ?_
 refine ah ?_
 refine aq ?_
 refine aC rfl ?_
 refine aS ?_
 refine aq ?_
 refine ar ?_
 refine ar ?_
 refine ai ?_
 refine au (ao rfl) rfl rfl ?_
 refine ah ?_
 refine aq ?_
 refine aW ?_
 refine bV (σ := Nat) [5, 6, 7, 60, 61, 62, 63, 64, 65, 66, 67, 68, 69, 70, 71, 72, 73, 74, 75, 76] (fun k => k ≤ put.length) (fun k => put.length - k) (fun k => [(7, .int .i64 k)]) (0) ?_ ⟨rfl, trivial⟩ (fun k hI => ?_)
 exact Nat.zero_le _
 refine ar ?_
 refine ar ?_
 refine ai ?_
 refine au (ap rfl) rfl rfl ?_
 refine au (aD dX rfl) rfl rfl ?_
 refine au (aM 1 bZ rfl rfl rfl) rfl rfl ?_
 refine au (bg Tryz.underlying22 rfl) rfl rfl ?_
 refine au (bI rfl rfl) rfl rfl ?_
 refine aB (t := 64) rfl (fun h11_4 => ?_) (fun h11_4 => ?_)
 have hk : k < put.length := by omega
 have hb9 := hpok.at hk
 refine ah ?_
 refine aq ?_
 refine aA rfl ?_
 refine aS ?_
 refine aq ?_
 refine ar ?_
 refine aW ?_
 refine ar ?_
 refine ai ?_
 refine au (aD dX rfl) rfl rfl ?_
 refine au (aM 1 bZ rfl rfl rfl) rfl rfl ?_
 refine au (ap rfl) rfl rfl ?_
 refine au (bz  Tryz.underlying22 aR rfl rfl (bE 2 rfl) rfl (by omega)) rfl rfl ?_
 refine au (bW cj br aR rfl (bE 2 rfl) (by omega) rfl rfl rfl) rfl rfl ?_
 refine bp rfl ent_133 rfl (fA _ _ _ _ _ hb9.wa (by have := hb9.la; omega) (by have := hb9.lp; omega) hb9.k) (fun w hw => (aO (bG (bJ 3 rfl hw) (bL (bA (by omega)) _ (gD _))) (aO (bG (bJ 3 rfl hw) (bL (bA (by omega)) _ (jA _))) bd))) ?_
 refine au (ao rfl) rfl rfl ?_
 refine ah ?_
 refine aq ?_
 refine ar ?_
 refine ai ?_
 refine au (ap rfl) rfl rfl ?_
 refine au (bX rfl rfl) rfl rfl ?_
 refine dJ (t := 74) rfl (fun h => h (hck _ (bA hk))) ?_
 refine ah ?_
 refine aq ?_
 refine aC rfl ?_
 refine aS ?_
 refine bo ?_
 refine aq ?_
 refine ai ?_
 refine au (ap rfl) rfl rfl ?_
 refine au (bl rfl rfl (by omega) (by omega)) rfl rfl ?_
 refine au (ao rfl) rfl rfl ?_
 refine ah ?_
 refine bq (k + 1) ?_ ?_ ⟨rfl, trivial⟩ (by repeat (first | exact trivial | refine ⟨rfl, ?_⟩)) aE
 omega
 omega
 refine ah ?_
 refine aq ?_
 refine aC rfl ?_
 refine bw ?_
 refine aY ?_
 refine aZ ?_
 refine a7 ?_
 refine aq ?_
 refine ar ?_
 refine ar ?_
 refine ai ?_
 refine au (ao rfl) rfl rfl ?_
 refine ah ?_
 refine aq ?_
 refine aW ?_
 refine bV (σ := Unit) [5, 6, 8, 77, 78, 79, 80, 81, 82, 83, 84, 85, 86, 87, 88, 89, 90, 91, 92, 93] (fun _ => True) (fun _ => 0) (fun _ => [(8, .int .i64 0)]) (()) ?_ ⟨rfl, trivial⟩ (fun _ hI => ?_)
 trivial
 refine ar ?_
 refine ar ?_
 refine ai ?_
 refine au (ap rfl) rfl rfl ?_
 refine au (aD gc rfl) rfl rfl ?_
 refine au (aM 1 ip rfl rfl rfl) rfl rfl ?_
 refine au (bg Tryz.underlying59 rfl) rfl rfl ?_
 refine au (bI rfl rfl) rfl rfl ?_
 refine dJ (t := 81) rfl (by omega) ?_
 refine ah ?_
 refine aq ?_
 refine aC rfl ?_
 refine bw ?_
 refine aY ?_
 refine aZ ?_
 refine a7 ?_
 refine aq ?_
 refine ar ?_
 refine ai ?_
 refine au (ao rfl) rfl rfl ?_
 refine ah ?_
 refine aq ?_
 refine ar ?_
 refine ar ?_
 refine ai ?_
 refine au (ao rfl) rfl rfl ?_
 refine ah ?_
 refine aq ?_
 refine aW ?_
 refine bF (fun w h => h.nilsl 26 1) ?_
 refine cP (σ := Nat × List bf × Option Addr × Nat) [9, 10, 94, 95, 96, 97, 98, 99, 100, 101, 102, 103, 104, 105, 106, 107, 108, 109] (fun q => q.1 ≤ put.length ∧ q.2.1 = (put.take q.1).map (fun y : Le => aX y.e.host)) (fun q => put.length - q.1) (fun q => [(10, .int .i64 q.1), (9, .slice q.2.2.1 q.2.1.length q.2.2.2)]) (fun q => Ch.ls q.2.2.1 q.2.2.2 26 1 d9 q.2.1) ((0, [], none, 0)) ?_ ⟨rfl, rfl, trivial⟩ rfl (fun q hI => ?_)
 exact ⟨Nat.zero_le _, rfl⟩
 obtain ⟨k, acc, Ak, ck⟩ := q
 dsimp only at hI ⊢
 have hal : acc.length = k := by rw [hI.2, List.length_map, List.length_take]; omega
 refine ar ?_
 refine ar ?_
 refine ai ?_
 refine au (ap rfl) rfl rfl ?_
 refine au (aD dX rfl) rfl rfl ?_
 refine au (aM 2 bZ rfl rfl rfl) rfl rfl ?_
 refine au (bg Tryz.underlying22 rfl) rfl rfl ?_
 refine au (bI rfl rfl) rfl rfl ?_
 refine aB (t := 98) rfl (fun h24_4 => ?_) (fun h24_4 => ?_)
 have hk : k < put.length := by omega
 have hb9 := hpok.at hk
 have hh9 := hb9.h
 refine ah ?_
 refine aq ?_
 refine aA rfl ?_
 refine aS ?_
 refine aq ?_
 refine ar ?_
 refine aW ?_
 refine ai ?_
 refine au (ap rfl) rfl rfl ?_
 refine au (aD dX rfl) rfl rfl ?_
 refine au (aM 2 bZ rfl rfl rfl) rfl rfl ?_
 refine au (ap rfl) rfl rfl ?_
 refine au (bz  Tryz.underlying22 aR rfl rfl (bE 2 rfl) rfl (by omega)) rfl rfl ?_
 refine au (bW cj br aR rfl (bE 2 rfl) (by omega) rfl rfl rfl) rfl rfl ?_
 refine bb rfl ent_134 (c_ref16_Key _ _ _ _ _ (by omega)) rfl ?_
 refine cD (vs := [_]) ([aX (put.getD k br).e.host] : List (bf)) ct Tryz.underlying59 bN rfl rfl rfl rfl rfl rfl (fun As4 => ?_)
 refine cC (enc := d9) (sz := 1) _ Tryz.underlying59 bN rfl rfl rfl (fun A c => (.s (.z))) (d5 0 Tryz.underlying59 rfl) (by simp only [List.length_cons, List.length_nil, Nat.zero_add]; omega) (by simp only [List.length_cons, List.length_nil, Nat.zero_add]; omega) rfl (fun A4 c4 => ?_)
 refine au (ao rfl) rfl rfl ?_
 refine ah ?_
 refine bo ?_
 refine aq ?_
 refine ai ?_
 refine au (ap rfl) rfl rfl ?_
 refine au (bl rfl rfl (by omega) (by omega)) rfl rfl ?_
 refine au (ao rfl) rfl rfl ?_
 refine ah ?_
 refine bq ((k + 1, acc ++ [aX (put.getD k br).e.host], A4, c4)) ?_ ?_ ⟨rfl, rfl, trivial⟩ (by repeat (first | exact trivial | refine ⟨rfl, ?_⟩)) (fun w h => h.weak (.cons _ (List.Sublist.refl _)) (fun s hs => hs))
 exact ⟨by show k + 1 ≤ _; omega, by show _ = (put.take (k + 1)).map _; rw [bK put br k hk, List.map_append, ← hI.2]; rfl⟩
 show put.length - (k + 1) < put.length - k
 omega
 refine ah ?_
 refine aq ?_
 refine aC rfl ?_
 refine bw ?_
 refine aY ?_
 refine aZ ?_
 refine a7 ?_
 refine aq ?_
 refine ar ?_
 refine ar ?_
 have hkp : k = put.length := by omega
 obtain rfl : acc = put.map (fun y : Le => aX y.e.host) := by rw [hI.2, hkp, List.take_length]
 have hml : (put.map (fun y : Le => aX y.e.host)).length = put.length := List.length_map _
 refine ai ?_
 refine au (ao rfl) rfl rfl ?_
 refine ah ?_
 refine aq ?_
 refine aW ?_
 refine bV (σ := Unit) [9, 11, 110, 111, 112, 113, 114, 115, 116, 117, 118, 119, 120, 121, 122, 123, 124, 125] (fun _ => True) (fun _ => 0) (fun _ => [(11, .int .i64 0), (9, .slice Ak (put.map (fun y : Le => aX y.e.host)).length ck)]) (()) ?_ ⟨rfl, rfl, trivial⟩ (fun _ hI => ?_)
 trivial
 refine ar ?_
 refine ar ?_
 refine ai ?_
 refine au (ap rfl) rfl rfl ?_
 refine au (aD gc rfl) rfl rfl ?_
 refine au (aM 2 ip rfl rfl rfl) rfl rfl ?_
 refine au (bg Tryz.underlying59 rfl) rfl rfl ?_
 refine au (bI rfl rfl) rfl rfl ?_
 refine dJ (t := 114) rfl (by omega) ?_
 refine ah ?_
 refine aq ?_
 refine aC rfl ?_
 refine bw ?_
 refine aY ?_
 refine aZ ?_
 refine a7 ?_
 refine aq ?_
 refine ar ?_
 refine ai ?_
 refine eo (fun s : bf => .string (ba s)) (fun b : Bool => .bool b) rfl (fun r5 => ?_)
 refine au (ao rfl) rfl rfl ?_
 refine ah ?_
 refine aq ?_
 refine ar ?_
 refine ar ?_
 refine ai ?_
 refine au (ao rfl) rfl rfl ?_
 refine ah ?_
 refine aq ?_
 refine aW ?_
 refine cP (σ := Nat × List (bf × Bool)) [5, 13, 127, 128, 129, 130, 131, 132, 133, 134, 135, 136, 137, 138, 139, 140, 141, 142, 143, 144] (fun q => q.1 ≤ (put.map (fun y : Le => aX y.e.host)).length ∧ MapIs q.2 ((put.map (fun y : Le => aX y.e.host)).take q.1)) (fun q => (put.map (fun y : Le => aX y.e.host)).length - q.1) (fun q => [(13, .int .i64 q.1)]) (fun q => Ch.mp r5 (fun s : bf => .string (ba s)) (fun b : Bool => .bool b) q.2) ((0, [])) ?_ ⟨rfl, trivial⟩ rfl (fun q hI => ?_)
 exact ⟨Nat.zero_le _, fun key => rfl⟩
 obtain ⟨k, mm⟩ := q
 dsimp only at hI ⊢
 refine ar ?_
 refine ar ?_
 refine ai ?_
 refine au (ap rfl) rfl rfl ?_
 refine au (ap rfl) rfl rfl ?_
 refine au (bg Tryz.underlying59 rfl) rfl rfl ?_
 refine au (bI rfl rfl) rfl rfl ?_
 refine aB (t := 130) rfl (fun h33_3 => ?_) (fun h33_3 => ?_)
 have hk : k < (put.map (fun y : Le => aX y.e.host)).length := by omega
 refine ah ?_
 refine aq ?_
 refine aA rfl ?_
 refine aS ?_
 refine aq ?_
 refine ar ?_
 refine aW ?_
 refine ar ?_
 refine ar ?_
 refine ai ?_
 refine au (ap rfl) rfl rfl ?_
 refine au (ap rfl) rfl rfl ?_
 refine au (ap rfl) rfl rfl ?_
 refine au (bz  Tryz.underlying59 bN rfl rfl (dg 1 rfl) rfl (by omega)) rfl rfl ?_
 refine au (cf ct ([] : bf) bN rfl (dg 1 rfl) (by omega) rfl rfl) rfl rfl ?_
 refine au (y_lookup Tryz.underlying167 (eN Tryz.underlying26) jT rfl rfl (fun w hw => hw.own _ (List.mem_of_getElem? (i := 0) rfl))) rfl rfl ?_
 refine cU (t := 138) (.bool (decide ((put.map (fun y : Le => aX y.e.host)).getD k [] ∈ (put.map (fun y : Le => aX y.e.host)).take k))) rfl (mapIs_val hI.2 _) ?_
 refine cU (t := 138) (.bool false) rfl (congrArg Value.bool (decide_eq_false (jt hnd hk))) ?_
 refine ah ?_
 refine aq ?_
 refine aC rfl ?_
 refine aS ?_
 refine aq ?_
 refine ai ?_
 refine au (ap rfl) rfl rfl ?_
 refine au (ap rfl) rfl rfl ?_
 refine au (ap rfl) rfl rfl ?_
 refine au (bz  Tryz.underlying59 bN rfl rfl (dg 1 rfl) rfl (by omega)) rfl rfl ?_
 refine au (cf ct ([] : bf) bN rfl (dg 1 rfl) (by omega) rfl rfl) rfl rfl ?_
 refine gU Tryz.underlying167 (eN Tryz.underlying26) rfl rfl rfl .z ?_
 refine ah ?_
 refine bo ?_
 refine aq ?_
 refine ai ?_
 refine au (ap rfl) rfl rfl ?_
 refine au (bl rfl rfl (by omega) (by omega)) rfl rfl ?_
 refine au (ao rfl) rfl rfl ?_
 refine ah ?_
 refine bq ((k + 1, upd mm ((put.map (fun y : Le => aX y.e.host)).getD k []) true)) ?_ ?_ ⟨rfl, trivial⟩ (by repeat (first | exact trivial | refine ⟨rfl, ?_⟩)) aE
 exact ⟨by show k + 1 ≤ _; omega, mapIs_succ hI.2 hk⟩
 show (put.map (fun y : Le => aX y.e.host)).length - (k + 1) < (put.map (fun y : Le => aX y.e.host)).length - k
 omega
 refine ah ?_
 refine aq ?_
 refine aC rfl ?_
 refine bw ?_
 refine aY ?_
 refine aZ ?_
 refine a7 ?_
 refine aq ?_
 refine ar ?_
 refine ai ?_
 refine au (ao rfl) rfl rfl ?_
 refine ah ?_
 refine aq ?_
 refine ar ?_
 refine ar ?_
 refine ai ?_
 refine au (aD gI rfl) rfl rfl ?_
 refine au (aM 3 jT rfl rfl rfl) rfl rfl ?_
 refine cU (t := 146) (.bool false) rfl (congrArg Value.bool rfl) ?_
 refine au (bC rfl) rfl rfl ?_
 refine ah ?_
 refine aq ?_
 refine aA rfl ?_
 refine ai ?_
 refine au (ap rfl) rfl rfl ?_
 refine au (aD cw rfl) rfl rfl ?_
 refine au (aM 4 bZ rfl rfl rfl) rfl rfl ?_
 refine ib (fun w h => h.nilsl 34 7) ?_
 refine cC (xs := ([] : List (Le))) (enc := dB) (sz := 7) l Tryz.underlying22 aR rfl rfl rfl (fun A c => .z) (ic 0 Tryz.underlying22 rfl) (by simp only [List.length_cons, List.length_nil, Nat.zero_add]; omega) (by simp only [List.length_cons, List.length_nil, Nat.zero_add]; omega) rfl (fun A7 c7 => ?_)
 refine au (ao rfl) rfl rfl ?_
 refine ah ?_
 refine aq ?_
 refine ar ?_
 refine ar ?_
 refine ai ?_
 refine au (ao rfl) rfl rfl ?_
 refine ah ?_
 refine aq ?_
 refine aW ?_
 refine bV (σ := Unit) [5, 14, 15, 16, 152, 153, 154, 155, 156, 157, 158, 159, 160, 161, 162, 163, 164, 165, 166, 167, 168, 169, 170, 171, 172, 173, 174, 175, 176, 177, 178] (fun _ => True) (fun _ => 0) (fun _ => [(15, .int .i64 0), (14, .slice A7 l.length c7)]) (()) ?_ ⟨rfl, rfl, trivial⟩ (fun _ hI => ?_)
 trivial
 refine ar ?_
 refine ar ?_
 refine ai ?_
 refine au (ap rfl) rfl rfl ?_
 refine au (aD gc rfl) rfl rfl ?_
 refine au (aM 4 ip rfl rfl rfl) rfl rfl ?_
 refine au (bg Tryz.underlying59 rfl) rfl rfl ?_
 refine au (bI rfl rfl) rfl rfl ?_
 refine dJ (t := 156) rfl (by omega) ?_
 refine ah ?_
 refine aq ?_
 refine aC rfl ?_
 refine bw ?_
 refine aY ?_
 refine aZ ?_
 refine a7 ?_
 refine aq ?_
 refine ar ?_
 refine ar ?_
 refine ai ?_
 refine au (ao rfl) rfl rfl ?_
 refine ah ?_
 refine aq ?_
 refine aW ?_
 refine cP (σ := Nat × List Le × Option Addr × Nat) [14, 17, 179, 180, 181, 182, 183, 184, 185, 186, 187, 188, 189, 190, 191, 192] (fun q => q.1 ≤ put.length ∧ q.2.1 = gb l (put.take q.1) ∧ TbOk q.2.1 ∧ q.2.1.length ≤ l.length + q.1) (fun q => put.length - q.1) (fun q => [(17, .int .i64 q.1), (14, .slice q.2.2.1 q.2.1.length q.2.2.2)]) (fun q => Ch.ls q.2.2.1 q.2.2.2 34 7 dB q.2.1) ((0, l, A7, c7)) ?_ ⟨rfl, rfl, trivial⟩ rfl (fun q hI => ?_)
 focus first
   | exact ⟨Nat.zero_le _, rfl, nofun, Nat.zero_le _⟩
   | exact ⟨Nat.zero_le _, rfl, hok, Nat.le_refl _⟩
 obtain ⟨k, acc, Aa, ca⟩ := q
 dsimp only at hI ⊢
 refine ar ?_
 refine ar ?_
 refine ai ?_
 refine au (ap rfl) rfl rfl ?_
 refine au (aD dX rfl) rfl rfl ?_
 refine au (aM 4 bZ rfl rfl rfl) rfl rfl ?_
 refine au (bg Tryz.underlying22 rfl) rfl rfl ?_
 refine au (bI rfl rfl) rfl rfl ?_
 refine aB (t := 183) rfl (fun h49_4 => ?_) (fun h49_4 => ?_)
 have hk : k < put.length := by omega
 have hb9 := hpok.at hk
 have hle9 := hI.2.2.2
 refine ah ?_
 refine aq ?_
 refine aA rfl ?_
 refine aS ?_
 refine aq ?_
 refine ar ?_
 refine aW ?_
 refine ai ?_
 refine au (ap rfl) rfl rfl ?_
 refine au (aD dX rfl) rfl rfl ?_
 refine au (aM 4 bZ rfl rfl rfl) rfl rfl ?_
 refine au (ap rfl) rfl rfl ?_
 refine au (bz  Tryz.underlying22 aR rfl rfl (bE 2 rfl) rfl (by omega)) rfl rfl ?_
 refine au (bW cj br aR rfl (bE 2 rfl) (by omega) rfl rfl rfl) rfl rfl ?_
 refine bM rfl ent_136 rfl (c_ref17_put acc Aa ca (put.getD k br) hI.2.2.1 hb9.h (by omega)) (fun w hw => (aO (dD 0 rfl hw) bd)) (fun ⟨A8, c8⟩ => ?_)
 refine au (ao rfl) rfl rfl ?_
 refine ah ?_
 refine bo ?_
 refine aq ?_
 refine ai ?_
 refine au (ap rfl) rfl rfl ?_
 refine au (bl rfl rfl (by omega) (by omega)) rfl rfl ?_
 refine au (ao rfl) rfl rfl ?_
 refine ah ?_
 refine bq ((k + 1, ey acc (put.getD k br), A8, c8)) ?_ ?_ ⟨rfl, rfl, trivial⟩ (by repeat (first | exact trivial | refine ⟨rfl, ?_⟩)) (fun w h => h.weak (.cons_cons _ (.cons _ (List.Sublist.refl _))) (fun s hs => hs))
 exact ⟨by show k + 1 ≤ _; omega, by show ey acc _ = gb _ (put.take (k + 1)); rw [putAll_succ hk, ← hI.2.1], putE_tb hI.2.2.1 (hpok _ (bA hk)), by show (ey acc _).length ≤ l.length + (k + 1); have := putE_len acc (put.getD k br); omega⟩
 show put.length - (k + 1) < put.length - k
 omega
 refine ah ?_
 refine aq ?_
 refine aC rfl ?_
 refine bw ?_
 refine aY ?_
 refine aZ ?_
 refine a7 ?_
 refine aq ?_
 refine ar ?_
 refine ar ?_
 have hkp : k = put.length := by omega
 subst hkp
 have hE := hI.2.1
 rw [List.take_length] at hE
 have hsz9 : acc.length ≤ 256 := by rw [hE]; exact hsz
 refine ai ?_
 refine au (ap rfl) rfl rfl ?_
 refine au (bg Tryz.underlying22 rfl) rfl rfl ?_
 refine au (c9 rfl rfl) rfl rfl ?_
 refine dJ (t := 195) rfl (by omega) ?_
 refine ah ?_
 refine aq ?_
 refine aC rfl ?_
 refine aS ?_
 refine aq ?_
 refine ar ?_
 refine ai ?_
 refine au (aD gT rfl) rfl rfl ?_
 refine au (aM 4 de rfl rfl rfl) rfl rfl ?_
 refine au (ap rfl) rfl rfl ?_
 refine au (dW rfl (bu_24_0_1 _ _ _ _)) rfl rfl ?_
 refine a0 dh rfl rfl rfl (.s (.s (.s (.z)))) rfl rfl rfl rfl ?_
 refine au (ao rfl) rfl rfl ?_
 refine ah ?_
 refine aq ?_
 refine aQ ?_
 refine ed (rs := [.cell 4 24, .tmp 5]) rfl (cF 3 dh rfl rfl rfl rfl (dR rfl dp)) rfl (fun w hw => ?_)
 exact ⟨(Aa, ca), by rw [hE]; rfl, hw.base, by rw [hE] at hw; exact (hw.weak (.cons_cons _ (.cons _ (.cons _ (.cons _ (.cons _ (.cons _ .slnil)))))) (fun s hs => hs)).toNews⟩
 have hb0 := hfull rfl
 refine ar ?_
 refine ai ?_
 refine cv rfl rfl rfl (fun b10 => ?_)
 refine cv rfl rfl rfl (fun b11 => ?_)
 refine bj dh rfl rfl (fun b12 => ?_)
 refine au (ao rfl) rfl rfl ?_
 refine ah ?_
 refine aq ?_
 refine ar ?_
 refine ai ?_
 refine au (a6 2 dh rfl rfl rfl rfl) rfl rfl ?_
 refine bp rfl ent_62 rfl (eO _ _ _ _ hok (by omega)) (fun w hw => (aO (bJ 0 rfl hw) (aO (bJ 1 rfl hw) bd))) ?_
 refine au (ao rfl) rfl rfl ?_
 refine ah ?_
 refine aq ?_
 refine ar ?_
 refine ar ?_
 refine ai ?_
 refine au (ap rfl) rfl rfl ?_
 refine au (bX rfl rfl) rfl rfl ?_
 refine dJ (t := 21) rfl (fun h => h h0) ?_
 refine ah ?_
 refine aq ?_
 refine aC rfl ?_
 refine aS ?_
 refine aq ?_
 refine ar ?_
 refine ar ?_
 refine ai ?_
 refine au (aD gT rfl) rfl rfl ?_
 refine au (aM 1 de rfl rfl rfl) rfl rfl ?_
 refine au (aD eQ rfl) rfl rfl ?_
 refine au (aM 2 de rfl rfl rfl) rfl rfl ?_
 refine au (fp rfl rfl) rfl rfl ?_
 refine dJ (t := 28) rfl (by omega) ?_
 refine au (ap rfl) rfl rfl ?_
 refine az rfl rfl ?_
 refine au (aD gT rfl) rfl rfl ?_
 refine az rfl rfl ?_
 refine au (aM 1 de rfl rfl rfl) rfl rfl ?_
 refine az rfl rfl ?_
 refine au (c9 rfl rfl) rfl rfl ?_
 refine dJ (t := 32) rfl (by omega) ?_
 refine au (aI rfl rfl) rfl rfl ?_
 refine ah ?_
 refine aq ?_
 refine aC rfl ?_
 refine aS ?_
 refine aq ?_
 refine ar ?_
 refine ar ?_
 refine ai ?_
 refine au (aD gI rfl) rfl rfl ?_
 refine au (aM 1 jT rfl rfl rfl) rfl rfl ?_
 refine cU (t := 36) (.bool true) rfl (congrArg Value.bool rfl) ?_
 refine au (ap rfl) rfl rfl ?_
 refine az rfl rfl ?_
 refine au (aD fa_103_1 rfl) rfl rfl ?_
 refine az rfl rfl ?_
 refine au (aM 1 de rfl rfl rfl) rfl rfl ?_
 refine az rfl rfl ?_
 refine au (bX rfl rfl) rfl rfl ?_
 refine dJ (t := 40) rfl (by omega) ?_
 refine az rfl rfl ?_
 refine au (ap rfl) rfl rfl ?_
 refine az rfl rfl ?_
 refine au (aD gc rfl) rfl rfl ?_
 refine az rfl rfl ?_
 refine au (aM 1 ip rfl rfl rfl) rfl rfl ?_
 refine az rfl rfl ?_
 refine au (bg Tryz.underlying59 rfl) rfl rfl ?_
 refine az rfl rfl ?_
 refine au (c9 rfl rfl) rfl rfl ?_
 refine dJ (t := 45) rfl (by omega) ?_
 refine az rfl rfl ?_
 refine au (aI rfl rfl) rfl rfl ?_
 refine au (aG rfl rfl) rfl rfl ?_
 refine ah ?_
 refine aq ?_
 refine aC rfl ?_
 refine aS ?_
 refine aq ?_
 refine ar ?_
 refine ar ?_
 refine ai ?_
 refine au (aD gI rfl) rfl rfl ?_
 refine au (aM 1 jT rfl rfl rfl) rfl rfl ?_
 refine cU (t := 50) (.bool true) rfl (congrArg Value.bool rfl) ?_
 refine au (bC rfl) rfl rfl ?_
 refine au (ap rfl) rfl rfl ?_
 refine ax rfl rfl rfl rfl ?_
 refine ax rfl rfl rfl rfl ?_
 refine ax rfl rfl rfl rfl ?_
 refine ax rfl rfl rfl rfl ?_
 refine ax rfl rfl rfl rfl ?_
 refine au (aI rfl rfl) rfl rfl ?_
 refine ah ?_
 refine aq ?_
 refine aC rfl ?_
 refine aS ?_
 refine aq ?_
 refine ar ?_
 refine ar ?_
 refine ai ?_
 refine au (ao rfl) rfl rfl ?_
 refine ah ?_
 refine aq ?_
 refine aW ?_
 refine bV (σ := Nat) [5, 6, 7, 60, 61, 62, 63, 64, 65, 66, 67, 68, 69, 70, 71, 72, 73, 74, 75, 76] (fun k => k ≤ put.length) (fun k => put.length - k) (fun k => [(7, .int .i64 k)]) (0) ?_ ⟨rfl, trivial⟩ (fun k hI => ?_)
 exact Nat.zero_le _
 refine ar ?_
 refine ar ?_
 refine ai ?_
 refine au (ap rfl) rfl rfl ?_
 refine au (aD dX rfl) rfl rfl ?_
 refine au (aM 1 bZ rfl rfl rfl) rfl rfl ?_
 refine au (bg Tryz.underlying22 rfl) rfl rfl ?_
 refine au (bI rfl rfl) rfl rfl ?_
 refine aB (t := 64) rfl (fun h11_4 => ?_) (fun h11_4 => ?_)
 have hk : k < put.length := by omega
 have hb9 := hpok.at hk
 refine ah ?_
 refine aq ?_
 refine aA rfl ?_
 refine aS ?_
 refine aq ?_
 refine ar ?_
 refine aW ?_
 refine ar ?_
 refine ai ?_
 refine au (aD dX rfl) rfl rfl ?_
 refine au (aM 1 bZ rfl rfl rfl) rfl rfl ?_
 refine au (ap rfl) rfl rfl ?_
 refine au (bz  Tryz.underlying22 aR rfl rfl (bE 2 rfl) rfl (by omega)) rfl rfl ?_
 refine au (bW cj br aR rfl (bE 2 rfl) (by omega) rfl rfl rfl) rfl rfl ?_
 refine bp rfl ent_133 rfl (fA _ _ _ _ _ hb9.wa (by have := hb9.la; omega) (by have := hb9.lp; omega) hb9.k) (fun w hw => (aO (bG (bJ 3 rfl hw) (bL (bA (by omega)) _ (gD _))) (aO (bG (bJ 3 rfl hw) (bL (bA (by omega)) _ (jA _))) bd))) ?_
 refine au (ao rfl) rfl rfl ?_
 refine ah ?_
 refine aq ?_
 refine ar ?_
 refine ai ?_
 refine au (ap rfl) rfl rfl ?_
 refine au (bX rfl rfl) rfl rfl ?_
 refine dJ (t := 74) rfl (fun h => h (hck _ (bA hk))) ?_
 refine ah ?_
 refine aq ?_
 refine aC rfl ?_
 refine aS ?_
 refine bo ?_
 refine aq ?_
 refine ai ?_
 refine au (ap rfl) rfl rfl ?_
 refine au (bl rfl rfl (by omega) (by omega)) rfl rfl ?_
 refine au (ao rfl) rfl rfl ?_
 refine ah ?_
 refine bq (k + 1) ?_ ?_ ⟨rfl, trivial⟩ (by repeat (first | exact trivial | refine ⟨rfl, ?_⟩)) aE
 omega
 omega
 refine ah ?_
 refine aq ?_
 refine aC rfl ?_
 refine bw ?_
 refine aY ?_
 refine aZ ?_
 refine a7 ?_
 refine aq ?_
 refine ar ?_
 refine ar ?_
 refine ai ?_
 refine au (ao rfl) rfl rfl ?_
 refine ah ?_
 refine aq ?_
 refine aW ?_
 refine bV (σ := Unit) [5, 6, 8, 77, 78, 79, 80, 81, 82, 83, 84, 85, 86, 87, 88, 89, 90, 91, 92, 93] (fun _ => True) (fun _ => 0) (fun _ => [(8, .int .i64 0)]) (()) ?_ ⟨rfl, trivial⟩ (fun _ hI => ?_)
 trivial
 refine ar ?_
 refine ar ?_
 refine ai ?_
 refine au (ap rfl) rfl rfl ?_
 refine au (aD gc rfl) rfl rfl ?_
 refine au (aM 1 ip rfl rfl rfl) rfl rfl ?_
 refine au (bg Tryz.underlying59 rfl) rfl rfl ?_
 refine au (bI rfl rfl) rfl rfl ?_
 refine dJ (t := 81) rfl (by omega) ?_
 refine ah ?_
 refine aq ?_
 refine aC rfl ?_
 refine bw ?_
 refine aY ?_
 refine aZ ?_
 refine a7 ?_
 refine aq ?_
 refine ar ?_
 refine ai ?_
 refine au (ao rfl) rfl rfl ?_
 refine ah ?_
 refine aq ?_
 refine ar ?_
 refine ar ?_
 refine ai ?_
 refine au (ao rfl) rfl rfl ?_
 refine ah ?_
 refine aq ?_
 refine aW ?_
 refine bF (fun w h => h.nilsl 26 1) ?_
 refine cP (σ := Nat × List bf × Option Addr × Nat) [9, 10, 94, 95, 96, 97, 98, 99, 100, 101, 102, 103, 104, 105, 106, 107, 108, 109] (fun q => q.1 ≤ put.length ∧ q.2.1 = (put.take q.1).map (fun y : Le => aX y.e.host)) (fun q => put.length - q.1) (fun q => [(10, .int .i64 q.1), (9, .slice q.2.2.1 q.2.1.length q.2.2.2)]) (fun q => Ch.ls q.2.2.1 q.2.2.2 26 1 d9 q.2.1) ((0, [], none, 0)) ?_ ⟨rfl, rfl, trivial⟩ rfl (fun q hI => ?_)
 exact ⟨Nat.zero_le _, rfl⟩
 obtain ⟨k, acc, Ak, ck⟩ := q
 dsimp only at hI ⊢
 have hal : acc.length = k := by rw [hI.2, List.length_map, List.length_take]; omega
 refine ar ?_
 refine ar ?_
 refine ai ?_
 refine au (ap rfl) rfl rfl ?_
 refine au (aD dX rfl) rfl rfl ?_
 refine au (aM 2 bZ rfl rfl rfl) rfl rfl ?_
 refine au (bg Tryz.underlying22 rfl) rfl rfl ?_
 refine au (bI rfl rfl) rfl rfl ?_
 refine aB (t := 98) rfl (fun h24_4 => ?_) (fun h24_4 => ?_)
 have hk : k < put.length := by omega
 have hb9 := hpok.at hk
 have hh9 := hb9.h
 refine ah ?_
 refine aq ?_
 refine aA rfl ?_
 refine aS ?_
 refine aq ?_
 refine ar ?_
 refine aW ?_
 refine ai ?_
 refine au (ap rfl) rfl rfl ?_
 refine au (aD dX rfl) rfl rfl ?_
 refine au (aM 2 bZ rfl rfl rfl) rfl rfl ?_
 refine au (ap rfl) rfl rfl ?_
 refine au (bz  Tryz.underlying22 aR rfl rfl (bE 2 rfl) rfl (by omega)) rfl rfl ?_
 refine au (bW cj br aR rfl (bE 2 rfl) (by omega) rfl rfl rfl) rfl rfl ?_
 refine bb rfl ent_134 (c_ref16_Key _ _ _ _ _ (by omega)) rfl ?_
 refine cD (vs := [_]) ([aX (put.getD k br).e.host] : List (bf)) ct Tryz.underlying59 bN rfl rfl rfl rfl rfl rfl (fun As13 => ?_)
 refine cC (enc := d9) (sz := 1) _ Tryz.underlying59 bN rfl rfl rfl (fun A c => (.s (.z))) (d5 0 Tryz.underlying59 rfl) (by simp only [List.length_cons, List.length_nil, Nat.zero_add]; omega) (by simp only [List.length_cons, List.length_nil, Nat.zero_add]; omega) rfl (fun A13 c13 => ?_)
 refine au (ao rfl) rfl rfl ?_
 refine ah ?_
 refine bo ?_
 refine aq ?_
 refine ai ?_
 refine au (ap rfl) rfl rfl ?_
 refine au (bl rfl rfl (by omega) (by omega)) rfl rfl ?_
 refine au (ao rfl) rfl rfl ?_
 refine ah ?_
 refine bq ((k + 1, acc ++ [aX (put.getD k br).e.host], A13, c13)) ?_ ?_ ⟨rfl, rfl, trivial⟩ (by repeat (first | exact trivial | refine ⟨rfl, ?_⟩)) (fun w h => h.weak (.cons _ (List.Sublist.refl _)) (fun s hs => hs))
 exact ⟨by show k + 1 ≤ _; omega, by show _ = (put.take (k + 1)).map _; rw [bK put br k hk, List.map_append, ← hI.2]; rfl⟩
 show put.length - (k + 1) < put.length - k
 omega
 refine ah ?_
 refine aq ?_
 refine aC rfl ?_
 refine bw ?_
 refine aY ?_
 refine aZ ?_
 refine a7 ?_
 refine aq ?_
 refine ar ?_
 refine ar ?_
 have hkp : k = put.length := by omega
 obtain rfl : acc = put.map (fun y : Le => aX y.e.host) := by rw [hI.2, hkp, List.take_length]
 have hml : (put.map (fun y : Le => aX y.e.host)).length = put.length := List.length_map _
 refine ai ?_
 refine au (ao rfl) rfl rfl ?_
 refine ah ?_
 refine aq ?_
 refine aW ?_
 refine bV (σ := Unit) [9, 11, 110, 111, 112, 113, 114, 115, 116, 117, 118, 119, 120, 121, 122, 123, 124, 125] (fun _ => True) (fun _ => 0) (fun _ => [(11, .int .i64 0), (9, .slice Ak (put.map (fun y : Le => aX y.e.host)).length ck)]) (()) ?_ ⟨rfl, rfl, trivial⟩ (fun _ hI => ?_)
 trivial
 refine ar ?_
 refine ar ?_
 refine ai ?_
 refine au (ap rfl) rfl rfl ?_
 refine au (aD gc rfl) rfl rfl ?_
 refine au (aM 2 ip rfl rfl rfl) rfl rfl ?_
 refine au (bg Tryz.underlying59 rfl) rfl rfl ?_
 refine au (bI rfl rfl) rfl rfl ?_
 refine dJ (t := 114) rfl (by omega) ?_
 refine ah ?_
 refine aq ?_
 refine aC rfl ?_
 refine bw ?_
 refine aY ?_
 refine aZ ?_
 refine a7 ?_
 refine aq ?_
 refine ar ?_
 refine ai ?_
 refine eo (fun s : bf => .string (ba s)) (fun b : Bool => .bool b) rfl (fun r14 => ?_)
 refine au (ao rfl) rfl rfl ?_
 refine ah ?_
 refine aq ?_
 refine ar ?_
 refine ar ?_
 refine ai ?_
 refine au (ao rfl) rfl rfl ?_
 refine ah ?_
 refine aq ?_
 refine aW ?_
 refine cP (σ := Nat × List (bf × Bool)) [5, 13, 127, 128, 129, 130, 131, 132, 133, 134, 135, 136, 137, 138, 139, 140, 141, 142, 143, 144] (fun q => q.1 ≤ (put.map (fun y : Le => aX y.e.host)).length ∧ MapIs q.2 ((put.map (fun y : Le => aX y.e.host)).take q.1)) (fun q => (put.map (fun y : Le => aX y.e.host)).length - q.1) (fun q => [(13, .int .i64 q.1)]) (fun q => Ch.mp r14 (fun s : bf => .string (ba s)) (fun b : Bool => .bool b) q.2) ((0, [])) ?_ ⟨rfl, trivial⟩ rfl (fun q hI => ?_)
 exact ⟨Nat.zero_le _, fun key => rfl⟩
 obtain ⟨k, mm⟩ := q
 dsimp only at hI ⊢
 refine ar ?_
 refine ar ?_
 refine ai ?_
 refine au (ap rfl) rfl rfl ?_
 refine au (ap rfl) rfl rfl ?_
 refine au (bg Tryz.underlying59 rfl) rfl rfl ?_
 refine au (bI rfl rfl) rfl rfl ?_
 refine aB (t := 130) rfl (fun h33_3 => ?_) (fun h33_3 => ?_)
 have hk : k < (put.map (fun y : Le => aX y.e.host)).length := by omega
 refine ah ?_
 refine aq ?_
 refine aA rfl ?_
 refine aS ?_
 refine aq ?_
 refine ar ?_
 refine aW ?_
 refine ar ?_
 refine ar ?_
 refine ai ?_
 refine au (ap rfl) rfl rfl ?_
 refine au (ap rfl) rfl rfl ?_
 refine au (ap rfl) rfl rfl ?_
 refine au (bz  Tryz.underlying59 bN rfl rfl (dg 1 rfl) rfl (by omega)) rfl rfl ?_
 refine au (cf ct ([] : bf) bN rfl (dg 1 rfl) (by omega) rfl rfl) rfl rfl ?_
 refine au (y_lookup Tryz.underlying167 (eN Tryz.underlying26) jT rfl rfl (fun w hw => hw.own _ (List.mem_of_getElem? (i := 0) rfl))) rfl rfl ?_
 refine cU (t := 138) (.bool (decide ((put.map (fun y : Le => aX y.e.host)).getD k [] ∈ (put.map (fun y : Le => aX y.e.host)).take k))) rfl (mapIs_val hI.2 _) ?_
 refine cU (t := 138) (.bool false) rfl (congrArg Value.bool (decide_eq_false (jt hnd hk))) ?_
 refine ah ?_
 refine aq ?_
 refine aC rfl ?_
 refine aS ?_
 refine aq ?_
 refine ai ?_
 refine au (ap rfl) rfl rfl ?_
 refine au (ap rfl) rfl rfl ?_
 refine au (ap rfl) rfl rfl ?_
 refine au (bz  Tryz.underlying59 bN rfl rfl (dg 1 rfl) rfl (by omega)) rfl rfl ?_
 refine au (cf ct ([] : bf) bN rfl (dg 1 rfl) (by omega) rfl rfl) rfl rfl ?_
 refine gU Tryz.underlying167 (eN Tryz.underlying26) rfl rfl rfl .z ?_
 refine ah ?_
 refine bo ?_
 refine aq ?_
 refine ai ?_
 refine au (ap rfl) rfl rfl ?_
 refine au (bl rfl rfl (by omega) (by omega)) rfl rfl ?_
 refine au (ao rfl) rfl rfl ?_
 refine ah ?_
 refine bq ((k + 1, upd mm ((put.map (fun y : Le => aX y.e.host)).getD k []) true)) ?_ ?_ ⟨rfl, trivial⟩ (by repeat (first | exact trivial | refine ⟨rfl, ?_⟩)) aE
 exact ⟨by show k + 1 ≤ _; omega, mapIs_succ hI.2 hk⟩
 show (put.map (fun y : Le => aX y.e.host)).length - (k + 1) < (put.map (fun y : Le => aX y.e.host)).length - k
 omega
 refine ah ?_
 refine aq ?_
 refine aC rfl ?_
 refine bw ?_
 refine aY ?_
 refine aZ ?_
 refine a7 ?_
 refine aq ?_
 refine ar ?_
 refine ai ?_
 refine au (ao rfl) rfl rfl ?_
 refine ah ?_
 refine aq ?_
 refine ar ?_
 refine ar ?_
 refine ai ?_
 refine au (aD gI rfl) rfl rfl ?_
 refine au (aM 3 jT rfl rfl rfl) rfl rfl ?_
 refine cU (t := 146) (.bool true) rfl (congrArg Value.bool rfl) ?_
 refine au (bC rfl) rfl rfl ?_
 refine ah ?_
 refine aq ?_
 refine aC rfl ?_
 refine aS ?_
 refine aq ?_
 refine ar ?_
 refine ar ?_
 refine ai ?_
 refine au (ao rfl) rfl rfl ?_
 refine ah ?_
 refine aq ?_
 refine aW ?_
 refine bV (σ := Unit) [5, 14, 15, 16, 152, 153, 154, 155, 156, 157, 158, 159, 160, 161, 162, 163, 164, 165, 166, 167, 168, 169, 170, 171, 172, 173, 174, 175, 176, 177, 178] (fun _ => True) (fun _ => 0) (fun _ => [(15, .int .i64 0), (14, .slice none 0 0)]) (()) ?_ ⟨rfl, rfl, trivial⟩ (fun _ hI => ?_)
 trivial
 refine ar ?_
 refine ar ?_
 refine ai ?_
 refine au (ap rfl) rfl rfl ?_
 refine au (aD gc rfl) rfl rfl ?_
 refine au (aM 3 ip rfl rfl rfl) rfl rfl ?_
 refine au (bg Tryz.underlying59 rfl) rfl rfl ?_
 refine au (bI rfl rfl) rfl rfl ?_
 refine dJ (t := 156) rfl (by omega) ?_
 refine ah ?_
 refine aq ?_
 refine aC rfl ?_
 refine bw ?_
 refine aY ?_
 refine aZ ?_
 refine a7 ?_
 refine aq ?_
 refine ar ?_
 refine ar ?_
 refine ai ?_
 refine au (ao rfl) rfl rfl ?_
 refine ah ?_
 refine aq ?_
 refine aW ?_
 refine bF (fun w h => h.nilsl 34 7) ?_
 refine cP (σ := Nat × List Le × Option Addr × Nat) [14, 17, 179, 180, 181, 182, 183, 184, 185, 186, 187, 188, 189, 190, 191, 192] (fun q => q.1 ≤ put.length ∧ q.2.1 = gb [] (put.take q.1) ∧ TbOk q.2.1 ∧ q.2.1.length ≤ l.length + q.1) (fun q => put.length - q.1) (fun q => [(17, .int .i64 q.1), (14, .slice q.2.2.1 q.2.1.length q.2.2.2)]) (fun q => Ch.ls q.2.2.1 q.2.2.2 34 7 dB q.2.1) ((0, [], none, 0)) ?_ ⟨rfl, rfl, trivial⟩ rfl (fun q hI => ?_)
 focus first
   | exact ⟨Nat.zero_le _, rfl, nofun, Nat.zero_le _⟩
   | exact ⟨Nat.zero_le _, rfl, hok, Nat.le_refl _⟩
 obtain ⟨k, acc, Aa, ca⟩ := q
 dsimp only at hI ⊢
 refine ar ?_
 refine ar ?_
 refine ai ?_
 refine au (ap rfl) rfl rfl ?_
 refine au (aD dX rfl) rfl rfl ?_
 refine au (aM 4 bZ rfl rfl rfl) rfl rfl ?_
 refine au (bg Tryz.underlying22 rfl) rfl rfl ?_
 refine au (bI rfl rfl) rfl rfl ?_
 refine aB (t := 183) rfl (fun h49_4 => ?_) (fun h49_4 => ?_)
 have hk : k < put.length := by omega
 have hb9 := hpok.at hk
 have hle9 := hI.2.2.2
 refine ah ?_
 refine aq ?_
 refine aA rfl ?_
 refine aS ?_
 refine aq ?_
 refine ar ?_
 refine aW ?_
 refine ai ?_
 refine au (ap rfl) rfl rfl ?_
 refine au (aD dX rfl) rfl rfl ?_
 refine au (aM 4 bZ rfl rfl rfl) rfl rfl ?_
 refine au (ap rfl) rfl rfl ?_
 refine au (bz  Tryz.underlying22 aR rfl rfl (bE 2 rfl) rfl (by omega)) rfl rfl ?_
 refine au (bW cj br aR rfl (bE 2 rfl) (by omega) rfl rfl rfl) rfl rfl ?_
 refine bM rfl ent_136 rfl (c_ref17_put acc Aa ca (put.getD k br) hI.2.2.1 hb9.h (by omega)) (fun w hw => (aO (dD 0 rfl hw) bd)) (fun ⟨A15, c15⟩ => ?_)
 refine au (ao rfl) rfl rfl ?_
 refine ah ?_
 refine bo ?_
 refine aq ?_
 refine ai ?_
 refine au (ap rfl) rfl rfl ?_
 refine au (bl rfl rfl (by omega) (by omega)) rfl rfl ?_
 refine au (ao rfl) rfl rfl ?_
 refine ah ?_
 refine bq ((k + 1, ey acc (put.getD k br), A15, c15)) ?_ ?_ ⟨rfl, rfl, trivial⟩ (by repeat (first | exact trivial | refine ⟨rfl, ?_⟩)) (fun w h => h.weak (.cons_cons _ (.cons _ (List.Sublist.refl _))) (fun s hs => hs))
 exact ⟨by show k + 1 ≤ _; omega, by show ey acc _ = gb _ (put.take (k + 1)); rw [putAll_succ hk, ← hI.2.1], putE_tb hI.2.2.1 (hpok _ (bA hk)), by show (ey acc _).length ≤ l.length + (k + 1); have := putE_len acc (put.getD k br); omega⟩
 show put.length - (k + 1) < put.length - k
 omega
 refine ah ?_
 refine aq ?_
 refine aC rfl ?_
 refine bw ?_
 refine aY ?_
 refine aZ ?_
 refine a7 ?_
 refine aq ?_
 refine ar ?_
 refine ar ?_
 have hkp : k = put.length := by omega
 subst hkp
 have hE := hI.2.1
 rw [List.take_length] at hE
 have hsz9 : acc.length ≤ 256 := by rw [hE]; exact hsz
 refine ai ?_
 refine au (ap rfl) rfl rfl ?_
 refine au (bg Tryz.underlying22 rfl) rfl rfl ?_
 refine au (c9 rfl rfl) rfl rfl ?_
 refine dJ (t := 195) rfl (by omega) ?_
 refine ah ?_
 refine aq ?_
 refine aC rfl ?_
 refine aS ?_
 refine aq ?_
 refine ar ?_
 refine ai ?_
 refine au (aD gT rfl) rfl rfl ?_
 refine au (aM 4 de rfl rfl rfl) rfl rfl ?_
 refine au (ap rfl) rfl rfl ?_
 refine au (dW rfl (bu_24_0_1 _ _ _ _)) rfl rfl ?_
 refine a0 dh rfl rfl rfl (.s (.s (.s (.z)))) rfl rfl rfl rfl ?_
 refine au (ao rfl) rfl rfl ?_
 refine ah ?_
 refine aq ?_
 refine aQ ?_
 refine ed (rs := [.cell 4 24, .tmp 5]) rfl (cF 3 dh rfl rfl rfl rfl (dR rfl dp)) rfl (fun w hw => ?_)
 exact ⟨(Aa, ca), by rw [hE]; rfl, hw.base, by rw [hE] at hw; exact (hw.weak (.cons_cons _ (.cons _ (.cons _ (.cons _ (.cons _ (.cons _ .slnil)))))) (fun s hs => hs)).toNews⟩

end Go.Proofs.YtnpdgmoeoidppaaGreat

/- A map that holds whatever. -/
namespace Go.Proofs.YtnpdgmoeoidppaaGreat
open Go.RowKit Go.Shelf
set_option linter.unusedVariables false

def Ch.mpany {α β : Type} (r : Nat) (encK : α → Value) (encV : β → Value) : Ch := ⟨fun k => k = r, fun w => ∃ m, (Ch.mp r encK encV m).P w, fun w w' ⟨m, h⟩ k => ⟨m, (Ch.mp r encK encV m).st w w' h k⟩⟩
theorem Hp.anymp {α β : Type} {encK : α → Value} {encV : β → Value} {ok0 : Nat → Prop} {w0 : World} {L L' S : List Ch} {w : World} {i r : Nat} {m : List (α × β)} (h : Hp ok0 w0 L S w) (hi : SetAt L i (Ch.mp r encK encV m) (Ch.mpany r encK encV) L') : Hp ok0 w0 L' S w :=
  h.turn hi (fun hp => ⟨m, hp⟩) (fun _ h => h)
theorem gl {x : Cx} {l : Fr} {L S : List Ch} {Q : Exit → Act → World → Prop} {id : Nat} {ol : List Oper} {La Sa : List Ch} (m : Nat) (hm : x.P.follows .mixedOrders = true) (hA : ∀ w, Hp x.ok0 x.w0 L S w → Hp x.ok0 x.w0 La Sa w) (h : WV x (Hp x.ok0 x.w0 La Sa) m ol.toArray ol.length (Array.replicate ol.length false) l L S Q) : W x l L S (.region id ol.toArray true) Q := fun a w ha hw => by
  refine wpIn_region_any hm (jf (C := Hp x.ok0 x.w0 La Sa) (m := m) _ _ _ _ ?_)
  have := h a { w with drawn := w.drawn + 1 } ha hw.drew
  simpa using this
end Go.Proofs.YtnpdgmoeoidppaaGreat
