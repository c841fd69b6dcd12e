/- an index: made of a table, asked for names -/
import Derived.Test.YtckfjfnkombelaaTaQN
namespace Go.Proofs.Ytckfjfnkombelaa
open Go.RowKit Go.Shelf
set_option linter.unusedVariables false
set_option linter.unusedSimpArgs false

theorem bu_119_1_2_3 (x0 : Option Nat) (x1 : Option Nat) (x2 : Option Nat) : Try.prog.built 119 [(1, .map x0), (2, .map x1), (3, .map x2)] = some [.slice none 0 0, .map x0, .map x1, .map x2].toArray := by kernel_rfl
theorem ent_64 : Enters Try.prog 64 := enters_of Try.func64 (by kernel_rfl) rfl
theorem ent_65 : Enters Try.prog 65 := enters_of Try.func65 (by kernel_rfl) rfl
theorem ent_66 : Enters Try.prog 66 := enters_of Try.func66 (by kernel_rfl) rfl
theorem ent_67 : Enters Try.prog 67 := enters_of Try.func67 (by kernel_rfl) rfl
theorem ent_72 : Enters Try.prog 72 := enters_of Try.func72 (by kernel_rfl) rfl
theorem fa_119_0 : FA Try.prog 119 0 0 := fun b o w => by kernel_rfl
theorem fa_119_1 : FA Try.prog 119 1 1 := fun b o w => by kernel_rfl
theorem fa_119_3 : FA Try.prog 119 3 3 := fun b o w => by kernel_rfl
theorem ty_113 : TyI Try.prog 113 false 1 8 (.map none) := TyI.mk' (by kernel_rfl) (fun _ => by kernel_rfl)
theorem ty_117 : TyI Try.prog 117 false 1 8 (.map none) := TyI.mk' (by kernel_rfl) (fun _ => by kernel_rfl)
theorem ty_41 : TyI Try.prog 41 true 2 32 (.agg #[.int .i64 0, .slice none 0 0]) := TyI.mk' (by kernel_rfl) (fun _ => by kernel_rfl)

abbrev encN : Str → Value := fun s => .string (ba s)
abbrev encE : Le → Value := fun x => .agg (elC x).toArray
abbrev encA : Ad → Value := fun a => .agg (adC a).toArray
/-- The first one stays. -/
def putF {α β : Type} [DecidableEq α] (m : List (α × β)) (k : α) (v : β) : List (α × β) := if (lkp m k).isSome = true then m else upd m k v
theorem putF_old {α β : Type} [DecidableEq α] {m : List (α × β)} {k : α} {v : β} (h : (lkp m k).isSome = true) : putF m k v = m := if_pos h
theorem putF_new {α β : Type} [DecidableEq α] {m : List (α × β)} {k : α} {v : β} (h : (lkp m k).isSome = false) : putF m k v = upd m k v := if_neg (by rw [h]; decide)

theorem c_ask_h (m : List (Str × Le)) (r : Nat) (k : Str) : RC Try.prog 68 #[.map (some r), .string (ba k)] [Ch.mp r encN encE m] (α := Unit) (fun _ => .tuple #[.agg (elC ((lkp m k).getD le0)).toArray, .bool (lkp m k).isSome]) (fun _ => []) := by
  refine rc_of_W (args := [.map (some r), .string (ba k)]) 16 Try.func68 rfl rfl rfl (fun w0 => ?_)
  refine w_seq ?_
  refine w_region ?_
  refine o_alloc ty_50 rfl rfl (fun b1 => ?_)
  refine o_y (y_assign rfl) rfl rfl ?_
  refine wl_nil ?_
  refine e_seq ?_
  refine w_seq ?_
  refine w_region ?_
  refine o_y (y_move rfl) rfl rfl ?_
  refine o_y (y_move rfl) rfl rfl ?_
  refine o_y (y_lookup2 Try.underlying113 (keyl_str Try.underlying25) ty_50 rfl rfl (fun w hw => hw.sh _ (List.mem_of_getElem? (i := 0) rfl))) rfl rfl ?_
  refine wl_as (t := 11) (.tuple #[.agg (elC ((lkp m k).getD le0)).toArray, .bool (lkp m k).isSome]) rfl (by cases lkp m k <;> rfl) ?_
  refine o_y (y_move rfl) rfl rfl ?_
  refine o_y (y_extract rfl rfl) rfl rfl ?_
  refine o_y (y_extract rfl rfl) rfl rfl ?_
  refine o_alloc ty_50 rfl rfl (fun b2 => ?_)
  refine o_store ty_50 rfl rfl rfl .z rfl rfl rfl rfl ?_
  refine o_y (y_assign rfl) rfl rfl ?_
  refine wl_nil ?_
  refine e_seq ?_
  refine w_seq ?_
  refine w_region ?_
  refine o_y (y_loadrs 0 ty_50 rfl rfl rfl rfl) rfl rfl ?_
  refine o_y (y_move rfl) rfl rfl ?_
  refine o_store ty_50 rfl rfl rfl (.s (.z)) rfl rfl rfl rfl ?_
  refine o_y (y_assign rfl) rfl rfl ?_
  refine wl_nil ?_
  refine e_seq ?_
  refine w_ret ?_
  refine e_rsr (rs := [.cell 4 50, .tmp 5]) rfl (rs_cells 1 ty_50 rfl rfl rfl rfl (rs_tmp rfl rs_nil)) rfl (fun w hw => ?_)
  exact ⟨(), rfl, hw.base, (hw.weak (List.nil_sublist _) (fun s hs => hs)).toNews⟩

theorem c_put_h (m : List (Str × Le)) (r : Nat) (k : Str) (x : Le) : UC Try.prog 66 #[.map (some r), .string (ba k), .agg (elC x).toArray] [] (Ch.mp r encN encE m) (α := Unit) (fun _ => .bool (!(lkp m k).isSome)) (fun _ => Ch.mp r encN encE (putF m k x)) := by
  refine uc_of_W (args := [.map (some r), .string (ba k), .agg (elC x).toArray]) 19 Try.func66 rfl rfl rfl (fun w0 => ?_)
  refine w_seq ?_
  refine w_region ?_
  refine o_box rfl rfl rfl (fun b1 => ?_)
  refine o_y (y_assign rfl) rfl rfl ?_
  refine wl_nil ?_
  refine e_seq ?_
  refine w_seq ?_
  refine w_seq ?_
  refine w_region ?_
  refine o_y (y_move rfl) rfl rfl ?_
  refine o_y (y_move rfl) rfl rfl ?_
  refine o_y (y_lookup2 Try.underlying113 (keyl_str Try.underlying25) ty_50 rfl rfl (fun w hw => hw.own _ (List.mem_of_getElem? (i := 1) rfl))) rfl rfl ?_
  refine wl_as (t := 12) (.tuple #[.agg (elC ((lkp m k).getD le0)).toArray, .bool (lkp m k).isSome]) rfl (by cases lkp m k <;> rfl) ?_
  refine o_y (y_move rfl) rfl rfl ?_
  refine o_y (y_extract rfl rfl) rfl rfl ?_
  refine o_y (y_extract rfl rfl) rfl rfl ?_
  refine wl_splitb (t := 14) rfl (fun h1_5 => ?_) (fun h1_5 => ?_)
  · skip
    refine o_alloc ty_50 rfl rfl (fun b2 => ?_)
    refine o_store ty_50 rfl rfl rfl .z rfl rfl rfl rfl ?_
    refine o_y (y_assign rfl) rfl rfl ?_
    refine wl_nil ?_
    refine e_seq ?_
    refine w_seq ?_
    refine w_region ?_
    refine o_y (y_move rfl) rfl rfl ?_
    refine wl_nil ?_
    refine e_seq ?_
    refine w_cond_t rfl ?_
    refine w_seq ?_
    refine w_region ?_
    refine o_y (y_assign rfl) rfl rfl ?_
    refine wl_nil ?_
    refine e_seq ?_
    refine w_ret ?_
    refine e_seq_ret ?_
    refine e_ret (ts := [6]) rfl rfl rfl (fun w hw => ?_)
    obtain ⟨h1, h2, h3⟩ := (hw.weak (.cons _ (.cons _ (.cons_cons _ .slnil))) (fun s hs => hs)).uc
    have hs : (lkp m k).isSome = true := h1_5
    rw [putF_old hs]
    exact ⟨(), by rw [hs]; rfl, h1, h2, h3⟩
  · skip
    refine o_alloc ty_50 rfl rfl (fun b3 => ?_)
    refine o_store ty_50 rfl rfl rfl .z rfl rfl rfl rfl ?_
    refine o_y (y_assign rfl) rfl rfl ?_
    refine wl_nil ?_
    refine e_seq ?_
    refine w_seq ?_
    refine w_region ?_
    refine o_y (y_move rfl) rfl rfl ?_
    refine wl_nil ?_
    refine e_seq ?_
    refine w_cond_f rfl ?_
    refine w_skip ?_
    refine e_seq ?_
    refine w_seq ?_
    refine w_region ?_
    refine o_y (y_move rfl) rfl rfl ?_
    refine o_y (y_move rfl) rfl rfl ?_
    refine o_y (y_loadrs 1 ty_50 rfl rfl rfl rfl) rfl rfl ?_
    refine o_mapUpd (encK := encN) (encV := encE) (v := x) Try.underlying113 (keyl_str Try.underlying25) rfl rfl rfl (.s (.s (.z))) ?_
    refine wl_nil ?_
    refine e_seq ?_
    refine w_seq ?_
    refine w_region ?_
    refine o_y (y_assign rfl) rfl rfl ?_
    refine wl_nil ?_
    refine e_seq ?_
    refine w_ret ?_
    refine e_ret (ts := [6]) rfl rfl rfl (fun w hw => ?_)
    obtain ⟨h1, h2, h3⟩ := (hw.weak (.cons _ (.cons _ (.cons_cons _ .slnil))) (fun s hs => hs)).uc
    have hs : (lkp m k).isSome = false := h1_5
    rw [putF_new hs]
    exact ⟨(), by rw [hs]; rfl, h1, h2, h3⟩

theorem c_put_a (m : List (Ad × Le)) (r : Nat) (k : Ad) (x : Le) : UC Try.prog 72 #[.map (some r), .agg (adC k).toArray, .agg (elC x).toArray] [] (Ch.mp r encA encE m) (α := Unit) (fun _ => .bool (!(lkp m k).isSome)) (fun _ => Ch.mp r encA encE (putF m k x)) := by
  refine uc_of_W (args := [.map (some r), .agg (adC k).toArray, .agg (elC x).toArray]) 19 Try.func72 rfl rfl rfl (fun w0 => ?_)
  refine w_seq ?_
  refine w_region ?_
  refine o_box rfl rfl rfl (fun b1 => ?_)
  refine o_box rfl rfl rfl (fun b2 => ?_)
  refine o_y (y_assign rfl) rfl rfl ?_
  refine wl_nil ?_
  refine e_seq ?_
  refine w_seq ?_
  refine w_seq ?_
  refine w_region ?_
  refine o_y (y_move rfl) rfl rfl ?_
  refine o_y (y_loadrs 1 ty_66 rfl rfl rfl rfl) rfl rfl ?_
  refine o_y (y_lookup2 Try.underlying117 keyl_ad ty_50 rfl rfl (fun w hw => hw.own _ (List.mem_of_getElem? (i := 2) rfl))) rfl rfl ?_
  refine wl_as (t := 12) (.tuple #[.agg (elC ((lkp m k).getD le0)).toArray, .bool (lkp m k).isSome]) rfl (by cases lkp m k <;> rfl) ?_
  refine o_y (y_move rfl) rfl rfl ?_
  refine o_y (y_extract rfl rfl) rfl rfl ?_
  refine o_y (y_extract rfl rfl) rfl rfl ?_
  refine wl_splitb (t := 14) rfl (fun h1_5 => ?_) (fun h1_5 => ?_)
  · skip
    refine o_alloc ty_50 rfl rfl (fun b3 => ?_)
    refine o_store ty_50 rfl rfl rfl .z rfl rfl rfl rfl ?_
    refine o_y (y_assign rfl) rfl rfl ?_
    refine wl_nil ?_
    refine e_seq ?_
    refine w_seq ?_
    refine w_region ?_
    refine o_y (y_move rfl) rfl rfl ?_
    refine wl_nil ?_
    refine e_seq ?_
    refine w_cond_t rfl ?_
    refine w_seq ?_
    refine w_region ?_
    refine o_y (y_assign rfl) rfl rfl ?_
    refine wl_nil ?_
    refine e_seq ?_
    refine w_ret ?_
    refine e_seq_ret ?_
    refine e_ret (ts := [6]) rfl rfl rfl (fun w hw => ?_)
    obtain ⟨h1, h2, h3⟩ := (hw.weak (.cons _ (.cons _ (.cons _ (.cons_cons _ .slnil)))) (fun s hs => hs)).uc
    have hs : (lkp m k).isSome = true := h1_5
    rw [putF_old hs]
    exact ⟨(), by rw [hs]; rfl, h1, h2, h3⟩
  · skip
    refine o_alloc ty_50 rfl rfl (fun b4 => ?_)
    refine o_store ty_50 rfl rfl rfl .z rfl rfl rfl rfl ?_
    refine o_y (y_assign rfl) rfl rfl ?_
    refine wl_nil ?_
    refine e_seq ?_
    refine w_seq ?_
    refine w_region ?_
    refine o_y (y_move rfl) rfl rfl ?_
    refine wl_nil ?_
    refine e_seq ?_
    refine w_cond_f rfl ?_
    refine w_skip ?_
    refine e_seq ?_
    refine w_seq ?_
    refine w_region ?_
    refine o_y (y_move rfl) rfl rfl ?_
    refine o_y (y_loadrs 2 ty_66 rfl rfl rfl rfl) rfl rfl ?_
    refine o_y (y_loadrs 1 ty_50 rfl rfl rfl rfl) rfl rfl ?_
    refine o_mapUpd (encK := encA) (encV := encE) (v := x) Try.underlying117 keyl_ad rfl rfl rfl (.s (.s (.s (.z)))) ?_
    refine wl_nil ?_
    refine e_seq ?_
    refine w_seq ?_
    refine w_region ?_
    refine o_y (y_assign rfl) rfl rfl ?_
    refine wl_nil ?_
    refine e_seq ?_
    refine w_ret ?_
    refine e_ret (ts := [6]) rfl rfl rfl (fun w hw => ?_)
    obtain ⟨h1, h2, h3⟩ := (hw.weak (.cons _ (.cons _ (.cons _ (.cons_cons _ .slnil)))) (fun s hs => hs)).uc
    have hs : (lkp m k).isSome = false := h1_5
    rw [putF_new hs]
    exact ⟨(), by rw [hs]; rfl, h1, h2, h3⟩

/-- An index: where it lies, what it holds. -/
structure Ixd where
  b : Nat
  A : Option Addr
  c : Nat
  l : List Le
  rh : Nat
  rd : Nat
  ra : Nat
  hm : List (Str × Le)
  dm : List (Str × Ad)
  am : List (Ad × Le)
def ixC (x : Ixd) : List Value := [.slice x.A x.l.length x.c, .map (some x.rh), .map (some x.rd), .map (some x.ra)]
def ixR (x : Ixd) : List Ch := [Ch.row x.b (ixC x) 119, Ch.rd x.A 7 elC x.l, Ch.mp x.rh encN encE x.hm, Ch.mp x.rd encN encA x.dm, Ch.mp x.ra encA encE x.am, Ch.rall (x.l.flatMap elR)]
def HmOk (m : List (Str × Le)) (l : List Le) : Prop := ∀ key, lkp m key = l.find? (fun x : Le => decide (foldN x.e.host = key))
theorem lkp_putF {α β : Type} [DecidableEq α] (m : List (α × β)) (k a : α) (v : β) : lkp (putF m k v) a = (lkp m a).or (if a = k then some v else none) := by
  unfold putF
  split
  · rename_i h
    by_cases e : a = k
    · subst e
      cases h2 : lkp m a with
      | none => rw [h2] at h; cases h
      | some q => rfl
    · rw [if_neg e]; simp
  · rename_i h
    rw [lkp_upd]
    by_cases e : a = k
    · subst e
      rw [if_pos rfl, if_pos rfl]
      cases h2 : lkp m a with
      | none => rfl
      | some q => rw [h2] at h; exact absurd rfl h
    · rw [if_neg e, if_neg e]; simp
theorem hm_nil : HmOk [] [] := fun key => rfl
theorem hm_put {m : List (Str × Le)} {l : List Le} (h : HmOk m l) (x : Le) : HmOk (putF m (foldN x.e.host) x) (l ++ [x]) := fun key => by
  rw [lkp_putF, List.find?_append, h key]
  congr 1
  by_cases e : key = foldN x.e.host
  · subst e; simp
  · rw [if_neg e, List.find?_cons_of_neg (by simpa using fun q => e q.symm)]; rfl
/-- What a table's index is. -/
structure IxOk (l : List Le) (x : Ixd) : Prop where
  es : x.l.map (·.e) = l.map (·.e)
  hm : HmOk x.hm x.l

theorem take_len_eq {l : List Le} {lc : List Le} {k : Nat} (h : lc.map (·.e) = (l.take k).map (·.e)) : lc.length ≤ l.length := by
  have := congrArg List.length h; simp at this; omega
theorem getE_eq {l lc : List Le} (h : lc.map (·.e) = l.map (·.e)) (k : Nat) : (lc.getD k le0).e = (l.getD k le0).e := by
  have h1 := congrArg (fun q : List En => q[k]?) h
  simp only [List.getElem?_map] at h1
  rw [List.getD_eq_getElem?_getD, List.getD_eq_getElem?_getD]
  cases h2 : lc[k]? <;> cases h3 : l[k]? <;> simp_all
theorem EnB.eq {e f : En} (h : EnB e) (q : f = e) : EnB f := q ▸ h

set_option maxRecDepth 100000 in
set_option maxHeartbeats 2000000 in
theorem c_index_New0 (v : Int) (l : List Le) (A : Option Addr) (c : Nat) (hok : TbOk l) (hlen : l.length ≤ 1000000000) (h0 : tabCk v l = 0) : RC Try.prog 25 #[.agg (tbC v A l.length c).toArray, .slice none 0 0] [Ch.rd A 7 elC l, Ch.rall (l.flatMap elR)] (α := {x : Ixd // IxOk l x}) (fun o => .tuple #[.pointer (some ⟨o.1.b, 0, none⟩), .int .i64 0]) (fun o => [Ch.rall (ixR o.1)]) := by
  refine rc_of_W (args := [.agg (tbC v A l.length c).toArray, .slice none 0 0]) 142 Try.func25 rfl rfl rfl (fun w0 => ?_)
  refine w_seq ?_
  refine w_region ?_
  refine o_box rfl rfl rfl (fun b1 => ?_)
  refine o_y (y_assign rfl) rfl rfl ?_
  refine o_y (y_assign rfl) rfl rfl ?_
  refine wl_nil ?_
  refine e_seq ?_
  refine w_seq ?_
  refine w_seq ?_
  refine w_region ?_
  refine o_y (y_loadrs 0 ty_41 rfl rfl rfl rfl) rfl rfl ?_
  refine o_callq rfl ent_64 rfl (c_table_Check _ _ _ _ hok (by omega)) (fun w hw => (rd_cons (rd_S 0 rfl hw) (rd_cons (rd_S 1 rfl hw) rd_nil))) ?_
  refine o_y (y_assign rfl) rfl rfl ?_
  refine wl_nil ?_
  refine e_seq ?_
  refine w_seq ?_
  refine w_region ?_
  refine o_y (y_move rfl) rfl rfl ?_
  refine o_y (y_neq rfl rfl) rfl rfl ?_
  refine wl_af (t := 21) rfl (by omega) ?_
  refine wl_nil ?_
  refine e_seq ?_
  refine w_cond_f rfl ?_
  refine w_skip ?_
  refine e_seq ?_
  refine w_seq ?_
  refine w_region ?_
  refine o_makeMap encN encE rfl (fun r1 => ?_)
  refine o_makeMap encN encA rfl (fun r2 => ?_)
  refine o_makeMap encA encE rfl (fun r3 => ?_)
  refine o_y (y_build rfl (bu_119_1_2_3 _ _ _)) rfl rfl ?_
  refine o_box rfl rfl rfl (fun b5 => ?_)
  refine o_y (y_assign rfl) rfl rfl ?_
  refine wl_nil ?_
  refine e_seq ?_
  refine w_seq ?_
  refine w_seq ?_
  refine w_region ?_
  refine o_y (y_field fa_41_1 rfl) rfl rfl ?_
  refine o_y (y_loadr 4 ty_39 rfl rfl rfl) rfl rfl ?_
  refine o_y (y_lenl Try.underlying39 rfl) rfl rfl ?_
  refine o_y (y_move rfl) rfl rfl ?_
  refine wl_nil ?_
  refine e_seq ?_
  refine w_block ?_
  refine w_heap (fun w h => h.nilsl 50 7) ?_
  refine w_heap (fun w h => h.rall0) ?_
  refine w_loopL (σ := Nat × List Le × Option Addr × Nat × List (Str × Le)) [9, 31, 32, 33, 34, 35, 36, 37, 38, 39, 40, 41, 42, 43, 44, 45, 46, 47, 48, 49, 50, 51, 52, 53, 54, 55] (fun q => q.1 ≤ l.length ∧ q.2.1.map (·.e) = (l.take q.1).map (·.e) ∧ HmOk q.2.2.2.2 q.2.1) (fun q => l.length - q.1) (fun q => [(31, .int .i64 q.1)]) (fun q => [Ch.rall (q.2.1.flatMap elR), Ch.ls q.2.2.1 q.2.2.2.1 50 7 elC q.2.1, Ch.row b5 [.slice q.2.2.1 q.2.1.length q.2.2.2.1, .map (some r1), .map (some r2), .map (some r3)] 119, Ch.mp r3 encA encE [], Ch.mp r2 encN encA [], Ch.mp r1 encN encE q.2.2.2.2]) ((0, [], none, 0, [])) ?_ ⟨rfl, trivial⟩ rfl (fun q hI => ?_)
  · exact ⟨Nat.zero_le _, rfl, hm_nil⟩
  obtain ⟨k, lc, Ax, cx, hm⟩ := q
  dsimp only at hI ⊢
  refine w_seq ?_
  refine w_region ?_
  refine o_y (y_lss rfl rfl) rfl rfl ?_
  refine wl_splitp (t := 32) rfl (fun h6_0 => ?_) (fun h6_0 => ?_)
  · skip
    have hk : k < l.length := by omega
    have hb9 := hok.at hk
    have hlc := take_len_eq hI.2.1
    refine wl_nil ?_
    refine e_seq ?_
    refine w_seq ?_
    refine w_cond_t rfl ?_
    refine w_skip ?_
    refine e_seq ?_
    refine w_seq ?_
    refine w_block ?_
    refine w_seq ?_
    refine w_region ?_
    refine o_y (y_ixm  Try.underlying39 ty_50 rfl rfl (rs_S 0 rfl) rfl (by omega)) rfl rfl ?_
    refine o_y (y_ldsm0 enc_le le0 ty_50 rfl (rs_S 0 rfl) (by omega) rfl rfl rfl) rfl rfl ?_
    refine o_alloc ty_50 rfl rfl (fun b6 => ?_)
    refine o_store ty_50 rfl rfl rfl .z rfl rfl rfl rfl ?_
    refine wl_nil ?_
    refine e_seq ?_
    refine w_seq ?_
    refine w_region ?_
    refine o_y (y_loadrs 0 ty_50 rfl rfl rfl rfl) rfl rfl ?_
    refine o_callr2 rfl ent_65 rfl (c_entry_Copy _ _ _ _ _ (by have := hb9.la; omega) (by have := hb9.lp; omega)) (fun w hw => (rd_cons (rd_all (rd_S 1 rfl hw) (mem_flatR (mem_getD (by omega)) _ (elRA _))) (rd_cons (rd_all (rd_S 1 rfl hw) (mem_flatR (mem_getD (by omega)) _ (elRB _))) rd_nil))) (fun ⟨A6, c6, B6, d6⟩ => ?_)
    refine o_store ty_50 rfl rfl rfl (.s (.s (.z))) rfl rfl rfl rfl ?_
    refine wl_nil ?_
    refine e_seq ?_
    refine w_seq ?_
    refine w_drawU 7 rfl mixed ?_
    refine u_take (i := 1) rfl wanted_none (y_move rfl) (fun w h => h) (fun w h => h) rfl (pk_seq (pk_blk (pk_seq (pk_loop (pk_blk (pk_seq pk_fn)))))) (by kernel_rfl) rfl ?_
    refine u_take (i := 2) rfl wanted_none (y_nilCheck rfl) (fun w h => h) (fun w h => h) rfl (pk_seq (pk_blk (pk_seq (pk_loop (pk_blk (pk_seq pk_fn)))))) (by kernel_rfl) rfl ?_
    refine u_take (i := 3) rfl wanted_none (y_field fa_119_0 rfl) (fun w h => h) (fun w h => h) rfl (pk_seq (pk_blk (pk_seq (pk_loop (pk_blk (pk_seq pk_fn)))))) (by kernel_rfl) rfl ?_
    refine u_take (i := 4) rfl wanted_none (y_loadr 5 ty_39 rfl rfl rfl) (fun w h => h) (fun w h => h) rfl (pk_seq (pk_blk (pk_seq (pk_loop (pk_blk (pk_seq pk_fn)))))) (by kernel_rfl) rfl ?_
    refine u_take (i := 5) rfl wanted_none (y_loadrs 2 ty_50 rfl rfl rfl rfl) (fun w h => h) (fun w h => h) rfl (pk_seq (pk_blk (pk_seq (pk_loop (pk_blk (pk_seq pk_fn)))))) (by kernel_rfl) rfl ?_
    refine u_many (js := [0, 6]) (by kernel_rfl) rfl ?_
    refine wru_cons (i := 0) rfl rfl rfl (fun _ _ _ => tame_op (by kernel_rfl)) rfl ?_ ?_
    · skip
      refine o_y (y_move rfl) rfl rfl ?_
      refine wl_nil ?_
      refine eu_one (fun w h => h) ?_
      refine u_one (i := 6) rfl rfl rfl (fun _ _ _ => tame_op (by kernel_rfl)) (by kernel_rfl) rfl ?_
      refine o_bsl (vs := [_]) ([(⟨(l.getD k le0).e, A6, c6, B6, d6⟩ : Le)] : List (Le)) enc_le Try.underlying39 ty_50 rfl rfl rfl rfl rfl rfl (fun As8 => ?_)
      refine wl_nil ?_
      refine eu_one (fun w h => h.weak (.cons _ (List.Sublist.refl _)) (fun s hs => hs)) ?_
      refine u_one (i := 7) rfl rfl rfl (fun _ _ _ => tame_op (by kernel_rfl)) (by kernel_rfl) rfl ?_
      refine o_appm (enc := elC) (sz := 7) [(⟨(l.getD k le0).e, A6, c6, B6, d6⟩ : Le)] Try.underlying39 ty_50 rfl rfl rfl (fun A c => (.s (.s (.s (.s (.s (.z))))))) (src_L 0 Try.underlying39 rfl) (by simp only [List.length_cons, List.length_nil, Nat.zero_add]; omega) (by simp only [List.length_cons, List.length_nil, Nat.zero_add]; omega) rfl (fun A8 c8 => ?_)
      refine wl_nil ?_
      refine eu_tail rfl ?_
      refine u_one (i := 8) rfl rfl rfl (tame_y (fun w => y_nilCheck rfl)) (by kernel_rfl) rfl ?_
      refine o_y (y_nilCheck rfl) rfl rfl ?_
      refine wl_nil ?_
      refine eu_tail rfl ?_
      refine u_one (i := 9) rfl rfl rfl (fun _ _ _ => tame_op (by kernel_rfl)) (by kernel_rfl) rfl ?_
      refine o_y (y_field fa_119_0 rfl) rfl rfl ?_
      refine wl_nil ?_
      refine eu_tail rfl ?_
      refine u_one (i := 10) rfl rfl rfl (fun _ _ _ => tame_op (by kernel_rfl)) (by kernel_rfl) rfl ?_
      refine o_store ty_39 rfl rfl rfl (.s (.s (.s (.s (.s (.s (.z))))))) rfl rfl rfl rfl ?_
      refine wl_nil ?_
      refine eu_tail rfl ?_
      refine u_done (by kernel_rfl) ?_
      refine e_seq ?_
      refine w_drawU 7 rfl mixed ?_
      refine u_take (i := 0) rfl wanted_none (y_move rfl) (fun w h => h) (fun w h => h) rfl (pk_blk (pk_seq (pk_loop (pk_blk (pk_seq pk_fn))))) (by kernel_rfl) rfl ?_
      refine u_take (i := 1) rfl wanted_none (y_nilCheck rfl) (fun w h => h) (fun w h => h) rfl (pk_blk (pk_seq (pk_loop (pk_blk (pk_seq pk_fn))))) (by kernel_rfl) rfl ?_
      refine u_take (i := 2) rfl wanted_none (y_field fa_119_1 rfl) (fun w h => h) (fun w h => h) rfl (pk_blk (pk_seq (pk_loop (pk_blk (pk_seq pk_fn))))) (by kernel_rfl) rfl ?_
      refine u_take (i := 3) rfl wanted_none (y_loadr 6 ty_113 rfl rfl rfl) (fun w h => h) (fun w h => h) rfl (pk_blk (pk_seq (pk_loop (pk_blk (pk_seq pk_fn))))) (by kernel_rfl) rfl ?_
      refine u_take (i := 4) rfl wanted_none (y_loadrs 3 ty_50 rfl rfl rfl rfl) (fun w h => h) (fun w h => h) rfl (pk_blk (pk_seq (pk_loop (pk_blk (pk_seq pk_fn))))) (by kernel_rfl) rfl ?_
      refine u_take (i := 6) rfl wanted_none (y_loadrs 3 ty_50 rfl rfl rfl rfl) (fun w h => h) (fun w h => h) rfl (pk_blk (pk_seq (pk_loop (pk_blk (pk_seq pk_fn))))) (by kernel_rfl) rfl ?_
      refine u_one (i := 5) rfl rfl rfl (tame_call rfl ent_67) (by kernel_rfl) rfl ?_
      refine o_callp rfl ent_67 (c_entry_Key _ _ _ _ _ (by have := hb9.h; omega)) rfl ?_
      refine wl_nil ?_
      refine eu_one (fun w h => h) ?_
      refine u_one (i := 7) rfl rfl rfl (tame_call rfl ent_66) (by kernel_rfl) rfl ?_
      refine o_callu rfl ent_66 rfl (c_put_h hm r1 _ (⟨(l.getD k le0).e, A6, c6, B6, d6⟩ : Le)) (fun o => (.s (.s (.s (.s (.s (.s (.s (.s (.s (.z))))))))))) (List.mem_of_getElem? (i := 9) rfl) (fun s hs => nomatch hs) (fun o9 => ?_)
      refine wl_nil ?_
      refine eu_tail rfl ?_
      refine u_done (by kernel_rfl) ?_
      refine e_blk ?_
      refine e_seq ?_
      refine w_region ?_
      refine o_y (y_addi rfl rfl (by omega) (by omega)) rfl rfl ?_
      refine o_y (y_move rfl) rfl rfl ?_
      refine wl_nil ?_
      refine e_back ((k + 1, lc ++ [(⟨(l.getD k le0).e, A6, c6, B6, d6⟩ : Le)], A8, c8, putF hm (foldN (l.getD k le0).e.host) (⟨(l.getD k le0).e, A6, c6, B6, d6⟩ : Le))) ?_ ?_ ⟨rfl, trivial⟩ (by repeat (first | exact trivial | refine ⟨rfl, ?_⟩)) (fun w h => by
  have h2 := (h.weak (.cons _ (.cons_cons _ (.cons_cons _ (.cons _ (List.Sublist.refl _))))) (fun s hs => hs)).intoE
  show Hp _ _ (Ch.rall ((lc ++ [_]).flatMap elR) :: _) _ _
  rw [List.flatMap_append, List.flatMap_singleton]
  exact h2)
      · exact ⟨by show k + 1 ≤ _; omega, by show (lc ++ [_]).map _ = (l.take (k + 1)).map _; rw [List.map_append, hI.2.1, take_getD l le0 k hk, List.map_append]; rfl, hm_put hI.2.2 (⟨(l.getD k le0).e, A6, c6, B6, d6⟩ : Le)⟩
      · show l.length - (k + 1) < l.length - k
        omega
    refine wru_cons (i := 6) rfl rfl rfl (fun _ _ _ => tame_op (by kernel_rfl)) rfl ?_ ?_
    · skip
      refine o_bsl (vs := [_]) ([(⟨(l.getD k le0).e, A6, c6, B6, d6⟩ : Le)] : List (Le)) enc_le Try.underlying39 ty_50 rfl rfl rfl rfl rfl rfl (fun As11 => ?_)
      refine wl_nil ?_
      refine eu_one (fun w h => h.weak (.cons _ (List.Sublist.refl _)) (fun s hs => hs)) ?_
      refine u_many (js := [0, 7]) (by kernel_rfl) rfl ?_
      refine wru_cons (i := 0) rfl rfl rfl (fun _ _ _ => tame_op (by kernel_rfl)) rfl ?_ ?_
      · skip
        refine o_y (y_move rfl) rfl rfl ?_
        refine wl_nil ?_
        refine eu_one (fun w h => h.weak (.cons _ (List.Sublist.refl _)) (fun s hs => hs)) ?_
        refine u_one (i := 7) rfl rfl rfl (fun _ _ _ => tame_op (by kernel_rfl)) (by kernel_rfl) rfl ?_
        refine o_appm (enc := elC) (sz := 7) [(⟨(l.getD k le0).e, A6, c6, B6, d6⟩ : Le)] Try.underlying39 ty_50 rfl rfl rfl (fun A c => (.s (.s (.s (.s (.s (.z))))))) (src_L 0 Try.underlying39 rfl) (by simp only [List.length_cons, List.length_nil, Nat.zero_add]; omega) (by simp only [List.length_cons, List.length_nil, Nat.zero_add]; omega) rfl (fun A11 c11 => ?_)
        refine wl_nil ?_
        refine eu_tail rfl ?_
        refine u_one (i := 8) rfl rfl rfl (tame_y (fun w => y_nilCheck rfl)) (by kernel_rfl) rfl ?_
        refine o_y (y_nilCheck rfl) rfl rfl ?_
        refine wl_nil ?_
        refine eu_tail rfl ?_
        refine u_one (i := 9) rfl rfl rfl (fun _ _ _ => tame_op (by kernel_rfl)) (by kernel_rfl) rfl ?_
        refine o_y (y_field fa_119_0 rfl) rfl rfl ?_
        refine wl_nil ?_
        refine eu_tail rfl ?_
        refine u_one (i := 10) rfl rfl rfl (fun _ _ _ => tame_op (by kernel_rfl)) (by kernel_rfl) rfl ?_
        refine o_store ty_39 rfl rfl rfl (.s (.s (.s (.s (.s (.s (.z))))))) rfl rfl rfl rfl ?_
        refine wl_nil ?_
        refine eu_tail rfl ?_
        refine u_done (by kernel_rfl) ?_
        refine e_seq ?_
        refine w_drawU 7 rfl mixed ?_
        refine u_take (i := 0) rfl wanted_none (y_move rfl) (fun w h => h) (fun w h => h) rfl (pk_blk (pk_seq (pk_loop (pk_blk (pk_seq pk_fn))))) (by kernel_rfl) rfl ?_
        refine u_take (i := 1) rfl wanted_none (y_nilCheck rfl) (fun w h => h) (fun w h => h) rfl (pk_blk (pk_seq (pk_loop (pk_blk (pk_seq pk_fn))))) (by kernel_rfl) rfl ?_
        refine u_take (i := 2) rfl wanted_none (y_field fa_119_1 rfl) (fun w h => h) (fun w h => h) rfl (pk_blk (pk_seq (pk_loop (pk_blk (pk_seq pk_fn))))) (by kernel_rfl) rfl ?_
        refine u_take (i := 3) rfl wanted_none (y_loadr 6 ty_113 rfl rfl rfl) (fun w h => h) (fun w h => h) rfl (pk_blk (pk_seq (pk_loop (pk_blk (pk_seq pk_fn))))) (by kernel_rfl) rfl ?_
        refine u_take (i := 4) rfl wanted_none (y_loadrs 3 ty_50 rfl rfl rfl rfl) (fun w h => h) (fun w h => h) rfl (pk_blk (pk_seq (pk_loop (pk_blk (pk_seq pk_fn))))) (by kernel_rfl) rfl ?_
        refine u_take (i := 6) rfl wanted_none (y_loadrs 3 ty_50 rfl rfl rfl rfl) (fun w h => h) (fun w h => h) rfl (pk_blk (pk_seq (pk_loop (pk_blk (pk_seq pk_fn))))) (by kernel_rfl) rfl ?_
        refine u_one (i := 5) rfl rfl rfl (tame_call rfl ent_67) (by kernel_rfl) rfl ?_
        refine o_callp rfl ent_67 (c_entry_Key _ _ _ _ _ (by have := hb9.h; omega)) rfl ?_
        refine wl_nil ?_
        refine eu_one (fun w h => h) ?_
        refine u_one (i := 7) rfl rfl rfl (tame_call rfl ent_66) (by kernel_rfl) rfl ?_
        refine o_callu rfl ent_66 rfl (c_put_h hm r1 _ (⟨(l.getD k le0).e, A6, c6, B6, d6⟩ : Le)) (fun o => (.s (.s (.s (.s (.s (.s (.s (.s (.s (.z))))))))))) (List.mem_of_getElem? (i := 9) rfl) (fun s hs => nomatch hs) (fun o12 => ?_)
        refine wl_nil ?_
        refine eu_tail rfl ?_
        refine u_done (by kernel_rfl) ?_
        refine e_blk ?_
        refine e_seq ?_
        refine w_region ?_
        refine o_y (y_addi rfl rfl (by omega) (by omega)) rfl rfl ?_
        refine o_y (y_move rfl) rfl rfl ?_
        refine wl_nil ?_
        refine e_back ((k + 1, lc ++ [(⟨(l.getD k le0).e, A6, c6, B6, d6⟩ : Le)], A11, c11, putF hm (foldN (l.getD k le0).e.host) (⟨(l.getD k le0).e, A6, c6, B6, d6⟩ : Le))) ?_ ?_ ⟨rfl, trivial⟩ (by repeat (first | exact trivial | refine ⟨rfl, ?_⟩)) (fun w h => by
  have h2 := (h.weak (.cons _ (.cons_cons _ (.cons_cons _ (.cons _ (List.Sublist.refl _))))) (fun s hs => hs)).intoE
  show Hp _ _ (Ch.rall ((lc ++ [_]).flatMap elR) :: _) _ _
  rw [List.flatMap_append, List.flatMap_singleton]
  exact h2)
        · exact ⟨by show k + 1 ≤ _; omega, by show (lc ++ [_]).map _ = (l.take (k + 1)).map _; rw [List.map_append, hI.2.1, take_getD l le0 k hk, List.map_append]; rfl, hm_put hI.2.2 (⟨(l.getD k le0).e, A6, c6, B6, d6⟩ : Le)⟩
        · show l.length - (k + 1) < l.length - k
          omega
      refine wru_cons (i := 7) rfl rfl rfl (fun _ _ _ => tame_op (by kernel_rfl)) rfl ?_ ?_
      · skip
        refine o_appm (enc := elC) (sz := 7) [(⟨(l.getD k le0).e, A6, c6, B6, d6⟩ : Le)] Try.underlying39 ty_50 rfl rfl rfl (fun A c => (.s (.s (.s (.s (.s (.z))))))) (src_L 0 Try.underlying39 rfl) (by simp only [List.length_cons, List.length_nil, Nat.zero_add]; omega) (by simp only [List.length_cons, List.length_nil, Nat.zero_add]; omega) rfl (fun A13 c13 => ?_)
        refine wl_nil ?_
        refine eu_tail rfl ?_
        refine u_one (i := 0) rfl rfl rfl (fun _ _ _ => tame_op (by kernel_rfl)) (by kernel_rfl) rfl ?_
        refine o_y (y_move rfl) rfl rfl ?_
        refine wl_nil ?_
        refine eu_tail rfl ?_
        refine u_one (i := 8) rfl rfl rfl (tame_y (fun w => y_nilCheck rfl)) (by kernel_rfl) rfl ?_
        refine o_y (y_nilCheck rfl) rfl rfl ?_
        refine wl_nil ?_
        refine eu_tail rfl ?_
        refine u_one (i := 9) rfl rfl rfl (fun _ _ _ => tame_op (by kernel_rfl)) (by kernel_rfl) rfl ?_
        refine o_y (y_field fa_119_0 rfl) rfl rfl ?_
        refine wl_nil ?_
        refine eu_tail rfl ?_
        refine u_one (i := 10) rfl rfl rfl (fun _ _ _ => tame_op (by kernel_rfl)) (by kernel_rfl) rfl ?_
        refine o_store ty_39 rfl rfl rfl (.s (.s (.s (.s (.s (.s (.z))))))) rfl rfl rfl rfl ?_
        refine wl_nil ?_
        refine eu_tail rfl ?_
        refine u_done (by kernel_rfl) ?_
        refine e_seq ?_
        refine w_drawU 7 rfl mixed ?_
        refine u_take (i := 0) rfl wanted_none (y_move rfl) (fun w h => h) (fun w h => h) rfl (pk_blk (pk_seq (pk_loop (pk_blk (pk_seq pk_fn))))) (by kernel_rfl) rfl ?_
        refine u_take (i := 1) rfl wanted_none (y_nilCheck rfl) (fun w h => h) (fun w h => h) rfl (pk_blk (pk_seq (pk_loop (pk_blk (pk_seq pk_fn))))) (by kernel_rfl) rfl ?_
        refine u_take (i := 2) rfl wanted_none (y_field fa_119_1 rfl) (fun w h => h) (fun w h => h) rfl (pk_blk (pk_seq (pk_loop (pk_blk (pk_seq pk_fn))))) (by kernel_rfl) rfl ?_
        refine u_take (i := 3) rfl wanted_none (y_loadr 6 ty_113 rfl rfl rfl) (fun w h => h) (fun w h => h) rfl (pk_blk (pk_seq (pk_loop (pk_blk (pk_seq pk_fn))))) (by kernel_rfl) rfl ?_
        refine u_take (i := 4) rfl wanted_none (y_loadrs 3 ty_50 rfl rfl rfl rfl) (fun w h => h) (fun w h => h) rfl (pk_blk (pk_seq (pk_loop (pk_blk (pk_seq pk_fn))))) (by kernel_rfl) rfl ?_
        refine u_take (i := 6) rfl wanted_none (y_loadrs 3 ty_50 rfl rfl rfl rfl) (fun w h => h) (fun w h => h) rfl (pk_blk (pk_seq (pk_loop (pk_blk (pk_seq pk_fn))))) (by kernel_rfl) rfl ?_
        refine u_one (i := 5) rfl rfl rfl (tame_call rfl ent_67) (by kernel_rfl) rfl ?_
        refine o_callp rfl ent_67 (c_entry_Key _ _ _ _ _ (by have := hb9.h; omega)) rfl ?_
        refine wl_nil ?_
        refine eu_one (fun w h => h) ?_
        refine u_one (i := 7) rfl rfl rfl (tame_call rfl ent_66) (by kernel_rfl) rfl ?_
        refine o_callu rfl ent_66 rfl (c_put_h hm r1 _ (⟨(l.getD k le0).e, A6, c6, B6, d6⟩ : Le)) (fun o => (.s (.s (.s (.s (.s (.s (.s (.s (.s (.z))))))))))) (List.mem_of_getElem? (i := 9) rfl) (fun s hs => nomatch hs) (fun o14 => ?_)
        refine wl_nil ?_
        refine eu_tail rfl ?_
        refine u_done (by kernel_rfl) ?_
        refine e_blk ?_
        refine e_seq ?_
        refine w_region ?_
        refine o_y (y_addi rfl rfl (by omega) (by omega)) rfl rfl ?_
        refine o_y (y_move rfl) rfl rfl ?_
        refine wl_nil ?_
        refine e_back ((k + 1, lc ++ [(⟨(l.getD k le0).e, A6, c6, B6, d6⟩ : Le)], A13, c13, putF hm (foldN (l.getD k le0).e.host) (⟨(l.getD k le0).e, A6, c6, B6, d6⟩ : Le))) ?_ ?_ ⟨rfl, trivial⟩ (by repeat (first | exact trivial | refine ⟨rfl, ?_⟩)) (fun w h => by
  have h2 := (h.weak (.cons _ (.cons_cons _ (.cons_cons _ (.cons _ (List.Sublist.refl _))))) (fun s hs => hs)).intoE
  show Hp _ _ (Ch.rall ((lc ++ [_]).flatMap elR) :: _) _ _
  rw [List.flatMap_append, List.flatMap_singleton]
  exact h2)
        · exact ⟨by show k + 1 ≤ _; omega, by show (lc ++ [_]).map _ = (l.take (k + 1)).map _; rw [List.map_append, hI.2.1, take_getD l le0 k hk, List.map_append]; rfl, hm_put hI.2.2 (⟨(l.getD k le0).e, A6, c6, B6, d6⟩ : Le)⟩
        · show l.length - (k + 1) < l.length - k
          omega
      exact wru_nil
    exact wru_nil
  · skip
    refine wl_nil ?_
    refine e_seq ?_
    refine w_seq ?_
    refine w_cond_f rfl ?_
    refine w_exit ?_
    refine e_seq_exit ?_
    refine e_loop_exit ?_
    refine e_blk_hit ?_
    refine e_seq ?_
    refine w_seq ?_
    refine w_seq ?_
    have hkl : k = l.length := by omega
    subst hkl
    have hI9 : lc.map (·.e) = l.map (·.e) := by rw [hI.2.1, List.take_length]
    have hI8 := hI.2.2
    have hlc := take_len_eq hI.2.1
    refine w_region ?_
    refine o_y (y_move rfl) rfl rfl ?_
    refine o_y (y_lenl Try.underlying58 rfl) rfl rfl ?_
    refine o_y (y_move rfl) rfl rfl ?_
    refine wl_nil ?_
    refine e_seq ?_
    refine w_block ?_
    refine w_loop0 (σ := Unit) [4, 5, 11, 12, 13, 58, 59, 60, 61, 62, 63, 64, 65, 66, 67, 68, 69, 70, 71, 72, 73, 74, 75, 76, 77, 78, 79, 80, 81, 82, 83, 84, 85, 86, 87, 88, 89, 90, 91, 92, 93, 94, 95, 96, 97, 98, 99, 100, 101, 102, 103, 104, 105, 106, 107, 108, 109, 110, 111, 112, 113, 114, 115] (fun _ => True) (fun _ => 0) (fun _ => [(58, .int .i64 0)]) (()) ?_ ⟨rfl, trivial⟩ (fun _ hI => ?_)
    · trivial
    refine w_seq ?_
    refine w_region ?_
    refine o_y (y_lss rfl rfl) rfl rfl ?_
    refine wl_af (t := 59) rfl (by simp) ?_
    refine wl_nil ?_
    refine e_seq ?_
    refine w_seq ?_
    refine w_cond_f rfl ?_
    refine w_exit ?_
    refine e_seq_exit ?_
    refine e_loop_exit ?_
    refine e_blk_hit ?_
    refine e_seq ?_
    refine w_seq ?_
    refine w_seq ?_
    refine w_region ?_
    refine o_y (y_move rfl) rfl rfl ?_
    refine o_y (y_nilCheck rfl) rfl rfl ?_
    refine o_y (y_field fa_119_0 rfl) rfl rfl ?_
    refine o_y (y_loadr 2 ty_39 rfl rfl rfl) rfl rfl ?_
    refine o_y (y_lenl Try.underlying39 rfl) rfl rfl ?_
    refine o_y (y_move rfl) rfl rfl ?_
    refine wl_nil ?_
    refine e_seq ?_
    refine w_block ?_
    refine w_heap (fun w h => h.f3) ?_
    refine w_loop1 (σ := Nat × List (Ad × Le)) [15, 17, 121, 122, 123, 124, 125, 126, 127, 128, 129, 130, 131, 132, 133, 134, 135, 136, 137, 138, 139, 140] (fun q => q.1 ≤ lc.length) (fun q => lc.length - q.1) (fun q => [(121, .int .i64 q.1)]) (fun q => Ch.mp r3 encA encE q.2) ((0, [])) ?_ ⟨rfl, trivial⟩ rfl (fun q hI => ?_)
    · exact Nat.zero_le _
    obtain ⟨k2, am⟩ := q
    dsimp only at hI ⊢
    refine w_seq ?_
    refine w_region ?_
    refine o_y (y_lss rfl rfl) rfl rfl ?_
    refine wl_splitp (t := 122) rfl (fun h20_0 => ?_) (fun h20_0 => ?_)
    · skip
      have hk2 : k2 < lc.length := by omega
      have hb9 := EnB.eq (hok.at (k := k2) (by omega)) (getE_eq hI9 k2)
      have hla9 := hb9.la
      refine wl_nil ?_
      refine e_seq ?_
      refine w_seq ?_
      refine w_cond_t rfl ?_
      refine w_skip ?_
      refine e_seq ?_
      refine w_seq ?_
      refine w_block ?_
      refine w_seq ?_
      refine w_region ?_
      refine o_y (y_ixm  Try.underlying39 ty_50 rfl rfl (rs_L 2 rfl) rfl (by omega)) rfl rfl ?_
      refine o_y (y_ldsm0 enc_le le0 ty_50 rfl (rs_L 2 rfl) (by omega) rfl rfl rfl) rfl rfl ?_
      refine o_alloc ty_50 rfl rfl (fun b16 => ?_)
      refine o_store ty_50 rfl rfl rfl .z rfl rfl rfl rfl ?_
      refine wl_nil ?_
      refine e_seq ?_
      refine w_seq ?_
      refine w_region ?_
      refine o_y (y_field fa_50_3 rfl) rfl rfl ?_
      refine o_y (y_loadr 0 ty_46 rfl rfl rfl) rfl rfl ?_
      refine o_y (y_lenl Try.underlying46 rfl) rfl rfl ?_
      refine o_y (y_move rfl) rfl rfl ?_
      refine wl_nil ?_
      refine e_seq ?_
      refine w_block ?_
      refine w_heap (fun w h => h.f1) ?_
      refine w_loop1 (σ := Nat × List (Ad × Le)) [17, 128, 129, 130, 131, 132, 133, 134, 135, 136, 137, 138, 139] (fun q => q.1 ≤ (lc.getD k2 le0).e.addrs.length) (fun q => (lc.getD k2 le0).e.addrs.length - q.1) (fun q => [(128, .int .i64 q.1)]) (fun q => Ch.mp r3 encA encE q.2) ((0, am)) ?_ ⟨rfl, trivial⟩ rfl (fun q hI => ?_)
      · exact Nat.zero_le _
      obtain ⟨j, am2⟩ := q
      dsimp only at hI ⊢
      refine w_seq ?_
      refine w_region ?_
      refine o_y (y_lss rfl rfl) rfl rfl ?_
      refine wl_splitp (t := 129) rfl (fun h23_0 => ?_) (fun h23_0 => ?_)
      · skip
        refine wl_nil ?_
        refine e_seq ?_
        refine w_seq ?_
        refine w_cond_t rfl ?_
        refine w_skip ?_
        refine e_seq ?_
        refine w_seq ?_
        refine w_block ?_
        refine w_seq ?_
        refine w_region ?_
        refine o_y (y_ixm  Try.underlying46 ty_66 rfl rfl (fun w hw => (rd_all (rd_L 2 rfl hw) (mem_flatR (mem_getD (by omega)) _ (elRA _))).1) rfl (by omega)) rfl rfl ?_
        refine o_y (y_ldsm0 enc_ad ad0 ty_66 rfl (fun w hw => (rd_all (rd_L 2 rfl hw) (mem_flatR (mem_getD (by omega)) _ (elRA _))).1) (by omega) rfl rfl rfl) rfl rfl ?_
        refine o_alloc ty_66 rfl rfl (fun b17 => ?_)
        refine o_store ty_66 rfl rfl rfl .z rfl rfl rfl rfl ?_
        refine wl_nil ?_
        refine e_seq ?_
        refine w_drawU 6 rfl mixed ?_
        refine u_take (i := 0) rfl wanted_none (y_move rfl) (fun w h => h) (fun w h => h) rfl (pk_blk (pk_seq (pk_loop (pk_blk (pk_blk (pk_seq (pk_loop (pk_blk (pk_seq pk_fn))))))))) (by kernel_rfl) rfl ?_
        refine u_take (i := 1) rfl wanted_none (y_nilCheck rfl) (fun w h => h) (fun w h => h) rfl (pk_blk (pk_seq (pk_loop (pk_blk (pk_blk (pk_seq (pk_loop (pk_blk (pk_seq pk_fn))))))))) (by kernel_rfl) rfl ?_
        refine u_take (i := 2) rfl wanted_none (y_field fa_119_3 rfl) (fun w h => h) (fun w h => h) rfl (pk_blk (pk_seq (pk_loop (pk_blk (pk_blk (pk_seq (pk_loop (pk_blk (pk_seq pk_fn))))))))) (by kernel_rfl) rfl ?_
        refine u_take (i := 3) rfl wanted_none (y_loadr 5 ty_117 rfl rfl rfl) (fun w h => h) (fun w h => h) rfl (pk_blk (pk_seq (pk_loop (pk_blk (pk_blk (pk_seq (pk_loop (pk_blk (pk_seq pk_fn))))))))) (by kernel_rfl) rfl ?_
        refine u_take (i := 4) rfl wanted_none (y_loadrs 0 ty_66 rfl rfl rfl rfl) (fun w h => h) (fun w h => h) rfl (pk_blk (pk_seq (pk_loop (pk_blk (pk_blk (pk_seq (pk_loop (pk_blk (pk_seq pk_fn))))))))) (by kernel_rfl) rfl ?_
        refine u_take (i := 5) rfl wanted_none (y_loadrs 2 ty_50 rfl rfl rfl rfl) (fun w h => h) (fun w h => h) rfl (pk_blk (pk_seq (pk_loop (pk_blk (pk_blk (pk_seq (pk_loop (pk_blk (pk_seq pk_fn))))))))) (by kernel_rfl) rfl ?_
        refine u_one (i := 6) rfl rfl rfl (tame_call rfl ent_72) (by kernel_rfl) rfl ?_
        refine o_callu rfl ent_72 rfl (c_put_a _ r3 _ (lc.getD k2 le0)) (fun o => (.s (.z))) (List.mem_of_getElem? (i := 1) rfl) (fun s hs => nomatch hs) (fun o17 => ?_)
        refine wl_nil ?_
        refine eu_tail rfl ?_
        refine u_done (by kernel_rfl) ?_
        refine e_blk ?_
        refine e_seq ?_
        refine w_region ?_
        refine o_y (y_addi rfl rfl (by omega) (by omega)) rfl rfl ?_
        refine o_y (y_move rfl) rfl rfl ?_
        refine wl_nil ?_
        refine e_back ((j + 1, putF am2 ((lc.getD k2 le0).e.addrs.getD j ad0) (lc.getD k2 le0))) ?_ ?_ ⟨rfl, trivial⟩ (by repeat (first | exact trivial | refine ⟨rfl, ?_⟩)) (fun w h => h.weak (.cons _ (List.Sublist.refl _)) (fun s hs => hs))
        · show j + 1 ≤ _
          omega
        · show (lc.getD k2 le0).e.addrs.length - (j + 1) < (lc.getD k2 le0).e.addrs.length - j
          omega
      · skip
        refine wl_nil ?_
        refine e_seq ?_
        refine w_seq ?_
        refine w_cond_f rfl ?_
        refine w_exit ?_
        refine e_seq_exit ?_
        refine e_loop_exit ?_
        refine e_blk_hit ?_
        refine e_blk ?_
        refine e_seq ?_
        refine w_region ?_
        refine o_y (y_addi rfl rfl (by omega) (by omega)) rfl rfl ?_
        refine o_y (y_move rfl) rfl rfl ?_
        refine wl_nil ?_
        refine e_back ((k2 + 1, am2)) ?_ ?_ ⟨rfl, trivial⟩ (by repeat (first | exact trivial | refine ⟨rfl, ?_⟩)) (fun w h => h.weak (.cons_cons _ (.cons _ (List.Sublist.refl _))) (fun s hs => hs))
        · show k2 + 1 ≤ _
          omega
        · show lc.length - (k2 + 1) < lc.length - k2
          omega
    · skip
      refine wl_nil ?_
      refine e_seq ?_
      refine w_seq ?_
      refine w_cond_f rfl ?_
      refine w_exit ?_
      refine e_seq_exit ?_
      refine e_loop_exit ?_
      refine e_blk_hit ?_
      refine e_seq ?_
      refine w_seq ?_
      refine w_region ?_
      refine o_y (y_move rfl) rfl rfl ?_
      refine o_y (y_assign rfl) rfl rfl ?_
      refine o_y (y_assign rfl) rfl rfl ?_
      refine wl_nil ?_
      refine e_seq ?_
      refine w_ret ?_
      refine e_ret (ts := [4, 5]) rfl rfl rfl (fun w hw => ?_)
      exact ⟨⟨⟨b5, Ax, cx, lc, r1, r2, r3, hm, [], am⟩, ⟨hI9, hI8⟩⟩, rfl, hw.base, (Hp.toRall (M := ixR ⟨b5, Ax, cx, lc, r1, r2, r3, hm, [], am⟩) hw (fun h9 => (List.forall_mem_cons.2 ⟨h9 _ (.tail _ (.tail _ (.tail _ (.head _)))), (List.forall_mem_cons.2 ⟨SlP.rs (h9 _ (.tail _ (.tail _ (.head _)))), (List.forall_mem_cons.2 ⟨h9 _ (.tail _ (.tail _ (.tail _ (.tail _ (.tail _ (.head _)))))), (List.forall_mem_cons.2 ⟨h9 _ (.tail _ (.tail _ (.tail _ (.tail _ (.head _))))), (List.forall_mem_cons.2 ⟨h9 _ (.head _), (List.forall_mem_cons.2 ⟨h9 _ (.tail _ (.head _)), nofun⟩)⟩)⟩)⟩)⟩)⟩)) (List.forall_mem_cons.2 ⟨fun b hb => ⟨_, (.tail _ (.tail _ (.tail _ (.head _)))), hb⟩, (List.forall_mem_cons.2 ⟨fun b hb => ⟨_, (.tail _ (.tail _ (.head _))), hb.2⟩, (List.forall_mem_cons.2 ⟨fun b hb => ⟨_, (.tail _ (.tail _ (.tail _ (.tail _ (.tail _ (.head _)))))), hb⟩, (List.forall_mem_cons.2 ⟨fun b hb => ⟨_, (.tail _ (.tail _ (.tail _ (.tail _ (.head _))))), hb⟩, (List.forall_mem_cons.2 ⟨fun b hb => ⟨_, (.head _), hb⟩, (List.forall_mem_cons.2 ⟨fun b hb => ⟨_, (.tail _ (.head _)), hb⟩, nofun⟩)⟩)⟩)⟩)⟩)⟩)).toNews⟩
end Go.Proofs.Ytckfjfnkombelaa
