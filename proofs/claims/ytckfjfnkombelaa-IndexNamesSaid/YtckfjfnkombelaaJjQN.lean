/- the law of an index: the examples -/
import Derived.Test.YtckfjfnkombelaaJgQN
namespace Go.Proofs.Ytckfjfnkombelaa
open Go.RowKit Go.Shelf
set_option linter.unusedVariables false
set_option linter.unusedSimpArgs false

theorem bu_50_0_1_2 (x0 : Str) (x1 : Int) (x2 : Str) : Try.prog.built 50 [(0, .string (ba x0)), (1, .int .i64 x1), (2, .string (ba x2))] = some [.string (ba x0), .int .i64 x1, .string (ba x2), .slice none 0 0, .string ⟨#[]⟩, .slice none 0 0, .int .u32 0].toArray := by kernel_rfl
theorem bu_88_0_1 (x0 : Str) (x1 : Bool) (x2 : Int) (x3 : Int) : Try.prog.built 88 [(0, .string (ba x0)), (1, .agg [.bool x1, .int .u64 x2, .int .u64 x3].toArray)] = some [.string (ba x0), .bool x1, .int .u64 x2, .int .u64 x3].toArray := by kernel_rfl
theorem ent_30 : Enters Try.prog 30 := enters_of Try.func30 (by kernel_rfl) rfl
theorem ent_33 : Enters Try.prog 33 := enters_of Try.func33 (by kernel_rfl) rfl
theorem ent_34 : Enters Try.prog 34 := enters_of Try.func34 (by kernel_rfl) rfl
theorem ent_44 : Enters Try.prog 44 := enters_of Try.func44 (by kernel_rfl) rfl
theorem ent_45 : Enters Try.prog 45 := enters_of Try.func45 (by kernel_rfl) rfl

def hl2 : List Str := [(makeN [[102]]).1]
theorem fit_hl2 : Fit18 hl2 := fit18_ok (by decide +kernel)
def n18 (c : UInt8) : Str := (makeN [[c]]).1
def eA18 : En := ⟨n18 97, 2, [121], [], [], [], 0⟩
def eB18 : En := ⟨n18 98, 2, [122], [], [], [], 0⟩
def p18 : List Le := [lft eA18, lft eB18]
theorem putAll_e : ∀ (p l : List Le), (putAll l p).map (·.e) = p.foldl (fun es x => putEE es x.e) (l.map (·.e))
  | [], l => rfl
  | x :: p, l => by
    show (putAll (putE l x) p).map _ = _
    rw [putAll_e p, putE_e]; rfl
theorem putAll_mem : ∀ {p l : List Le} {y : Le}, y ∈ putAll l p → y ∈ l ∨ y ∈ p
  | [], l, y, h => .inl h
  | x :: p, l, y, h => by
    rcases putAll_mem (p := p) (l := putE l x) h with h | h
    · rcases putG_mem h with e | h
      · exact .inr (by rw [e]; exact .head _)
      · exact .inl h
    · exact .inr (.tail _ h)
theorem bare18 : ∀ x ∈ p18, x.e.addrs = [] ∧ x.e.ports = [] := by decide
def es18 : List En := p18.foldl (fun es x => putEE es x.e) (tabN hl2 1)
section
variable {tl : List Le} (h : tl.map (·.e) = tabN hl2 hl2.length)
include h
theorem tl18_e : (putAll tl p18).map (·.e) = es18 := by rw [putAll_e, h]; rfl
theorem tl18_ck : tabCk 9 (putAll tl p18) = 0 := by rw [tab_e 9 ((tl18_e h).trans (lft_e es18).symm)]; decide +kernel
theorem tl18_tb : TbOk (putAll tl p18) := sm_tb (by rw [tl18_e h]; decide +kernel)
theorem tl18_len : (putAll tl p18).length ≤ 256 := by have := congrArg List.length (tl18_e h); rw [List.length_map] at this; rw [this]; decide +kernel
theorem tl18_len2 : (putAll (if false = true then [] else tl) p18).length ≤ 256 := tl18_len h
end
theorem p18_tb : TbOk p18 := sm_tb (by decide +kernel)
theorem p18_ck : ∀ y ∈ p18, entCk y.e = 0 := by decide +kernel
theorem p18_nd : (p18.map (fun y : Le => foldN y.e.host)).Nodup := by decide +kernel
def h18a : List Hd := [⟨n18 65, ⟨false, 0, 1⟩⟩]
def h18b : List Hd := [⟨n18 102, ⟨false, 0, 1⟩⟩]
def h18c : List Hd := [⟨n18 97, ⟨false, 0, 1⟩⟩, ⟨n18 98, ⟨false, 0, 1⟩⟩]
theorem hb18 (hs : List Hd) (h : (hs.all fun h => decide (h.host.length ≤ 1000) && decide (0 ≤ h.ad.lo)) = true) : ∀ h ∈ hs, h.host.length ≤ 1000 ∧ 0 ≤ h.ad.lo := fun x hx => by
  have := List.all_eq_true.1 h x hx
  simpa using this
theorem am_e {l : List Le} {hs : List Hd} {x : Ixd} (hx : IxOk2 l hs x) (a : Ad) : ((lkp x.am a).getD le0).e = (ofE (l.map (·.e)) hs a).getD en0 := by
  rw [← am_E hx]; cases lkp x.am a <;> rfl
theorem am_s {l : List Le} {hs : List Hd} {x : Ixd} (hx : IxOk2 l hs x) (a : Ad) : (lkp x.am a).isSome = (ofE (l.map (·.e)) hs a).isSome := by
  rw [← am_E hx]; cases lkp x.am a <;> rfl
theorem fe_e {l : List Le} {n : Str} {r : Option Le} (h : FE l n r) : (r.getD le0).e = (lookN (l.map (·.e)) n).getD en0 := by
  rw [← h.e]; cases r <;> rfl
theorem ix_yes {l : List Le} {hs : List Hd} {o : Option Ixd} (n1 : o = none → ¬ HeldOk (l.map (·.e)) hs) (h : heldB (l.map (·.e)) hs = true) : ∃ x, o = some x := by
  cases o with
  | none => exact absurd (heldB_iff.1 h) (n1 rfl)
  | some x => exact ⟨x, rfl⟩
theorem ix_no {l : List Le} {hs : List Hd} {o : Option Ixd} (y1 : ∀ x, o = some x → HeldOk (l.map (·.e)) hs ∧ IxOk2 l hs x) (h : heldB (l.map (·.e)) hs = false) : o = none := by
  cases o with
  | none => rfl
  | some x => have := heldB_iff.2 (y1 x rfl).1; rw [h] at this; cases this

theorem Hp.put18 {ok0 : Nat → Prop} {w0 w : World} {a b : Ch} {l : List Le} {L S : List Ch} (h : Hp ok0 w0 (a :: b :: Ch.rall (l.flatMap elR) :: L) S w) : Hp ok0 w0 (a :: b :: Ch.rall ((putAll l p18).flatMap elR) :: L) S w :=
  h.turn (c := Ch.rall (l.flatMap elR)) (c' := Ch.rall ((putAll l p18).flatMap elR)) (.s (.s .z)) (fun hp c hc => by
    obtain ⟨y, hy, hc⟩ := List.mem_flatMap.1 hc
    rcases putAll_mem hy with hy | hy
    · exact hp c (List.mem_flatMap.2 ⟨y, hy, hc⟩)
    · exact (rd_bare (w := w) bare18 c (List.mem_flatMap.2 ⟨y, hy, hc⟩)).1) (fun b ⟨c, hc, hb⟩ => by
    obtain ⟨y, hy, hc⟩ := List.mem_flatMap.1 hc
    rcases putAll_mem hy with hy | hy
    · exact ⟨c, List.mem_flatMap.2 ⟨y, hy, hc⟩, hb⟩
    · exfalso
      obtain ⟨q1, q2⟩ := bare18 y hy
      simp only [elR, List.mem_cons, List.not_mem_nil, or_false] at hc
      rcases hc with rfl | rfl
      · rw [q1] at hb; exact absurd hb.1 (by simp)
      · rw [q2] at hb; exact absurd hb.1 (by simp))

set_option maxRecDepth 100000 in
set_option maxHeartbeats 1000000 in
theorem c_IndexNames  : Pure Try.prog 9 #[] (.bool true) := by
  intro w0
  refine calls_of_W (ok0 := no) (S := []) (args := []) 150 Try.func9 rfl rfl rfl (by simp) (by simp) ?_
  refine w_seq ?_
  refine w_region ?_
  refine o_y (y_assign rfl) rfl rfl ?_
  refine wl_nil ?_
  refine e_seq ?_
  refine w_seq ?_
  refine w_seq ?_
  refine w_region ?_
  refine o_callp rfl ent_30 c_lives18 rfl ?_
  refine wl_as (t := 16) (.bool true) rfl (congrArg Value.bool rfl) ?_
  refine o_y (y_not rfl) rfl rfl ?_
  refine wl_nil ?_
  refine e_seq ?_
  refine w_cond_f rfl ?_
  refine w_skip ?_
  refine e_seq ?_
  refine w_seq ?_
  refine w_region ?_
  refine o_bsl (vs := [_]) ([[102]] : List (Str)) enc_s Try.underlying36 ty_9 rfl rfl rfl rfl rfl rfl (fun As1 => ?_)
  refine o_callq rfl ent_42 rfl (c_host18 _ _ _ (by decide)) (fun w hw => (rd_cons (rd_Ls 0 rfl hw) rd_nil)) ?_
  refine o_bsl (vs := [_]) (hl2 : List (Str)) enc_s Try.underlying22 ty_25 rfl rfl rfl rfl rfl rfl (fun As2 => ?_)
  refine o_callr2 rfl ent_41 rfl (c_table18 hl2 _ _ fit_hl2) (fun w hw => (rd_cons (rd_Ls 0 rfl hw) rd_nil)) (fun ⟨⟨tl, Ae, ce⟩, htl⟩ => ?_)
  refine o_alloc ty_41 rfl rfl (fun b4 => ?_)
  refine o_store ty_41 rfl rfl rfl .z rfl rfl rfl rfl ?_
  refine wl_nil ?_
  refine e_seq ?_
  refine w_joinL (σ := Option Addr × Nat) (fun g => []) (fun g => [Ch.ls g.1 g.2 50 7 elC (putAll tl p18), Ch.row b4 (tbC 9 g.1 (putAll tl p18).length g.2) 41, Ch.rall ((putAll tl p18).flatMap elR)]) (fun g => ?_) (fun J4 => ?_)
  · skip
    refine w_seq ?_
    refine w_drawU 12 rfl mixed ?_
    refine u_take (i := 0) rfl wanted_none (y_loadrs 1 ty_41 rfl rfl rfl rfl) (fun w h => h) (fun w h => h) rfl (pk_seq pk_fn) (by as_aux_lemma => kernel_rfl) rfl ?_
    refine u_take (i := 3) rfl wanted_none (y_build rfl (bu_66_2 _)) (fun w h => h) (fun w h => h) rfl (pk_seq pk_fn) (by as_aux_lemma => kernel_rfl) rfl ?_
    refine u_one (i := 1) rfl rfl rfl (fun _ _ _ => tame_op (by as_aux_lemma => kernel_rfl)) (by as_aux_lemma => kernel_rfl) rfl ?_
    refine o_bsl (vs := [_]) ([[65]] : List (Str)) enc_s Try.underlying36 ty_9 rfl rfl rfl rfl rfl rfl (fun As5 => ?_)
    refine wl_nil ?_
    refine eu_one (fun w h => h.weak (.cons _ (List.Sublist.refl _)) (fun s hs => hs)) ?_
    refine u_one (i := 2) rfl rfl rfl (tame_call rfl ent_42) (by as_aux_lemma => kernel_rfl) rfl ?_
    refine o_callq rfl ent_42 rfl (c_host18 _ _ _ (by decide)) (fun w hw => (rd_cons (rd_Ls 0 rfl hw) rd_nil)) ?_
    refine wl_nil ?_
    refine eu_one (fun w h => h.weak (.cons _ (List.Sublist.refl _)) (fun s hs => hs)) ?_
    refine u_take (i := 4) rfl wanted_none (y_build rfl (bu_88_0_1 _ _ _ _)) (fun w h => h.weak (.cons _ (List.Sublist.refl _)) (fun s hs => hs)) (fun w h => h) rfl (pk_seq pk_fn) (by as_aux_lemma => kernel_rfl) rfl ?_
    refine u_one (i := 5) rfl rfl rfl (fun _ _ _ => tame_op (by as_aux_lemma => kernel_rfl)) (by as_aux_lemma => kernel_rfl) rfl ?_
    refine o_bsl (vs := [_]) (h18a : List (Hd)) enc_hd Try.underlying58 ty_88 rfl rfl rfl rfl rfl rfl (fun As6 => ?_)
    refine wl_nil ?_
    refine eu_one (fun w h => h.weak (.cons _ (.cons _ (List.Sublist.refl _))) (fun s hs => hs)) ?_
    refine u_one (i := 6) rfl rfl rfl (tame_call rfl ent_25) (by as_aux_lemma => kernel_rfl) rfl ?_
    refine o_callr1 rfl ent_25 rfl (c_index_NewH 9 (putAll tl p18) _ _ _ h18a _ (tl18_tb htl) (Nat.le_trans (tl18_len htl) (by decide)) (tl18_ck htl) (by decide) (hb18 h18a (by as_aux_lemma => decide +kernel))) (fun w hw => (rd_cons (rd_Ls 2 rfl hw) (rd_cons (rd_L 4 rfl hw) (rd_cons (rd_Ls 0 rfl hw) rd_nil)))) (fun ⟨oix1, hno1, hyes1⟩ => ?_)
    refine wl_nil ?_
    refine eu_one (fun w h => h.weak (.cons _ (.cons _ (.cons _ (List.Sublist.refl _)))) (fun s hs => hs)) ?_
    refine wu_as (t := 44) (.tuple #[.pointer (ixP oix1), .int .i64 (ixE oix1)]) rfl (ixV_pe oix1) ?_
    obtain ⟨ix1, rfl⟩ := ix_yes hno1 (by rw [tl18_e htl]; decide +kernel)
    obtain ⟨hH1, hix21⟩ := hyes1 ix1 rfl
    refine u_take (i := 7) rfl wanted_none (y_move rfl) (fun w h => h.weak (.cons _ (.cons _ (.cons _ (List.Sublist.refl _)))) (fun s hs => hs)) (fun w h => h) rfl (pk_seq pk_fn) (by as_aux_lemma => kernel_rfl) rfl ?_
    refine u_take (i := 8) rfl wanted_none (y_extract rfl rfl) (fun w h => h.weak (.cons _ (.cons _ (.cons _ (List.Sublist.refl _)))) (fun s hs => hs)) (fun w h => h) rfl (pk_seq pk_fn) (by as_aux_lemma => kernel_rfl) rfl ?_
    refine u_take (i := 9) rfl wanted_none (y_extract rfl rfl) (fun w h => h.weak (.cons _ (.cons _ (.cons _ (List.Sublist.refl _)))) (fun s hs => hs)) (fun w h => h) rfl (pk_seq pk_fn) (by as_aux_lemma => kernel_rfl) rfl ?_
    refine u_take (i := 10) rfl wanted_none (y_assign rfl) (fun w h => h.weak (.cons _ (.cons _ (.cons _ (List.Sublist.refl _)))) (fun s hs => hs)) (fun w h => h) rfl (pk_seq pk_fn) (by as_aux_lemma => kernel_rfl) rfl ?_
    refine u_take (i := 11) rfl wanted_none (y_assign rfl) (fun w h => h.weak (.cons _ (.cons _ (.cons _ (List.Sublist.refl _)))) (fun s hs => hs)) (fun w h => h) rfl (pk_seq pk_fn) (by as_aux_lemma => kernel_rfl) rfl ?_
    refine u_done (by as_aux_lemma => kernel_rfl) ?_
    refine e_seq ?_
    refine w_seq ?_
    refine w_drawU 12 rfl mixed ?_
    refine u_take (i := 0) rfl wanted_none (y_loadrs 4 ty_41 rfl rfl rfl rfl) (fun w h => h) (fun w h => h) rfl (pk_seq pk_fn) (by as_aux_lemma => kernel_rfl) rfl ?_
    refine u_take (i := 3) rfl wanted_none (y_build rfl (bu_66_2 _)) (fun w h => h) (fun w h => h) rfl (pk_seq pk_fn) (by as_aux_lemma => kernel_rfl) rfl ?_
    refine u_one (i := 1) rfl rfl rfl (fun _ _ _ => tame_op (by as_aux_lemma => kernel_rfl)) (by as_aux_lemma => kernel_rfl) rfl ?_
    refine o_bsl (vs := [_]) ([[102]] : List (Str)) enc_s Try.underlying36 ty_9 rfl rfl rfl rfl rfl rfl (fun As8 => ?_)
    refine wl_nil ?_
    refine eu_one (fun w h => h.weak (.cons _ (List.Sublist.refl _)) (fun s hs => hs)) ?_
    refine u_one (i := 2) rfl rfl rfl (tame_call rfl ent_42) (by as_aux_lemma => kernel_rfl) rfl ?_
    refine o_callq rfl ent_42 rfl (c_host18 _ _ _ (by decide)) (fun w hw => (rd_cons (rd_Ls 0 rfl hw) rd_nil)) ?_
    refine wl_nil ?_
    refine eu_one (fun w h => h.weak (.cons _ (List.Sublist.refl _)) (fun s hs => hs)) ?_
    refine u_take (i := 4) rfl wanted_none (y_build rfl (bu_88_0_1 _ _ _ _)) (fun w h => h.weak (.cons _ (List.Sublist.refl _)) (fun s hs => hs)) (fun w h => h) rfl (pk_seq pk_fn) (by as_aux_lemma => kernel_rfl) rfl ?_
    refine u_one (i := 5) rfl rfl rfl (fun _ _ _ => tame_op (by as_aux_lemma => kernel_rfl)) (by as_aux_lemma => kernel_rfl) rfl ?_
    refine o_bsl (vs := [_]) (h18b : List (Hd)) enc_hd Try.underlying58 ty_88 rfl rfl rfl rfl rfl rfl (fun As9 => ?_)
    refine wl_nil ?_
    refine eu_one (fun w h => h.weak (.cons _ (.cons _ (List.Sublist.refl _))) (fun s hs => hs)) ?_
    refine u_one (i := 6) rfl rfl rfl (tame_call rfl ent_25) (by as_aux_lemma => kernel_rfl) rfl ?_
    refine o_callr1 rfl ent_25 rfl (c_index_NewH 9 (putAll tl p18) _ _ _ h18b _ (tl18_tb htl) (Nat.le_trans (tl18_len htl) (by decide)) (tl18_ck htl) (by decide) (hb18 h18b (by as_aux_lemma => decide +kernel))) (fun w hw => (rd_cons (rd_Ls 5 rfl hw) (rd_cons (rd_L 7 rfl hw) (rd_cons (rd_Ls 0 rfl hw) rd_nil)))) (fun ⟨oix2, hno2, hyes2⟩ => ?_)
    refine wl_nil ?_
    refine eu_one (fun w h => h.weak (.cons _ (.cons _ (.cons _ (List.Sublist.refl _)))) (fun s hs => hs)) ?_
    refine wu_as (t := 54) (.tuple #[.pointer (ixP oix2), .int .i64 (ixE oix2)]) rfl (ixV_pe oix2) ?_
    obtain rfl := ix_no hyes2 (by rw [tl18_e htl]; decide +kernel)
    refine u_take (i := 7) rfl wanted_none (y_move rfl) (fun w h => h.weak (.cons _ (.cons _ (.cons _ (List.Sublist.refl _)))) (fun s hs => hs)) (fun w h => h) rfl (pk_seq pk_fn) (by as_aux_lemma => kernel_rfl) rfl ?_
    refine u_take (i := 8) rfl wanted_none (y_extract rfl rfl) (fun w h => h.weak (.cons _ (.cons _ (.cons _ (List.Sublist.refl _)))) (fun s hs => hs)) (fun w h => h) rfl (pk_seq pk_fn) (by as_aux_lemma => kernel_rfl) rfl ?_
    refine u_take (i := 9) rfl wanted_none (y_extract rfl rfl) (fun w h => h.weak (.cons _ (.cons _ (.cons _ (List.Sublist.refl _)))) (fun s hs => hs)) (fun w h => h) rfl (pk_seq pk_fn) (by as_aux_lemma => kernel_rfl) rfl ?_
    refine u_take (i := 10) rfl wanted_none (y_assign rfl) (fun w h => h.weak (.cons _ (.cons _ (.cons _ (List.Sublist.refl _)))) (fun s hs => hs)) (fun w h => h) rfl (pk_seq pk_fn) (by as_aux_lemma => kernel_rfl) rfl ?_
    refine u_take (i := 11) rfl wanted_none (y_assign rfl) (fun w h => h.weak (.cons _ (.cons _ (.cons _ (List.Sublist.refl _)))) (fun s hs => hs)) (fun w h => h) rfl (pk_seq pk_fn) (by as_aux_lemma => kernel_rfl) rfl ?_
    refine u_done (by as_aux_lemma => kernel_rfl) ?_
    refine e_seq ?_
    refine w_joinX (σ := Unit) (fun _ => [(7, .int .i64 2)]) (fun _ => []) (fun _ => ?_) (fun J7 => ?_)
    · skip
      refine w_seq ?_
      refine w_region ?_
      refine o_y (y_build rfl (bu_41_0 _)) rfl rfl ?_
      refine o_callq rfl ent_25 rfl (c_index_Newbad (-1) [] none 0 nofun (by decide) (by decide) none 0 0) (fun w hw => (rd_cons (rd_none) (rd_cons (rd_rall nofun) rd_nil))) ?_
      refine o_y (y_move rfl) rfl rfl ?_
      refine o_y (y_extract rfl rfl) rfl rfl ?_
      refine o_y (y_extract rfl rfl) rfl rfl ?_
      refine o_y (y_assign rfl) rfl rfl ?_
      refine o_y (y_assign rfl) rfl rfl ?_
      refine wl_nil ?_
      refine e_seq ?_
      refine w_seq ?_
      refine w_seq ?_
      refine w_region ?_
      refine o_y (y_move rfl) rfl rfl ?_
      refine o_y (y_eqp Try.underlying43 rfl rfl) rfl rfl ?_
      refine wl_as (t := 77) (.bool false) rfl (congrArg Value.bool rfl) ?_
      refine wl_nil ?_
      refine e_seq ?_
      refine w_cond_f rfl ?_
      refine w_skip ?_
      refine e_seq ?_
      refine w_seq ?_
      refine w_region ?_
      refine o_y (y_move rfl) rfl rfl ?_
      refine o_y (y_build rfl (bu_66_2 _)) rfl rfl ?_
      refine o_callq rfl ent_34 rfl (c_Of ix1 ⟨false, 0, 1⟩) (fun w hw => (rd_cons (rd_all (rd_L 3 rfl hw) (.head _)) (rd_cons (rd_all (rd_L 3 rfl hw) (.tail _ (.tail _ (.tail _ (.head _))))) rd_nil))) ?_
      refine o_y (y_move rfl) rfl rfl ?_
      refine o_y (y_extract rfl rfl) rfl rfl ?_
      refine o_y (y_extract rfl rfl) rfl rfl ?_
      refine wl_as (t := 83) (.bool true) rfl (congrArg Value.bool (by rw [am_s hix21, tl18_e htl]; decide +kernel)) ?_
      refine o_alloc ty_50 rfl rfl (fun b11 => ?_)
      refine o_store ty_50 rfl rfl rfl .z rfl rfl rfl rfl ?_
      refine o_y (y_assign rfl) rfl rfl ?_
      refine wl_nil ?_
      refine e_seq ?_
      refine w_seq ?_
      refine w_region ?_
      refine o_y (y_move rfl) rfl rfl ?_
      refine o_y (y_build rfl (bu_66_2 _)) rfl rfl ?_
      refine o_callq rfl ent_34 rfl (c_Of ix1 ⟨false, 0, 2⟩) (fun w hw => (rd_cons (rd_all (rd_L 4 rfl hw) (.head _)) (rd_cons (rd_all (rd_L 4 rfl hw) (.tail _ (.tail _ (.tail _ (.head _))))) rd_nil))) ?_
      refine o_y (y_move rfl) rfl rfl ?_
      refine o_y (y_extract rfl rfl) rfl rfl ?_
      refine o_y (y_extract rfl rfl) rfl rfl ?_
      refine wl_as (t := 89) (.bool false) rfl (congrArg Value.bool (by rw [am_s hix21, tl18_e htl]; decide +kernel)) ?_
      refine o_alloc ty_50 rfl rfl (fun b12 => ?_)
      refine o_store ty_50 rfl rfl rfl .z rfl rfl rfl rfl ?_
      refine o_y (y_assign rfl) rfl rfl ?_
      refine wl_nil ?_
      refine e_seq ?_
      refine w_joinX (σ := {r : Option Le // FE (putAll tl p18) (n18 98) r} × Nat) (fun g => [(14, .pointer (some ⟨g.2, 0, none⟩))]) (fun g => [Ch.row g.2 (elC (g.1.1.getD le0)) 50]) (fun g => ?_) (fun J13 => ?_)
      · skip
        refine w_seq ?_
        obtain ⟨⟨rb, hrb⟩, qb⟩ := g
        refine w_drawU 54 rfl mixed ?_
        refine u_one (i := 0) rfl rfl rfl (tame_call rfl ent_30) (by as_aux_lemma => kernel_rfl) rfl ?_
        refine o_callp rfl ent_30 c_lives18 rfl ?_
        refine wl_nil ?_
        refine eu_one (fun w h => h) ?_
        refine wu_as (t := 97) (.bool true) rfl (congrArg Value.bool rfl) ?_
        refine u_take (i := 1) rfl wanted_none (y_move rfl) (fun w h => h) (fun w h => h) rfl (pk_seq pk_fn) (by as_aux_lemma => kernel_rfl) rfl ?_
        refine u_take (i := 2) rfl (wanted_yes rfl rfl) (y_move rfl) (fun w h => h) (fun w h => h) rfl (pk_seq pk_fn) (by as_aux_lemma => kernel_rfl) rfl ?_
        refine u_take (i := 3) rfl (wanted_yes rfl rfl) (y_eql rfl rfl) (fun w h => h) (fun w h => h) rfl (pk_seq pk_fn) (by as_aux_lemma => kernel_rfl) rfl ?_
        refine wu_at (t := 100) rfl rfl ?_
        refine u_take (i := 4) rfl wanted_none (y_pick_t rfl rfl) (fun w h => h) (fun w h => h) rfl (pk_seq pk_fn) (by as_aux_lemma => kernel_rfl) rfl ?_
        refine u_take (i := 5) rfl wanted_none (y_move rfl) (fun w h => h) (fun w h => h) rfl (pk_seq pk_fn) (by as_aux_lemma => kernel_rfl) rfl ?_
        refine u_take (i := 6) rfl (wanted_yes rfl rfl) (y_move rfl) (fun w h => h) (fun w h => h) rfl (pk_seq pk_fn) (by as_aux_lemma => kernel_rfl) rfl ?_
        refine u_take (i := 7) rfl (wanted_yes rfl rfl) (y_eql rfl rfl) (fun w h => h) (fun w h => h) rfl (pk_seq pk_fn) (by as_aux_lemma => kernel_rfl) rfl ?_
        refine wu_at (t := 104) rfl rfl ?_
        refine u_take (i := 8) rfl wanted_none (y_pick_t rfl rfl) (fun w h => h) (fun w h => h) rfl (pk_seq pk_fn) (by as_aux_lemma => kernel_rfl) rfl ?_
        refine u_take (i := 9) rfl wanted_none (y_move rfl) (fun w h => h) (fun w h => h) rfl (pk_seq pk_fn) (by as_aux_lemma => kernel_rfl) rfl ?_
        refine u_take (i := 10) rfl (wanted_yes rfl rfl) (y_move rfl) (fun w h => h) (fun w h => h) rfl (pk_seq pk_fn) (by as_aux_lemma => kernel_rfl) rfl ?_
        refine u_take (i := 11) rfl (wanted_yes rfl rfl) (y_eql rfl rfl) (fun w h => h) (fun w h => h) rfl (pk_seq pk_fn) (by as_aux_lemma => kernel_rfl) rfl ?_
        refine wu_at (t := 108) rfl rfl ?_
        refine u_take (i := 12) rfl wanted_none (y_pick_t rfl rfl) (fun w h => h) (fun w h => h) rfl (pk_seq pk_fn) (by as_aux_lemma => kernel_rfl) rfl ?_
        refine u_take (i := 13) rfl wanted_none (y_move rfl) (fun w h => h) (fun w h => h) rfl (pk_seq pk_fn) (by as_aux_lemma => kernel_rfl) rfl ?_
        refine u_take (i := 14) rfl (wanted_yes rfl rfl) (y_move rfl) (fun w h => h) (fun w h => h) rfl (pk_seq pk_fn) (by as_aux_lemma => kernel_rfl) rfl ?_
        refine u_take (i := 15) rfl (wanted_yes rfl rfl) (y_eql rfl rfl) (fun w h => h) (fun w h => h) rfl (pk_seq pk_fn) (by as_aux_lemma => kernel_rfl) rfl ?_
        refine wu_at (t := 112) rfl (by decide) ?_
        refine u_take (i := 16) rfl wanted_none (y_pick_t rfl rfl) (fun w h => h) (fun w h => h) rfl (pk_seq pk_fn) (by as_aux_lemma => kernel_rfl) rfl ?_
        refine u_take (i := 17) rfl wanted_none (y_move rfl) (fun w h => h) (fun w h => h) rfl (pk_seq pk_fn) (by as_aux_lemma => kernel_rfl) rfl ?_
        refine u_take (i := 18) rfl (wanted_yes rfl rfl) (y_move rfl) (fun w h => h) (fun w h => h) rfl (pk_seq pk_fn) (by as_aux_lemma => kernel_rfl) rfl ?_
        refine u_take (i := 19) rfl wanted_none (y_pick_t rfl rfl) (fun w h => h) (fun w h => h) rfl (pk_seq pk_fn) (by as_aux_lemma => kernel_rfl) rfl ?_
        refine u_take (i := 20) rfl wanted_none (y_move rfl) (fun w h => h) (fun w h => h) rfl (pk_seq pk_fn) (by as_aux_lemma => kernel_rfl) rfl ?_
        refine u_take (i := 21) rfl (wanted_yes rfl rfl) (y_field fa_50_0 rfl) (fun w h => h) (fun w h => h) rfl (pk_seq pk_fn) (by as_aux_lemma => kernel_rfl) rfl ?_
        refine u_take (i := 22) rfl (wanted_yes rfl rfl) (y_loadr 2 ty_25 rfl rfl rfl) (fun w h => h) (fun w h => h) rfl (pk_seq pk_fn) (by as_aux_lemma => kernel_rfl) rfl ?_
        refine u_one (i := 23) rfl rfl rfl (fun _ _ _ => tame_op (by as_aux_lemma => kernel_rfl)) (by as_aux_lemma => kernel_rfl) rfl ?_
        refine wl_gyes rfl rfl ?_
        refine o_bsl (vs := [_]) ([[97]] : List (Str)) enc_s Try.underlying36 ty_9 rfl rfl rfl rfl rfl rfl (fun As13 => ?_)
        refine wl_nil ?_
        refine eu_one (fun w h => h.weak (.cons _ (List.Sublist.refl _)) (fun s hs => hs)) ?_
        refine u_one (i := 24) rfl rfl rfl (tame_call rfl ent_42) (by as_aux_lemma => kernel_rfl) rfl ?_
        refine wl_gyes rfl rfl ?_
        refine o_callq rfl ent_42 rfl (c_host18 _ _ _ (by decide)) (fun w hw => (rd_cons (rd_Ls 0 rfl hw) rd_nil)) ?_
        refine wl_nil ?_
        refine eu_one (fun w h => h.weak (.cons _ (List.Sublist.refl _)) (fun s hs => hs)) ?_
        refine u_take (i := 25) rfl (wanted_yes rfl rfl) (y_eqls rfl rfl) (fun w h => h.weak (.cons _ (List.Sublist.refl _)) (fun s hs => hs)) (fun w h => h) rfl (pk_seq pk_fn) (by as_aux_lemma => kernel_rfl) rfl ?_
        refine wu_at (t := 122) rfl (by rw [am_e hix21, tl18_e htl]; decide +kernel) ?_
        refine u_take (i := 26) rfl wanted_none (y_pick_t rfl rfl) (fun w h => h.weak (.cons _ (List.Sublist.refl _)) (fun s hs => hs)) (fun w h => h) rfl (pk_seq pk_fn) (by as_aux_lemma => kernel_rfl) rfl ?_
        refine u_take (i := 27) rfl wanted_none (y_move rfl) (fun w h => h.weak (.cons _ (List.Sublist.refl _)) (fun s hs => hs)) (fun w h => h) rfl (pk_seq pk_fn) (by as_aux_lemma => kernel_rfl) rfl ?_
        refine u_take (i := 28) rfl (wanted_yes rfl rfl) (y_move rfl) (fun w h => h.weak (.cons _ (List.Sublist.refl _)) (fun s hs => hs)) (fun w h => h) rfl (pk_seq pk_fn) (by as_aux_lemma => kernel_rfl) rfl ?_
        refine u_take (i := 29) rfl (wanted_yes rfl rfl) (y_not rfl) (fun w h => h.weak (.cons _ (List.Sublist.refl _)) (fun s hs => hs)) (fun w h => h) rfl (pk_seq pk_fn) (by as_aux_lemma => kernel_rfl) rfl ?_
        refine u_take (i := 30) rfl wanted_none (y_pick_t rfl rfl) (fun w h => h.weak (.cons _ (List.Sublist.refl _)) (fun s hs => hs)) (fun w h => h) rfl (pk_seq pk_fn) (by as_aux_lemma => kernel_rfl) rfl ?_
        refine u_take (i := 31) rfl wanted_none (y_move rfl) (fun w h => h.weak (.cons _ (List.Sublist.refl _)) (fun s hs => hs)) (fun w h => h) rfl (pk_seq pk_fn) (by as_aux_lemma => kernel_rfl) rfl ?_
        refine u_take (i := 32) rfl (wanted_yes rfl rfl) (y_move rfl) (fun w h => h.weak (.cons _ (List.Sublist.refl _)) (fun s hs => hs)) (fun w h => h) rfl (pk_seq pk_fn) (by as_aux_lemma => kernel_rfl) rfl ?_
        refine u_many (js := [33, 34]) (by as_aux_lemma => kernel_rfl) rfl ?_
        refine wru_cons (i := 33) rfl rfl rfl (tame_call rfl ent_45) rfl ?_ ?_
        · skip
          refine wl_gyes rfl rfl ?_
          refine o_callr1 rfl ent_45 rfl (c_Lost ix1 (by rw [ix_len hix21.ix]; exact Nat.le_trans (tl18_len htl) (by decide)) (fun y hy => (fi_bnd hix21.ix (tl18_tb htl) (.tail _ hy)).h)) (fun w hw => (rd_cons (rd_all (rd_L 7 rfl hw) (.head _)) (rd_cons (rd_all (rd_L 7 rfl hw) (.tail _ (.tail _ (.head _)))) (rd_cons (rd_all (rd_L 7 rfl hw) (.tail _ (.tail _ (.tail _ (.tail _ (.head _)))))) rd_nil)))) (fun ⟨A13, c13⟩ => ?_)
          refine wl_nil ?_
          refine eu_one (fun w h => h.weak (.cons _ (.cons _ (List.Sublist.refl _))) (fun s hs => hs)) ?_
          refine u_one (i := 34) rfl rfl rfl (fun _ _ _ => tame_op (by as_aux_lemma => kernel_rfl)) (by as_aux_lemma => kernel_rfl) rfl ?_
          refine wl_gyes rfl rfl ?_
          refine o_bsl (vs := [_]) ([[98]] : List (Str)) enc_s Try.underlying36 ty_9 rfl rfl rfl rfl rfl rfl (fun As15 => ?_)
          refine wl_nil ?_
          refine eu_one (fun w h => h.weak (.cons _ (.cons _ (.cons _ (List.Sublist.refl _)))) (fun s hs => hs)) ?_
          refine u_one (i := 35) rfl rfl rfl (tame_call rfl ent_42) (by as_aux_lemma => kernel_rfl) rfl ?_
          refine wl_gyes rfl rfl ?_
          refine o_callq rfl ent_42 rfl (c_host18 _ _ _ (by decide)) (fun w hw => (rd_cons (rd_Ls 0 rfl hw) rd_nil)) ?_
          refine wl_nil ?_
          refine eu_one (fun w h => h.weak (.cons _ (.cons _ (.cons _ (List.Sublist.refl _)))) (fun s hs => hs)) ?_
          refine u_one (i := 36) rfl rfl rfl (fun _ _ _ => tame_op (by as_aux_lemma => kernel_rfl)) (by as_aux_lemma => kernel_rfl) rfl ?_
          refine wl_gyes rfl rfl ?_
          refine o_bsl (vs := [_]) ([n18 98] : List (Str)) enc_s Try.underlying22 ty_25 rfl rfl rfl rfl rfl rfl (fun As16 => ?_)
          refine wl_nil ?_
          refine eu_one (fun w h => h.weak (.cons _ (.cons _ (.cons _ (.cons _ (List.Sublist.refl _))))) (fun s hs => hs)) ?_
          refine u_one (i := 37) rfl rfl rfl (tame_call rfl ent_28) (by as_aux_lemma => kernel_rfl) rfl ?_
          refine wl_gyes rfl rfl ?_
          refine o_callq rfl ent_28 rfl (c_kit_Same_n _ _ _ _ _ _ (by rw [lost_E hix21, tl18_e htl]; decide +kernel)) (fun w hw => (rd_cons (rd_Ls 2 rfl hw) (rd_cons (rd_Ls 0 rfl hw) rd_nil))) ?_
          refine wl_nil ?_
          refine eu_one (fun w h => h.weak (.cons _ (.cons _ (.cons _ (.cons _ (List.Sublist.refl _))))) (fun s hs => hs)) ?_
          refine wu_as (t := 134) (.bool true) rfl (congrArg Value.bool (by rw [lost_E hix21, tl18_e htl]; decide +kernel)) ?_
          refine u_take (i := 38) rfl wanted_none (y_pick_t rfl rfl) (fun w h => h.weak (.cons _ (.cons _ (.cons _ (.cons _ (List.Sublist.refl _))))) (fun s hs => hs)) (fun w h => h) rfl (pk_seq pk_fn) (by as_aux_lemma => kernel_rfl) rfl ?_
          refine u_take (i := 39) rfl wanted_none (y_move rfl) (fun w h => h.weak (.cons _ (.cons _ (.cons _ (.cons _ (List.Sublist.refl _))))) (fun s hs => hs)) (fun w h => h) rfl (pk_seq pk_fn) (by as_aux_lemma => kernel_rfl) rfl ?_
          refine u_take (i := 40) rfl (wanted_yes rfl rfl) (y_move rfl) (fun w h => h.weak (.cons _ (.cons _ (.cons _ (.cons _ (List.Sublist.refl _))))) (fun s hs => hs)) (fun w h => h) rfl (pk_seq pk_fn) (by as_aux_lemma => kernel_rfl) rfl ?_
          refine u_take (i := 41) rfl (wanted_yes rfl rfl) (y_loadrs 2 ty_50 rfl rfl rfl rfl) (fun w h => h.weak (.cons _ (.cons _ (.cons _ (.cons _ (List.Sublist.refl _))))) (fun s hs => hs)) (fun w h => h) rfl (pk_seq pk_fn) (by as_aux_lemma => kernel_rfl) rfl ?_
          refine u_one (i := 42) rfl rfl rfl (tame_call rfl ent_33) (by as_aux_lemma => kernel_rfl) rfl ?_
          refine wl_gyes rfl rfl ?_
          refine o_callr1 rfl ent_33 rfl (c_Addrs ix1 (putAll tl p18) h18a ((lkp ix1.am (⟨false, 0, 1⟩ : Ad)).getD le0) hix21 (tl18_tb htl) (by as_aux_lemma => decide +kernel)) (fun w hw => (rd_cons (rd_all (rd_L 10 rfl hw) (.head _)) (rd_cons (rd_all (rd_L 10 rfl hw) (.tail _ (.head _))) (rd_cons (rd_all (rd_L 10 rfl hw) (.tail _ (.tail _ (.head _)))) (rd_cons (rd_all (rd_L 10 rfl hw) (.tail _ (.tail _ (.tail _ (.head _))))) (rd_cons (rd_sub (rd_L 10 rfl hw) (fun c hc => .tail _ (.tail _ (.tail _ (.tail _ (.tail _ hc)))))) rd_nil)))))) (fun ⟨A16, c16⟩ => ?_)
          refine wl_nil ?_
          refine eu_one (fun w h => h.weak (.cons _ (.cons _ (.cons _ (.cons _ (.cons _ (List.Sublist.refl _)))))) (fun s hs => hs)) ?_
          refine u_take (i := 43) rfl (wanted_yes rfl rfl) (y_lenl Try.underlying46 rfl) (fun w h => h.weak (.cons _ (.cons _ (.cons _ (.cons _ (.cons _ (List.Sublist.refl _)))))) (fun s hs => hs)) (fun w h => h) rfl (pk_seq pk_fn) (by as_aux_lemma => kernel_rfl) rfl ?_
          refine u_take (i := 44) rfl (wanted_yes rfl rfl) (y_eql rfl rfl) (fun w h => h.weak (.cons _ (.cons _ (.cons _ (.cons _ (.cons _ (List.Sublist.refl _)))))) (fun s hs => hs)) (fun w h => h) rfl (pk_seq pk_fn) (by as_aux_lemma => kernel_rfl) rfl ?_
          refine wu_at (t := 141) rfl (by rw [ads_E hix21, am_e hix21, tl18_e htl]; decide +kernel) ?_
          refine u_take (i := 45) rfl wanted_none (y_pick_t rfl rfl) (fun w h => h.weak (.cons _ (.cons _ (.cons _ (.cons _ (.cons _ (List.Sublist.refl _)))))) (fun s hs => hs)) (fun w h => h) rfl (pk_seq pk_fn) (by as_aux_lemma => kernel_rfl) rfl ?_
          refine u_take (i := 46) rfl wanted_none (y_move rfl) (fun w h => h.weak (.cons _ (.cons _ (.cons _ (.cons _ (.cons _ (List.Sublist.refl _)))))) (fun s hs => hs)) (fun w h => h) rfl (pk_seq pk_fn) (by as_aux_lemma => kernel_rfl) rfl ?_
          refine u_take (i := 47) rfl (wanted_yes rfl rfl) (y_move rfl) (fun w h => h.weak (.cons _ (.cons _ (.cons _ (.cons _ (.cons _ (List.Sublist.refl _)))))) (fun s hs => hs)) (fun w h => h) rfl (pk_seq pk_fn) (by as_aux_lemma => kernel_rfl) rfl ?_
          refine u_take (i := 48) rfl (wanted_yes rfl rfl) (y_loadrs 0 ty_50 rfl rfl rfl rfl) (fun w h => h.weak (.cons _ (.cons _ (.cons _ (.cons _ (.cons _ (List.Sublist.refl _)))))) (fun s hs => hs)) (fun w h => h) rfl (pk_seq pk_fn) (by as_aux_lemma => kernel_rfl) rfl ?_
          refine u_one (i := 49) rfl rfl rfl (tame_call rfl ent_33) (by as_aux_lemma => kernel_rfl) rfl ?_
          refine wl_gyes rfl rfl ?_
          refine o_callr1 rfl ent_33 rfl (c_Addrs ix1 (putAll tl p18) h18a (rb.getD le0) hix21 (tl18_tb htl) (by as_aux_lemma => decide +kernel)) (fun w hw => (rd_cons (rd_all (rd_L 11 rfl hw) (.head _)) (rd_cons (rd_all (rd_L 11 rfl hw) (.tail _ (.head _))) (rd_cons (rd_all (rd_L 11 rfl hw) (.tail _ (.tail _ (.head _)))) (rd_cons (rd_all (rd_L 11 rfl hw) (.tail _ (.tail _ (.tail _ (.head _))))) (rd_cons (rd_sub (rd_L 11 rfl hw) (fun c hc => .tail _ (.tail _ (.tail _ (.tail _ (.tail _ hc)))))) rd_nil)))))) (fun ⟨A17, c17⟩ => ?_)
          refine wl_nil ?_
          refine eu_one (fun w h => h.weak (.cons _ (.cons _ (.cons _ (.cons _ (.cons _ (.cons _ (List.Sublist.refl _))))))) (fun s hs => hs)) ?_
          refine u_take (i := 50) rfl (wanted_yes rfl rfl) (y_lenl Try.underlying46 rfl) (fun w h => h.weak (.cons _ (.cons _ (.cons _ (.cons _ (.cons _ (.cons _ (List.Sublist.refl _))))))) (fun s hs => hs)) (fun w h => h) rfl (pk_seq pk_fn) (by as_aux_lemma => kernel_rfl) rfl ?_
          refine u_take (i := 51) rfl (wanted_yes rfl rfl) (y_eql rfl rfl) (fun w h => h.weak (.cons _ (.cons _ (.cons _ (.cons _ (.cons _ (.cons _ (List.Sublist.refl _))))))) (fun s hs => hs)) (fun w h => h) rfl (pk_seq pk_fn) (by as_aux_lemma => kernel_rfl) rfl ?_
          refine wu_at (t := 148) rfl (by rw [ads_E hix21, fe_e hrb, tl18_e htl]; decide +kernel) ?_
          refine u_take (i := 52) rfl wanted_none (y_pick_t rfl rfl) (fun w h => h.weak (.cons _ (.cons _ (.cons _ (.cons _ (.cons _ (.cons _ (List.Sublist.refl _))))))) (fun s hs => hs)) (fun w h => h) rfl (pk_seq pk_fn) (by as_aux_lemma => kernel_rfl) rfl ?_
          refine u_take (i := 53) rfl wanted_none (y_assign rfl) (fun w h => h.weak (.cons _ (.cons _ (.cons _ (.cons _ (.cons _ (.cons _ (List.Sublist.refl _))))))) (fun s hs => hs)) (fun w h => h) rfl (pk_seq pk_fn) (by as_aux_lemma => kernel_rfl) rfl ?_
          refine u_done (by as_aux_lemma => kernel_rfl) ?_
          refine e_seq ?_
          refine w_ret ?_
          refine e_ret (ts := [0]) rfl rfl rfl (fun w hw => ?_)
          exact ⟨rfl, hw.base⟩
        refine wru_cons (i := 34) rfl rfl rfl (fun _ _ _ => tame_op (by as_aux_lemma => kernel_rfl)) rfl ?_ ?_
        · skip
          refine wl_gyes rfl rfl ?_
          refine o_bsl (vs := [_]) ([[98]] : List (Str)) enc_s Try.underlying36 ty_9 rfl rfl rfl rfl rfl rfl (fun As19 => ?_)
          refine wl_nil ?_
          refine eu_one (fun w h => h.weak (.cons _ (.cons _ (List.Sublist.refl _))) (fun s hs => hs)) ?_
          refine u_one (i := 33) rfl rfl rfl (tame_call rfl ent_45) (by as_aux_lemma => kernel_rfl) rfl ?_
          refine wl_gyes rfl rfl ?_
          refine o_callr1 rfl ent_45 rfl (c_Lost ix1 (by rw [ix_len hix21.ix]; exact Nat.le_trans (tl18_len htl) (by decide)) (fun y hy => (fi_bnd hix21.ix (tl18_tb htl) (.tail _ hy)).h)) (fun w hw => (rd_cons (rd_all (rd_L 8 rfl hw) (.head _)) (rd_cons (rd_all (rd_L 8 rfl hw) (.tail _ (.tail _ (.head _)))) (rd_cons (rd_all (rd_L 8 rfl hw) (.tail _ (.tail _ (.tail _ (.tail _ (.head _)))))) rd_nil)))) (fun ⟨A19, c19⟩ => ?_)
          refine wl_nil ?_
          refine eu_one (fun w h => h.weak (.cons _ (.cons _ (.cons _ (List.Sublist.refl _)))) (fun s hs => hs)) ?_
          refine u_one (i := 35) rfl rfl rfl (tame_call rfl ent_42) (by as_aux_lemma => kernel_rfl) rfl ?_
          refine wl_gyes rfl rfl ?_
          refine o_callq rfl ent_42 rfl (c_host18 _ _ _ (by decide)) (fun w hw => (rd_cons (rd_Ls 1 rfl hw) rd_nil)) ?_
          refine wl_nil ?_
          refine eu_one (fun w h => h.weak (.cons _ (.cons _ (.cons _ (List.Sublist.refl _)))) (fun s hs => hs)) ?_
          refine u_one (i := 36) rfl rfl rfl (fun _ _ _ => tame_op (by as_aux_lemma => kernel_rfl)) (by as_aux_lemma => kernel_rfl) rfl ?_
          refine wl_gyes rfl rfl ?_
          refine o_bsl (vs := [_]) ([n18 98] : List (Str)) enc_s Try.underlying22 ty_25 rfl rfl rfl rfl rfl rfl (fun As21 => ?_)
          refine wl_nil ?_
          refine eu_one (fun w h => h.weak (.cons _ (.cons _ (.cons _ (.cons _ (List.Sublist.refl _))))) (fun s hs => hs)) ?_
          refine u_one (i := 37) rfl rfl rfl (tame_call rfl ent_28) (by as_aux_lemma => kernel_rfl) rfl ?_
          refine wl_gyes rfl rfl ?_
          refine o_callq rfl ent_28 rfl (c_kit_Same_n _ _ _ _ _ _ (by rw [lost_E hix21, tl18_e htl]; decide +kernel)) (fun w hw => (rd_cons (rd_Ls 1 rfl hw) (rd_cons (rd_Ls 0 rfl hw) rd_nil))) ?_
          refine wl_nil ?_
          refine eu_one (fun w h => h.weak (.cons _ (.cons _ (.cons _ (.cons _ (List.Sublist.refl _))))) (fun s hs => hs)) ?_
          refine wu_as (t := 134) (.bool true) rfl (congrArg Value.bool (by rw [lost_E hix21, tl18_e htl]; decide +kernel)) ?_
          refine u_take (i := 38) rfl wanted_none (y_pick_t rfl rfl) (fun w h => h.weak (.cons _ (.cons _ (.cons _ (.cons _ (List.Sublist.refl _))))) (fun s hs => hs)) (fun w h => h) rfl (pk_seq pk_fn) (by as_aux_lemma => kernel_rfl) rfl ?_
          refine u_take (i := 39) rfl wanted_none (y_move rfl) (fun w h => h.weak (.cons _ (.cons _ (.cons _ (.cons _ (List.Sublist.refl _))))) (fun s hs => hs)) (fun w h => h) rfl (pk_seq pk_fn) (by as_aux_lemma => kernel_rfl) rfl ?_
          refine u_take (i := 40) rfl (wanted_yes rfl rfl) (y_move rfl) (fun w h => h.weak (.cons _ (.cons _ (.cons _ (.cons _ (List.Sublist.refl _))))) (fun s hs => hs)) (fun w h => h) rfl (pk_seq pk_fn) (by as_aux_lemma => kernel_rfl) rfl ?_
          refine u_take (i := 41) rfl (wanted_yes rfl rfl) (y_loadrs 2 ty_50 rfl rfl rfl rfl) (fun w h => h.weak (.cons _ (.cons _ (.cons _ (.cons _ (List.Sublist.refl _))))) (fun s hs => hs)) (fun w h => h) rfl (pk_seq pk_fn) (by as_aux_lemma => kernel_rfl) rfl ?_
          refine u_one (i := 42) rfl rfl rfl (tame_call rfl ent_33) (by as_aux_lemma => kernel_rfl) rfl ?_
          refine wl_gyes rfl rfl ?_
          refine o_callr1 rfl ent_33 rfl (c_Addrs ix1 (putAll tl p18) h18a ((lkp ix1.am (⟨false, 0, 1⟩ : Ad)).getD le0) hix21 (tl18_tb htl) (by as_aux_lemma => decide +kernel)) (fun w hw => (rd_cons (rd_all (rd_L 10 rfl hw) (.head _)) (rd_cons (rd_all (rd_L 10 rfl hw) (.tail _ (.head _))) (rd_cons (rd_all (rd_L 10 rfl hw) (.tail _ (.tail _ (.head _)))) (rd_cons (rd_all (rd_L 10 rfl hw) (.tail _ (.tail _ (.tail _ (.head _))))) (rd_cons (rd_sub (rd_L 10 rfl hw) (fun c hc => .tail _ (.tail _ (.tail _ (.tail _ (.tail _ hc)))))) rd_nil)))))) (fun ⟨A21, c21⟩ => ?_)
          refine wl_nil ?_
          refine eu_one (fun w h => h.weak (.cons _ (.cons _ (.cons _ (.cons _ (.cons _ (List.Sublist.refl _)))))) (fun s hs => hs)) ?_
          refine u_take (i := 43) rfl (wanted_yes rfl rfl) (y_lenl Try.underlying46 rfl) (fun w h => h.weak (.cons _ (.cons _ (.cons _ (.cons _ (.cons _ (List.Sublist.refl _)))))) (fun s hs => hs)) (fun w h => h) rfl (pk_seq pk_fn) (by as_aux_lemma => kernel_rfl) rfl ?_
          refine u_take (i := 44) rfl (wanted_yes rfl rfl) (y_eql rfl rfl) (fun w h => h.weak (.cons _ (.cons _ (.cons _ (.cons _ (.cons _ (List.Sublist.refl _)))))) (fun s hs => hs)) (fun w h => h) rfl (pk_seq pk_fn) (by as_aux_lemma => kernel_rfl) rfl ?_
          refine wu_at (t := 141) rfl (by rw [ads_E hix21, am_e hix21, tl18_e htl]; decide +kernel) ?_
          refine u_take (i := 45) rfl wanted_none (y_pick_t rfl rfl) (fun w h => h.weak (.cons _ (.cons _ (.cons _ (.cons _ (.cons _ (List.Sublist.refl _)))))) (fun s hs => hs)) (fun w h => h) rfl (pk_seq pk_fn) (by as_aux_lemma => kernel_rfl) rfl ?_
          refine u_take (i := 46) rfl wanted_none (y_move rfl) (fun w h => h.weak (.cons _ (.cons _ (.cons _ (.cons _ (.cons _ (List.Sublist.refl _)))))) (fun s hs => hs)) (fun w h => h) rfl (pk_seq pk_fn) (by as_aux_lemma => kernel_rfl) rfl ?_
          refine u_take (i := 47) rfl (wanted_yes rfl rfl) (y_move rfl) (fun w h => h.weak (.cons _ (.cons _ (.cons _ (.cons _ (.cons _ (List.Sublist.refl _)))))) (fun s hs => hs)) (fun w h => h) rfl (pk_seq pk_fn) (by as_aux_lemma => kernel_rfl) rfl ?_
          refine u_take (i := 48) rfl (wanted_yes rfl rfl) (y_loadrs 0 ty_50 rfl rfl rfl rfl) (fun w h => h.weak (.cons _ (.cons _ (.cons _ (.cons _ (.cons _ (List.Sublist.refl _)))))) (fun s hs => hs)) (fun w h => h) rfl (pk_seq pk_fn) (by as_aux_lemma => kernel_rfl) rfl ?_
          refine u_one (i := 49) rfl rfl rfl (tame_call rfl ent_33) (by as_aux_lemma => kernel_rfl) rfl ?_
          refine wl_gyes rfl rfl ?_
          refine o_callr1 rfl ent_33 rfl (c_Addrs ix1 (putAll tl p18) h18a (rb.getD le0) hix21 (tl18_tb htl) (by as_aux_lemma => decide +kernel)) (fun w hw => (rd_cons (rd_all (rd_L 11 rfl hw) (.head _)) (rd_cons (rd_all (rd_L 11 rfl hw) (.tail _ (.head _))) (rd_cons (rd_all (rd_L 11 rfl hw) (.tail _ (.tail _ (.head _)))) (rd_cons (rd_all (rd_L 11 rfl hw) (.tail _ (.tail _ (.tail _ (.head _))))) (rd_cons (rd_sub (rd_L 11 rfl hw) (fun c hc => .tail _ (.tail _ (.tail _ (.tail _ (.tail _ hc)))))) rd_nil)))))) (fun ⟨A22, c22⟩ => ?_)
          refine wl_nil ?_
          refine eu_one (fun w h => h.weak (.cons _ (.cons _ (.cons _ (.cons _ (.cons _ (.cons _ (List.Sublist.refl _))))))) (fun s hs => hs)) ?_
          refine u_take (i := 50) rfl (wanted_yes rfl rfl) (y_lenl Try.underlying46 rfl) (fun w h => h.weak (.cons _ (.cons _ (.cons _ (.cons _ (.cons _ (.cons _ (List.Sublist.refl _))))))) (fun s hs => hs)) (fun w h => h) rfl (pk_seq pk_fn) (by as_aux_lemma => kernel_rfl) rfl ?_
          refine u_take (i := 51) rfl (wanted_yes rfl rfl) (y_eql rfl rfl) (fun w h => h.weak (.cons _ (.cons _ (.cons _ (.cons _ (.cons _ (.cons _ (List.Sublist.refl _))))))) (fun s hs => hs)) (fun w h => h) rfl (pk_seq pk_fn) (by as_aux_lemma => kernel_rfl) rfl ?_
          refine wu_at (t := 148) rfl (by rw [ads_E hix21, fe_e hrb, tl18_e htl]; decide +kernel) ?_
          refine u_take (i := 52) rfl wanted_none (y_pick_t rfl rfl) (fun w h => h.weak (.cons _ (.cons _ (.cons _ (.cons _ (.cons _ (.cons _ (List.Sublist.refl _))))))) (fun s hs => hs)) (fun w h => h) rfl (pk_seq pk_fn) (by as_aux_lemma => kernel_rfl) rfl ?_
          refine u_take (i := 53) rfl wanted_none (y_assign rfl) (fun w h => h.weak (.cons _ (.cons _ (.cons _ (.cons _ (.cons _ (.cons _ (List.Sublist.refl _))))))) (fun s hs => hs)) (fun w h => h) rfl (pk_seq pk_fn) (by as_aux_lemma => kernel_rfl) rfl ?_
          refine u_done (by as_aux_lemma => kernel_rfl) ?_
          refine e_seq ?_
          refine w_ret ?_
          refine e_ret (ts := [0]) rfl rfl rfl (fun w hw => ?_)
          exact ⟨rfl, hw.base⟩
        exact wru_nil
      · skip
        refine w_seq ?_
        refine w_drawU 8 rfl mixed ?_
        refine u_take (i := 0) rfl wanted_none (y_loadrs 9 ty_41 rfl rfl rfl rfl) (fun w h => h) (fun w h => h) rfl (pk_seq pk_fn) (by as_aux_lemma => kernel_rfl) rfl ?_
        refine u_many (js := [1, 7]) (by as_aux_lemma => kernel_rfl) rfl ?_
        refine wru_cons (i := 1) rfl rfl rfl (fun _ _ _ => tame_op (by as_aux_lemma => kernel_rfl)) rfl ?_ ?_
        · skip
          refine o_bsl (vs := [_]) ([[98]] : List (Str)) enc_s Try.underlying36 ty_9 rfl rfl rfl rfl rfl rfl (fun As24 => ?_)
          refine wl_nil ?_
          refine eu_one (fun w h => h.weak (.cons _ (List.Sublist.refl _)) (fun s hs => hs)) ?_
          refine u_many (js := [2, 7]) (by as_aux_lemma => kernel_rfl) rfl ?_
          refine wru_cons (i := 2) rfl rfl rfl (tame_call rfl ent_42) rfl ?_ ?_
          · skip
            refine o_callq rfl ent_42 rfl (c_host18 _ _ _ (by decide)) (fun w hw => (rd_cons (rd_Ls 0 rfl hw) rd_nil)) ?_
            refine wl_nil ?_
            refine eu_one (fun w h => h.weak (.cons _ (List.Sublist.refl _)) (fun s hs => hs)) ?_
            refine u_many (js := [3, 7]) (by as_aux_lemma => kernel_rfl) rfl ?_
            refine wru_cons (i := 3) rfl rfl rfl (tame_call rfl ent_44) rfl ?_ ?_
            · skip
              refine o_callr0 rfl ent_44 rfl (c_ref17_Find 9 (putAll tl p18) _ _ (n18 98) (tl18_tb htl) (Nat.le_trans (tl18_len htl) (by decide)) (by as_aux_lemma => decide +kernel) (tl18_ck htl)) (fun w hw => (rd_cons (rd_Ls 9 rfl hw) (rd_cons (rd_L 11 rfl hw) rd_nil))) (fun ⟨rb, hrb⟩ => ?_)
              refine wl_nil ?_
              refine eu_one (fun w h => h.weak (.cons _ (List.Sublist.refl _)) (fun s hs => hs)) ?_
              refine u_take (i := 4) rfl wanted_none (y_move rfl) (fun w h => h.weak (.cons _ (List.Sublist.refl _)) (fun s hs => hs)) (fun w h => h) rfl (pk_seq pk_fn) (by as_aux_lemma => kernel_rfl) rfl ?_
              refine u_take (i := 5) rfl wanted_none (y_extract rfl rfl) (fun w h => h.weak (.cons _ (List.Sublist.refl _)) (fun s hs => hs)) (fun w h => h) rfl (pk_seq pk_fn) (by as_aux_lemma => kernel_rfl) rfl ?_
              refine u_many (js := [6, 7]) (by as_aux_lemma => kernel_rfl) rfl ?_
              refine wru_cons (i := 6) rfl rfl rfl (fun _ _ _ => tame_op (by as_aux_lemma => kernel_rfl)) rfl ?_ ?_
              · skip
                refine o_y (y_extract rfl rfl) rfl rfl ?_
                refine wl_nil ?_
                refine eu_one (fun w h => h.weak (.cons _ (List.Sublist.refl _)) (fun s hs => hs)) ?_
                refine u_one (i := 7) rfl rfl rfl (fun _ _ _ => tame_op (by as_aux_lemma => kernel_rfl)) (by as_aux_lemma => kernel_rfl) rfl ?_
                refine o_alloc ty_50 rfl rfl (fun b26 => ?_)
                refine wl_nil ?_
                refine eu_one (fun w h => h.weak (.cons _ (.cons _ (List.Sublist.refl _))) (fun s hs => hs)) ?_
                refine u_one (i := 8) rfl rfl rfl (fun _ _ _ => tame_op (by as_aux_lemma => kernel_rfl)) (by as_aux_lemma => kernel_rfl) rfl ?_
                refine o_store ty_50 rfl rfl rfl .z rfl rfl rfl rfl ?_
                refine wl_nil ?_
                refine eu_tail rfl ?_
                refine u_one (i := 9) rfl rfl rfl (fun _ _ _ => tame_op (by as_aux_lemma => kernel_rfl)) (by as_aux_lemma => kernel_rfl) rfl ?_
                refine o_y (y_assign rfl) rfl rfl ?_
                refine wl_nil ?_
                refine eu_tail rfl ?_
                refine u_done (by as_aux_lemma => kernel_rfl) ?_
                refine e_seq ?_
                refine w_heap (fun w h => h.weak (.cons_cons _ (.cons _ (List.Sublist.refl _))) (fun s hs => hs)) ?_
                exact J13 (⟨rb, hrb⟩, b26) _ (by repeat (first | exact trivial | refine ⟨rfl, ?_⟩))
              refine wru_cons (i := 7) rfl rfl rfl (fun _ _ _ => tame_op (by as_aux_lemma => kernel_rfl)) rfl ?_ ?_
              · skip
                refine o_alloc ty_50 rfl rfl (fun b27 => ?_)
                refine wl_nil ?_
                refine eu_one (fun w h => h.weak (.cons _ (.cons _ (List.Sublist.refl _))) (fun s hs => hs)) ?_
                refine u_many (js := [6, 8]) (by as_aux_lemma => kernel_rfl) rfl ?_
                refine wru_cons (i := 6) rfl rfl rfl (fun _ _ _ => tame_op (by as_aux_lemma => kernel_rfl)) rfl ?_ ?_
                · skip
                  refine o_y (y_extract rfl rfl) rfl rfl ?_
                  refine wl_nil ?_
                  refine eu_one (fun w h => h.weak (.cons _ (.cons _ (List.Sublist.refl _))) (fun s hs => hs)) ?_
                  refine u_one (i := 8) rfl rfl rfl (fun _ _ _ => tame_op (by as_aux_lemma => kernel_rfl)) (by as_aux_lemma => kernel_rfl) rfl ?_
                  refine o_store ty_50 rfl rfl rfl .z rfl rfl rfl rfl ?_
                  refine wl_nil ?_
                  refine eu_tail rfl ?_
                  refine u_one (i := 9) rfl rfl rfl (fun _ _ _ => tame_op (by as_aux_lemma => kernel_rfl)) (by as_aux_lemma => kernel_rfl) rfl ?_
                  refine o_y (y_assign rfl) rfl rfl ?_
                  refine wl_nil ?_
                  refine eu_tail rfl ?_
                  refine u_done (by as_aux_lemma => kernel_rfl) ?_
                  refine e_seq ?_
                  refine w_heap (fun w h => h.weak (.cons_cons _ (.cons _ (List.Sublist.refl _))) (fun s hs => hs)) ?_
                  exact J13 (⟨rb, hrb⟩, b27) _ (by repeat (first | exact trivial | refine ⟨rfl, ?_⟩))
                refine wru_cons (i := 8) rfl rfl rfl (fun _ _ _ => tame_op (by as_aux_lemma => kernel_rfl)) rfl ?_ ?_
                · skip
                  refine o_store ty_50 rfl rfl rfl .z rfl rfl rfl rfl ?_
                  refine wl_nil ?_
                  refine eu_tail rfl ?_
                  refine u_one (i := 6) rfl rfl rfl (fun _ _ _ => tame_op (by as_aux_lemma => kernel_rfl)) (by as_aux_lemma => kernel_rfl) rfl ?_
                  refine o_y (y_extract rfl rfl) rfl rfl ?_
                  refine wl_nil ?_
                  refine eu_tail rfl ?_
                  refine u_one (i := 9) rfl rfl rfl (fun _ _ _ => tame_op (by as_aux_lemma => kernel_rfl)) (by as_aux_lemma => kernel_rfl) rfl ?_
                  refine o_y (y_assign rfl) rfl rfl ?_
                  refine wl_nil ?_
                  refine eu_tail rfl ?_
                  refine u_done (by as_aux_lemma => kernel_rfl) ?_
                  refine e_seq ?_
                  refine w_heap (fun w h => h.weak (.cons_cons _ (.cons _ (List.Sublist.refl _))) (fun s hs => hs)) ?_
                  exact J13 (⟨rb, hrb⟩, b27) _ (by repeat (first | exact trivial | refine ⟨rfl, ?_⟩))
                exact wru_nil
              exact wru_nil
            refine wru_cons (i := 7) rfl rfl rfl (fun _ _ _ => tame_op (by as_aux_lemma => kernel_rfl)) rfl ?_ ?_
            · skip
              refine o_alloc ty_50 rfl rfl (fun b28 => ?_)
              refine wl_nil ?_
              refine eu_one (fun w h => h.weak (.cons _ (.cons _ (List.Sublist.refl _))) (fun s hs => hs)) ?_
              refine u_one (i := 3) rfl rfl rfl (tame_call rfl ent_44) (by as_aux_lemma => kernel_rfl) rfl ?_
              refine o_callr0 rfl ent_44 rfl (c_ref17_Find 9 (putAll tl p18) _ _ (n18 98) (tl18_tb htl) (Nat.le_trans (tl18_len htl) (by decide)) (by as_aux_lemma => decide +kernel) (tl18_ck htl)) (fun w hw => (rd_cons (rd_Ls 10 rfl hw) (rd_cons (rd_L 12 rfl hw) rd_nil))) (fun ⟨rb, hrb⟩ => ?_)
              refine wl_nil ?_
              refine eu_one (fun w h => h.weak (.cons _ (.cons _ (List.Sublist.refl _))) (fun s hs => hs)) ?_
              refine u_take (i := 4) rfl wanted_none (y_move rfl) (fun w h => h.weak (.cons _ (.cons _ (List.Sublist.refl _))) (fun s hs => hs)) (fun w h => h) rfl (pk_seq pk_fn) (by as_aux_lemma => kernel_rfl) rfl ?_
              refine u_take (i := 5) rfl wanted_none (y_extract rfl rfl) (fun w h => h.weak (.cons _ (.cons _ (List.Sublist.refl _))) (fun s hs => hs)) (fun w h => h) rfl (pk_seq pk_fn) (by as_aux_lemma => kernel_rfl) rfl ?_
              refine u_many (js := [6, 8]) (by as_aux_lemma => kernel_rfl) rfl ?_
              refine wru_cons (i := 6) rfl rfl rfl (fun _ _ _ => tame_op (by as_aux_lemma => kernel_rfl)) rfl ?_ ?_
              · skip
                refine o_y (y_extract rfl rfl) rfl rfl ?_
                refine wl_nil ?_
                refine eu_one (fun w h => h.weak (.cons _ (.cons _ (List.Sublist.refl _))) (fun s hs => hs)) ?_
                refine u_one (i := 8) rfl rfl rfl (fun _ _ _ => tame_op (by as_aux_lemma => kernel_rfl)) (by as_aux_lemma => kernel_rfl) rfl ?_
                refine o_store ty_50 rfl rfl rfl .z rfl rfl rfl rfl ?_
                refine wl_nil ?_
                refine eu_tail rfl ?_
                refine u_one (i := 9) rfl rfl rfl (fun _ _ _ => tame_op (by as_aux_lemma => kernel_rfl)) (by as_aux_lemma => kernel_rfl) rfl ?_
                refine o_y (y_assign rfl) rfl rfl ?_
                refine wl_nil ?_
                refine eu_tail rfl ?_
                refine u_done (by as_aux_lemma => kernel_rfl) ?_
                refine e_seq ?_
                refine w_heap (fun w h => h.weak (.cons_cons _ (.cons _ (List.Sublist.refl _))) (fun s hs => hs)) ?_
                exact J13 (⟨rb, hrb⟩, b28) _ (by repeat (first | exact trivial | refine ⟨rfl, ?_⟩))
              refine wru_cons (i := 8) rfl rfl rfl (fun _ _ _ => tame_op (by as_aux_lemma => kernel_rfl)) rfl ?_ ?_
              · skip
                refine o_store ty_50 rfl rfl rfl .z rfl rfl rfl rfl ?_
                refine wl_nil ?_
                refine eu_tail rfl ?_
                refine u_one (i := 6) rfl rfl rfl (fun _ _ _ => tame_op (by as_aux_lemma => kernel_rfl)) (by as_aux_lemma => kernel_rfl) rfl ?_
                refine o_y (y_extract rfl rfl) rfl rfl ?_
                refine wl_nil ?_
                refine eu_tail rfl ?_
                refine u_one (i := 9) rfl rfl rfl (fun _ _ _ => tame_op (by as_aux_lemma => kernel_rfl)) (by as_aux_lemma => kernel_rfl) rfl ?_
                refine o_y (y_assign rfl) rfl rfl ?_
                refine wl_nil ?_
                refine eu_tail rfl ?_
                refine u_done (by as_aux_lemma => kernel_rfl) ?_
                refine e_seq ?_
                refine w_heap (fun w h => h.weak (.cons_cons _ (.cons _ (List.Sublist.refl _))) (fun s hs => hs)) ?_
                exact J13 (⟨rb, hrb⟩, b28) _ (by repeat (first | exact trivial | refine ⟨rfl, ?_⟩))
              exact wru_nil
            exact wru_nil
          refine wru_cons (i := 7) rfl rfl rfl (fun _ _ _ => tame_op (by as_aux_lemma => kernel_rfl)) rfl ?_ ?_
          · skip
            refine o_alloc ty_50 rfl rfl (fun b30 => ?_)
            refine wl_nil ?_
            refine eu_one (fun w h => h.weak (.cons _ (.cons _ (List.Sublist.refl _))) (fun s hs => hs)) ?_
            refine u_one (i := 2) rfl rfl rfl (tame_call rfl ent_42) (by as_aux_lemma => kernel_rfl) rfl ?_
            refine o_callq rfl ent_42 rfl (c_host18 _ _ _ (by decide)) (fun w hw => (rd_cons (rd_Ls 1 rfl hw) rd_nil)) ?_
            refine wl_nil ?_
            refine eu_one (fun w h => h.weak (.cons _ (.cons _ (List.Sublist.refl _))) (fun s hs => hs)) ?_
            refine u_one (i := 3) rfl rfl rfl (tame_call rfl ent_44) (by as_aux_lemma => kernel_rfl) rfl ?_
            refine o_callr0 rfl ent_44 rfl (c_ref17_Find 9 (putAll tl p18) _ _ (n18 98) (tl18_tb htl) (Nat.le_trans (tl18_len htl) (by decide)) (by as_aux_lemma => decide +kernel) (tl18_ck htl)) (fun w hw => (rd_cons (rd_Ls 10 rfl hw) (rd_cons (rd_L 12 rfl hw) rd_nil))) (fun ⟨rb, hrb⟩ => ?_)
            refine wl_nil ?_
            refine eu_one (fun w h => h.weak (.cons _ (.cons _ (List.Sublist.refl _))) (fun s hs => hs)) ?_
            refine u_take (i := 4) rfl wanted_none (y_move rfl) (fun w h => h.weak (.cons _ (.cons _ (List.Sublist.refl _))) (fun s hs => hs)) (fun w h => h) rfl (pk_seq pk_fn) (by as_aux_lemma => kernel_rfl) rfl ?_
            refine u_take (i := 5) rfl wanted_none (y_extract rfl rfl) (fun w h => h.weak (.cons _ (.cons _ (List.Sublist.refl _))) (fun s hs => hs)) (fun w h => h) rfl (pk_seq pk_fn) (by as_aux_lemma => kernel_rfl) rfl ?_
            refine u_many (js := [6, 8]) (by as_aux_lemma => kernel_rfl) rfl ?_
            refine wru_cons (i := 6) rfl rfl rfl (fun _ _ _ => tame_op (by as_aux_lemma => kernel_rfl)) rfl ?_ ?_
            · skip
              refine o_y (y_extract rfl rfl) rfl rfl ?_
              refine wl_nil ?_
              refine eu_one (fun w h => h.weak (.cons _ (.cons _ (List.Sublist.refl _))) (fun s hs => hs)) ?_
              refine u_one (i := 8) rfl rfl rfl (fun _ _ _ => tame_op (by as_aux_lemma => kernel_rfl)) (by as_aux_lemma => kernel_rfl) rfl ?_
              refine o_store ty_50 rfl rfl rfl .z rfl rfl rfl rfl ?_
              refine wl_nil ?_
              refine eu_tail rfl ?_
              refine u_one (i := 9) rfl rfl rfl (fun _ _ _ => tame_op (by as_aux_lemma => kernel_rfl)) (by as_aux_lemma => kernel_rfl) rfl ?_
              refine o_y (y_assign rfl) rfl rfl ?_
              refine wl_nil ?_
              refine eu_tail rfl ?_
              refine u_done (by as_aux_lemma => kernel_rfl) ?_
              refine e_seq ?_
              refine w_heap (fun w h => h.weak (.cons_cons _ (.cons _ (List.Sublist.refl _))) (fun s hs => hs)) ?_
              exact J13 (⟨rb, hrb⟩, b30) _ (by repeat (first | exact trivial | refine ⟨rfl, ?_⟩))
            refine wru_cons (i := 8) rfl rfl rfl (fun _ _ _ => tame_op (by as_aux_lemma => kernel_rfl)) rfl ?_ ?_
            · skip
              refine o_store ty_50 rfl rfl rfl .z rfl rfl rfl rfl ?_
              refine wl_nil ?_
              refine eu_tail rfl ?_
              refine u_one (i := 6) rfl rfl rfl (fun _ _ _ => tame_op (by as_aux_lemma => kernel_rfl)) (by as_aux_lemma => kernel_rfl) rfl ?_
              refine o_y (y_extract rfl rfl) rfl rfl ?_
              refine wl_nil ?_
              refine eu_tail rfl ?_
              refine u_one (i := 9) rfl rfl rfl (fun _ _ _ => tame_op (by as_aux_lemma => kernel_rfl)) (by as_aux_lemma => kernel_rfl) rfl ?_
              refine o_y (y_assign rfl) rfl rfl ?_
              refine wl_nil ?_
              refine eu_tail rfl ?_
              refine u_done (by as_aux_lemma => kernel_rfl) ?_
              refine e_seq ?_
              refine w_heap (fun w h => h.weak (.cons_cons _ (.cons _ (List.Sublist.refl _))) (fun s hs => hs)) ?_
              exact J13 (⟨rb, hrb⟩, b30) _ (by repeat (first | exact trivial | refine ⟨rfl, ?_⟩))
            exact wru_nil
          exact wru_nil
        refine wru_cons (i := 7) rfl rfl rfl (fun _ _ _ => tame_op (by as_aux_lemma => kernel_rfl)) rfl ?_ ?_
        · skip
          refine o_alloc ty_50 rfl rfl (fun b32 => ?_)
          refine wl_nil ?_
          refine eu_one (fun w h => h.weak (.cons _ (List.Sublist.refl _)) (fun s hs => hs)) ?_
          refine u_one (i := 1) rfl rfl rfl (fun _ _ _ => tame_op (by as_aux_lemma => kernel_rfl)) (by as_aux_lemma => kernel_rfl) rfl ?_
          refine o_bsl (vs := [_]) ([[98]] : List (Str)) enc_s Try.underlying36 ty_9 rfl rfl rfl rfl rfl rfl (fun As33 => ?_)
          refine wl_nil ?_
          refine eu_one (fun w h => h.weak (.cons _ (.cons _ (List.Sublist.refl _))) (fun s hs => hs)) ?_
          refine u_one (i := 2) rfl rfl rfl (tame_call rfl ent_42) (by as_aux_lemma => kernel_rfl) rfl ?_
          refine o_callq rfl ent_42 rfl (c_host18 _ _ _ (by decide)) (fun w hw => (rd_cons (rd_Ls 0 rfl hw) rd_nil)) ?_
          refine wl_nil ?_
          refine eu_one (fun w h => h.weak (.cons _ (.cons _ (List.Sublist.refl _))) (fun s hs => hs)) ?_
          refine u_one (i := 3) rfl rfl rfl (tame_call rfl ent_44) (by as_aux_lemma => kernel_rfl) rfl ?_
          refine o_callr0 rfl ent_44 rfl (c_ref17_Find 9 (putAll tl p18) _ _ (n18 98) (tl18_tb htl) (Nat.le_trans (tl18_len htl) (by decide)) (by as_aux_lemma => decide +kernel) (tl18_ck htl)) (fun w hw => (rd_cons (rd_Ls 10 rfl hw) (rd_cons (rd_L 12 rfl hw) rd_nil))) (fun ⟨rb, hrb⟩ => ?_)
          refine wl_nil ?_
          refine eu_one (fun w h => h.weak (.cons _ (.cons _ (List.Sublist.refl _))) (fun s hs => hs)) ?_
          refine u_take (i := 4) rfl wanted_none (y_move rfl) (fun w h => h.weak (.cons _ (.cons _ (List.Sublist.refl _))) (fun s hs => hs)) (fun w h => h) rfl (pk_seq pk_fn) (by as_aux_lemma => kernel_rfl) rfl ?_
          refine u_take (i := 5) rfl wanted_none (y_extract rfl rfl) (fun w h => h.weak (.cons _ (.cons _ (List.Sublist.refl _))) (fun s hs => hs)) (fun w h => h) rfl (pk_seq pk_fn) (by as_aux_lemma => kernel_rfl) rfl ?_
          refine u_many (js := [6, 8]) (by as_aux_lemma => kernel_rfl) rfl ?_
          refine wru_cons (i := 6) rfl rfl rfl (fun _ _ _ => tame_op (by as_aux_lemma => kernel_rfl)) rfl ?_ ?_
          · skip
            refine o_y (y_extract rfl rfl) rfl rfl ?_
            refine wl_nil ?_
            refine eu_one (fun w h => h.weak (.cons _ (.cons _ (List.Sublist.refl _))) (fun s hs => hs)) ?_
            refine u_one (i := 8) rfl rfl rfl (fun _ _ _ => tame_op (by as_aux_lemma => kernel_rfl)) (by as_aux_lemma => kernel_rfl) rfl ?_
            refine o_store ty_50 rfl rfl rfl (.s (.z)) rfl rfl rfl rfl ?_
            refine wl_nil ?_
            refine eu_tail rfl ?_
            refine u_one (i := 9) rfl rfl rfl (fun _ _ _ => tame_op (by as_aux_lemma => kernel_rfl)) (by as_aux_lemma => kernel_rfl) rfl ?_
            refine o_y (y_assign rfl) rfl rfl ?_
            refine wl_nil ?_
            refine eu_tail rfl ?_
            refine u_done (by as_aux_lemma => kernel_rfl) ?_
            refine e_seq ?_
            refine w_heap (fun w h => h.weak (.cons _ (.cons_cons _ (List.Sublist.refl _))) (fun s hs => hs)) ?_
            exact J13 (⟨rb, hrb⟩, b32) _ (by repeat (first | exact trivial | refine ⟨rfl, ?_⟩))
          refine wru_cons (i := 8) rfl rfl rfl (fun _ _ _ => tame_op (by as_aux_lemma => kernel_rfl)) rfl ?_ ?_
          · skip
            refine o_store ty_50 rfl rfl rfl (.s (.z)) rfl rfl rfl rfl ?_
            refine wl_nil ?_
            refine eu_tail rfl ?_
            refine u_one (i := 6) rfl rfl rfl (fun _ _ _ => tame_op (by as_aux_lemma => kernel_rfl)) (by as_aux_lemma => kernel_rfl) rfl ?_
            refine o_y (y_extract rfl rfl) rfl rfl ?_
            refine wl_nil ?_
            refine eu_tail rfl ?_
            refine u_one (i := 9) rfl rfl rfl (fun _ _ _ => tame_op (by as_aux_lemma => kernel_rfl)) (by as_aux_lemma => kernel_rfl) rfl ?_
            refine o_y (y_assign rfl) rfl rfl ?_
            refine wl_nil ?_
            refine eu_tail rfl ?_
            refine u_done (by as_aux_lemma => kernel_rfl) ?_
            refine e_seq ?_
            refine w_heap (fun w h => h.weak (.cons _ (.cons_cons _ (List.Sublist.refl _))) (fun s hs => hs)) ?_
            exact J13 (⟨rb, hrb⟩, b32) _ (by repeat (first | exact trivial | refine ⟨rfl, ?_⟩))
          exact wru_nil
        exact wru_nil
    · skip
      refine w_seq ?_
      refine w_drawU 16 rfl mixed ?_
      refine u_take (i := 0) rfl wanted_none (y_loadrs 7 ty_41 rfl rfl rfl rfl) (fun w h => h) (fun w h => h) rfl (pk_seq pk_fn) (by as_aux_lemma => kernel_rfl) rfl ?_
      refine u_take (i := 3) rfl wanted_none (y_build rfl (bu_66_2 _)) (fun w h => h) (fun w h => h) rfl (pk_seq pk_fn) (by as_aux_lemma => kernel_rfl) rfl ?_
      refine u_take (i := 7) rfl wanted_none (y_build rfl (bu_66_2 _)) (fun w h => h) (fun w h => h) rfl (pk_seq pk_fn) (by as_aux_lemma => kernel_rfl) rfl ?_
      refine u_many (js := [1, 5]) (by as_aux_lemma => kernel_rfl) rfl ?_
      refine wru_cons (i := 1) rfl rfl rfl (fun _ _ _ => tame_op (by as_aux_lemma => kernel_rfl)) rfl ?_ ?_
      · skip
        refine o_bsl (vs := [_]) ([[97]] : List (Str)) enc_s Try.underlying36 ty_9 rfl rfl rfl rfl rfl rfl (fun As35 => ?_)
        refine wl_nil ?_
        refine eu_one (fun w h => h.weak (.cons _ (List.Sublist.refl _)) (fun s hs => hs)) ?_
        refine u_many (js := [2, 5]) (by as_aux_lemma => kernel_rfl) rfl ?_
        refine wru_cons (i := 2) rfl rfl rfl (tame_call rfl ent_42) rfl ?_ ?_
        · skip
          refine o_callq rfl ent_42 rfl (c_host18 _ _ _ (by decide)) (fun w hw => (rd_cons (rd_Ls 0 rfl hw) rd_nil)) ?_
          refine wl_nil ?_
          refine eu_one (fun w h => h.weak (.cons _ (List.Sublist.refl _)) (fun s hs => hs)) ?_
          refine u_take (i := 4) rfl wanted_none (y_build rfl (bu_88_0_1 _ _ _ _)) (fun w h => h.weak (.cons _ (List.Sublist.refl _)) (fun s hs => hs)) (fun w h => h) rfl (pk_seq pk_fn) (by as_aux_lemma => kernel_rfl) rfl ?_
          refine u_one (i := 5) rfl rfl rfl (fun _ _ _ => tame_op (by as_aux_lemma => kernel_rfl)) (by as_aux_lemma => kernel_rfl) rfl ?_
          refine o_bsl (vs := [_]) ([[98]] : List (Str)) enc_s Try.underlying36 ty_9 rfl rfl rfl rfl rfl rfl (fun As36 => ?_)
          refine wl_nil ?_
          refine eu_one (fun w h => h.weak (.cons _ (.cons _ (List.Sublist.refl _))) (fun s hs => hs)) ?_
          refine u_one (i := 6) rfl rfl rfl (tame_call rfl ent_42) (by as_aux_lemma => kernel_rfl) rfl ?_
          refine o_callq rfl ent_42 rfl (c_host18 _ _ _ (by decide)) (fun w hw => (rd_cons (rd_Ls 0 rfl hw) rd_nil)) ?_
          refine wl_nil ?_
          refine eu_one (fun w h => h.weak (.cons _ (.cons _ (List.Sublist.refl _))) (fun s hs => hs)) ?_
          refine u_take (i := 8) rfl wanted_none (y_build rfl (bu_88_0_1 _ _ _ _)) (fun w h => h.weak (.cons _ (.cons _ (List.Sublist.refl _))) (fun s hs => hs)) (fun w h => h) rfl (pk_seq pk_fn) (by as_aux_lemma => kernel_rfl) rfl ?_
          refine u_one (i := 9) rfl rfl rfl (fun _ _ _ => tame_op (by as_aux_lemma => kernel_rfl)) (by as_aux_lemma => kernel_rfl) rfl ?_
          refine o_bsl (vs := [_, _]) (h18c : List (Hd)) enc_hd Try.underlying58 ty_88 rfl rfl rfl rfl rfl rfl (fun As37 => ?_)
          refine wl_nil ?_
          refine eu_one (fun w h => h.weak (.cons _ (.cons _ (.cons _ (List.Sublist.refl _)))) (fun s hs => hs)) ?_
          refine u_one (i := 10) rfl rfl rfl (tame_call rfl ent_25) (by as_aux_lemma => kernel_rfl) rfl ?_
          refine o_callr1 rfl ent_25 rfl (c_index_NewH 9 (putAll tl p18) _ _ _ h18c _ (tl18_tb htl) (Nat.le_trans (tl18_len htl) (by decide)) (tl18_ck htl) (by decide) (hb18 h18c (by as_aux_lemma => decide +kernel))) (fun w hw => (rd_cons (rd_Ls 9 rfl hw) (rd_cons (rd_L 11 rfl hw) (rd_cons (rd_Ls 0 rfl hw) rd_nil)))) (fun ⟨oix3, hno3, hyes3⟩ => ?_)
          refine wl_nil ?_
          refine eu_one (fun w h => h.weak (.cons _ (.cons _ (.cons _ (.cons _ (List.Sublist.refl _))))) (fun s hs => hs)) ?_
          refine wu_as (t := 68) (.tuple #[.pointer (ixP oix3), .int .i64 (ixE oix3)]) rfl (ixV_pe oix3) ?_
          obtain rfl := ix_no hyes3 (by rw [tl18_e htl]; decide +kernel)
          refine u_take (i := 11) rfl wanted_none (y_move rfl) (fun w h => h.weak (.cons _ (.cons _ (.cons _ (.cons _ (List.Sublist.refl _))))) (fun s hs => hs)) (fun w h => h) rfl (pk_seq pk_fn) (by as_aux_lemma => kernel_rfl) rfl ?_
          refine u_take (i := 12) rfl wanted_none (y_extract rfl rfl) (fun w h => h.weak (.cons _ (.cons _ (.cons _ (.cons _ (List.Sublist.refl _))))) (fun s hs => hs)) (fun w h => h) rfl (pk_seq pk_fn) (by as_aux_lemma => kernel_rfl) rfl ?_
          refine u_take (i := 13) rfl wanted_none (y_extract rfl rfl) (fun w h => h.weak (.cons _ (.cons _ (.cons _ (.cons _ (List.Sublist.refl _))))) (fun s hs => hs)) (fun w h => h) rfl (pk_seq pk_fn) (by as_aux_lemma => kernel_rfl) rfl ?_
          refine u_take (i := 14) rfl wanted_none (y_assign rfl) (fun w h => h.weak (.cons _ (.cons _ (.cons _ (.cons _ (List.Sublist.refl _))))) (fun s hs => hs)) (fun w h => h) rfl (pk_seq pk_fn) (by as_aux_lemma => kernel_rfl) rfl ?_
          refine u_take (i := 15) rfl wanted_none (y_assign rfl) (fun w h => h.weak (.cons _ (.cons _ (.cons _ (.cons _ (List.Sublist.refl _))))) (fun s hs => hs)) (fun w h => h) rfl (pk_seq pk_fn) (by as_aux_lemma => kernel_rfl) rfl ?_
          refine u_done (by as_aux_lemma => kernel_rfl) ?_
          refine e_seq ?_
          refine w_heap (fun w h => h.weak (.cons _ (.cons _ (.cons _ (.cons _ (List.Sublist.refl _))))) (fun s hs => hs)) ?_
          exact J7 () _ (by repeat (first | exact trivial | refine ⟨rfl, ?_⟩))
        refine wru_cons (i := 5) rfl rfl rfl (fun _ _ _ => tame_op (by as_aux_lemma => kernel_rfl)) rfl ?_ ?_
        · skip
          refine o_bsl (vs := [_]) ([[98]] : List (Str)) enc_s Try.underlying36 ty_9 rfl rfl rfl rfl rfl rfl (fun As39 => ?_)
          refine wl_nil ?_
          refine eu_one (fun w h => h.weak (.cons _ (.cons _ (List.Sublist.refl _))) (fun s hs => hs)) ?_
          refine u_one (i := 2) rfl rfl rfl (tame_call rfl ent_42) (by as_aux_lemma => kernel_rfl) rfl ?_
          refine o_callq rfl ent_42 rfl (c_host18 _ _ _ (by decide)) (fun w hw => (rd_cons (rd_Ls 1 rfl hw) rd_nil)) ?_
          refine wl_nil ?_
          refine eu_one (fun w h => h.weak (.cons _ (.cons _ (List.Sublist.refl _))) (fun s hs => hs)) ?_
          refine u_take (i := 4) rfl wanted_none (y_build rfl (bu_88_0_1 _ _ _ _)) (fun w h => h.weak (.cons _ (.cons _ (List.Sublist.refl _))) (fun s hs => hs)) (fun w h => h) rfl (pk_seq pk_fn) (by as_aux_lemma => kernel_rfl) rfl ?_
          refine u_one (i := 6) rfl rfl rfl (tame_call rfl ent_42) (by as_aux_lemma => kernel_rfl) rfl ?_
          refine o_callq rfl ent_42 rfl (c_host18 _ _ _ (by decide)) (fun w hw => (rd_cons (rd_Ls 0 rfl hw) rd_nil)) ?_
          refine wl_nil ?_
          refine eu_one (fun w h => h.weak (.cons _ (.cons _ (List.Sublist.refl _))) (fun s hs => hs)) ?_
          refine u_take (i := 8) rfl wanted_none (y_build rfl (bu_88_0_1 _ _ _ _)) (fun w h => h.weak (.cons _ (.cons _ (List.Sublist.refl _))) (fun s hs => hs)) (fun w h => h) rfl (pk_seq pk_fn) (by as_aux_lemma => kernel_rfl) rfl ?_
          refine u_one (i := 9) rfl rfl rfl (fun _ _ _ => tame_op (by as_aux_lemma => kernel_rfl)) (by as_aux_lemma => kernel_rfl) rfl ?_
          refine o_bsl (vs := [_, _]) (h18c : List (Hd)) enc_hd Try.underlying58 ty_88 rfl rfl rfl rfl rfl rfl (fun As40 => ?_)
          refine wl_nil ?_
          refine eu_one (fun w h => h.weak (.cons _ (.cons _ (.cons _ (List.Sublist.refl _)))) (fun s hs => hs)) ?_
          refine u_one (i := 10) rfl rfl rfl (tame_call rfl ent_25) (by as_aux_lemma => kernel_rfl) rfl ?_
          refine o_callr1 rfl ent_25 rfl (c_index_NewH 9 (putAll tl p18) _ _ _ h18c _ (tl18_tb htl) (Nat.le_trans (tl18_len htl) (by decide)) (tl18_ck htl) (by decide) (hb18 h18c (by as_aux_lemma => decide +kernel))) (fun w hw => (rd_cons (rd_Ls 9 rfl hw) (rd_cons (rd_L 11 rfl hw) (rd_cons (rd_Ls 0 rfl hw) rd_nil)))) (fun ⟨oix3, hno3, hyes3⟩ => ?_)
          refine wl_nil ?_
          refine eu_one (fun w h => h.weak (.cons _ (.cons _ (.cons _ (.cons _ (List.Sublist.refl _))))) (fun s hs => hs)) ?_
          refine wu_as (t := 68) (.tuple #[.pointer (ixP oix3), .int .i64 (ixE oix3)]) rfl (ixV_pe oix3) ?_
          obtain rfl := ix_no hyes3 (by rw [tl18_e htl]; decide +kernel)
          refine u_take (i := 11) rfl wanted_none (y_move rfl) (fun w h => h.weak (.cons _ (.cons _ (.cons _ (.cons _ (List.Sublist.refl _))))) (fun s hs => hs)) (fun w h => h) rfl (pk_seq pk_fn) (by as_aux_lemma => kernel_rfl) rfl ?_
          refine u_take (i := 12) rfl wanted_none (y_extract rfl rfl) (fun w h => h.weak (.cons _ (.cons _ (.cons _ (.cons _ (List.Sublist.refl _))))) (fun s hs => hs)) (fun w h => h) rfl (pk_seq pk_fn) (by as_aux_lemma => kernel_rfl) rfl ?_
          refine u_take (i := 13) rfl wanted_none (y_extract rfl rfl) (fun w h => h.weak (.cons _ (.cons _ (.cons _ (.cons _ (List.Sublist.refl _))))) (fun s hs => hs)) (fun w h => h) rfl (pk_seq pk_fn) (by as_aux_lemma => kernel_rfl) rfl ?_
          refine u_take (i := 14) rfl wanted_none (y_assign rfl) (fun w h => h.weak (.cons _ (.cons _ (.cons _ (.cons _ (List.Sublist.refl _))))) (fun s hs => hs)) (fun w h => h) rfl (pk_seq pk_fn) (by as_aux_lemma => kernel_rfl) rfl ?_
          refine u_take (i := 15) rfl wanted_none (y_assign rfl) (fun w h => h.weak (.cons _ (.cons _ (.cons _ (.cons _ (List.Sublist.refl _))))) (fun s hs => hs)) (fun w h => h) rfl (pk_seq pk_fn) (by as_aux_lemma => kernel_rfl) rfl ?_
          refine u_done (by as_aux_lemma => kernel_rfl) ?_
          refine e_seq ?_
          refine w_heap (fun w h => h.weak (.cons _ (.cons _ (.cons _ (.cons _ (List.Sublist.refl _))))) (fun s hs => hs)) ?_
          exact J7 () _ (by repeat (first | exact trivial | refine ⟨rfl, ?_⟩))
        exact wru_nil
      refine wru_cons (i := 5) rfl rfl rfl (fun _ _ _ => tame_op (by as_aux_lemma => kernel_rfl)) rfl ?_ ?_
      · skip
        refine o_bsl (vs := [_]) ([[98]] : List (Str)) enc_s Try.underlying36 ty_9 rfl rfl rfl rfl rfl rfl (fun As42 => ?_)
        refine wl_nil ?_
        refine eu_one (fun w h => h.weak (.cons _ (List.Sublist.refl _)) (fun s hs => hs)) ?_
        refine u_one (i := 1) rfl rfl rfl (fun _ _ _ => tame_op (by as_aux_lemma => kernel_rfl)) (by as_aux_lemma => kernel_rfl) rfl ?_
        refine o_bsl (vs := [_]) ([[97]] : List (Str)) enc_s Try.underlying36 ty_9 rfl rfl rfl rfl rfl rfl (fun As43 => ?_)
        refine wl_nil ?_
        refine eu_one (fun w h => h.weak (.cons _ (.cons _ (List.Sublist.refl _))) (fun s hs => hs)) ?_
        refine u_one (i := 2) rfl rfl rfl (tame_call rfl ent_42) (by as_aux_lemma => kernel_rfl) rfl ?_
        refine o_callq rfl ent_42 rfl (c_host18 _ _ _ (by decide)) (fun w hw => (rd_cons (rd_Ls 0 rfl hw) rd_nil)) ?_
        refine wl_nil ?_
        refine eu_one (fun w h => h.weak (.cons _ (.cons _ (List.Sublist.refl _))) (fun s hs => hs)) ?_
        refine u_take (i := 4) rfl wanted_none (y_build rfl (bu_88_0_1 _ _ _ _)) (fun w h => h.weak (.cons _ (.cons _ (List.Sublist.refl _))) (fun s hs => hs)) (fun w h => h) rfl (pk_seq pk_fn) (by as_aux_lemma => kernel_rfl) rfl ?_
        refine u_one (i := 6) rfl rfl rfl (tame_call rfl ent_42) (by as_aux_lemma => kernel_rfl) rfl ?_
        refine o_callq rfl ent_42 rfl (c_host18 _ _ _ (by decide)) (fun w hw => (rd_cons (rd_Ls 1 rfl hw) rd_nil)) ?_
        refine wl_nil ?_
        refine eu_one (fun w h => h.weak (.cons _ (.cons _ (List.Sublist.refl _))) (fun s hs => hs)) ?_
        refine u_take (i := 8) rfl wanted_none (y_build rfl (bu_88_0_1 _ _ _ _)) (fun w h => h.weak (.cons _ (.cons _ (List.Sublist.refl _))) (fun s hs => hs)) (fun w h => h) rfl (pk_seq pk_fn) (by as_aux_lemma => kernel_rfl) rfl ?_
        refine u_one (i := 9) rfl rfl rfl (fun _ _ _ => tame_op (by as_aux_lemma => kernel_rfl)) (by as_aux_lemma => kernel_rfl) rfl ?_
        refine o_bsl (vs := [_, _]) (h18c : List (Hd)) enc_hd Try.underlying58 ty_88 rfl rfl rfl rfl rfl rfl (fun As44 => ?_)
        refine wl_nil ?_
        refine eu_one (fun w h => h.weak (.cons _ (.cons _ (.cons _ (List.Sublist.refl _)))) (fun s hs => hs)) ?_
        refine u_one (i := 10) rfl rfl rfl (tame_call rfl ent_25) (by as_aux_lemma => kernel_rfl) rfl ?_
        refine o_callr1 rfl ent_25 rfl (c_index_NewH 9 (putAll tl p18) _ _ _ h18c _ (tl18_tb htl) (Nat.le_trans (tl18_len htl) (by decide)) (tl18_ck htl) (by decide) (hb18 h18c (by as_aux_lemma => decide +kernel))) (fun w hw => (rd_cons (rd_Ls 9 rfl hw) (rd_cons (rd_L 11 rfl hw) (rd_cons (rd_Ls 0 rfl hw) rd_nil)))) (fun ⟨oix3, hno3, hyes3⟩ => ?_)
        refine wl_nil ?_
        refine eu_one (fun w h => h.weak (.cons _ (.cons _ (.cons _ (.cons _ (List.Sublist.refl _))))) (fun s hs => hs)) ?_
        refine wu_as (t := 68) (.tuple #[.pointer (ixP oix3), .int .i64 (ixE oix3)]) rfl (ixV_pe oix3) ?_
        obtain rfl := ix_no hyes3 (by rw [tl18_e htl]; decide +kernel)
        refine u_take (i := 11) rfl wanted_none (y_move rfl) (fun w h => h.weak (.cons _ (.cons _ (.cons _ (.cons _ (List.Sublist.refl _))))) (fun s hs => hs)) (fun w h => h) rfl (pk_seq pk_fn) (by as_aux_lemma => kernel_rfl) rfl ?_
        refine u_take (i := 12) rfl wanted_none (y_extract rfl rfl) (fun w h => h.weak (.cons _ (.cons _ (.cons _ (.cons _ (List.Sublist.refl _))))) (fun s hs => hs)) (fun w h => h) rfl (pk_seq pk_fn) (by as_aux_lemma => kernel_rfl) rfl ?_
        refine u_take (i := 13) rfl wanted_none (y_extract rfl rfl) (fun w h => h.weak (.cons _ (.cons _ (.cons _ (.cons _ (List.Sublist.refl _))))) (fun s hs => hs)) (fun w h => h) rfl (pk_seq pk_fn) (by as_aux_lemma => kernel_rfl) rfl ?_
        refine u_take (i := 14) rfl wanted_none (y_assign rfl) (fun w h => h.weak (.cons _ (.cons _ (.cons _ (.cons _ (List.Sublist.refl _))))) (fun s hs => hs)) (fun w h => h) rfl (pk_seq pk_fn) (by as_aux_lemma => kernel_rfl) rfl ?_
        refine u_take (i := 15) rfl wanted_none (y_assign rfl) (fun w h => h.weak (.cons _ (.cons _ (.cons _ (.cons _ (List.Sublist.refl _))))) (fun s hs => hs)) (fun w h => h) rfl (pk_seq pk_fn) (by as_aux_lemma => kernel_rfl) rfl ?_
        refine u_done (by as_aux_lemma => kernel_rfl) ?_
        refine e_seq ?_
        refine w_heap (fun w h => h.weak (.cons _ (.cons _ (.cons _ (.cons _ (List.Sublist.refl _))))) (fun s hs => hs)) ?_
        exact J7 () _ (by repeat (first | exact trivial | refine ⟨rfl, ?_⟩))
      exact wru_nil
  · skip
    refine w_seq ?_
    refine w_drawU 15 rfl mixed ?_
    refine u_take (i := 0) rfl wanted_none (y_loadrs 0 ty_41 rfl rfl rfl rfl) (fun w h => h) (fun w h => h) rfl (pk_seq pk_fn) (by as_aux_lemma => kernel_rfl) rfl ?_
    refine u_take (i := 1) rfl wanted_none (y_field fa_41_0 rfl) (fun w h => h) (fun w h => h) rfl (pk_seq pk_fn) (by as_aux_lemma => kernel_rfl) rfl ?_
    refine u_take (i := 2) rfl wanted_none (y_loadr 0 ty_3 rfl rfl rfl) (fun w h => h) (fun w h => h) rfl (pk_seq pk_fn) (by as_aux_lemma => kernel_rfl) rfl ?_
    refine u_many (js := [3, 6]) (by as_aux_lemma => kernel_rfl) rfl ?_
    refine wru_cons (i := 3) rfl rfl rfl (fun _ _ _ => tame_op (by as_aux_lemma => kernel_rfl)) rfl ?_ ?_
    · skip
      refine o_bsl (vs := [_]) ([[97]] : List (Str)) enc_s Try.underlying36 ty_9 rfl rfl rfl rfl rfl rfl (fun As46 => ?_)
      refine wl_nil ?_
      refine eu_one (fun w h => h.weak (.cons _ (List.Sublist.refl _)) (fun s hs => hs)) ?_
      refine u_many (js := [4, 6]) (by as_aux_lemma => kernel_rfl) rfl ?_
      refine wru_cons (i := 4) rfl rfl rfl (tame_call rfl ent_42) rfl ?_ ?_
      · skip
        refine o_callq rfl ent_42 rfl (c_host18 _ _ _ (by decide)) (fun w hw => (rd_cons (rd_Ls 0 rfl hw) rd_nil)) ?_
        refine wl_nil ?_
        refine eu_one (fun w h => h.weak (.cons _ (List.Sublist.refl _)) (fun s hs => hs)) ?_
        refine u_take (i := 5) rfl wanted_none (y_build rfl (bu_50_0_1_2 _ _ _)) (fun w h => h.weak (.cons _ (List.Sublist.refl _)) (fun s hs => hs)) (fun w h => h) rfl (pk_seq pk_fn) (by as_aux_lemma => kernel_rfl) rfl ?_
        refine u_one (i := 6) rfl rfl rfl (fun _ _ _ => tame_op (by as_aux_lemma => kernel_rfl)) (by as_aux_lemma => kernel_rfl) rfl ?_
        refine o_bsl (vs := [_]) ([[98]] : List (Str)) enc_s Try.underlying36 ty_9 rfl rfl rfl rfl rfl rfl (fun As47 => ?_)
        refine wl_nil ?_
        refine eu_one (fun w h => h.weak (.cons _ (.cons _ (List.Sublist.refl _))) (fun s hs => hs)) ?_
        refine u_one (i := 7) rfl rfl rfl (tame_call rfl ent_42) (by as_aux_lemma => kernel_rfl) rfl ?_
        refine o_callq rfl ent_42 rfl (c_host18 _ _ _ (by decide)) (fun w hw => (rd_cons (rd_Ls 0 rfl hw) rd_nil)) ?_
        refine wl_nil ?_
        refine eu_one (fun w h => h.weak (.cons _ (.cons _ (List.Sublist.refl _))) (fun s hs => hs)) ?_
        refine u_take (i := 8) rfl wanted_none (y_build rfl (bu_50_0_1_2 _ _ _)) (fun w h => h.weak (.cons _ (.cons _ (List.Sublist.refl _))) (fun s hs => hs)) (fun w h => h) rfl (pk_seq pk_fn) (by as_aux_lemma => kernel_rfl) rfl ?_
        refine u_one (i := 9) rfl rfl rfl (fun _ _ _ => tame_op (by as_aux_lemma => kernel_rfl)) (by as_aux_lemma => kernel_rfl) rfl ?_
        refine o_bsl (vs := [_, _]) (p18 : List (Le)) enc_le Try.underlying39 ty_50 rfl rfl rfl rfl rfl rfl (fun As48 => ?_)
        refine wl_nil ?_
        refine eu_one (fun w h => h.weak (.cons _ (.cons _ (.cons _ (List.Sublist.refl _)))) (fun s hs => hs)) ?_
        refine u_take (i := 10) rfl wanted_none (y_build rfl (bu_86_1_2_3 _ _ _ _ _)) (fun w h => h.weak (.cons _ (.cons _ (.cons _ (List.Sublist.refl _)))) (fun s hs => hs)) (fun w h => h) rfl (pk_seq pk_fn) (by as_aux_lemma => kernel_rfl) rfl ?_
        refine u_one (i := 11) rfl rfl rfl (tame_call rfl ent_43) (by as_aux_lemma => kernel_rfl) rfl ?_
        refine o_callr1 rfl ent_43 rfl (c_Apply0 (1 + (hl2.length : Int)) tl Ae ce false (1 + (hl2.length : Int)) 9 p18 _ _ none 0 (t18_tb fit_hl2 htl) (Nat.le_trans (tab_zero (t18_ck fit_hl2 htl)).2.2.1 (by decide)) (t18_ck fit_hl2 htl) ⟨by decide, by decide⟩ nofun (fun _ => rfl) p18_tb (by decide) p18_ck p18_nd (tl18_len2 htl)) (fun w hw => (rd_cons (rd_Ls 5 rfl hw) (rd_cons (rd_L 4 rfl hw) (rd_cons (rd_Ls 0 rfl hw) (rd_cons (rd_rall (rd_bare bare18)) rd_nil))))) (fun ⟨A9, c9⟩ => ?_)
        refine wl_nil ?_
        refine eu_one (fun w h => h.weak (.cons _ (.cons _ (.cons _ (.cons _ (List.Sublist.refl _))))) (fun s hs => hs)) ?_
        refine u_take (i := 12) rfl wanted_none (y_move rfl) (fun w h => h.weak (.cons _ (.cons _ (.cons _ (.cons _ (List.Sublist.refl _))))) (fun s hs => hs)) (fun w h => h) rfl (pk_seq pk_fn) (by as_aux_lemma => kernel_rfl) rfl ?_
        refine u_take (i := 13) rfl wanted_none (y_extract rfl rfl) (fun w h => h.weak (.cons _ (.cons _ (.cons _ (.cons _ (List.Sublist.refl _))))) (fun s hs => hs)) (fun w h => h) rfl (pk_seq pk_fn) (by as_aux_lemma => kernel_rfl) rfl ?_
        refine u_many (js := [14, 15]) (by as_aux_lemma => kernel_rfl) rfl ?_
        refine wru_cons (i := 14) rfl rfl rfl (fun _ _ _ => tame_op (by as_aux_lemma => kernel_rfl)) rfl ?_ ?_
        · skip
          refine o_y (y_extract rfl rfl) rfl rfl ?_
          refine wl_nil ?_
          refine eu_one (fun w h => h.weak (.cons _ (.cons _ (.cons _ (.cons _ (List.Sublist.refl _))))) (fun s hs => hs)) ?_
          refine u_one (i := 15) rfl rfl rfl (fun _ _ _ => tame_op (by as_aux_lemma => kernel_rfl)) (by as_aux_lemma => kernel_rfl) rfl ?_
          refine o_store ty_41 rfl rfl rfl (.s (.s (.s (.s (.z))))) rfl rfl rfl rfl ?_
          refine wl_nil ?_
          refine eu_tail rfl ?_
          refine u_done (by as_aux_lemma => kernel_rfl) ?_
          refine e_seq ?_
          refine w_heap (fun w h => (h.weak (.cons_cons _ (.cons _ (.cons _ (.cons _ (.cons_cons _ (.cons_cons _ (.cons _ (.cons _ (.cons _ .slnil))))))))) (fun s hs => hs)).put18) ?_
          exact J4 (A9, c9) _ (by repeat (first | exact trivial | refine ⟨rfl, ?_⟩))
        refine wru_cons (i := 15) rfl rfl rfl (fun _ _ _ => tame_op (by as_aux_lemma => kernel_rfl)) rfl ?_ ?_
        · skip
          refine o_store ty_41 rfl rfl rfl (.s (.s (.s (.s (.z))))) rfl rfl rfl rfl ?_
          refine wl_nil ?_
          refine eu_tail rfl ?_
          refine u_one (i := 14) rfl rfl rfl (fun _ _ _ => tame_op (by as_aux_lemma => kernel_rfl)) (by as_aux_lemma => kernel_rfl) rfl ?_
          refine o_y (y_extract rfl rfl) rfl rfl ?_
          refine wl_nil ?_
          refine eu_tail rfl ?_
          refine u_done (by as_aux_lemma => kernel_rfl) ?_
          refine e_seq ?_
          refine w_heap (fun w h => (h.weak (.cons_cons _ (.cons _ (.cons _ (.cons _ (.cons_cons _ (.cons_cons _ (.cons _ (.cons _ (.cons _ .slnil))))))))) (fun s hs => hs)).put18) ?_
          exact J4 (A9, c9) _ (by repeat (first | exact trivial | refine ⟨rfl, ?_⟩))
        exact wru_nil
      refine wru_cons (i := 6) rfl rfl rfl (fun _ _ _ => tame_op (by as_aux_lemma => kernel_rfl)) rfl ?_ ?_
      · skip
        refine o_bsl (vs := [_]) ([[98]] : List (Str)) enc_s Try.underlying36 ty_9 rfl rfl rfl rfl rfl rfl (fun As50 => ?_)
        refine wl_nil ?_
        refine eu_one (fun w h => h.weak (.cons _ (.cons _ (List.Sublist.refl _))) (fun s hs => hs)) ?_
        refine u_one (i := 4) rfl rfl rfl (tame_call rfl ent_42) (by as_aux_lemma => kernel_rfl) rfl ?_
        refine o_callq rfl ent_42 rfl (c_host18 _ _ _ (by decide)) (fun w hw => (rd_cons (rd_Ls 1 rfl hw) rd_nil)) ?_
        refine wl_nil ?_
        refine eu_one (fun w h => h.weak (.cons _ (.cons _ (List.Sublist.refl _))) (fun s hs => hs)) ?_
        refine u_take (i := 5) rfl wanted_none (y_build rfl (bu_50_0_1_2 _ _ _)) (fun w h => h.weak (.cons _ (.cons _ (List.Sublist.refl _))) (fun s hs => hs)) (fun w h => h) rfl (pk_seq pk_fn) (by as_aux_lemma => kernel_rfl) rfl ?_
        refine u_one (i := 7) rfl rfl rfl (tame_call rfl ent_42) (by as_aux_lemma => kernel_rfl) rfl ?_
        refine o_callq rfl ent_42 rfl (c_host18 _ _ _ (by decide)) (fun w hw => (rd_cons (rd_Ls 0 rfl hw) rd_nil)) ?_
        refine wl_nil ?_
        refine eu_one (fun w h => h.weak (.cons _ (.cons _ (List.Sublist.refl _))) (fun s hs => hs)) ?_
        refine u_take (i := 8) rfl wanted_none (y_build rfl (bu_50_0_1_2 _ _ _)) (fun w h => h.weak (.cons _ (.cons _ (List.Sublist.refl _))) (fun s hs => hs)) (fun w h => h) rfl (pk_seq pk_fn) (by as_aux_lemma => kernel_rfl) rfl ?_
        refine u_one (i := 9) rfl rfl rfl (fun _ _ _ => tame_op (by as_aux_lemma => kernel_rfl)) (by as_aux_lemma => kernel_rfl) rfl ?_
        refine o_bsl (vs := [_, _]) (p18 : List (Le)) enc_le Try.underlying39 ty_50 rfl rfl rfl rfl rfl rfl (fun As51 => ?_)
        refine wl_nil ?_
        refine eu_one (fun w h => h.weak (.cons _ (.cons _ (.cons _ (List.Sublist.refl _)))) (fun s hs => hs)) ?_
        refine u_take (i := 10) rfl wanted_none (y_build rfl (bu_86_1_2_3 _ _ _ _ _)) (fun w h => h.weak (.cons _ (.cons _ (.cons _ (List.Sublist.refl _)))) (fun s hs => hs)) (fun w h => h) rfl (pk_seq pk_fn) (by as_aux_lemma => kernel_rfl) rfl ?_
        refine u_one (i := 11) rfl rfl rfl (tame_call rfl ent_43) (by as_aux_lemma => kernel_rfl) rfl ?_
        refine o_callr1 rfl ent_43 rfl (c_Apply0 (1 + (hl2.length : Int)) tl Ae ce false (1 + (hl2.length : Int)) 9 p18 _ _ none 0 (t18_tb fit_hl2 htl) (Nat.le_trans (tab_zero (t18_ck fit_hl2 htl)).2.2.1 (by decide)) (t18_ck fit_hl2 htl) ⟨by decide, by decide⟩ nofun (fun _ => rfl) p18_tb (by decide) p18_ck p18_nd (tl18_len2 htl)) (fun w hw => (rd_cons (rd_Ls 5 rfl hw) (rd_cons (rd_L 4 rfl hw) (rd_cons (rd_Ls 0 rfl hw) (rd_cons (rd_rall (rd_bare bare18)) rd_nil))))) (fun ⟨A9, c9⟩ => ?_)
        refine wl_nil ?_
        refine eu_one (fun w h => h.weak (.cons _ (.cons _ (.cons _ (.cons _ (List.Sublist.refl _))))) (fun s hs => hs)) ?_
        refine u_take (i := 12) rfl wanted_none (y_move rfl) (fun w h => h.weak (.cons _ (.cons _ (.cons _ (.cons _ (List.Sublist.refl _))))) (fun s hs => hs)) (fun w h => h) rfl (pk_seq pk_fn) (by as_aux_lemma => kernel_rfl) rfl ?_
        refine u_take (i := 13) rfl wanted_none (y_extract rfl rfl) (fun w h => h.weak (.cons _ (.cons _ (.cons _ (.cons _ (List.Sublist.refl _))))) (fun s hs => hs)) (fun w h => h) rfl (pk_seq pk_fn) (by as_aux_lemma => kernel_rfl) rfl ?_
        refine u_many (js := [14, 15]) (by as_aux_lemma => kernel_rfl) rfl ?_
        refine wru_cons (i := 14) rfl rfl rfl (fun _ _ _ => tame_op (by as_aux_lemma => kernel_rfl)) rfl ?_ ?_
        · skip
          refine o_y (y_extract rfl rfl) rfl rfl ?_
          refine wl_nil ?_
          refine eu_one (fun w h => h.weak (.cons _ (.cons _ (.cons _ (.cons _ (List.Sublist.refl _))))) (fun s hs => hs)) ?_
          refine u_one (i := 15) rfl rfl rfl (fun _ _ _ => tame_op (by as_aux_lemma => kernel_rfl)) (by as_aux_lemma => kernel_rfl) rfl ?_
          refine o_store ty_41 rfl rfl rfl (.s (.s (.s (.s (.z))))) rfl rfl rfl rfl ?_
          refine wl_nil ?_
          refine eu_tail rfl ?_
          refine u_done (by as_aux_lemma => kernel_rfl) ?_
          refine e_seq ?_
          refine w_heap (fun w h => (h.weak (.cons_cons _ (.cons _ (.cons _ (.cons _ (.cons_cons _ (.cons_cons _ (.cons _ (.cons _ (.cons _ .slnil))))))))) (fun s hs => hs)).put18) ?_
          exact J4 (A9, c9) _ (by repeat (first | exact trivial | refine ⟨rfl, ?_⟩))
        refine wru_cons (i := 15) rfl rfl rfl (fun _ _ _ => tame_op (by as_aux_lemma => kernel_rfl)) rfl ?_ ?_
        · skip
          refine o_store ty_41 rfl rfl rfl (.s (.s (.s (.s (.z))))) rfl rfl rfl rfl ?_
          refine wl_nil ?_
          refine eu_tail rfl ?_
          refine u_one (i := 14) rfl rfl rfl (fun _ _ _ => tame_op (by as_aux_lemma => kernel_rfl)) (by as_aux_lemma => kernel_rfl) rfl ?_
          refine o_y (y_extract rfl rfl) rfl rfl ?_
          refine wl_nil ?_
          refine eu_tail rfl ?_
          refine u_done (by as_aux_lemma => kernel_rfl) ?_
          refine e_seq ?_
          refine w_heap (fun w h => (h.weak (.cons_cons _ (.cons _ (.cons _ (.cons _ (.cons_cons _ (.cons_cons _ (.cons _ (.cons _ (.cons _ .slnil))))))))) (fun s hs => hs)).put18) ?_
          exact J4 (A9, c9) _ (by repeat (first | exact trivial | refine ⟨rfl, ?_⟩))
        exact wru_nil
      exact wru_nil
    refine wru_cons (i := 6) rfl rfl rfl (fun _ _ _ => tame_op (by as_aux_lemma => kernel_rfl)) rfl ?_ ?_
    · skip
      refine o_bsl (vs := [_]) ([[98]] : List (Str)) enc_s Try.underlying36 ty_9 rfl rfl rfl rfl rfl rfl (fun As53 => ?_)
      refine wl_nil ?_
      refine eu_one (fun w h => h.weak (.cons _ (List.Sublist.refl _)) (fun s hs => hs)) ?_
      refine u_one (i := 3) rfl rfl rfl (fun _ _ _ => tame_op (by as_aux_lemma => kernel_rfl)) (by as_aux_lemma => kernel_rfl) rfl ?_
      refine o_bsl (vs := [_]) ([[97]] : List (Str)) enc_s Try.underlying36 ty_9 rfl rfl rfl rfl rfl rfl (fun As54 => ?_)
      refine wl_nil ?_
      refine eu_one (fun w h => h.weak (.cons _ (.cons _ (List.Sublist.refl _))) (fun s hs => hs)) ?_
      refine u_one (i := 4) rfl rfl rfl (tame_call rfl ent_42) (by as_aux_lemma => kernel_rfl) rfl ?_
      refine o_callq rfl ent_42 rfl (c_host18 _ _ _ (by decide)) (fun w hw => (rd_cons (rd_Ls 0 rfl hw) rd_nil)) ?_
      refine wl_nil ?_
      refine eu_one (fun w h => h.weak (.cons _ (.cons _ (List.Sublist.refl _))) (fun s hs => hs)) ?_
      refine u_take (i := 5) rfl wanted_none (y_build rfl (bu_50_0_1_2 _ _ _)) (fun w h => h.weak (.cons _ (.cons _ (List.Sublist.refl _))) (fun s hs => hs)) (fun w h => h) rfl (pk_seq pk_fn) (by as_aux_lemma => kernel_rfl) rfl ?_
      refine u_one (i := 7) rfl rfl rfl (tame_call rfl ent_42) (by as_aux_lemma => kernel_rfl) rfl ?_
      refine o_callq rfl ent_42 rfl (c_host18 _ _ _ (by decide)) (fun w hw => (rd_cons (rd_Ls 1 rfl hw) rd_nil)) ?_
      refine wl_nil ?_
      refine eu_one (fun w h => h.weak (.cons _ (.cons _ (List.Sublist.refl _))) (fun s hs => hs)) ?_
      refine u_take (i := 8) rfl wanted_none (y_build rfl (bu_50_0_1_2 _ _ _)) (fun w h => h.weak (.cons _ (.cons _ (List.Sublist.refl _))) (fun s hs => hs)) (fun w h => h) rfl (pk_seq pk_fn) (by as_aux_lemma => kernel_rfl) rfl ?_
      refine u_one (i := 9) rfl rfl rfl (fun _ _ _ => tame_op (by as_aux_lemma => kernel_rfl)) (by as_aux_lemma => kernel_rfl) rfl ?_
      refine o_bsl (vs := [_, _]) (p18 : List (Le)) enc_le Try.underlying39 ty_50 rfl rfl rfl rfl rfl rfl (fun As55 => ?_)
      refine wl_nil ?_
      refine eu_one (fun w h => h.weak (.cons _ (.cons _ (.cons _ (List.Sublist.refl _)))) (fun s hs => hs)) ?_
      refine u_take (i := 10) rfl wanted_none (y_build rfl (bu_86_1_2_3 _ _ _ _ _)) (fun w h => h.weak (.cons _ (.cons _ (.cons _ (List.Sublist.refl _)))) (fun s hs => hs)) (fun w h => h) rfl (pk_seq pk_fn) (by as_aux_lemma => kernel_rfl) rfl ?_
      refine u_one (i := 11) rfl rfl rfl (tame_call rfl ent_43) (by as_aux_lemma => kernel_rfl) rfl ?_
      refine o_callr1 rfl ent_43 rfl (c_Apply0 (1 + (hl2.length : Int)) tl Ae ce false (1 + (hl2.length : Int)) 9 p18 _ _ none 0 (t18_tb fit_hl2 htl) (Nat.le_trans (tab_zero (t18_ck fit_hl2 htl)).2.2.1 (by decide)) (t18_ck fit_hl2 htl) ⟨by decide, by decide⟩ nofun (fun _ => rfl) p18_tb (by decide) p18_ck p18_nd (tl18_len2 htl)) (fun w hw => (rd_cons (rd_Ls 5 rfl hw) (rd_cons (rd_L 4 rfl hw) (rd_cons (rd_Ls 0 rfl hw) (rd_cons (rd_rall (rd_bare bare18)) rd_nil))))) (fun ⟨A9, c9⟩ => ?_)
      refine wl_nil ?_
      refine eu_one (fun w h => h.weak (.cons _ (.cons _ (.cons _ (.cons _ (List.Sublist.refl _))))) (fun s hs => hs)) ?_
      refine u_take (i := 12) rfl wanted_none (y_move rfl) (fun w h => h.weak (.cons _ (.cons _ (.cons _ (.cons _ (List.Sublist.refl _))))) (fun s hs => hs)) (fun w h => h) rfl (pk_seq pk_fn) (by as_aux_lemma => kernel_rfl) rfl ?_
      refine u_take (i := 13) rfl wanted_none (y_extract rfl rfl) (fun w h => h.weak (.cons _ (.cons _ (.cons _ (.cons _ (List.Sublist.refl _))))) (fun s hs => hs)) (fun w h => h) rfl (pk_seq pk_fn) (by as_aux_lemma => kernel_rfl) rfl ?_
      refine u_many (js := [14, 15]) (by as_aux_lemma => kernel_rfl) rfl ?_
      refine wru_cons (i := 14) rfl rfl rfl (fun _ _ _ => tame_op (by as_aux_lemma => kernel_rfl)) rfl ?_ ?_
      · skip
        refine o_y (y_extract rfl rfl) rfl rfl ?_
        refine wl_nil ?_
        refine eu_one (fun w h => h.weak (.cons _ (.cons _ (.cons _ (.cons _ (List.Sublist.refl _))))) (fun s hs => hs)) ?_
        refine u_one (i := 15) rfl rfl rfl (fun _ _ _ => tame_op (by as_aux_lemma => kernel_rfl)) (by as_aux_lemma => kernel_rfl) rfl ?_
        refine o_store ty_41 rfl rfl rfl (.s (.s (.s (.s (.z))))) rfl rfl rfl rfl ?_
        refine wl_nil ?_
        refine eu_tail rfl ?_
        refine u_done (by as_aux_lemma => kernel_rfl) ?_
        refine e_seq ?_
        refine w_heap (fun w h => (h.weak (.cons_cons _ (.cons _ (.cons _ (.cons _ (.cons_cons _ (.cons_cons _ (.cons _ (.cons _ (.cons _ .slnil))))))))) (fun s hs => hs)).put18) ?_
        exact J4 (A9, c9) _ (by repeat (first | exact trivial | refine ⟨rfl, ?_⟩))
      refine wru_cons (i := 15) rfl rfl rfl (fun _ _ _ => tame_op (by as_aux_lemma => kernel_rfl)) rfl ?_ ?_
      · skip
        refine o_store ty_41 rfl rfl rfl (.s (.s (.s (.s (.z))))) rfl rfl rfl rfl ?_
        refine wl_nil ?_
        refine eu_tail rfl ?_
        refine u_one (i := 14) rfl rfl rfl (fun _ _ _ => tame_op (by as_aux_lemma => kernel_rfl)) (by as_aux_lemma => kernel_rfl) rfl ?_
        refine o_y (y_extract rfl rfl) rfl rfl ?_
        refine wl_nil ?_
        refine eu_tail rfl ?_
        refine u_done (by as_aux_lemma => kernel_rfl) ?_
        refine e_seq ?_
        refine w_heap (fun w h => (h.weak (.cons_cons _ (.cons _ (.cons _ (.cons _ (.cons_cons _ (.cons_cons _ (.cons _ (.cons _ (.cons _ .slnil))))))))) (fun s hs => hs)).put18) ?_
        exact J4 (A9, c9) _ (by repeat (first | exact trivial | refine ⟨rfl, ?_⟩))
      exact wru_nil
    exact wru_nil
end Go.Proofs.Ytckfjfnkombelaa
