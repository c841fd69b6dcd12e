/- law 18: its tables, its examples -/
import Derived.Test.YtckfjfnkombelaaJbQN
namespace Go.Proofs.Ytckfjfnkombelaa
open Go.RowKit Go.Shelf
set_option linter.unusedVariables false
set_option linter.unusedSimpArgs false

theorem bu_41_0 (x0 : Int) : Try.prog.built 41 [(0, .int .i64 x0)] = some [.int .i64 x0, .slice none 0 0].toArray := by kernel_rfl
theorem bu_50_0_1_2_3 (x0 : Str) (x1 : Int) (x2 : Str) (x3 : Option Addr) (x4 : Nat) (x5 : Nat) : Try.prog.built 50 [(0, .string (ba x0)), (1, .int .i64 x1), (2, .string (ba x2)), (3, .slice x3 x4 x5)] = some [.string (ba x0), .int .i64 x1, .string (ba x2), .slice x3 x4 x5, .string ⟨#[]⟩, .slice none 0 0, .int .u32 0].toArray := by kernel_rfl
theorem bu_66_2 (x0 : Int) : Try.prog.built 66 [(2, .int .u64 x0)] = some [.bool false, .int .u64 0, .int .u64 x0].toArray := by kernel_rfl
theorem bu_86_1_2_3 (x0 : Int) (x1 : Int) (x2 : Option Addr) (x3 : Nat) (x4 : Nat) : Try.prog.built 86 [(1, .int .i64 x0), (2, .int .i64 x1), (3, .slice x2 x3 x4)] = some [.bool false, .int .i64 x0, .int .i64 x1, .slice x2 x3 x4, .slice none 0 0].toArray := by kernel_rfl
theorem ent_41 : Enters Try.prog 41 := enters_of Try.func41 (by kernel_rfl) rfl
theorem ent_42 : Enters Try.prog 42 := enters_of Try.func42 (by kernel_rfl) rfl
theorem ent_43 : Enters Try.prog 43 := enters_of Try.func43 (by kernel_rfl) rfl
theorem ent_48 : Enters Try.prog 48 := enters_of Try.func48 (by kernel_rfl) rfl

def lft (e : En) : Le := ⟨e, none, 0, none, 0⟩
def putEE (es : List En) (x : En) : List En := (putE (es.map lft) (lft x)).map (·.e)
theorem putG_e (x : Le) : ∀ (l : List Le) (d : Bool), (putG x d l).map (·.e) = (putG (lft x.e) d ((l.map (·.e)).map lft)).map (·.e)
  | [], d => by cases d <;> rfl
  | y :: r, d => by
    have ih := fun d => putG_e x r d
    simp only [List.map_cons, putG, List.map_append, ih]
    show _ ++ _ ++ _ = (if (!d && decide (cmpN x.e.host y.e.host ≤ 0)) = true then [lft x.e] else []).map (·.e) ++ (if cmpN x.e.host y.e.host ≠ 0 then [lft y.e] else []).map (·.e) ++ _
    congr 1
    congr 1
    · split <;> rfl
    · split <;> rfl
theorem putE_e (l : List Le) (x : Le) : (putE l x).map (·.e) = putEE (l.map (·.e)) x.e := putG_e x l false
theorem lft_e (es : List En) : (es.map lft).map (·.e) = es := by
  rw [List.map_map]; exact List.map_id'' (fun _ => rfl) es
theorem getD_e (l : List Le) (i : Nat) : (l.getD i le0).e = (l.map (·.e)).getD i en0 := by
  rw [List.getD_eq_getElem?_getD, List.getD_eq_getElem?_getD, List.getElem?_map]
  cases l[i]? <;> rfl
theorem entsCk_e : ∀ l l' : List Le, l.map (·.e) = l'.map (·.e) → entsCk l = entsCk l'
  | [], [], _ => rfl
  | [], _ :: _, h => by cases h
  | _ :: _, [], h => by cases h
  | x :: r, y :: s, h => by
    rw [List.map_cons, List.map_cons, List.cons.injEq] at h
    rw [entsCk, entsCk, h.1, entsCk_e r s h.2]
theorem tab_e (v : Int) {l l' : List Le} (h : l.map (·.e) = l'.map (·.e)) : tabCk v l = tabCk v l' := by
  have h1 : l.length = l'.length := by have := congrArg List.length h; simpa using this
  have h2 : Rises l ↔ Rises l' := by
    unfold Rises
    rw [h1]
    simp only [getD_e, h]
  unfold tabCk
  rw [h1, entsCk_e l l' h]
  simp only [h2]
/-- An entry of few octets. -/
def smE (e : En) : Bool := decide (e.host.length ≤ 300) && decide (e.alias.length ≤ 300) && decide (e.cluster.length ≤ 300) && decide (e.addrs.length ≤ 20) && decide (e.ports.length ≤ 20) && decide (0 ≤ e.kind ∧ e.kind ≤ 9) && decide (0 ≤ e.ttl ∧ e.ttl ≤ 1000) && (e.addrs.all fun a => decide (0 ≤ a.hi ∧ a.hi ≤ 1000000) && decide (0 ≤ a.lo ∧ a.lo ≤ 4294967295)) && (e.ports.all fun p => decide (0 ≤ p ∧ p ≤ 1000000))
theorem smE_ok {e : En} (h : smE e = true) : EnOk e ∧ lightE e = true := by
  simp only [smE, Bool.and_eq_true, decide_eq_true_eq, List.all_eq_true] at h
  obtain ⟨⟨⟨⟨⟨⟨⟨⟨h1, h2⟩, h3⟩, h4⟩, h5⟩, h6⟩, h7⟩, h8⟩, h9⟩ := h
  refine ⟨⟨by omega, by omega, by omega, fun a ha => ?_, by omega, by omega, fun p hp => by have := h9 p hp; omega, by omega, h7.1, by omega⟩, ?_⟩
  · have := h8 a ha
    refine ⟨this.1.1, ?_, this.2.1, ?_⟩ <;> omega
  · simp only [lightE, Bool.and_eq_true, decide_eq_true_eq]
    exact ⟨⟨⟨⟨h1, h2⟩, h3⟩, h4⟩, h5⟩
theorem sm_tb {l : List Le} (h : (l.map (·.e)).all smE = true) : TbOk l := fun x hx => smE_ok (List.all_eq_true.1 h _ (List.mem_map.2 ⟨x, hx, rfl⟩))
def fxE (h : Str) (i : Nat) : En := ⟨h, 1, [120], [⟨false, 0, (i : Int) + 1⟩], [], [], 0⟩
abbrev fxL (h : Str) (i : Nat) (A : Option Addr) (c : Nat) : Le := ⟨fxE h i, A, c, none, 0⟩
def tabN (hs : List Str) : Nat → List En
  | 0 => []
  | i + 1 => putEE (tabN hs i) (fxE (hs.getD i []) i)
def fit18 (hs : List Str) : Bool := decide (hs.length ≤ 100) && (List.range (hs.length + 1)).all fun i => decide (tabCk (1 + (i : Int)) ((tabN hs i).map lft) = 0) && ((tabN hs i).all smE && (smE (fxE (hs.getD i []) i) && (decide (i = hs.length) || decide (entCk (fxE (hs.getD i []) i) = 0))))
structure Fit18 (hs : List Str) : Prop where
  len : hs.length ≤ 100
  ck : ∀ i, i ≤ hs.length → tabCk (1 + (i : Int)) ((tabN hs i).map lft) = 0
  sm : ∀ i, i ≤ hs.length → (tabN hs i).all smE = true
  smx : ∀ i, i < hs.length → smE (fxE (hs.getD i []) i) = true
  ent : ∀ i, i < hs.length → entCk (fxE (hs.getD i []) i) = 0
theorem fit18_ok {hs : List Str} (h : fit18 hs = true) : Fit18 hs := by
  simp only [fit18, Bool.and_eq_true, List.all_eq_true, decide_eq_true_eq, List.mem_range, Bool.or_eq_true] at h
  refine ⟨h.1, fun i hi => (h.2 i (by omega)).1, fun i hi => ?_, fun i hi => (h.2 i (by omega)).2.2.1, fun i hi => ?_⟩
  · exact List.all_eq_true.2 (h.2 i (by omega)).2.1
  · rcases (h.2 i (by omega)).2.2.2 with h1 | h1
    · omega
    · exact h1
theorem Hp.rallSub {ok0 : Nat → Prop} {w0 w : World} {M M' L S : List Ch} (h : Hp ok0 w0 (Ch.rall M :: L) S w) (hs : ∀ c ∈ M', c ∈ M) : Hp ok0 w0 (Ch.rall M' :: L) S w :=
  h.turn (c' := Ch.rall M') .z (fun hp d hd => hp d (hs d hd)) (fun b ⟨d, hd, hb⟩ => ⟨d, hs d hd, hb⟩)
theorem putE_sub {tl : List Le} {x : Le} : ∀ c ∈ (putE tl x).flatMap elR, c ∈ tl.flatMap elR ++ elR x := fun c hc => by
  obtain ⟨y, hy, hc⟩ := List.mem_flatMap.1 hc
  rcases putG_mem hy with e | h2
  · rw [e] at hc; exact List.mem_append_right _ hc
  · exact List.mem_append_left _ (List.mem_flatMap.2 ⟨y, h2, hc⟩)
theorem Hp.tabStep {ok0 : Nat → Prop} {w0 w : World} {tl : List Le} {hst : Str} {i : Nat} {A An Ao P : Option Addr} {c cn co pc : Nat} {T1 T3 : TypeId} {R : Ch} {L S : List Ch}
    (h : Hp ok0 w0 (Ch.ls An cn T1 7 elC (putE tl (fxL hst i A c)) :: Ch.ls P pc T1 7 elC [fxL hst i A c] :: Ch.ls A c T3 3 adC [(⟨false, 0, (i : Int) + 1⟩ : Ad)] :: Ch.rall (tl.flatMap elR) :: Ch.ls Ao co T1 7 elC tl :: R :: L) S w) :
    Hp ok0 w0 (Ch.rall ((putE tl (fxL hst i A c)).flatMap elR) :: Ch.ls An cn T1 7 elC (putE tl (fxL hst i A c)) :: R :: L) S w := by
  have h1 := (h.weak (L' := Ch.ls An cn T1 7 elC (putE tl (fxL hst i A c)) :: Ch.ls A c T3 3 adC [(⟨false, 0, (i : Int) + 1⟩ : Ad)] :: Ch.rall (tl.flatMap elR) :: R :: L) (.cons_cons _ (.cons _ (.cons_cons _ (.cons_cons _ (.cons _ (List.Sublist.refl _)))))) (fun s hs => hs))
  have h2 := h1.perm (L' := Ch.ls A c T3 3 adC [(⟨false, 0, (i : Int) + 1⟩ : Ad)] :: Ch.rall (tl.flatMap elR) :: Ch.ls An cn T1 7 elC (putE tl (fxL hst i A c)) :: R :: L) (List.perm_middle (l₁ := [Ch.ls A c T3 3 adC [(⟨false, 0, (i : Int) + 1⟩ : Ad)], Ch.rall (tl.flatMap elR)]))
  have h3 := h2.nilsl T1 1
  exact (Hp.intoE (e := fxE hst i) (A := A) (c := c) (B := none) (d := 0) (T1 := T1) (T2 := T3) h3).rallSub putE_sub
theorem rd_one {w : World} {x : Le} (h1 : (Ch.rd x.A 3 adC x.e.addrs).P w ∧ ∀ b, (Ch.rd x.A 3 adC x.e.addrs).ok b → b < w.heap.size) (h2 : (Ch.rd x.B 1 enci x.e.ports).P w ∧ ∀ b, (Ch.rd x.B 1 enci x.e.ports).ok b → b < w.heap.size) : (Ch.rall ([x].flatMap elR)).P w ∧ ∀ b, (Ch.rall ([x].flatMap elR)).ok b → b < w.heap.size := rd_rall (rd_cons h1 (rd_cons h2 rd_nil))
theorem tb_one {x : Le} (h : smE x.e = true) : TbOk [x] := fun y hy => by rw [List.mem_singleton] at hy; subst hy; exact smE_ok h

theorem c_host18 (ls : List Str) (A : Option Addr) (ca : Nat) (hl : ls.length ≤ 1000000000000) : RC Try.prog 42 #[.slice A ls.length ca] [Ch.rd A 1 encs ls] (α := Unit) (fun _ => .string (ba (makeN ls).1)) (fun _ => []) := by
  refine rc_of_W (args := [.slice A ls.length ca]) 11 Try.func42 rfl rfl rfl (fun w0 => ?_)
  refine w_seq ?_
  refine w_region ?_
  refine o_y (y_assign rfl) rfl rfl ?_
  refine wl_nil ?_
  refine e_seq ?_
  refine w_seq ?_
  refine w_region ?_
  refine o_y (y_move rfl) rfl rfl ?_
  refine o_callq rfl ent_62 rfl (c_ref02_Make _ _ _ (by omega)) (fun w hw => (rd_cons (rd_S 0 rfl hw) rd_nil)) ?_
  refine o_y (y_move rfl) rfl rfl ?_
  refine o_y (y_extract rfl rfl) rfl rfl ?_
  refine o_y (y_extract rfl rfl) rfl rfl ?_
  refine o_y (y_assign rfl) rfl rfl ?_
  refine o_y (y_assign rfl) rfl rfl ?_
  refine wl_nil ?_
  refine e_seq ?_
  refine w_seq ?_
  refine w_region ?_
  refine o_y (y_move rfl) rfl rfl ?_
  refine o_y (y_assign rfl) rfl rfl ?_
  refine wl_nil ?_
  refine e_seq ?_
  refine w_ret ?_
  refine e_ret (ts := [2]) rfl rfl rfl (fun w hw => ?_)
  exact ⟨(), rfl, hw.base, (hw.weak (List.nil_sublist _) (fun s hs => hs)).toNews⟩

set_option maxRecDepth 100000 in
set_option maxHeartbeats 4000000 in
theorem c_table18 (hs : List Str) (A : Option Addr) (ca : Nat) (hf : Fit18 hs) : RC Try.prog 41 #[.slice A hs.length ca] [Ch.rd A 1 encs hs] (α := {o : List Le × Option Addr × Nat // o.1.map (·.e) = tabN hs hs.length}) (fun o => .agg (tbC (1 + (hs.length : Int)) o.1.2.1 o.1.1.length o.1.2.2).toArray) (fun o => [Ch.rall (o.1.1.flatMap elR), Ch.ls o.1.2.1 o.1.2.2 50 7 elC o.1.1]) := by
  refine rc_of_W (args := [.slice A hs.length ca]) 35 Try.func41 rfl rfl rfl (fun w0 => ?_)
  have hfl := hf.len
  refine w_seq ?_
  refine w_region ?_
  refine o_alloc ty_41 rfl rfl (fun b1 => ?_)
  refine wl_nil ?_
  refine e_seq ?_
  refine w_seq ?_
  refine w_region ?_
  refine o_y (y_build rfl (bu_41_0 _)) rfl rfl ?_
  refine o_alloc ty_41 rfl rfl (fun b2 => ?_)
  refine o_store ty_41 rfl rfl rfl .z rfl rfl rfl rfl ?_
  refine wl_nil ?_
  refine e_seq ?_
  refine w_seq ?_
  refine w_seq ?_
  refine w_region ?_
  refine o_y (y_assign rfl) rfl rfl ?_
  refine wl_nil ?_
  refine e_seq ?_
  refine w_block ?_
  refine w_heap (fun w h => h.nilsl 50 7) ?_
  refine w_heap (fun w h => h.rall0) ?_
  refine w_loopL (σ := Nat × List Le × Option Addr × Nat) [4, 6, 7, 8, 9, 10, 11, 12, 13, 14, 15, 16, 17, 18, 19, 20, 21, 22, 23, 24, 25, 26, 27, 28, 29, 30, 31, 32, 33] (fun q => q.1 ≤ hs.length ∧ q.2.1.map (·.e) = tabN hs q.1) (fun q => hs.length - q.1) (fun q => [(4, .int .i64 q.1)]) (fun q => [Ch.rall (q.2.1.flatMap elR), Ch.ls q.2.2.1 q.2.2.2 50 7 elC q.2.1, Ch.row b2 (tbC (1 + (q.1 : Int)) q.2.2.1 q.2.1.length q.2.2.2) 41, Ch.row b1 (tbC 0 none 0 0) 41]) ((0, [], none, 0)) ?_ ⟨rfl, trivial⟩ rfl (fun q hI => ?_)
  · exact ⟨Nat.zero_le _, rfl⟩
  obtain ⟨i, tl, Ae, ce⟩ := q
  dsimp only at hI ⊢
  refine w_seq ?_
  refine w_seq ?_
  refine w_region ?_
  refine o_y (y_move rfl) rfl rfl ?_
  refine o_y (y_move rfl) rfl rfl ?_
  refine o_y (y_lenl Try.underlying22 rfl) rfl rfl ?_
  refine o_y (y_lss rfl rfl) rfl rfl ?_
  refine wl_splitp (t := 9) rfl (fun h3_3 => ?_) (fun h3_3 => ?_)
  · skip
    have hi : i < hs.length := by omega
    have htb : tabCk (1 + (i : Int)) tl = 0 := by rw [tab_e _ (hI.2.trans (lft_e _).symm)]; exact hf.ck i (by omega)
    have hTb : TbOk tl := sm_tb (by rw [hI.2]; exact hf.sm i (by omega))
    have hck := htb
    have hsz : ∀ A c, (putAll (if false = true then [] else tl) [fxL (hs.getD i []) i A c]).length ≤ 256 := fun A c => by
      have h1 := (tab_zero (hf.ck (i + 1) (by omega))).2.2.1
      rw [List.length_map] at h1
      have h2 : (putE tl (fxL (hs.getD i []) i A c)).map (·.e) = tabN hs (i + 1) := by rw [putE_e, hI.2]; rfl
      have h3 := congrArg List.length h2
      rw [List.length_map] at h3
      show (putE tl _).length ≤ 256
      omega
    have htl : tl.length ≤ 256 := (tab_zero htb).2.2.1
    refine wl_nil ?_
    refine e_seq ?_
    refine w_cond_t rfl ?_
    refine w_skip ?_
    refine e_seq ?_
    refine w_seq ?_
    refine w_block ?_
    refine w_drawU 22 rfl mixed ?_
    refine u_take (i := 0) rfl wanted_none (y_loadrs 2 ty_41 rfl rfl rfl rfl) (fun w h => h) (fun w h => h) rfl (pk_blk (pk_seq (pk_loop (pk_blk (pk_seq pk_fn))))) (by kernel_rfl) rfl ?_
    refine u_take (i := 1) rfl wanted_none (y_field fa_41_0 rfl) (fun w h => h) (fun w h => h) rfl (pk_blk (pk_seq (pk_loop (pk_blk (pk_seq pk_fn))))) (by kernel_rfl) rfl ?_
    refine u_take (i := 2) rfl wanted_none (y_loadr 2 ty_3 rfl rfl rfl) (fun w h => h) (fun w h => h) rfl (pk_blk (pk_seq (pk_loop (pk_blk (pk_seq pk_fn))))) (by kernel_rfl) rfl ?_
    refine u_take (i := 3) rfl wanted_none (y_field fa_41_0 rfl) (fun w h => h) (fun w h => h) rfl (pk_blk (pk_seq (pk_loop (pk_blk (pk_seq pk_fn))))) (by kernel_rfl) rfl ?_
    refine u_take (i := 4) rfl wanted_none (y_loadr 2 ty_3 rfl rfl rfl) (fun w h => h) (fun w h => h) rfl (pk_blk (pk_seq (pk_loop (pk_blk (pk_seq pk_fn))))) (by kernel_rfl) rfl ?_
    refine u_take (i := 5) rfl wanted_none (y_addi rfl rfl (by omega) (by omega)) (fun w h => h) (fun w h => h) rfl (pk_blk (pk_seq (pk_loop (pk_blk (pk_seq pk_fn))))) (by kernel_rfl) rfl ?_
    refine u_take (i := 6) rfl wanted_none (y_move rfl) (fun w h => h) (fun w h => h) rfl (pk_blk (pk_seq (pk_loop (pk_blk (pk_seq pk_fn))))) (by kernel_rfl) rfl ?_
    refine u_take (i := 7) rfl wanted_none (y_move rfl) (fun w h => h) (fun w h => h) rfl (pk_blk (pk_seq (pk_loop (pk_blk (pk_seq pk_fn))))) (by kernel_rfl) rfl ?_
    refine u_take (i := 8) rfl wanted_none (y_ixm  Try.underlying22 ty_25 rfl rfl (rs_S 0 rfl) rfl (by omega)) (fun w h => h) (fun w h => h) rfl (pk_blk (pk_seq (pk_loop (pk_blk (pk_seq pk_fn))))) (by kernel_rfl) rfl ?_
    refine u_take (i := 9) rfl wanted_none (y_ldm0 enc_s ([] : Str) ty_25 rfl (rs_S 0 rfl) (by omega) rfl rfl) (fun w h => h) (fun w h => h) rfl (pk_blk (pk_seq (pk_loop (pk_blk (pk_seq pk_fn))))) (by kernel_rfl) rfl ?_
    refine u_take (i := 10) rfl wanted_none (y_move rfl) (fun w h => h) (fun w h => h) rfl (pk_blk (pk_seq (pk_loop (pk_blk (pk_seq pk_fn))))) (by kernel_rfl) rfl ?_
    refine u_take (i := 11) rfl wanted_none (y_addi rfl rfl (by omega) (by omega)) (fun w h => h) (fun w h => h) rfl (pk_blk (pk_seq (pk_loop (pk_blk (pk_seq pk_fn))))) (by kernel_rfl) rfl ?_
    refine u_take (i := 12) rfl wanted_none (y_convi Try.underlying3 Try.underlying64 rfl (wrap_u64 (by omega) (by omega))) (fun w h => h) (fun w h => h) rfl (pk_blk (pk_seq (pk_loop (pk_blk (pk_seq pk_fn))))) (by kernel_rfl) rfl ?_
    refine u_take (i := 13) rfl wanted_none (y_build rfl (bu_66_2 _)) (fun w h => h) (fun w h => h) rfl (pk_blk (pk_seq (pk_loop (pk_blk (pk_seq pk_fn))))) (by kernel_rfl) rfl ?_
    refine u_one (i := 14) rfl rfl rfl (fun _ _ _ => tame_op (by kernel_rfl)) (by kernel_rfl) rfl ?_
    refine o_bsl (vs := [_]) ([(⟨false, 0, (i : Int) + 1⟩ : Ad)] : List (Ad)) enc_ad Try.underlying46 ty_66 rfl rfl rfl rfl rfl rfl (fun As3 => ?_)
    refine wl_nil ?_
    refine eu_one (fun w h => h.weak (.cons _ (List.Sublist.refl _)) (fun s hs => hs)) ?_
    refine u_take (i := 15) rfl wanted_none (y_build rfl (bu_50_0_1_2_3 _ _ _ _ _ _)) (fun w h => h.weak (.cons _ (List.Sublist.refl _)) (fun s hs => hs)) (fun w h => h) rfl (pk_blk (pk_seq (pk_loop (pk_blk (pk_seq pk_fn))))) (by kernel_rfl) rfl ?_
    refine u_one (i := 16) rfl rfl rfl (fun _ _ _ => tame_op (by kernel_rfl)) (by kernel_rfl) rfl ?_
    refine o_bsl (vs := [_]) ([(fxL (hs.getD i []) i As3 1)] : List (Le)) enc_le Try.underlying39 ty_50 rfl rfl rfl rfl rfl rfl (fun As4 => ?_)
    refine wl_nil ?_
    refine eu_one (fun w h => h.weak (.cons _ (.cons _ (List.Sublist.refl _))) (fun s hs => hs)) ?_
    refine u_take (i := 17) rfl wanted_none (y_build rfl (bu_86_1_2_3 _ _ _ _ _)) (fun w h => h.weak (.cons _ (.cons _ (List.Sublist.refl _))) (fun s hs => hs)) (fun w h => h) rfl (pk_blk (pk_seq (pk_loop (pk_blk (pk_seq pk_fn))))) (by kernel_rfl) rfl ?_
    refine u_one (i := 18) rfl rfl rfl (tame_call rfl ent_43) (by kernel_rfl) rfl ?_
    refine o_callr1 rfl ent_43 rfl (c_Apply0 (1 + (i : Int)) tl Ae ce false (1 + (i : Int)) (1 + (i : Int) + 1) [(fxL (hs.getD i []) i As3 1)] _ _ none 0 hTb (by omega) hck ⟨by omega, by omega⟩ nofun (fun _ => rfl) (tb_one (hf.smx i hi)) (by simp) (fun y hy => by rw [List.mem_singleton] at hy; subst hy; exact hf.ent i hi) (by simp) (hsz _ _)) (fun w hw => (rd_cons (rd_Ls 3 rfl hw) (rd_cons (rd_L 2 rfl hw) (rd_cons (rd_Ls 0 rfl hw) (rd_cons (rd_one (x := (fxL (hs.getD i []) i As3 1)) (rd_Ls 1 rfl hw) rd_none1) rd_nil))))) (fun ⟨A4, c4⟩ => ?_)
    refine wl_nil ?_
    refine eu_one (fun w h => h.weak (.cons _ (.cons _ (.cons _ (List.Sublist.refl _)))) (fun s hs => hs)) ?_
    refine u_take (i := 19) rfl wanted_none (y_move rfl) (fun w h => h.weak (.cons _ (.cons _ (.cons _ (List.Sublist.refl _)))) (fun s hs => hs)) (fun w h => h) rfl (pk_blk (pk_seq (pk_loop (pk_blk (pk_seq pk_fn))))) (by kernel_rfl) rfl ?_
    refine u_take (i := 20) rfl wanted_none (y_extract rfl rfl) (fun w h => h.weak (.cons _ (.cons _ (.cons _ (List.Sublist.refl _)))) (fun s hs => hs)) (fun w h => h) rfl (pk_blk (pk_seq (pk_loop (pk_blk (pk_seq pk_fn))))) (by kernel_rfl) rfl ?_
    refine u_many (js := [21, 22]) (by kernel_rfl) rfl ?_
    refine wru_cons (i := 21) rfl rfl rfl (fun _ _ _ => tame_op (by kernel_rfl)) rfl ?_ ?_
    · skip
      refine o_y (y_extract rfl rfl) rfl rfl ?_
      refine wl_nil ?_
      refine eu_one (fun w h => h.weak (.cons _ (.cons _ (.cons _ (List.Sublist.refl _)))) (fun s hs => hs)) ?_
      refine u_one (i := 22) rfl rfl rfl (fun _ _ _ => tame_op (by kernel_rfl)) (by kernel_rfl) rfl ?_
      refine o_store ty_41 rfl rfl rfl (.s (.s (.s (.s (.s (.z)))))) rfl rfl rfl rfl ?_
      refine wl_nil ?_
      refine eu_tail rfl ?_
      refine u_done (by kernel_rfl) ?_
      refine e_blk ?_
      refine e_seq ?_
      refine w_region ?_
      refine o_y (y_move rfl) rfl rfl ?_
      refine o_y (y_addi rfl rfl (by omega) (by omega)) rfl rfl ?_
      refine o_y (y_assign rfl) rfl rfl ?_
      refine wl_nil ?_
      refine e_back ((i + 1, putE tl (fxL (hs.getD i []) i As3 1), A4, c4)) ?_ ?_ ⟨rfl, trivial⟩ (by repeat (first | exact trivial | refine ⟨rfl, ?_⟩)) (fun w h => by
  have h9 := h.tabStep
  rw [show (((i + 1 : Nat) : Int)) = (i : Int) + 1 by omega, show 1 + ((i : Int) + 1) = 1 + (i : Int) + 1 by omega]
  exact h9)
      · exact ⟨by show i + 1 ≤ _; omega, by show (putE tl (fxL (hs.getD i []) i As3 1)).map _ = putEE _ _; rw [putE_e, hI.2]⟩
      · show hs.length - (i + 1) < hs.length - i
        omega
    refine wru_cons (i := 22) rfl rfl rfl (fun _ _ _ => tame_op (by kernel_rfl)) rfl ?_ ?_
    · skip
      refine o_store ty_41 rfl rfl rfl (.s (.s (.s (.s (.s (.z)))))) rfl rfl rfl rfl ?_
      refine wl_nil ?_
      refine eu_tail rfl ?_
      refine u_one (i := 21) rfl rfl rfl (fun _ _ _ => tame_op (by kernel_rfl)) (by kernel_rfl) rfl ?_
      refine o_y (y_extract rfl rfl) rfl rfl ?_
      refine wl_nil ?_
      refine eu_tail rfl ?_
      refine u_done (by kernel_rfl) ?_
      refine e_blk ?_
      refine e_seq ?_
      refine w_region ?_
      refine o_y (y_move rfl) rfl rfl ?_
      refine o_y (y_addi rfl rfl (by omega) (by omega)) rfl rfl ?_
      refine o_y (y_assign rfl) rfl rfl ?_
      refine wl_nil ?_
      refine e_back ((i + 1, putE tl (fxL (hs.getD i []) i As3 1), A4, c4)) ?_ ?_ ⟨rfl, trivial⟩ (by repeat (first | exact trivial | refine ⟨rfl, ?_⟩)) (fun w h => by
  have h9 := h.tabStep
  rw [show (((i + 1 : Nat) : Int)) = (i : Int) + 1 by omega, show 1 + ((i : Int) + 1) = 1 + (i : Int) + 1 by omega]
  exact h9)
      · exact ⟨by show i + 1 ≤ _; omega, by show (putE tl (fxL (hs.getD i []) i As3 1)).map _ = putEE _ _; rw [putE_e, hI.2]⟩
      · show hs.length - (i + 1) < hs.length - i
        omega
    exact wru_nil
  · skip
    refine wl_nil ?_
    refine e_seq ?_
    refine w_cond_f rfl ?_
    refine w_exit ?_
    refine e_seq_exit ?_
    refine e_loop_exit ?_
    refine e_blk_hit ?_
    refine e_seq ?_
    refine w_seq ?_
    refine w_region ?_
    refine o_y (y_loadrs 2 ty_41 rfl rfl rfl rfl) rfl rfl ?_
    refine o_store ty_41 rfl rfl rfl (.s (.s (.s (.z)))) rfl rfl rfl rfl ?_
    refine wl_nil ?_
    refine e_seq ?_
    refine w_ret ?_
    refine e_rsr (rs := [.cell 2 41]) rfl (rs_cells 3 ty_41 rfl rfl rfl rfl rs_nil) rfl (fun w hw => ?_)
    obtain rfl : i = hs.length := by omega
    exact ⟨⟨(tl, Ae, ce), hI.2⟩, rfl, hw.base, (hw.weak (.cons_cons _ (.cons_cons _ (.cons _ (.cons _ .slnil)))) (fun s hs => hs)).toNews⟩

theorem t18_tb {hs : List Str} (hf : Fit18 hs) {tl : List Le} (h : tl.map (·.e) = tabN hs hs.length) : TbOk tl := sm_tb (by rw [h]; exact hf.sm _ (Nat.le_refl _))
theorem t18_ck {hs : List Str} (hf : Fit18 hs) {tl : List Le} (h : tl.map (·.e) = tabN hs hs.length) : tabCk (1 + (hs.length : Int)) tl = 0 := by rw [tab_e _ (h.trans (lft_e _).symm)]; exact hf.ck _ (Nat.le_refl _)
theorem t18_len {hs : List Str} (hf : Fit18 hs) {tl : List Le} (h : tl.map (·.e) = tabN hs hs.length) : tl.length ≤ 1000000000 := by have := (tab_zero (t18_ck hf h)).2.2.1; omega
theorem find_e {l : List Le} {x : Ixd} (h : IxOk l x) (n : Str) : ((findI x.hm n).getD le0).e = (findE (l.map (·.e)) n).getD en0 := by
  rw [← h.es, ← find_E h.hm]; cases findI x.hm n <;> rfl
theorem find_s {l : List Le} {x : Ixd} (h : IxOk l x) (n : Str) : (findI x.hm n).isSome = (findE (l.map (·.e)) n).isSome := by
  rw [← h.es, ← find_E h.hm]; cases findI x.hm n <;> rfl
theorem ix_len {l : List Le} {x : Ixd} (h : IxOk l x) : x.l.length = l.length := by have := congrArg List.length h.es; simpa using this
theorem es_len {l : List Le} {es : List En} (h : l.map (·.e) = es) : l.length = es.length := by rw [← h, List.length_map]
def hl1 : List Str := [(makeN [[97], [98]]).1, (makeN [[42], [98]]).1, (makeN [[42], [99], [98]]).1]
theorem fit_hl1 : Fit18 hl1 := fit18_ok (by decide +kernel)
theorem rd_sub {w : World} {M M' : List Ch} (h : (Ch.rall M).P w ∧ ∀ b, (Ch.rall M).ok b → b < w.heap.size) (hs : ∀ c ∈ M', c ∈ M) : (Ch.rall M').P w ∧ ∀ b, (Ch.rall M').ok b → b < w.heap.size := ⟨fun c hc => h.1 c (hs c hc), fun b ⟨c, hc, hb⟩ => h.2 b ⟨c, hs c hc, hb⟩⟩

set_option maxRecDepth 100000 in
set_option maxHeartbeats 4000000 in
theorem c_lives18  : Pure Try.prog 30 #[] (.bool true) := by
  intro w0
  refine calls_of_W (ok0 := no) (S := []) (args := []) 101 Try.func30 rfl rfl rfl (by simp) (by simp) ?_
  refine w_seq ?_
  refine w_region ?_
  refine o_y (y_assign rfl) rfl rfl ?_
  refine wl_nil ?_
  refine e_seq ?_
  refine w_seq ?_
  refine w_region ?_
  refine o_bsl (vs := [_, _]) ([[97], [98]] : List (Str)) enc_s Try.underlying36 ty_9 rfl rfl rfl rfl rfl rfl (fun As1 => ?_)
  refine o_callq rfl ent_42 rfl (c_host18 _ _ _ (by decide)) (fun w hw => (rd_cons (rd_Ls 0 rfl hw) rd_nil)) ?_
  refine o_bsl (vs := [_, _]) ([[42], [98]] : List (Str)) enc_s Try.underlying36 ty_9 rfl rfl rfl rfl rfl rfl (fun As2 => ?_)
  refine o_callq rfl ent_42 rfl (c_host18 _ _ _ (by decide)) (fun w hw => (rd_cons (rd_Ls 0 rfl hw) rd_nil)) ?_
  refine o_bsl (vs := [_, _, _]) ([[42], [99], [98]] : List (Str)) enc_s Try.underlying36 ty_9 rfl rfl rfl rfl rfl rfl (fun As3 => ?_)
  refine o_callq rfl ent_42 rfl (c_host18 _ _ _ (by decide)) (fun w hw => (rd_cons (rd_Ls 0 rfl hw) rd_nil)) ?_
  refine o_bsl (vs := [_, _, _]) (hl1 : List (Str)) enc_s Try.underlying22 ty_25 rfl rfl rfl rfl rfl rfl (fun As4 => ?_)
  refine o_callr2 rfl ent_41 rfl (c_table18 hl1 _ _ fit_hl1) (fun w hw => (rd_cons (rd_Ls 0 rfl hw) rd_nil)) (fun ⟨⟨tl, Ae, ce⟩, htl⟩ => ?_)
  refine o_callr1 rfl ent_25 rfl (c_index_New0 (1 + (hl1.length : Int)) tl _ _ (t18_tb fit_hl1 htl) (t18_len fit_hl1 htl) (t18_ck fit_hl1 htl)) (fun w hw => (rd_cons (rd_Ls 1 rfl hw) (rd_cons (rd_L 0 rfl hw) rd_nil))) (fun ⟨ix, hix⟩ => ?_)
  refine o_y (y_move rfl) rfl rfl ?_
  refine o_y (y_extract rfl rfl) rfl rfl ?_
  refine o_y (y_extract rfl rfl) rfl rfl ?_
  refine o_y (y_assign rfl) rfl rfl ?_
  refine o_y (y_assign rfl) rfl rfl ?_
  refine wl_nil ?_
  refine e_seq ?_
  refine w_seq ?_
  refine w_seq ?_
  refine w_region ?_
  refine o_y (y_move rfl) rfl rfl ?_
  refine o_y (y_neq rfl rfl) rfl rfl ?_
  refine wl_af (t := 26) rfl (fun h => h rfl) ?_
  refine o_y (y_move rfl) rfl rfl ?_
  refine wl_gyes rfl rfl ?_
  refine o_y (y_move rfl) rfl rfl ?_
  refine wl_gyes rfl rfl ?_
  refine o_y (y_eqp Try.underlying43 rfl rfl) rfl rfl ?_
  refine wl_as (t := 29) (.bool false) rfl (congrArg Value.bool rfl) ?_
  refine o_y (y_pick_f rfl rfl) rfl rfl ?_
  refine wl_nil ?_
  refine e_seq ?_
  refine w_cond_f rfl ?_
  refine w_skip ?_
  refine e_seq ?_
  refine w_seq ?_
  refine w_region ?_
  refine o_y (y_move rfl) rfl rfl ?_
  refine o_bsl (vs := [_, _]) ([[65], [98]] : List (Str)) enc_s Try.underlying36 ty_9 rfl rfl rfl rfl rfl rfl (fun As7 => ?_)
  refine o_callq rfl ent_42 rfl (c_host18 _ _ _ (by decide)) (fun w hw => (rd_cons (rd_Ls 0 rfl hw) rd_nil)) ?_
  refine o_callq rfl ent_32 rfl (c_Find ix (makeN [[65], [98]]).1) (fun w hw => (rd_cons (rd_all (rd_L 1 rfl hw) (.head _)) (rd_cons (rd_all (rd_L 1 rfl hw) (.tail _ (.tail _ (.head _)))) rd_nil))) ?_
  refine o_y (y_move rfl) rfl rfl ?_
  refine o_y (y_extract rfl rfl) rfl rfl ?_
  refine o_y (y_extract rfl rfl) rfl rfl ?_
  refine o_alloc ty_50 rfl rfl (fun b8 => ?_)
  refine o_store ty_50 rfl rfl rfl .z rfl rfl rfl rfl ?_
  refine o_y (y_assign rfl) rfl rfl ?_
  refine wl_nil ?_
  refine e_seq ?_
  refine w_seq ?_
  refine w_region ?_
  refine o_y (y_move rfl) rfl rfl ?_
  refine o_bsl (vs := [_, _]) ([[120], [98]] : List (Str)) enc_s Try.underlying36 ty_9 rfl rfl rfl rfl rfl rfl (fun As9 => ?_)
  refine o_callq rfl ent_42 rfl (c_host18 _ _ _ (by decide)) (fun w hw => (rd_cons (rd_Ls 0 rfl hw) rd_nil)) ?_
  refine o_callq rfl ent_32 rfl (c_Find ix (makeN [[120], [98]]).1) (fun w hw => (rd_cons (rd_all (rd_L 3 rfl hw) (.head _)) (rd_cons (rd_all (rd_L 3 rfl hw) (.tail _ (.tail _ (.head _)))) rd_nil))) ?_
  refine o_y (y_move rfl) rfl rfl ?_
  refine o_y (y_extract rfl rfl) rfl rfl ?_
  refine o_y (y_extract rfl rfl) rfl rfl ?_
  refine o_alloc ty_50 rfl rfl (fun b10 => ?_)
  refine o_store ty_50 rfl rfl rfl .z rfl rfl rfl rfl ?_
  refine o_y (y_assign rfl) rfl rfl ?_
  refine wl_nil ?_
  refine e_seq ?_
  refine w_seq ?_
  refine w_region ?_
  refine o_y (y_move rfl) rfl rfl ?_
  refine o_bsl (vs := [_, _, _]) ([[120], [99], [98]] : List (Str)) enc_s Try.underlying36 ty_9 rfl rfl rfl rfl rfl rfl (fun As11 => ?_)
  refine o_callq rfl ent_42 rfl (c_host18 _ _ _ (by decide)) (fun w hw => (rd_cons (rd_Ls 0 rfl hw) rd_nil)) ?_
  refine o_callq rfl ent_32 rfl (c_Find ix (makeN [[120], [99], [98]]).1) (fun w hw => (rd_cons (rd_all (rd_L 5 rfl hw) (.head _)) (rd_cons (rd_all (rd_L 5 rfl hw) (.tail _ (.tail _ (.head _)))) rd_nil))) ?_
  refine o_y (y_move rfl) rfl rfl ?_
  refine o_y (y_extract rfl rfl) rfl rfl ?_
  refine o_y (y_extract rfl rfl) rfl rfl ?_
  refine o_alloc ty_50 rfl rfl (fun b12 => ?_)
  refine o_store ty_50 rfl rfl rfl .z rfl rfl rfl rfl ?_
  refine o_y (y_assign rfl) rfl rfl ?_
  refine wl_nil ?_
  refine e_seq ?_
  refine w_seq ?_
  refine w_region ?_
  refine o_y (y_move rfl) rfl rfl ?_
  refine o_bsl (vs := [_, _]) ([[99], [98]] : List (Str)) enc_s Try.underlying36 ty_9 rfl rfl rfl rfl rfl rfl (fun As13 => ?_)
  refine o_callq rfl ent_42 rfl (c_host18 _ _ _ (by decide)) (fun w hw => (rd_cons (rd_Ls 0 rfl hw) rd_nil)) ?_
  refine o_callq rfl ent_32 rfl (c_Find ix (makeN [[99], [98]]).1) (fun w hw => (rd_cons (rd_all (rd_L 7 rfl hw) (.head _)) (rd_cons (rd_all (rd_L 7 rfl hw) (.tail _ (.tail _ (.head _)))) rd_nil))) ?_
  refine o_y (y_move rfl) rfl rfl ?_
  refine o_y (y_extract rfl rfl) rfl rfl ?_
  refine o_y (y_extract rfl rfl) rfl rfl ?_
  refine o_alloc ty_50 rfl rfl (fun b14 => ?_)
  refine o_store ty_50 rfl rfl rfl .z rfl rfl rfl rfl ?_
  refine o_y (y_assign rfl) rfl rfl ?_
  refine wl_nil ?_
  refine e_seq ?_
  refine w_seq ?_
  refine w_region ?_
  refine o_y (y_move rfl) rfl rfl ?_
  refine o_bsl (vs := [_]) ([[98]] : List (Str)) enc_s Try.underlying36 ty_9 rfl rfl rfl rfl rfl rfl (fun As15 => ?_)
  refine o_callq rfl ent_42 rfl (c_host18 _ _ _ (by decide)) (fun w hw => (rd_cons (rd_Ls 0 rfl hw) rd_nil)) ?_
  refine o_callq rfl ent_32 rfl (c_Find ix (makeN [[98]]).1) (fun w hw => (rd_cons (rd_all (rd_L 9 rfl hw) (.head _)) (rd_cons (rd_all (rd_L 9 rfl hw) (.tail _ (.tail _ (.head _)))) rd_nil))) ?_
  refine o_y (y_move rfl) rfl rfl ?_
  refine o_y (y_extract rfl rfl) rfl rfl ?_
  refine o_y (y_extract rfl rfl) rfl rfl ?_
  refine wl_as (t := 65) (.bool false) rfl (congrArg Value.bool (by rw [find_s hix, htl]; decide +kernel)) ?_
  refine o_alloc ty_50 rfl rfl (fun b16 => ?_)
  refine o_store ty_50 rfl rfl rfl .z rfl rfl rfl rfl ?_
  refine o_y (y_assign rfl) rfl rfl ?_
  refine wl_nil ?_
  refine e_seq ?_
  refine w_seq ?_
  refine w_draw 36 rfl mixed ?_
  refine a_take (i := 0) rfl wanted_none (y_field fa_50_0 rfl) (fun w h => h) (fun w h => h) rfl (pk_seq pk_fn) (by as_aux_lemma => kernel_rfl) rfl ?_
  refine a_take (i := 1) rfl wanted_none (y_loadr 8 ty_25 rfl rfl rfl) (fun w h => h) (fun w h => h) rfl (pk_seq pk_fn) (by as_aux_lemma => kernel_rfl) rfl ?_
  refine a_one (i := 2) rfl rfl rfl (fun _ _ _ => tame_op (by as_aux_lemma => kernel_rfl)) (by as_aux_lemma => kernel_rfl) rfl ?_
  refine o_bsl (vs := [_, _]) ([[97], [98]] : List (Str)) enc_s Try.underlying36 ty_9 rfl rfl rfl rfl rfl rfl (fun As17 => ?_)
  refine wl_nil ?_
  refine e_one (fun w h => h.weak (.cons _ (List.Sublist.refl _)) (fun s hs => hs)) ?_
  refine a_one (i := 3) rfl rfl rfl (tame_call rfl ent_42) (by as_aux_lemma => kernel_rfl) rfl ?_
  refine o_callq rfl ent_42 rfl (c_host18 _ _ _ (by decide)) (fun w hw => (rd_cons (rd_Ls 0 rfl hw) rd_nil)) ?_
  refine wl_nil ?_
  refine e_one (fun w h => h.weak (.cons _ (List.Sublist.refl _)) (fun s hs => hs)) ?_
  refine a_take (i := 4) rfl wanted_none (y_eqls rfl rfl) (fun w h => h.weak (.cons _ (List.Sublist.refl _)) (fun s hs => hs)) (fun w h => h) rfl (pk_seq pk_fn) (by as_aux_lemma => kernel_rfl) rfl ?_
  refine wa_at (t := 70) rfl (by rw [find_e hix, htl]; decide +kernel) ?_
  refine a_take (i := 5) rfl wanted_none (y_move rfl) (fun w h => h.weak (.cons _ (List.Sublist.refl _)) (fun s hs => hs)) (fun w h => h) rfl (pk_seq pk_fn) (by as_aux_lemma => kernel_rfl) rfl ?_
  refine a_take (i := 6) rfl (wanted_yes rfl rfl) (y_field fa_50_0 rfl) (fun w h => h.weak (.cons _ (List.Sublist.refl _)) (fun s hs => hs)) (fun w h => h) rfl (pk_seq pk_fn) (by as_aux_lemma => kernel_rfl) rfl ?_
  refine a_take (i := 7) rfl (wanted_yes rfl rfl) (y_loadr 6 ty_25 rfl rfl rfl) (fun w h => h.weak (.cons _ (List.Sublist.refl _)) (fun s hs => hs)) (fun w h => h) rfl (pk_seq pk_fn) (by as_aux_lemma => kernel_rfl) rfl ?_
  refine a_one (i := 8) rfl rfl rfl (fun _ _ _ => tame_op (by as_aux_lemma => kernel_rfl)) (by as_aux_lemma => kernel_rfl) rfl ?_
  refine wl_gyes rfl rfl ?_
  refine o_bsl (vs := [_, _]) ([[42], [98]] : List (Str)) enc_s Try.underlying36 ty_9 rfl rfl rfl rfl rfl rfl (fun As18 => ?_)
  refine wl_nil ?_
  refine e_one (fun w h => h.weak (.cons _ (.cons _ (List.Sublist.refl _))) (fun s hs => hs)) ?_
  refine a_one (i := 9) rfl rfl rfl (tame_call rfl ent_42) (by as_aux_lemma => kernel_rfl) rfl ?_
  refine wl_gyes rfl rfl ?_
  refine o_callq rfl ent_42 rfl (c_host18 _ _ _ (by decide)) (fun w hw => (rd_cons (rd_Ls 0 rfl hw) rd_nil)) ?_
  refine wl_nil ?_
  refine e_one (fun w h => h.weak (.cons _ (.cons _ (List.Sublist.refl _))) (fun s hs => hs)) ?_
  refine a_take (i := 10) rfl (wanted_yes rfl rfl) (y_eqls rfl rfl) (fun w h => h.weak (.cons _ (.cons _ (List.Sublist.refl _))) (fun s hs => hs)) (fun w h => h) rfl (pk_seq pk_fn) (by as_aux_lemma => kernel_rfl) rfl ?_
  refine wa_at (t := 76) rfl (by rw [find_e hix, htl]; decide +kernel) ?_
  refine a_take (i := 11) rfl wanted_none (y_pick_t rfl rfl) (fun w h => h.weak (.cons _ (.cons _ (List.Sublist.refl _))) (fun s hs => hs)) (fun w h => h) rfl (pk_seq pk_fn) (by as_aux_lemma => kernel_rfl) rfl ?_
  refine a_take (i := 12) rfl wanted_none (y_move rfl) (fun w h => h.weak (.cons _ (.cons _ (List.Sublist.refl _))) (fun s hs => hs)) (fun w h => h) rfl (pk_seq pk_fn) (by as_aux_lemma => kernel_rfl) rfl ?_
  refine a_take (i := 13) rfl (wanted_yes rfl rfl) (y_field fa_50_0 rfl) (fun w h => h.weak (.cons _ (.cons _ (List.Sublist.refl _))) (fun s hs => hs)) (fun w h => h) rfl (pk_seq pk_fn) (by as_aux_lemma => kernel_rfl) rfl ?_
  refine a_take (i := 14) rfl (wanted_yes rfl rfl) (y_loadr 4 ty_25 rfl rfl rfl) (fun w h => h.weak (.cons _ (.cons _ (List.Sublist.refl _))) (fun s hs => hs)) (fun w h => h) rfl (pk_seq pk_fn) (by as_aux_lemma => kernel_rfl) rfl ?_
  refine a_one (i := 15) rfl rfl rfl (fun _ _ _ => tame_op (by as_aux_lemma => kernel_rfl)) (by as_aux_lemma => kernel_rfl) rfl ?_
  refine wl_gyes rfl rfl ?_
  refine o_bsl (vs := [_, _, _]) ([[42], [99], [98]] : List (Str)) enc_s Try.underlying36 ty_9 rfl rfl rfl rfl rfl rfl (fun As19 => ?_)
  refine wl_nil ?_
  refine e_one (fun w h => h.weak (.cons _ (.cons _ (.cons _ (List.Sublist.refl _)))) (fun s hs => hs)) ?_
  refine a_one (i := 16) rfl rfl rfl (tame_call rfl ent_42) (by as_aux_lemma => kernel_rfl) rfl ?_
  refine wl_gyes rfl rfl ?_
  refine o_callq rfl ent_42 rfl (c_host18 _ _ _ (by decide)) (fun w hw => (rd_cons (rd_Ls 0 rfl hw) rd_nil)) ?_
  refine wl_nil ?_
  refine e_one (fun w h => h.weak (.cons _ (.cons _ (.cons _ (List.Sublist.refl _)))) (fun s hs => hs)) ?_
  refine a_take (i := 17) rfl (wanted_yes rfl rfl) (y_eqls rfl rfl) (fun w h => h.weak (.cons _ (.cons _ (.cons _ (List.Sublist.refl _)))) (fun s hs => hs)) (fun w h => h) rfl (pk_seq pk_fn) (by as_aux_lemma => kernel_rfl) rfl ?_
  refine wa_at (t := 83) rfl (by rw [find_e hix, htl]; decide +kernel) ?_
  refine a_take (i := 18) rfl wanted_none (y_pick_t rfl rfl) (fun w h => h.weak (.cons _ (.cons _ (.cons _ (List.Sublist.refl _)))) (fun s hs => hs)) (fun w h => h) rfl (pk_seq pk_fn) (by as_aux_lemma => kernel_rfl) rfl ?_
  refine a_take (i := 19) rfl wanted_none (y_move rfl) (fun w h => h.weak (.cons _ (.cons _ (.cons _ (List.Sublist.refl _)))) (fun s hs => hs)) (fun w h => h) rfl (pk_seq pk_fn) (by as_aux_lemma => kernel_rfl) rfl ?_
  refine a_take (i := 20) rfl (wanted_yes rfl rfl) (y_field fa_50_0 rfl) (fun w h => h.weak (.cons _ (.cons _ (.cons _ (List.Sublist.refl _)))) (fun s hs => hs)) (fun w h => h) rfl (pk_seq pk_fn) (by as_aux_lemma => kernel_rfl) rfl ?_
  refine a_take (i := 21) rfl (wanted_yes rfl rfl) (y_loadr 2 ty_25 rfl rfl rfl) (fun w h => h.weak (.cons _ (.cons _ (.cons _ (List.Sublist.refl _)))) (fun s hs => hs)) (fun w h => h) rfl (pk_seq pk_fn) (by as_aux_lemma => kernel_rfl) rfl ?_
  refine a_one (i := 22) rfl rfl rfl (fun _ _ _ => tame_op (by as_aux_lemma => kernel_rfl)) (by as_aux_lemma => kernel_rfl) rfl ?_
  refine wl_gyes rfl rfl ?_
  refine o_bsl (vs := [_, _]) ([[42], [98]] : List (Str)) enc_s Try.underlying36 ty_9 rfl rfl rfl rfl rfl rfl (fun As20 => ?_)
  refine wl_nil ?_
  refine e_one (fun w h => h.weak (.cons _ (.cons _ (.cons _ (.cons _ (List.Sublist.refl _))))) (fun s hs => hs)) ?_
  refine a_one (i := 23) rfl rfl rfl (tame_call rfl ent_42) (by as_aux_lemma => kernel_rfl) rfl ?_
  refine wl_gyes rfl rfl ?_
  refine o_callq rfl ent_42 rfl (c_host18 _ _ _ (by decide)) (fun w hw => (rd_cons (rd_Ls 0 rfl hw) rd_nil)) ?_
  refine wl_nil ?_
  refine e_one (fun w h => h.weak (.cons _ (.cons _ (.cons _ (.cons _ (List.Sublist.refl _))))) (fun s hs => hs)) ?_
  refine a_take (i := 24) rfl (wanted_yes rfl rfl) (y_eqls rfl rfl) (fun w h => h.weak (.cons _ (.cons _ (.cons _ (.cons _ (List.Sublist.refl _))))) (fun s hs => hs)) (fun w h => h) rfl (pk_seq pk_fn) (by as_aux_lemma => kernel_rfl) rfl ?_
  refine wa_at (t := 90) rfl (by rw [find_e hix, htl]; decide +kernel) ?_
  refine a_take (i := 25) rfl wanted_none (y_pick_t rfl rfl) (fun w h => h.weak (.cons _ (.cons _ (.cons _ (.cons _ (List.Sublist.refl _))))) (fun s hs => hs)) (fun w h => h) rfl (pk_seq pk_fn) (by as_aux_lemma => kernel_rfl) rfl ?_
  refine a_take (i := 26) rfl wanted_none (y_move rfl) (fun w h => h.weak (.cons _ (.cons _ (.cons _ (.cons _ (List.Sublist.refl _))))) (fun s hs => hs)) (fun w h => h) rfl (pk_seq pk_fn) (by as_aux_lemma => kernel_rfl) rfl ?_
  refine a_take (i := 27) rfl (wanted_yes rfl rfl) (y_move rfl) (fun w h => h.weak (.cons _ (.cons _ (.cons _ (.cons _ (List.Sublist.refl _))))) (fun s hs => hs)) (fun w h => h) rfl (pk_seq pk_fn) (by as_aux_lemma => kernel_rfl) rfl ?_
  refine a_take (i := 28) rfl (wanted_yes rfl rfl) (y_not rfl) (fun w h => h.weak (.cons _ (.cons _ (.cons _ (.cons _ (List.Sublist.refl _))))) (fun s hs => hs)) (fun w h => h) rfl (pk_seq pk_fn) (by as_aux_lemma => kernel_rfl) rfl ?_
  refine a_take (i := 29) rfl wanted_none (y_pick_t rfl rfl) (fun w h => h.weak (.cons _ (.cons _ (.cons _ (.cons _ (List.Sublist.refl _))))) (fun s hs => hs)) (fun w h => h) rfl (pk_seq pk_fn) (by as_aux_lemma => kernel_rfl) rfl ?_
  refine a_take (i := 30) rfl wanted_none (y_move rfl) (fun w h => h.weak (.cons _ (.cons _ (.cons _ (.cons _ (List.Sublist.refl _))))) (fun s hs => hs)) (fun w h => h) rfl (pk_seq pk_fn) (by as_aux_lemma => kernel_rfl) rfl ?_
  refine a_take (i := 31) rfl (wanted_yes rfl rfl) (y_move rfl) (fun w h => h.weak (.cons _ (.cons _ (.cons _ (.cons _ (List.Sublist.refl _))))) (fun s hs => hs)) (fun w h => h) rfl (pk_seq pk_fn) (by as_aux_lemma => kernel_rfl) rfl ?_
  refine a_one (i := 32) rfl rfl rfl (tame_call rfl ent_48) (by as_aux_lemma => kernel_rfl) rfl ?_
  refine wl_gyes rfl rfl ?_
  refine o_callq rfl ent_48 rfl (c_Len ix) (fun w hw => (rd_cons (rd_all (rd_L 14 rfl hw) (.head _)) rd_nil)) ?_
  refine wl_nil ?_
  refine e_one (fun w h => h.weak (.cons _ (.cons _ (.cons _ (.cons _ (List.Sublist.refl _))))) (fun s hs => hs)) ?_
  refine a_take (i := 33) rfl (wanted_yes rfl rfl) (y_eql rfl rfl) (fun w h => h.weak (.cons _ (.cons _ (.cons _ (.cons _ (List.Sublist.refl _))))) (fun s hs => hs)) (fun w h => h) rfl (pk_seq pk_fn) (by as_aux_lemma => kernel_rfl) rfl ?_
  refine wa_at (t := 99) rfl (by rw [ix_len hix, es_len htl]; decide +kernel) ?_
  refine a_take (i := 34) rfl wanted_none (y_pick_t rfl rfl) (fun w h => h.weak (.cons _ (.cons _ (.cons _ (.cons _ (List.Sublist.refl _))))) (fun s hs => hs)) (fun w h => h) rfl (pk_seq pk_fn) (by as_aux_lemma => kernel_rfl) rfl ?_
  refine a_take (i := 35) rfl wanted_none (y_assign rfl) (fun w h => h.weak (.cons _ (.cons _ (.cons _ (.cons _ (List.Sublist.refl _))))) (fun s hs => hs)) (fun w h => h) rfl (pk_seq pk_fn) (by as_aux_lemma => kernel_rfl) rfl ?_
  refine a_done (by as_aux_lemma => kernel_rfl) ?_
  refine e_seq ?_
  refine w_ret ?_
  refine e_ret (ts := [0]) rfl rfl rfl (fun w hw => ?_)
  exact ⟨rfl, hw.base⟩
end Go.Proofs.Ytckfjfnkombelaa
