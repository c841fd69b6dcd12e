import Derived.Test.YtfmelbpgkbiooaaGreatLuS
/- routes -/
namespace Go.Proofs.YtfmelbpgkbiooaaGreat
open Go.RowKit Go.Shelf
set_option linter.unusedVariables false
set_option linter.unusedSimpArgs false

theorem bu_38 : Tryz.prog.built 38 [] = some [.bool false, .int .u64 0, .int .u64 0, .string ⟨#[]⟩, .string ⟨#[]⟩].toArray := by kernel_rfl
theorem bu_38_0_1_2 (x0 : Bool) (x1 : Int) (x2 : Int) (x3 : Str) (x4 : Str) : Tryz.prog.built 38 [(0, .agg [.bool x0, .int .u64 x1, .int .u64 x2].toArray), (1, .string (ba x3)), (2, .string (ba x4))] = some [.bool x0, .int .u64 x1, .int .u64 x2, .string (ba x3), .string (ba x4)].toArray := by kernel_rfl
theorem ent_105 : Enters Tryz.prog 105 := enters_of Tryz.func105 (by kernel_rfl) rfl
theorem ent_107 : Enters Tryz.prog 107 := enters_of Tryz.func107 (by kernel_rfl) rfl
theorem ent_108 : Enters Tryz.prog 108 := enters_of Tryz.func108 (by kernel_rfl) rfl
theorem ent_109 : Enters Tryz.prog 109 := enters_of Tryz.func109 (by kernel_rfl) rfl
theorem ent_13 : Enters Tryz.prog 13 := enters_of Tryz.func13 (by kernel_rfl) rfl
theorem ent_142 : Enters Tryz.prog 142 := enters_of Tryz.func142 (by kernel_rfl) rfl
theorem ent_55 : Enters Tryz.prog 55 := enters_of Tryz.func55 (by kernel_rfl) rfl
theorem ent_60 : Enters Tryz.prog 60 := enters_of Tryz.func60 (by kernel_rfl) rfl
theorem ent_64 : Enters Tryz.prog 64 := enters_of Tryz.func64 (by kernel_rfl) rfl
theorem fa_38_0 : FA Tryz.prog 38 0 0 := fun b o w => by kernel_rfl
theorem fa_38_2 : FA Tryz.prog 38 2 4 := fun b o w => by kernel_rfl
theorem ty_103 : TyI Tryz.prog 103 false 1 8 (.map none) := TyI.mk' (by kernel_rfl) (fun _ => by kernel_rfl)
theorem ty_38 : TyI Tryz.prog 38 true 5 56 (.agg #[.bool false, .int .u64 0, .int .u64 0, .string ⟨#[]⟩, .string ⟨#[]⟩]) := TyI.mk' (by kernel_rfl) (fun _ => by kernel_rfl)
theorem ty_50 : TyI Tryz.prog 50 false 1 24 (.slice none 0 0) := TyI.mk' (by kernel_rfl) (fun _ => by kernel_rfl)

structure Rt where
  ad : Ad
  host : Str
  cl : Str
  deriving DecidableEq
def rtC (r : Rt) : List Value := [.bool r.ad.six, .int .u64 r.ad.hi, .int .u64 r.ad.lo, .string (ba r.host), .string (ba r.cl)]
theorem enc_rt : Enc rtC 5 := ⟨fun _ => rfl, fun _ => rfl⟩
def rt0 : Rt := ⟨ad0, [], []⟩
abbrev encRt : Rt → Value := fun r => .agg (rtC r).toArray
def encR1 (r : Rt) : List Value := [.agg (rtC r).toArray]
theorem eqd_rt (a b : Rt) : EqD Tryz.prog 3 38 (.agg (rtC a).toArray) (.agg (rtC b).toArray) (decide (a = b)) := by
  have h : EqD Tryz.prog 3 38 (.agg (rtC a).toArray) (.agg (rtC b).toArray) (decide (a.ad = b.ad) && ((a.host == b.host) && ((a.cl == b.cl) && true))) :=
    eqd_struct (n := 2) Tryz.underlying38 (by kernel_rfl) (eqf_cons (v := .agg (adC a.ad).toArray) (u := .agg (adC b.ad).toArray) (by kernel_rfl) (fun _ => by kernel_rfl) (fun _ => by kernel_rfl) (eqd_ad a.ad b.ad) rfl (eqf_cons (v := .string (ba a.host)) (u := .string (ba b.host)) (by kernel_rfl) (fun _ => by kernel_rfl) (fun _ => by kernel_rfl) (eqd_str Tryz.underlying36) rfl (eqf_cons (v := .string (ba a.cl)) (u := .string (ba b.cl)) (by kernel_rfl) (fun _ => by kernel_rfl) (fun _ => by kernel_rfl) (eqd_str Tryz.underlying9) rfl eqf_nil)))
  have e : (decide (a.ad = b.ad) && ((a.host == b.host) && ((a.cl == b.cl) && true))) = decide (a = b) := by
    cases a; cases b
    rw [Bool.eq_iff_iff]
    simp
  rw [e] at h; exact h
def kdA (a : Ad) : Int := if a.six = true then 1 else 0
def orJ : List Int → Int
  | [] => 0
  | x :: r => if x ≠ 0 then x else orJ r
def cmpA (a b : Ad) : Int := orJ [cmpI (kdA a) (kdA b), cmpI a.hi b.hi, cmpI a.lo b.lo]
theorem cmpI_neg (a b : Int) : cmpI a b < 0 ↔ a < b := by
  unfold cmpI
  split
  · omega
  · split <;> omega
theorem cmpI_zero (a b : Int) : cmpI a b = 0 ↔ a = b := by
  unfold cmpI
  split
  · omega
  · split <;> omega
theorem cmpA_neg (a b : Ad) : cmpA a b < 0 ↔ kdA a < kdA b ∨ (kdA a = kdA b ∧ (a.hi < b.hi ∨ (a.hi = b.hi ∧ a.lo < b.lo))) := by
  have h1 := cmpI_neg (kdA a) (kdA b); have h2 := cmpI_neg a.hi b.hi; have h3 := cmpI_neg a.lo b.lo
  have g1 := cmpI_zero (kdA a) (kdA b); have g2 := cmpI_zero a.hi b.hi; have g3 := cmpI_zero a.lo b.lo
  simp only [cmpA, orJ]
  by_cases c1 : cmpI (kdA a) (kdA b) = 0
  · rw [if_neg (fun q => q c1)]
    by_cases c2 : cmpI a.hi b.hi = 0
    · rw [if_neg (fun q => q c2)]
      by_cases c3 : cmpI a.lo b.lo = 0
      · rw [if_neg (fun q => q c3)]; omega
      · rw [if_pos c3]; omega
    · rw [if_pos c2]; omega
  · rw [if_pos c1]; omega
instance : Inhabited {x : Rt // True} := ⟨⟨rt0, trivial⟩⟩
theorem swo_rt : Go.Sort.SWO (α := {x : Rt // True}) (Go.Proofs.ltOf fun x y : {x : Rt // True} => cmpA x.1.ad y.1.ad) where
  irrefl x := by simp only [ltOf, decide_eq_false_iff_not, cmpA_neg]; omega
  trans x y z h1 h2 := by simp only [ltOf, decide_eq_true_eq, cmpA_neg] at *; omega
  ntrans x y z h1 h2 := by simp only [ltOf, decide_eq_false_iff_not, cmpA_neg] at *; omega
/-- An address' route. -/
def rtI (x : Ixd) (a : Ad) : Rt := if (lkp x.am a).isSome = true then ⟨a, ((lkp x.am a).getD le0).e.host, ((lkp x.am a).getD le0).e.cluster⟩ else rt0

theorem c_isNaNu (n : Int) : Pure Tryz.prog 142 #[.int .u64 n] (.bool false) := by
 intro w0
 refine calls_of_W (ok0 := no) (S := []) (args := [.int .u64 n]) 6 Tryz.func142 rfl rfl rfl (by simp) (by simp) ?_
 refine w_seq ?_
 refine w_region ?_
 refine o_y (y_assign rfl) rfl rfl ?_
 refine wl_nil ?_
 refine e_seq ?_
 refine w_seq ?_
 refine w_region ?_
 refine o_y (y_move rfl) rfl rfl ?_
 refine o_y (y_move rfl) rfl rfl ?_
 refine o_y (y_neq rfl rfl) rfl rfl ?_
 refine o_y (y_assign rfl) rfl rfl ?_
 refine wl_nil ?_
 refine e_seq ?_
 refine w_ret ?_
 refine e_ret (ts := [2]) rfl rfl rfl (fun w hw => ?_)
 exact ⟨by show Ending.returned (.bool _) = _; congr 2; simp, hw.base⟩

theorem c_cmpU (a b : Int) : Pure Tryz.prog 108 #[.int .u64 a, .int .u64 b] (.int .i64 (cmpI a b)) := by
 intro w0
 refine calls_of_W (ok0 := no) (S := []) (args := [.int .u64 a, .int .u64 b]) 20 Tryz.func108 rfl rfl rfl (by simp) (by simp) ?_
 refine w_seq ?_
 refine w_region ?_
 refine o_y (y_assign rfl) rfl rfl ?_
 refine wl_nil ?_
 refine e_seq ?_
 refine w_seq ?_
 refine w_region ?_
 refine o_y (y_move rfl) rfl rfl ?_
 refine o_callp rfl ent_142 (c_isNaNu _) rfl ?_
 refine wl_as (t := 8) (.bool false) rfl (congrArg Value.bool rfl) ?_
 refine o_y (y_assign rfl) rfl rfl ?_
 refine wl_nil ?_
 refine e_seq ?_
 refine w_seq ?_
 refine w_region ?_
 refine o_y (y_move rfl) rfl rfl ?_
 refine o_callp rfl ent_142 (c_isNaNu _) rfl ?_
 refine wl_as (t := 10) (.bool false) rfl (congrArg Value.bool rfl) ?_
 refine o_y (y_assign rfl) rfl rfl ?_
 refine wl_nil ?_
 refine e_seq ?_
 refine w_seq ?_
 refine w_seq ?_
 refine w_region ?_
 refine o_y (y_move rfl) rfl rfl ?_
 refine wl_nil ?_
 refine e_seq ?_
 refine w_cond_f rfl ?_
 refine w_skip ?_
 refine e_seq ?_
 refine w_seq ?_
 refine w_seq ?_
 refine w_region ?_
 refine o_y (y_move rfl) rfl rfl ?_
 refine wl_nil ?_
 refine e_seq ?_
 refine w_cond_f rfl ?_
 refine w_skip ?_
 refine e_seq ?_
 refine w_seq ?_
 refine w_seq ?_
 refine w_region ?_
 refine o_y (y_move rfl) rfl rfl ?_
 refine o_y (y_move rfl) rfl rfl ?_
 refine o_y (y_lss rfl rfl) rfl rfl ?_
 refine wl_splitp (t := 16) rfl (fun h9_2 => ?_) (fun h9_2 => ?_)
 refine wl_nil ?_
 refine e_seq ?_
 refine w_cond_t rfl ?_
 refine w_seq ?_
 refine w_region ?_
 refine o_y (y_assign rfl) rfl rfl ?_
 refine wl_nil ?_
 refine e_seq ?_
 refine w_ret ?_
 refine e_seq_ret ?_
 refine e_ret (ts := [4]) rfl rfl rfl (fun w hw => ?_)
 refine ⟨?_, hw.base⟩
 show Ending.returned (.int _ _) = _
 congr 2
 focus first
   | (rw [cmpI, if_pos h9_2]
      done)
   | (rw [cmpI, if_neg h9_2, if_pos (by omega)]
      done)
   | (rw [cmpI, if_neg h9_2, if_neg (by omega)]
      done)
 refine wl_nil ?_
 refine e_seq ?_
 refine w_cond_f rfl ?_
 refine w_skip ?_
 refine e_seq ?_
 refine w_seq ?_
 refine w_seq ?_
 refine w_region ?_
 refine o_y (y_move rfl) rfl rfl ?_
 refine o_y (y_move rfl) rfl rfl ?_
 refine o_y (y_gtr rfl rfl) rfl rfl ?_
 refine wl_splitp (t := 19) rfl (fun h11_2 => ?_) (fun h11_2 => ?_)
 refine wl_nil ?_
 refine e_seq ?_
 refine w_cond_t rfl ?_
 refine w_seq ?_
 refine w_region ?_
 refine o_y (y_assign rfl) rfl rfl ?_
 refine wl_nil ?_
 refine e_seq ?_
 refine w_ret ?_
 refine e_seq_ret ?_
 refine e_ret (ts := [4]) rfl rfl rfl (fun w hw => ?_)
 refine ⟨?_, hw.base⟩
 show Ending.returned (.int _ _) = _
 congr 2
 focus first
   | (rw [cmpI, if_pos h9_2]
      done)
   | (rw [cmpI, if_neg h9_2, if_pos (by omega)]
      done)
   | (rw [cmpI, if_neg h9_2, if_neg (by omega)]
      done)
 refine wl_nil ?_
 refine e_seq ?_
 refine w_cond_f rfl ?_
 refine w_skip ?_
 refine e_seq ?_
 refine w_seq ?_
 refine w_region ?_
 refine o_y (y_assign rfl) rfl rfl ?_
 refine wl_nil ?_
 refine e_seq ?_
 refine w_ret ?_
 refine e_ret (ts := [4]) rfl rfl rfl (fun w hw => ?_)
 refine ⟨?_, hw.base⟩
 show Ending.returned (.int _ _) = _
 congr 2
 focus first
   | (rw [cmpI, if_pos h9_2]
      done)
   | (rw [cmpI, if_neg h9_2, if_pos (by omega)]
      done)
   | (rw [cmpI, if_neg h9_2, if_neg (by omega)]
      done)

theorem c_kind (a : Ad) : Pure Tryz.prog 107 #[.agg (adC a).toArray] (.int .i64 (kdA a)) := by
 intro w0
 refine calls_of_W (ok0 := no) (S := []) (args := [.agg (adC a).toArray]) 5 Tryz.func107 rfl rfl rfl (by simp) (by simp) ?_
 refine w_seq ?_
 refine w_region ?_
 refine o_box rfl rfl rfl (fun b1 => ?_)
 refine o_y (y_assign rfl) rfl rfl ?_
 refine wl_nil ?_
 refine e_seq ?_
 refine w_seq ?_
 refine w_seq ?_
 refine w_region ?_
 refine o_y (y_field fa_28_0 rfl) rfl rfl ?_
 refine o_y (y_loadr 0 ty_4 rfl rfl rfl) rfl rfl ?_
 refine wl_splitb (t := 4) rfl (fun h1_1 => ?_) (fun h1_1 => ?_)
 refine wl_nil ?_
 refine e_seq ?_
 refine w_cond_t rfl ?_
 refine w_seq ?_
 refine w_region ?_
 refine o_y (y_assign rfl) rfl rfl ?_
 refine wl_nil ?_
 refine e_seq ?_
 refine w_ret ?_
 refine e_seq_ret ?_
 refine e_ret (ts := [2]) rfl rfl rfl (fun w hw => ?_)
 refine ⟨?_, hw.base⟩
 show Ending.returned (.int _ _) = _
 congr 2
 focus first
   | (rw [kdA, if_pos h1_1]
      done)
   | (rw [kdA, if_neg (by rw [h1_1]; decide)]
      done)
 refine wl_nil ?_
 refine e_seq ?_
 refine w_cond_f rfl ?_
 refine w_skip ?_
 refine e_seq ?_
 refine w_seq ?_
 refine w_region ?_
 refine o_y (y_assign rfl) rfl rfl ?_
 refine wl_nil ?_
 refine e_seq ?_
 refine w_ret ?_
 refine e_ret (ts := [2]) rfl rfl rfl (fun w hw => ?_)
 refine ⟨?_, hw.base⟩
 show Ending.returned (.int _ _) = _
 congr 2
 focus first
   | (rw [kdA, if_pos h1_1]
      done)
   | (rw [kdA, if_neg (by rw [h1_1]; decide)]
      done)

theorem c_Or (l : List Int) (A : Option Addr) (c : Nat) (hl : l.length ≤ 1000000) : RC Tryz.prog 105 #[.slice A l.length c] [Ch.rd A 1 enci l] (α := Unit) (fun _ => .int .i64 (orJ l)) (fun _ => []) := by
 refine rc_of_W (args := [.slice A l.length c]) 18 Tryz.func105 rfl rfl rfl (fun w0 => ?_)
 refine w_seq ?_
 refine w_region ?_
 refine o_y (y_assign rfl) rfl rfl ?_
 refine wl_nil ?_
 refine e_seq ?_
 refine w_seq ?_
 refine w_region ?_
 refine o_y (y_assign rfl) rfl rfl ?_
 refine wl_nil ?_
 refine e_seq ?_
 refine w_seq ?_
 refine w_seq ?_
 refine w_region ?_
 refine o_y (y_move rfl) rfl rfl ?_
 refine o_y (y_lenl Tryz.underlying44 rfl) rfl rfl ?_
 refine o_y (y_move rfl) rfl rfl ?_
 refine wl_nil ?_
 refine e_seq ?_
 refine w_block ?_
 refine w_loop0 (σ := Nat) [2, 5, 8, 9, 10, 11, 12, 13, 14, 15, 16] (fun k => k ≤ l.length ∧ orJ l = orJ (l.drop k)) (fun k => l.length - k) (fun k => [(8, .int .i64 k)]) (0) ?_ ⟨rfl, trivial⟩ (fun k hI => ?_)
 exact ⟨Nat.zero_le _, rfl⟩
 refine w_seq ?_
 refine w_region ?_
 refine o_y (y_lss rfl rfl) rfl rfl ?_
 refine wl_splitp (t := 9) rfl (fun h3_0 => ?_) (fun h3_0 => ?_)
 have hdk := drop_getD l (0 : Int) k (by omega)
 refine wl_nil ?_
 refine e_seq ?_
 refine w_seq ?_
 refine w_cond_t rfl ?_
 refine w_skip ?_
 refine e_seq ?_
 refine w_seq ?_
 refine w_block ?_
 refine w_seq ?_
 refine w_region ?_
 refine o_y (y_ixm  Tryz.underlying44 ty_3 rfl rfl (rs_S 0 rfl) rfl (by omega)) rfl rfl ?_
 refine o_y (y_ldm0 enc_i (0 : Int) ty_3 rfl (rs_S 0 rfl) (by omega) rfl rfl) rfl rfl ?_
 refine o_y (y_assign rfl) rfl rfl ?_
 refine wl_nil ?_
 refine e_seq ?_
 refine w_seq ?_
 refine w_region ?_
 refine o_y (y_move rfl) rfl rfl ?_
 refine o_y (y_move rfl) rfl rfl ?_
 refine o_y (y_neq rfl rfl) rfl rfl ?_
 refine wl_splitp (t := 14) rfl (fun h5_2 => ?_) (fun h5_2 => ?_)
 refine wl_nil ?_
 refine e_seq ?_
 refine w_cond_t rfl ?_
 refine w_seq ?_
 refine w_region ?_
 refine o_y (y_move rfl) rfl rfl ?_
 refine o_y (y_assign rfl) rfl rfl ?_
 refine wl_nil ?_
 refine e_seq ?_
 refine w_ret ?_
 refine e_blk_ret ?_
 refine e_seq_ret ?_
 refine e_loop_ret ?_
 refine e_blk_ret ?_
 refine e_seq_ret ?_
 refine e_ret (ts := [2]) rfl rfl rfl (fun w hw => ?_)
 have he : orJ l = l.getD k 0 := by rw [hI.2, hdk, orJ, if_pos (by omega)]
 exact ⟨(), by rw [he]; rfl, hw.base, (hw.weak (List.nil_sublist _) (fun s hs => hs)).toNews⟩
 refine wl_nil ?_
 refine e_seq ?_
 refine w_cond_f rfl ?_
 refine w_skip ?_
 refine e_blk ?_
 refine e_seq ?_
 refine w_region ?_
 refine o_y (y_addi rfl rfl (by omega) (by omega)) rfl rfl ?_
 refine o_y (y_move rfl) rfl rfl ?_
 refine wl_nil ?_
 refine e_back (k + 1) ?_ ?_ ⟨rfl, trivial⟩ (by repeat (first | exact trivial | refine ⟨rfl, ?_⟩)) (fun w h => h)
 exact ⟨by omega, by rw [hI.2, hdk, orJ, if_neg (by omega)]⟩
 omega
 refine wl_nil ?_
 refine e_seq ?_
 refine w_seq ?_
 refine w_cond_f rfl ?_
 refine w_exit ?_
 refine e_seq_exit ?_
 refine e_loop_exit ?_
 refine e_blk_hit ?_
 refine e_seq ?_
 refine w_seq ?_
 refine w_region ?_
 refine o_y (y_move rfl) rfl rfl ?_
 refine o_y (y_assign rfl) rfl rfl ?_
 refine wl_nil ?_
 refine e_seq ?_
 refine w_ret ?_
 refine e_ret (ts := [2]) rfl rfl rfl (fun w hw => ?_)
 have he : orJ l = 0 := by rw [hI.2, List.drop_of_length_le (by omega)]; rfl
 exact ⟨(), by rw [he]; rfl, hw.base, (hw.weak (List.nil_sublist _) (fun s hs => hs)).toNews⟩

set_option maxRecDepth 100000 in
theorem c_addr_Compare (a b : Ad) : Pure Tryz.prog 60 #[.agg (adC a).toArray, .agg (adC b).toArray] (.int .i64 (cmpA a b)) := by
 intro w0
 refine calls_of_W (ok0 := no) (S := []) (args := [.agg (adC a).toArray, .agg (adC b).toArray]) 22 Tryz.func60 rfl rfl rfl (by simp) (by simp) ?_
 refine w_seq ?_
 refine w_region ?_
 refine o_box rfl rfl rfl (fun b1 => ?_)
 refine o_box rfl rfl rfl (fun b2 => ?_)
 refine o_y (y_assign rfl) rfl rfl ?_
 refine wl_nil ?_
 refine e_seq ?_
 refine w_seq ?_
 refine w_draw 18 rfl mixed ?_
 refine a_take (i := 0) rfl wanted_none (y_loadrs 1 ty_28 rfl rfl rfl rfl) (fun w h => h) (fun w h => h) rfl (pk_seq pk_fn) (by kernel_rfl) rfl ?_
 refine a_take (i := 2) rfl wanted_none (y_loadrs 0 ty_28 rfl rfl rfl rfl) (fun w h => h) (fun w h => h) rfl (pk_seq pk_fn) (by kernel_rfl) rfl ?_
 refine a_take (i := 5) rfl wanted_none (y_field fa_28_1 rfl) (fun w h => h) (fun w h => h) rfl (pk_seq pk_fn) (by kernel_rfl) rfl ?_
 refine a_take (i := 6) rfl wanted_none (y_loadr 1 ty_26 rfl rfl rfl) (fun w h => h) (fun w h => h) rfl (pk_seq pk_fn) (by kernel_rfl) rfl ?_
 refine a_take (i := 7) rfl wanted_none (y_field fa_28_1 rfl) (fun w h => h) (fun w h => h) rfl (pk_seq pk_fn) (by kernel_rfl) rfl ?_
 refine a_take (i := 8) rfl wanted_none (y_loadr 0 ty_26 rfl rfl rfl) (fun w h => h) (fun w h => h) rfl (pk_seq pk_fn) (by kernel_rfl) rfl ?_
 refine a_take (i := 10) rfl wanted_none (y_field fa_28_2 rfl) (fun w h => h) (fun w h => h) rfl (pk_seq pk_fn) (by kernel_rfl) rfl ?_
 refine a_take (i := 11) rfl wanted_none (y_loadr 1 ty_26 rfl rfl rfl) (fun w h => h) (fun w h => h) rfl (pk_seq pk_fn) (by kernel_rfl) rfl ?_
 refine a_take (i := 12) rfl wanted_none (y_field fa_28_2 rfl) (fun w h => h) (fun w h => h) rfl (pk_seq pk_fn) (by kernel_rfl) rfl ?_
 refine a_take (i := 13) rfl wanted_none (y_loadr 0 ty_26 rfl rfl rfl) (fun w h => h) (fun w h => h) rfl (pk_seq pk_fn) (by kernel_rfl) rfl ?_
 refine a_one (i := 1) rfl rfl rfl (tame_call rfl ent_107) (by kernel_rfl) rfl ?_
 refine o_callp rfl ent_107 (c_kind _) rfl ?_
 refine wl_nil ?_
 refine e_one (fun w h => h) ?_
 refine a_one (i := 3) rfl rfl rfl (tame_call rfl ent_107) (by kernel_rfl) rfl ?_
 refine o_callp rfl ent_107 (c_kind _) rfl ?_
 refine wl_nil ?_
 refine e_one (fun w h => h) ?_
 refine a_one (i := 4) rfl rfl rfl (tame_call rfl ent_106) (by kernel_rfl) rfl ?_
 refine o_callp rfl ent_106 (c_cmpI _ _) rfl ?_
 refine wl_nil ?_
 refine e_one (fun w h => h) ?_
 refine a_one (i := 9) rfl rfl rfl (tame_call rfl ent_108) (by kernel_rfl) rfl ?_
 refine o_callp rfl ent_108 (c_cmpU _ _) rfl ?_
 refine wl_nil ?_
 refine e_one (fun w h => h) ?_
 refine a_one (i := 14) rfl rfl rfl (tame_call rfl ent_108) (by kernel_rfl) rfl ?_
 refine o_callp rfl ent_108 (c_cmpU _ _) rfl ?_
 refine wl_nil ?_
 refine e_one (fun w h => h) ?_
 refine a_one (i := 15) rfl rfl rfl (fun _ _ _ => tame_op (by kernel_rfl)) (by kernel_rfl) rfl ?_
 refine o_bsl (vs := [_, _, _]) ([cmpI (kdA a) (kdA b), cmpI a.hi b.hi, cmpI a.lo b.lo] : List (Int)) enc_i Tryz.underlying44 ty_3 rfl rfl rfl rfl rfl rfl (fun As3 => ?_)
 refine wl_nil ?_
 refine e_one (fun w h => h.weak (.cons _ (List.Sublist.refl _)) (fun s hs => hs)) ?_
 refine a_one (i := 16) rfl rfl rfl (tame_call rfl ent_105) (by kernel_rfl) rfl ?_
 refine o_callq rfl ent_105 rfl (c_Or [cmpI (kdA a) (kdA b), cmpI a.hi b.hi, cmpI a.lo b.lo] _ _ (by simp)) (fun w hw => (rd_cons (rd_Ls 0 rfl hw) rd_nil)) ?_
 refine wl_nil ?_
 refine e_one (fun w h => h.weak (.cons _ (List.Sublist.refl _)) (fun s hs => hs)) ?_
 refine a_take (i := 17) rfl wanted_none (y_assign rfl) (fun w h => h.weak (.cons _ (List.Sublist.refl _)) (fun s hs => hs)) (fun w h => h) rfl (pk_seq pk_fn) (by kernel_rfl) rfl ?_
 refine a_done (by kernel_rfl) ?_
 refine e_seq ?_
 refine w_ret ?_
 refine e_ret (ts := [4]) rfl rfl rfl (fun w hw => ?_)
 exact ⟨rfl, hw.base⟩

theorem c_rAll1 (a b : Rt) : Pure Tryz.prog 59 #[.agg (rtC a).toArray, .agg (rtC b).toArray] (.int .i64 (cmpA a.ad b.ad)) := by
 intro w0
 refine calls_of_W (ok0 := no) (S := []) (args := [.agg (rtC a).toArray, .agg (rtC b).toArray]) 10 Tryz.func59 rfl rfl rfl (by simp) (by simp) ?_
 refine w_seq ?_
 refine w_region ?_
 refine o_box rfl rfl rfl (fun b1 => ?_)
 refine o_box rfl rfl rfl (fun b2 => ?_)
 refine o_y (y_assign rfl) rfl rfl ?_
 refine wl_nil ?_
 refine e_seq ?_
 refine w_seq ?_
 refine w_region ?_
 refine o_y (y_field fa_38_0 rfl) rfl rfl ?_
 refine o_y (y_loadrs 1 ty_28 rfl rfl rfl rfl) rfl rfl ?_
 refine o_y (y_field fa_38_0 rfl) rfl rfl ?_
 refine o_y (y_loadrs 0 ty_28 rfl rfl rfl rfl) rfl rfl ?_
 refine o_callp rfl ent_60 (c_addr_Compare a.ad b.ad) rfl ?_
 refine o_y (y_assign rfl) rfl rfl ?_
 refine wl_nil ?_
 refine e_seq ?_
 refine w_ret ?_
 refine e_ret (ts := [4]) rfl rfl rfl (fun w hw => ?_)
 exact ⟨rfl, hw.base⟩

set_option maxRecDepth 100000 in
theorem c_Equal_rt (xs ys : List Rt) (A B : Option Addr) (c e : Nat) (hl : xs.length ≤ 1000000000000) : RC Tryz.prog 64 #[.slice A xs.length c, .slice B ys.length e] [Ch.rd A 5 rtC xs, Ch.rd B 5 rtC ys] (α := Unit) (fun _ => .bool (decide (xs = ys))) (fun _ => []) := by
 refine rc_of_W (args := [.slice A xs.length c, .slice B ys.length e]) 26 Tryz.func64 rfl rfl rfl (fun w0 => ?_)
 refine w_seq ?_
 refine w_region ?_
 refine o_y (y_assign rfl) rfl rfl ?_
 refine wl_nil ?_
 refine e_seq ?_
 refine w_seq ?_
 refine w_seq ?_
 refine w_region ?_
 refine o_y (y_move rfl) rfl rfl ?_
 refine o_y (y_lenl Tryz.underlying50 rfl) rfl rfl ?_
 refine o_y (y_move rfl) rfl rfl ?_
 refine o_y (y_lenl Tryz.underlying50 rfl) rfl rfl ?_
 refine o_y (y_neq rfl rfl) rfl rfl ?_
 refine wl_splitp (t := 10) rfl (fun h1_4 => ?_) (fun h1_4 => ?_)
 refine wl_nil ?_
 refine e_seq ?_
 refine w_cond_t rfl ?_
 refine w_seq ?_
 refine w_region ?_
 refine o_y (y_assign rfl) rfl rfl ?_
 refine wl_nil ?_
 refine e_seq ?_
 refine w_ret ?_
 refine e_seq_ret ?_
 refine e_ret (ts := [4]) rfl rfl rfl (fun w hw => ?_)
 have hne : xs ≠ ys := fun he => by rw [he] at h1_4; exact absurd rfl h1_4
 exact ⟨(), by rw [decide_eq_false hne]; rfl, hw.base, hw.toNews⟩
 refine wl_nil ?_
 refine e_seq ?_
 refine w_cond_f rfl ?_
 refine w_skip ?_
 refine e_seq ?_
 refine w_seq ?_
 refine w_seq ?_
 refine w_region ?_
 refine o_y (y_move rfl) rfl rfl ?_
 refine o_y (y_lenl Tryz.underlying50 rfl) rfl rfl ?_
 refine o_y (y_move rfl) rfl rfl ?_
 refine wl_nil ?_
 refine e_seq ?_
 refine w_block ?_
 refine w_loop0 (σ := Nat) [4, 5, 13, 14, 15, 16, 17, 18, 19, 20, 21, 22, 23, 24, 25] (fun k => k ≤ xs.length ∧ xs.take k = ys.take k) (fun k => xs.length - k) (fun k => [(13, .int .i64 k)]) (0) ?_ ⟨rfl, trivial⟩ (fun k hI => ?_)
 exact ⟨Nat.zero_le _, rfl⟩
 refine w_seq ?_
 refine w_region ?_
 refine o_y (y_lss rfl rfl) rfl rfl ?_
 refine wl_splitp (t := 14) rfl (fun h4_0 => ?_) (fun h4_0 => ?_)
 refine wl_nil ?_
 refine e_seq ?_
 refine w_seq ?_
 refine w_cond_t rfl ?_
 refine w_skip ?_
 refine e_seq ?_
 refine w_seq ?_
 refine w_block ?_
 refine w_seq ?_
 refine w_region ?_
 refine o_y (y_move rfl) rfl rfl ?_
 refine o_y (y_assign rfl) rfl rfl ?_
 refine wl_nil ?_
 refine e_seq ?_
 refine w_seq ?_
 refine w_draw 9 rfl mixed ?_
 refine a_take (i := 0) rfl wanted_none (y_move rfl) (fun w h => h) (fun w h => h) rfl (pk_seq (pk_blk (pk_seq (pk_loop (pk_blk (pk_seq pk_fn)))))) (by kernel_rfl) rfl ?_
 refine a_take (i := 1) rfl wanted_none (y_move rfl) (fun w h => h) (fun w h => h) rfl (pk_seq (pk_blk (pk_seq (pk_loop (pk_blk (pk_seq pk_fn)))))) (by kernel_rfl) rfl ?_
 refine a_take (i := 2) rfl wanted_none (y_ixm  Tryz.underlying50 ty_38 rfl rfl (rs_S 0 rfl) rfl (by omega)) (fun w h => h) (fun w h => h) rfl (pk_seq (pk_blk (pk_seq (pk_loop (pk_blk (pk_seq pk_fn)))))) (by kernel_rfl) rfl ?_
 refine a_take (i := 3) rfl wanted_none (y_ldsm0 enc_rt rt0 ty_38 rfl (rs_S 0 rfl) (by omega) rfl rfl rfl) (fun w h => h) (fun w h => h) rfl (pk_seq (pk_blk (pk_seq (pk_loop (pk_blk (pk_seq pk_fn)))))) (by kernel_rfl) rfl ?_
 refine a_take (i := 4) rfl wanted_none (y_move rfl) (fun w h => h) (fun w h => h) rfl (pk_seq (pk_blk (pk_seq (pk_loop (pk_blk (pk_seq pk_fn)))))) (by kernel_rfl) rfl ?_
 refine a_take (i := 5) rfl wanted_none (y_move rfl) (fun w h => h) (fun w h => h) rfl (pk_seq (pk_blk (pk_seq (pk_loop (pk_blk (pk_seq pk_fn)))))) (by kernel_rfl) rfl ?_
 refine a_take (i := 6) rfl wanted_none (y_ixm  Tryz.underlying50 ty_38 rfl rfl (rs_S 1 rfl) rfl (by omega)) (fun w h => h) (fun w h => h) rfl (pk_seq (pk_blk (pk_seq (pk_loop (pk_blk (pk_seq pk_fn)))))) (by kernel_rfl) rfl ?_
 refine a_take (i := 7) rfl wanted_none (y_ldsm0 enc_rt rt0 ty_38 rfl (rs_S 1 rfl) (by omega) rfl rfl rfl) (fun w h => h) (fun w h => h) rfl (pk_seq (pk_blk (pk_seq (pk_loop (pk_blk (pk_seq pk_fn)))))) (by kernel_rfl) rfl ?_
 refine a_take (i := 8) rfl wanted_none (y_nestd (by kernel_rfl) rfl rfl (eqd_rt _ _) rfl) (fun w h => h) (fun w h => h) rfl (pk_seq (pk_blk (pk_seq (pk_loop (pk_blk (pk_seq pk_fn)))))) (by kernel_rfl) rfl ?_
 refine wa_splitp (t := 24) rfl (fun h6_8 => ?_) (fun h6_8 => ?_)
 refine a_done (by kernel_rfl) ?_
 refine e_seq ?_
 refine w_cond_t rfl ?_
 refine w_seq ?_
 refine w_region ?_
 refine o_y (y_assign rfl) rfl rfl ?_
 refine wl_nil ?_
 refine e_seq ?_
 refine w_ret ?_
 refine e_blk_ret ?_
 refine e_seq_ret ?_
 refine e_loop_ret ?_
 refine e_blk_ret ?_
 refine e_seq_ret ?_
 refine e_ret (ts := [4]) rfl rfl rfl (fun w hw => ?_)
 focus first
   | (have hne : xs ≠ ys := ne_of_getD rt0 (k := k) (by simpa using h6_8)
      exact ⟨(), by rw [decide_eq_false hne]; rfl, hw.base, hw.toNews⟩)
   | (have hk : k = xs.length := by omega
      have he : xs = ys := by have := hI.2; rw [hk, List.take_length, List.take_of_length_le (by omega)] at this; exact this
      exact ⟨(), by rw [decide_eq_true he]; rfl, hw.base, hw.toNews⟩)
 refine a_done (by kernel_rfl) ?_
 refine e_seq ?_
 refine w_cond_f rfl ?_
 refine w_skip ?_
 refine e_blk ?_
 refine e_seq ?_
 refine w_region ?_
 refine o_y (y_addi rfl rfl (by omega) (by omega)) rfl rfl ?_
 refine o_y (y_move rfl) rfl rfl ?_
 refine wl_nil ?_
 refine e_back (k + 1) ?_ ?_ ⟨rfl, trivial⟩ (by repeat (first | exact trivial | refine ⟨rfl, ?_⟩)) (fun w h => h)
 exact ⟨by omega, take_eq_succ rt0 (by omega) (by omega) hI.2 (by simpa using h6_8)⟩
 omega
 refine wl_nil ?_
 refine e_seq ?_
 refine w_seq ?_
 refine w_cond_f rfl ?_
 refine w_exit ?_
 refine e_seq_exit ?_
 refine e_loop_exit ?_
 refine e_blk_hit ?_
 refine e_seq ?_
 refine w_seq ?_
 refine w_region ?_
 refine o_y (y_assign rfl) rfl rfl ?_
 refine wl_nil ?_
 refine e_seq ?_
 refine w_ret ?_
 refine e_ret (ts := [4]) rfl rfl rfl (fun w hw => ?_)
 focus first
   | (have hne : xs ≠ ys := ne_of_getD rt0 (k := k) (by simpa using h6_8)
      exact ⟨(), by rw [decide_eq_false hne]; rfl, hw.base, hw.toNews⟩)
   | (have hk : k = xs.length := by omega
      have he : xs = ys := by have := hI.2; rw [hk, List.take_length, List.take_of_length_le (by omega)] at this; exact this
      exact ⟨(), by rw [decide_eq_true he]; rfl, hw.base, hw.toNews⟩)

set_option maxRecDepth 100000 in
theorem c_kit_Same_rt (xs ys : List Rt) (A B : Option Addr) (c e : Nat) (hl : xs.length ≤ 1000000000000) : RC Tryz.prog 23 #[.slice A xs.length c, .slice B ys.length e] [Ch.rd A 5 rtC xs, Ch.rd B 5 rtC ys] (α := Unit) (fun _ => .bool (decide (xs = ys))) (fun _ => []) := by
 refine rc_of_W (args := [.slice A xs.length c, .slice B ys.length e]) 26 Tryz.func23 rfl rfl rfl (fun w0 => ?_)
 refine w_seq ?_
 refine w_region ?_
 refine o_y (y_assign rfl) rfl rfl ?_
 refine wl_nil ?_
 refine e_seq ?_
 refine w_seq ?_
 refine w_seq ?_
 refine w_region ?_
 refine o_y (y_move rfl) rfl rfl ?_
 refine o_y (y_lenl Tryz.underlying50 rfl) rfl rfl ?_
 refine o_y (y_move rfl) rfl rfl ?_
 refine o_y (y_lenl Tryz.underlying50 rfl) rfl rfl ?_
 refine o_y (y_neq rfl rfl) rfl rfl ?_
 refine wl_splitp (t := 10) rfl (fun h1_4 => ?_) (fun h1_4 => ?_)
 refine wl_nil ?_
 refine e_seq ?_
 refine w_cond_t rfl ?_
 refine w_seq ?_
 refine w_region ?_
 refine o_y (y_assign rfl) rfl rfl ?_
 refine wl_nil ?_
 refine e_seq ?_
 refine w_ret ?_
 refine e_seq_ret ?_
 refine e_ret (ts := [4]) rfl rfl rfl (fun w hw => ?_)
 have hne : xs ≠ ys := fun he => by rw [he] at h1_4; exact absurd rfl h1_4
 exact ⟨(), by rw [decide_eq_false hne]; rfl, hw.base, hw.toNews⟩
 refine wl_nil ?_
 refine e_seq ?_
 refine w_cond_f rfl ?_
 refine w_skip ?_
 refine e_seq ?_
 refine w_seq ?_
 refine w_seq ?_
 refine w_region ?_
 refine o_y (y_assign rfl) rfl rfl ?_
 refine wl_nil ?_
 refine e_seq ?_
 refine w_block ?_
 refine w_loop0 (σ := Nat) [4, 5, 11, 12, 13, 14, 15, 16, 17, 18, 19, 20, 21, 22, 23, 24, 25] (fun k => k ≤ xs.length ∧ xs.take k = ys.take k) (fun k => xs.length - k) (fun k => [(5, .int .i64 k)]) (0) ?_ ⟨rfl, trivial⟩ (fun k hI => ?_)
 exact ⟨Nat.zero_le _, rfl⟩
 refine w_seq ?_
 refine w_seq ?_
 refine w_region ?_
 refine o_y (y_move rfl) rfl rfl ?_
 refine o_y (y_move rfl) rfl rfl ?_
 refine o_y (y_lenl Tryz.underlying50 rfl) rfl rfl ?_
 refine o_y (y_lss rfl rfl) rfl rfl ?_
 refine wl_splitp (t := 14) rfl (fun h4_3 => ?_) (fun h4_3 => ?_)
 refine wl_nil ?_
 refine e_seq ?_
 refine w_cond_t rfl ?_
 refine w_skip ?_
 refine e_seq ?_
 refine w_seq ?_
 refine w_block ?_
 refine w_seq ?_
 refine w_draw 9 rfl mixed ?_
 refine a_take (i := 0) rfl wanted_none (y_move rfl) (fun w h => h) (fun w h => h) rfl (pk_seq (pk_blk (pk_seq (pk_loop (pk_blk (pk_seq pk_fn)))))) (by kernel_rfl) rfl ?_
 refine a_take (i := 1) rfl wanted_none (y_move rfl) (fun w h => h) (fun w h => h) rfl (pk_seq (pk_blk (pk_seq (pk_loop (pk_blk (pk_seq pk_fn)))))) (by kernel_rfl) rfl ?_
 refine a_take (i := 2) rfl wanted_none (y_ixm  Tryz.underlying50 ty_38 rfl rfl (rs_S 0 rfl) rfl (by omega)) (fun w h => h) (fun w h => h) rfl (pk_seq (pk_blk (pk_seq (pk_loop (pk_blk (pk_seq pk_fn)))))) (by kernel_rfl) rfl ?_
 refine a_take (i := 3) rfl wanted_none (y_ldsm0 enc_rt rt0 ty_38 rfl (rs_S 0 rfl) (by omega) rfl rfl rfl) (fun w h => h) (fun w h => h) rfl (pk_seq (pk_blk (pk_seq (pk_loop (pk_blk (pk_seq pk_fn)))))) (by kernel_rfl) rfl ?_
 refine a_take (i := 4) rfl wanted_none (y_move rfl) (fun w h => h) (fun w h => h) rfl (pk_seq (pk_blk (pk_seq (pk_loop (pk_blk (pk_seq pk_fn)))))) (by kernel_rfl) rfl ?_
 refine a_take (i := 5) rfl wanted_none (y_move rfl) (fun w h => h) (fun w h => h) rfl (pk_seq (pk_blk (pk_seq (pk_loop (pk_blk (pk_seq pk_fn)))))) (by kernel_rfl) rfl ?_
 refine a_take (i := 6) rfl wanted_none (y_ixm  Tryz.underlying50 ty_38 rfl rfl (rs_S 1 rfl) rfl (by omega)) (fun w h => h) (fun w h => h) rfl (pk_seq (pk_blk (pk_seq (pk_loop (pk_blk (pk_seq pk_fn)))))) (by kernel_rfl) rfl ?_
 refine a_take (i := 7) rfl wanted_none (y_ldsm0 enc_rt rt0 ty_38 rfl (rs_S 1 rfl) (by omega) rfl rfl rfl) (fun w h => h) (fun w h => h) rfl (pk_seq (pk_blk (pk_seq (pk_loop (pk_blk (pk_seq pk_fn)))))) (by kernel_rfl) rfl ?_
 refine a_take (i := 8) rfl wanted_none (y_nestd (by kernel_rfl) rfl rfl (eqd_rt _ _) rfl) (fun w h => h) (fun w h => h) rfl (pk_seq (pk_blk (pk_seq (pk_loop (pk_blk (pk_seq pk_fn)))))) (by kernel_rfl) rfl ?_
 refine wa_splitp (t := 25) rfl (fun h6_8 => ?_) (fun h6_8 => ?_)
 refine a_done (by kernel_rfl) ?_
 refine e_seq ?_
 refine w_cond_t rfl ?_
 refine w_seq ?_
 refine w_region ?_
 refine o_y (y_assign rfl) rfl rfl ?_
 refine wl_nil ?_
 refine e_seq ?_
 refine w_ret ?_
 refine e_blk_ret ?_
 refine e_seq_ret ?_
 refine e_loop_ret ?_
 refine e_blk_ret ?_
 refine e_seq_ret ?_
 refine e_ret (ts := [4]) rfl rfl rfl (fun w hw => ?_)
 focus first
   | (have hne : xs ≠ ys := ne_of_getD rt0 (k := k) (by simpa using h6_8)
      exact ⟨(), by rw [decide_eq_false hne]; rfl, hw.base, hw.toNews⟩)
   | (have hk : k = xs.length := by omega
      have he : xs = ys := by have := hI.2; rw [hk, List.take_length, List.take_of_length_le (by omega)] at this; exact this
      exact ⟨(), by rw [decide_eq_true he]; rfl, hw.base, hw.toNews⟩)
 refine a_done (by kernel_rfl) ?_
 refine e_seq ?_
 refine w_cond_f rfl ?_
 refine w_skip ?_
 refine e_blk ?_
 refine e_seq ?_
 refine w_region ?_
 refine o_y (y_move rfl) rfl rfl ?_
 refine o_y (y_addi rfl rfl (by omega) (by omega)) rfl rfl ?_
 refine o_y (y_assign rfl) rfl rfl ?_
 refine wl_nil ?_
 refine e_back (k + 1) ?_ ?_ ⟨rfl, trivial⟩ (by repeat (first | exact trivial | refine ⟨rfl, ?_⟩)) (fun w h => h)
 exact ⟨by omega, take_eq_succ rt0 (by omega) (by omega) hI.2 (by simpa using h6_8)⟩
 omega
 refine wl_nil ?_
 refine e_seq ?_
 refine w_cond_f rfl ?_
 refine w_exit ?_
 refine e_seq_exit ?_
 refine e_loop_exit ?_
 refine e_blk_hit ?_
 refine e_seq ?_
 refine w_seq ?_
 refine w_region ?_
 refine o_y (y_assign rfl) rfl rfl ?_
 refine wl_nil ?_
 refine e_seq ?_
 refine w_ret ?_
 refine e_ret (ts := [4]) rfl rfl rfl (fun w hw => ?_)
 focus first
   | (have hne : xs ≠ ys := ne_of_getD rt0 (k := k) (by simpa using h6_8)
      exact ⟨(), by rw [decide_eq_false hne]; rfl, hw.base, hw.toNews⟩)
   | (have hk : k = xs.length := by omega
      have he : xs = ys := by have := hI.2; rw [hk, List.take_length, List.take_of_length_le (by omega)] at this; exact this
      exact ⟨(), by rw [decide_eq_true he]; rfl, hw.base, hw.toNews⟩)

theorem c_route_Same (xs ys : List Rt) (A B : Option Addr) (c e : Nat) (hl : xs.length ≤ 1000000) : RC Tryz.prog 18 #[.slice A xs.length c, .slice B ys.length e] [Ch.rd A 5 rtC xs, Ch.rd B 5 rtC ys] (α := Unit) (fun _ => .bool (decide (xs = ys))) (fun _ => []) := by
 refine rc_of_W (args := [.slice A xs.length c, .slice B ys.length e]) 8 Tryz.func18 rfl rfl rfl (fun w0 => ?_)
 refine w_seq ?_
 refine w_region ?_
 refine o_y (y_assign rfl) rfl rfl ?_
 refine wl_nil ?_
 refine e_seq ?_
 refine w_seq ?_
 refine w_region ?_
 refine o_y (y_move rfl) rfl rfl ?_
 refine o_y (y_move rfl) rfl rfl ?_
 refine o_callq rfl ent_64 rfl (c_Equal_rt _ _ _ _ _ _ (by omega)) (fun w hw => (rd_cons (rd_S 0 rfl hw) (rd_cons (rd_S 1 rfl hw) rd_nil))) ?_
 refine o_y (y_assign rfl) rfl rfl ?_
 refine wl_nil ?_
 refine e_seq ?_
 refine w_ret ?_
 refine e_ret (ts := [4]) rfl rfl rfl (fun w hw => ?_)
 exact ⟨(), rfl, hw.base, (hw.weak (List.nil_sublist _) (fun s hs => hs)).toNews⟩

theorem c_route_Find (x : Ixd) (a : Ad) : RC Tryz.prog 13 #[.pointer (some ⟨x.b, 0, none⟩), .agg (adC a).toArray] [Ch.row x.b (ixC x) 91, Ch.mp x.ra encA encE x.am] (α := Unit) (fun _ => .tuple #[.agg (rtC (rtI x a)).toArray, .bool (lkp x.am a).isSome]) (fun _ => []) := by
 refine rc_of_W (args := [.pointer (some ⟨x.b, 0, none⟩), .agg (adC a).toArray]) 23 Tryz.func13 rfl rfl rfl (fun w0 => ?_)
 refine w_seq ?_
 refine w_region ?_
 refine o_box rfl rfl rfl (fun b1 => ?_)
 refine o_alloc ty_38 rfl rfl (fun b2 => ?_)
 refine o_y (y_assign rfl) rfl rfl ?_
 refine wl_nil ?_
 refine e_seq ?_
 refine w_seq ?_
 refine w_region ?_
 refine o_y (y_move rfl) rfl rfl ?_
 refine o_y (y_loadrs 1 ty_28 rfl rfl rfl rfl) rfl rfl ?_
 refine o_callq rfl ent_55 rfl (c_Of x _) (fun w hw => (rd_cons (rd_S 0 rfl hw) (rd_cons (rd_S 1 rfl hw) rd_nil))) ?_
 refine o_y (y_move rfl) rfl rfl ?_
 refine o_y (y_extract rfl rfl) rfl rfl ?_
 refine o_y (y_extract rfl rfl) rfl rfl ?_
 refine o_alloc ty_47 rfl rfl (fun b3 => ?_)
 refine o_store ty_47 rfl rfl rfl .z rfl rfl rfl rfl ?_
 refine o_y (y_assign rfl) rfl rfl ?_
 refine wl_nil ?_
 refine e_seq ?_
 refine w_seq ?_
 refine w_seq ?_
 refine w_region ?_
 refine o_y (y_move rfl) rfl rfl ?_
 refine wl_splitb (t := 14) rfl (fun h2_0 => ?_) (fun h2_0 => ?_)
 refine o_y (y_not rfl) rfl rfl ?_
 refine wl_nil ?_
 refine e_seq ?_
 refine w_cond_f rfl ?_
 refine w_skip ?_
 refine e_seq ?_
 refine w_seq ?_
 refine w_region ?_
 refine o_y (y_loadrs 2 ty_28 rfl rfl rfl rfl) rfl rfl ?_
 refine o_y (y_field fa_47_0 rfl) rfl rfl ?_
 refine o_y (y_loadr 0 ty_36 rfl rfl rfl) rfl rfl ?_
 refine o_y (y_field fa_47_2 rfl) rfl rfl ?_
 refine o_y (y_loadr 0 ty_9 rfl rfl rfl) rfl rfl ?_
 refine o_y (y_build rfl (bu_38_0_1_2 _ _ _ _ _)) rfl rfl ?_
 refine o_store ty_38 rfl rfl rfl (.s (.z)) rfl rfl rfl rfl ?_
 refine o_y (y_assign rfl) rfl rfl ?_
 refine wl_nil ?_
 refine e_seq ?_
 refine w_ret ?_
 refine e_rsr (rs := [.cell 4 38, .tmp 5]) rfl (rs_cells 1 ty_38 rfl rfl rfl rfl (rs_tmp rfl rs_nil)) rfl (fun w hw => ?_)
 have he : rtI x a = ⟨a, ((lkp x.am a).getD le0).e.host, ((lkp x.am a).getD le0).e.cluster⟩ := if_pos h2_0
 exact ⟨(), by rw [he, h2_0]; rfl, hw.base, (hw.weak (List.nil_sublist _) (fun s hs => hs)).toNews⟩
 refine o_y (y_not rfl) rfl rfl ?_
 refine wl_nil ?_
 refine e_seq ?_
 refine w_cond_t rfl ?_
 refine w_seq ?_
 refine w_region ?_
 refine o_y (y_build rfl (bu_38)) rfl rfl ?_
 refine o_store ty_38 rfl rfl rfl (.s (.z)) rfl rfl rfl rfl ?_
 refine o_y (y_assign rfl) rfl rfl ?_
 refine wl_nil ?_
 refine e_seq ?_
 refine w_ret ?_
 refine e_seq_ret ?_
 refine e_rsr (rs := [.cell 4 38, .tmp 5]) rfl (rs_cells 1 ty_38 rfl rfl rfl rfl (rs_tmp rfl rs_nil)) rfl (fun w hw => ?_)
 have he : rtI x a = rt0 := if_neg (by rw [h2_0]; decide)
 exact ⟨(), by rw [he, h2_0]; rfl, hw.base, (hw.weak (List.nil_sublist _) (fun s hs => hs)).toNews⟩

theorem c_Cluster (x : Ixd) (a : Ad) : RC Tryz.prog 17 #[.pointer (some ⟨x.b, 0, none⟩), .agg (adC a).toArray] [Ch.row x.b (ixC x) 91, Ch.mp x.ra encA encE x.am] (α := Unit) (fun _ => .string (ba (rtI x a).cl)) (fun _ => []) := by
 refine rc_of_W (args := [.pointer (some ⟨x.b, 0, none⟩), .agg (adC a).toArray]) 15 Tryz.func17 rfl rfl rfl (fun w0 => ?_)
 refine w_seq ?_
 refine w_region ?_
 refine o_box rfl rfl rfl (fun b1 => ?_)
 refine o_y (y_assign rfl) rfl rfl ?_
 refine wl_nil ?_
 refine e_seq ?_
 refine w_seq ?_
 refine w_region ?_
 refine o_y (y_move rfl) rfl rfl ?_
 refine o_y (y_loadrs 0 ty_28 rfl rfl rfl rfl) rfl rfl ?_
 refine o_callq rfl ent_13 rfl (c_route_Find x _) (fun w hw => (rd_cons (rd_S 0 rfl hw) (rd_cons (rd_S 1 rfl hw) rd_nil))) ?_
 refine o_y (y_move rfl) rfl rfl ?_
 refine o_y (y_extract rfl rfl) rfl rfl ?_
 refine o_y (y_extract rfl rfl) rfl rfl ?_
 refine o_alloc ty_38 rfl rfl (fun b2 => ?_)
 refine o_store ty_38 rfl rfl rfl .z rfl rfl rfl rfl ?_
 refine o_y (y_assign rfl) rfl rfl ?_
 refine wl_nil ?_
 refine e_seq ?_
 refine w_seq ?_
 refine w_region ?_
 refine o_y (y_field fa_38_2 rfl) rfl rfl ?_
 refine o_y (y_loadr 0 ty_9 rfl rfl rfl) rfl rfl ?_
 refine o_y (y_assign rfl) rfl rfl ?_
 refine wl_nil ?_
 refine e_seq ?_
 refine w_ret ?_
 refine e_ret (ts := [4]) rfl rfl rfl (fun w hw => ?_)
 exact ⟨(), rfl, hw.base, (hw.weak (List.nil_sublist _) (fun s hs => hs)).toNews⟩

theorem vals_snoc {α β : Type} {m : List (α × β)} {d0 : α × β} {ix : List Nat} {i : Nat} : valsAt m d0 (ix ++ [i]) = valsAt m d0 ix ++ [(m.getD i d0).2] := by simp [valsAt]
theorem nd_snoc {ix : List Nat} {i : Nat} (hn : ix.Nodup) (hi : i ∉ ix) : (ix ++ [i]).Nodup := by
  rw [List.nodup_append]; exact ⟨hn, by simp, fun a ha b hb e => by rw [List.mem_singleton.1 hb] at e; exact hi (e ▸ ha)⟩
theorem lt_snoc {ix : List Nat} {i n : Nat} (hx : ∀ j ∈ ix, j < n) (hi : i < n) : ∀ j ∈ ix ++ [i], j < n := fun j hj => (List.mem_append.1 hj).elim (hx j) (fun h => by rw [List.mem_singleton.1 h]; exact hi)
theorem ix_lt {ix : List Nat} {i n : Nat} (hn : ix.Nodup) (hx : ∀ j ∈ ix, j < n) (hin : i ∉ ix) (hi : i < n) : ix.length < n := by
  have := ix_len_le (nd_snoc hn hin) (lt_snoc hx hi); simp at this; omega
theorem vals_adm9 {α β : Type} {m : List (α × β)} {d0 : α × β} {ix : List Nat} {i : Nat} (hn : ix.Nodup) (hx : ∀ j ∈ ix, j < m.length) (hin : i ∉ ix) (hi : i < m.length) : ∃ rest, ((valsAt m d0 ix ++ [(m.getD i d0).2]) ++ rest).Perm (m.map (·.2)) := by
  rw [← vals_snoc]; exact vals_adm (nd_snoc hn hin) (lt_snoc hx hi)

theorem c_MapValues1 (m : List (Ad × Rt)) (bm bn : Nat) : IterG Tryz.prog 110 [.pointer (some ⟨bn, 0, none⟩)] [Ch.row bn [.map (some bm)] 103, Ch.mp bm encA encRt m] [] [] encR1 (fun pre => ∃ rest, (pre ++ rest).Perm (m.map (·.2))) (fun xs => xs.Perm (m.map (·.2))) := by
 refine iterG_of_W 15 Tryz.func110 rfl rfl rfl (fun lr σ I Ix C Sc hy g0 hg0 w0 => ?_)
 refine w_seq ?_
 refine w_openmp (encK := encA) (encV := encRt) 1 rfl (fun es clk hE => ?_)
 refine w_region ?_
 refine o_y (y_loadSo 1 ty_103 rfl rfl rfl) rfl rfl ?_
 refine o_range 0 rfl Tryz.underlying103 rfl rfl (fun r => ?_)
 refine wl_nil ?_
 refine e_seq ?_
 refine w_block ?_
 refine w_loopL (σ := List Nat × σ) [4, 7, 8, 9, 10, 11, 12, 13, 14] (fun q => q.1.length ≤ m.length ∧ q.1.Nodup ∧ (∀ j ∈ q.1, j < m.length) ∧ I (valsAt m ((ad0, rt0) : Ad × Rt) q.1) q.2) (fun q => m.length - q.1.length) (fun q => []) (fun q => [Ch.obj r (.mapIter (some bm) clk (seenOf es q.1) clk), C q.2]) (([], g0)) ?_ trivial rfl (fun q hI => ?_)
 exact ⟨Nat.zero_le _, .nil, nofun, hg0⟩
 obtain ⟨ix, g⟩ := q
 dsimp only at hI ⊢
 refine w_seq ?_
 refine w_region ?_
 refine o_next 0 rfl rfl hE.lt (fun _ => .z) rfl (fun en hen => ?_) (fun h0 => ?_)
 obtain hns := next_some hE hen ((ad0, rt0) : Ad × Rt)
 obtain ⟨i, hi, hin, hib, hiv⟩ := hns.2
 rw [hib]
 rw [hiv]
 rw [seen_push]
 refine o_y (y_extract rfl rfl) rfl rfl ?_
 refine wl_as (t := 8) (.bool true) rfl (congrArg Value.bool rfl) ?_
 refine wl_nil ?_
 refine e_seq ?_
 refine w_seq ?_
 refine w_cond_t rfl ?_
 refine w_skip ?_
 refine e_seq ?_
 refine w_block ?_
 refine w_seq ?_
 refine w_region ?_
 refine o_y (y_entry (e := en) (sn := seenOf es ix) 0 0 (by rw [hib, seen_push]) rfl rfl rfl hns.1 hE.nd) rfl rfl ?_
 refine o_y (y_extract rfl rfl) rfl rfl ?_
 refine wl_as (t := 10) (.agg (rtC (m.getD i ((ad0, rt0) : Ad × Rt)).2).toArray) rfl hiv ?_
 refine o_alloc ty_38 rfl rfl (fun b1 => ?_)
 refine o_store ty_38 rfl rfl rfl .z rfl rfl rfl rfl ?_
 refine wl_nil ?_
 refine e_seq ?_
 refine w_seq ?_
 refine w_region ?_
 refine o_y (y_move rfl) rfl rfl ?_
 refine o_y (y_loadrs 0 ty_38 rfl rfl rfl rfl) rfl rfl ?_
 refine o_yield rfl rfl (hy _ (m.getD i ((ad0, rt0) : Ad × Rt)).2 g (vals_adm9 hI.2.1 hI.2.2.1 hin hi) hI.2.2.2) (fun _ => (.s (.s (.z)))) (fun s hs => .tail _ (List.mem_append_right _ hs)) rfl (fun g' hT => ?_) (fun g' hF => ?_)
 refine o_y (y_not rfl) rfl rfl ?_
 refine wl_nil ?_
 refine e_seq ?_
 refine w_cond_f rfl ?_
 refine w_skip ?_
 refine e_blk ?_
 refine e_back ((ix ++ [i], g')) ?_ ?_ trivial (by repeat (first | exact trivial | refine ⟨rfl, ?_⟩)) (fun w h => h.weak (.cons _ (List.Sublist.refl _)) (fun s hs => hs))
 exact ⟨by show (ix ++ [i]).length ≤ _; have := ix_lt hI.2.1 hI.2.2.1 hin hi; simp; omega, nd_snoc hI.2.1 hin, lt_snoc hI.2.2.1 hi, by show I (valsAt m ((ad0, rt0) : Ad × Rt) (ix ++ [i])) _; rw [vals_snoc]; exact hT⟩
 show m.length - (ix ++ [i]).length < m.length - ix.length
 have := ix_lt hI.2.1 hI.2.2.1 hin hi
 simp; omega
 refine o_y (y_not rfl) rfl rfl ?_
 refine wl_nil ?_
 refine e_seq ?_
 refine w_cond_t rfl ?_
 refine w_ret ?_
 refine e_blk_ret ?_
 refine e_loop_ret ?_
 refine e_blk_ret ?_
 refine e_ret (ts := []) rfl rfl rfl (fun w hw => ?_)
 focus first
   | exact iterG_end _ (.inr ⟨_, vals_adm9 hI.2.1 hI.2.2.1 hin hi, hF⟩) (hw.weak (.cons _ (.cons _ (.cons_cons _ .slnil))) (fun s hs => hs))
   | exact iterG_end _ (.inl ⟨_, vals_all hI.2.1 hI.2.2.1 hal, hI.2.2.2⟩) (hw.weak (.cons _ (.cons _ (.cons_cons _ .slnil))) (fun s hs => hs))
   | (trace_state; fail)
 have hal := fun i hi => next_none hE h0 i hi hI.2.2.1
 refine o_y (y_extract rfl rfl) rfl rfl ?_
 refine wl_as (t := 8) (.bool false) rfl (congrArg Value.bool rfl) ?_
 refine wl_nil ?_
 refine e_seq ?_
 refine w_seq ?_
 refine w_cond_f rfl ?_
 refine w_exit ?_
 refine e_seq_exit ?_
 refine e_loop_exit ?_
 refine e_blk_hit ?_
 refine e_end (ts := []) rfl rfl rfl (fun w hw => ?_)
 focus first
   | exact iterG_end _ (.inr ⟨_, vals_adm9 hI.2.1 hI.2.2.1 hin hi, hF⟩) (hw.weak (.cons _ (.cons_cons _ .slnil)) (fun s hs => hs))
   | exact iterG_end _ (.inl ⟨_, vals_all hI.2.1 hI.2.2.1 hal, hI.2.2.2⟩) (hw.weak (.cons _ (.cons_cons _ .slnil)) (fun s hs => hs))
   | (trace_state; fail)

theorem c_MapValues (bm : Nat) : RC Tryz.prog 62 #[.map (some bm)] [] (α := Nat) (fun p => .func (.func 110) #[] #[.pointer (some ⟨p, 0, none⟩)]) (fun p => [Ch.row p [.map (some bm)] 103]) := by
 refine rc_of_W (args := [.map (some bm)]) 4 Tryz.func62 rfl rfl rfl (fun w0 => ?_)
 refine w_seq ?_
 refine w_region ?_
 refine o_box rfl rfl rfl (fun b1 => ?_)
 refine o_y (y_assign rfl) rfl rfl ?_
 refine wl_nil ?_
 refine e_seq ?_
 refine w_seq ?_
 refine w_region ?_
 refine o_y (y_makeFunc rfl rfl) rfl rfl ?_
 refine o_y (y_assign rfl) rfl rfl ?_
 refine wl_nil ?_
 refine e_seq ?_
 refine w_ret ?_
 refine e_ret (ts := [2]) rfl rfl rfl (fun w hw => ?_)
 exact ⟨b1, rfl, hw.base, (hw.weak (.cons_cons _ .slnil) (fun s hs => hs)).toNews⟩

theorem c_AppendSeq_rt (gf : Nat) (lb : List Value) (Sx : List Ch) (Adm Fin : List Rt → Prop) (hit : IterG Tryz.prog gf lb Sx [] [] encR1 Adm Fin) (hen : Enters Tryz.prog gf) (hb : ∀ pre, Adm pre → pre.length ≤ 1000000) : RC Tryz.prog 109 #[.slice none 0 0, .func (.func gf) #[] lb.toArray] Sx (α := {p : List Rt × Option Addr × Nat // Fin p.1}) (fun p => .slice p.1.2.1 p.1.1.length p.1.2.2) (fun p => [Ch.ls p.1.2.1 p.1.2.2 38 5 rtC p.1.1]) := by
 refine rc_of_WM (args := [.slice none 0 0, .func (.func gf) #[] lb.toArray]) 13 Tryz.func109 rfl rfl rfl (fun w0 => ?_)
 refine w_seq ?_
 refine w_region ?_
 refine o_box rfl rfl rfl (fun b1 => ?_)
 refine o_y (y_assign rfl) rfl rfl ?_
 refine wl_nil ?_
 refine e_seq ?_
 refine w_seq ?_
 refine w_seq ?_
 refine w_region ?_
 refine o_y (y_move rfl) rfl rfl ?_
 refine wl_nil ?_
 refine e_seq ?_
 refine w_block ?_
 refine w_heap (fun w h => h.nilsl 38 5) ?_
 refine w_rangeG (σ := List Rt × Option Addr × Nat) (fun pre g => g.1 = pre) (fun c pre g => False) (fun g => [Ch.ls g.2.1 g.2.2 38 5 rtC g.1, Ch.row b1 [.slice g.2.1 g.1.length g.2.2] 50]) (([], none, 0)) rfl rfl hen (hit) (fun s hs => hs) rfl (fun _ => rfl) (rfl) (fun w h => h) (fun pre e g hxs hI lr D r hr okb wb => ?_) (fun g D0 hI => ?_) (fun c pre g D0 hxs hI => ?_)
 obtain ⟨q, Ax, cx⟩ := g
 dsimp only at hI ⊢
 subst hI
 have hpl := hb _ hxs
 have hpl2 : q.length + 1 ≤ 1000000 := by simpa using hpl
 refine w_region ?_
 refine o_alloc ty_38 rfl rfl (fun b2 => ?_)
 refine o_store ty_38 rfl rfl rfl .z rfl rfl rfl rfl ?_
 refine wl_nil ?_
 refine e_begin rfl hr (.s (.z)) ?_
 refine w_block ?_
 refine w_region ?_
 refine o_y (y_loadr 4 ty_50 rfl rfl rfl) rfl rfl ?_
 refine o_y (y_loadrs 0 ty_38 rfl rfl rfl rfl) rfl rfl ?_
 refine o_bsl (vs := [_]) ([e] : List (Rt)) enc_rt Tryz.underlying50 ty_38 rfl rfl rfl rfl rfl rfl (fun As3 => ?_)
 refine o_appm (enc := rtC) (sz := 5) [e] Tryz.underlying50 ty_38 rfl rfl rfl (fun A c => (.s (.s (.s (.s (.z)))))) (src_L 0 Tryz.underlying50 rfl) (by simp only [List.length_cons, List.length_nil, Nat.zero_add]; omega) (by simp only [List.length_cons, List.length_nil, Nat.zero_add]; omega) rfl (fun A3 c3 => ?_)
 refine o_store ty_50 rfl rfl rfl (.s (.s (.s (.s (.s (.z)))))) rfl rfl rfl rfl ?_
 refine wl_nil ?_
 refine e_blk ?_
 refine e_rend ((q ++ [e], A3, c3)) ?_ (fun w h => h.weak (.cons _ (.cons _ (List.Sublist.refl _))) (fun s hs => hs))
 rfl
 obtain ⟨q, Ax, cx⟩ := g
 obtain ⟨xs, hfx, hI⟩ := hI
 dsimp only at hI ⊢
 subst hI
 refine e_blk ?_
 refine e_seq ?_
 refine w_seq ?_
 refine w_region ?_
 refine o_y (y_loadr 2 ty_50 rfl rfl rfl) rfl rfl ?_
 refine o_y (y_assign rfl) rfl rfl ?_
 refine wl_nil ?_
 refine e_seq ?_
 refine w_ret ?_
 refine e_lvr ?_
 refine lv_take .z ?_
 refine lv_nil (rs := [.tmp 4]) rfl (rs_tmp rfl rs_nil) (fun w hw => ?_)
 exact ⟨⟨(q, Ax, cx), hfx⟩, rfl, hw.base, (hw.weak (.cons _ (.cons_cons _ (.cons _ .slnil))) (fun s hs => hs)).toNews⟩
 exact hI.elim

theorem c_Collect_rt (gf : Nat) (lb : List Value) (Sx : List Ch) (Adm Fin : List Rt → Prop) (hit : IterG Tryz.prog gf lb Sx [] [] encR1 Adm Fin) (hen : Enters Tryz.prog gf) (hb : ∀ pre, Adm pre → pre.length ≤ 1000000) : RC Tryz.prog 61 #[.func (.func gf) #[] lb.toArray] Sx (α := {p : List Rt × Option Addr × Nat // Fin p.1}) (fun p => .slice p.1.2.1 p.1.1.length p.1.2.2) (fun p => [Ch.ls p.1.2.1 p.1.2.2 38 5 rtC p.1.1]) := by
 refine rc_of_W (args := [.func (.func gf) #[] lb.toArray]) 5 Tryz.func61 rfl rfl rfl (fun w0 => ?_)
 refine w_seq ?_
 refine w_region ?_
 refine o_y (y_assign rfl) rfl rfl ?_
 refine wl_nil ?_
 refine e_seq ?_
 refine w_seq ?_
 refine w_region ?_
 refine o_y (y_move rfl) rfl rfl ?_
 refine o_callr1 rfl ent_109 rfl (c_AppendSeq_rt gf lb Sx Adm Fin hit hen hb) (fun w hw s hs => hw.rdS hs) (fun ⟨⟨q, Ax, cx⟩, hfx⟩ => ?_)
 refine o_y (y_assign rfl) rfl rfl ?_
 refine wl_nil ?_
 refine e_seq ?_
 refine w_ret ?_
 refine e_ret (ts := [2]) rfl rfl rfl (fun w hw => ?_)
 exact ⟨⟨(q, Ax, cx), hfx⟩, rfl, hw.base, (hw.weak (.cons_cons _ .slnil) (fun s hs => hs)).toNews⟩
end Go.Proofs.YtfmelbpgkbiooaaGreat

/- the law of an index: the examples -/
namespace Go.Proofs.YtfmelbpgkbiooaaGreat
open Go.RowKit Go.Shelf
set_option linter.unusedVariables false
set_option linter.unusedSimpArgs false

def hl2 : List Str := [(makeN [[102]]).1]
theorem putAll_e : ∀ (p l : List Le), (putAll l p).map (·.e) = p.foldl (fun es x => putEE es x.e) (l.map (·.e))
  | [], l => rfl
  | x :: p, l => by
    show (putAll (putE l x) p).map _ = _
    rw [putAll_e p, putE_e]; rfl
theorem putAll_mem : ∀ {p l : List Le} {y : Le}, y ∈ putAll l p → y ∈ l ∨ y ∈ p
  | [], l, y, h => .inl h
  | x :: p, l, y, h => by
    rcases putAll_mem (p := p) (l := putE l x) h with h | h
    · rcases putG_mem h with e | h
      · exact .inr (by rw [e]; exact .head _)
      · exact .inl h
    · exact .inr (.tail _ h)
section
variable {tl : List Le} (h : tl.map (·.e) = tabN hl2 hl2.length)
include h
end
theorem hb18 (hs : List Hd) (h : (hs.all fun h => decide (h.host.length ≤ 1000) && decide (0 ≤ h.ad.lo)) = true) : ∀ h ∈ hs, h.host.length ≤ 1000 ∧ 0 ≤ h.ad.lo := fun x hx => by
  have := List.all_eq_true.1 h x hx
  simpa using this
theorem am_e {l : List Le} {hs : List Hd} {x : Ixd} (hx : IxOk2 l hs x) (a : Ad) : ((lkp x.am a).getD le0).e = (ofE (l.map (·.e)) hs a).getD en0 := by
  rw [← am_E hx]; cases lkp x.am a <;> rfl
theorem am_s {l : List Le} {hs : List Hd} {x : Ixd} (hx : IxOk2 l hs x) (a : Ad) : (lkp x.am a).isSome = (ofE (l.map (·.e)) hs a).isSome := by
  rw [← am_E hx]; cases lkp x.am a <;> rfl
theorem ix_yes {l : List Le} {hs : List Hd} {o : Option Ixd} (n1 : o = none → ¬ HeldOk (l.map (·.e)) hs) (h : heldB (l.map (·.e)) hs = true) : ∃ x, o = some x := by
  cases o with
  | none => exact absurd (heldB_iff.1 h) (n1 rfl)
  | some x => exact ⟨x, rfl⟩
end Go.Proofs.YtfmelbpgkbiooaaGreat
