import Derived.Test.YtfmelbpgkbiooaaGreatJjS
/- all routes; law 19: its example -/
namespace Go.Proofs.YtfmelbpgkbiooaaGreat
open Go.RowKit Go.Shelf
set_option linter.unusedVariables false
set_option linter.unusedSimpArgs false

theorem bu_24 : Tryz.prog.built 24 [] = some [.int .i64 0, .slice none 0 0].toArray := by kernel_rfl
theorem bu_28_2 (x0 : Int) : Tryz.prog.built 28 [(2, .int .u64 x0)] = some [.bool false, .int .u64 0, .int .u64 x0].toArray := by kernel_rfl
theorem bu_42_0_1 (x0 : Str) (x1 : Bool) (x2 : Int) (x3 : Int) : Tryz.prog.built 42 [(0, .string (ba x0)), (1, .agg [.bool x1, .int .u64 x2, .int .u64 x3].toArray)] = some [.string (ba x0), .bool x1, .int .u64 x2, .int .u64 x3].toArray := by kernel_rfl
theorem bu_47_0_1_2 (x0 : Str) (x1 : Int) (x2 : Str) : Tryz.prog.built 47 [(0, .string (ba x0)), (1, .int .i64 x1), (2, .string (ba x2))] = some [.string (ba x0), .int .i64 x1, .string (ba x2), .slice none 0 0, .string ⟨#[]⟩, .slice none 0 0, .int .u32 0].toArray := by kernel_rfl
theorem bu_47_0_1_2_3 (x0 : Str) (x1 : Int) (x2 : Str) (x3 : Option Addr) (x4 : Nat) (x5 : Nat) : Tryz.prog.built 47 [(0, .string (ba x0)), (1, .int .i64 x1), (2, .string (ba x2)), (3, .slice x3 x4 x5)] = some [.string (ba x0), .int .i64 x1, .string (ba x2), .slice x3 x4 x5, .string ⟨#[]⟩, .slice none 0 0, .int .u32 0].toArray := by kernel_rfl
theorem bu_69_0_2_3 (x0 : Bool) (x1 : Int) (x2 : Option Addr) (x3 : Nat) (x4 : Nat) : Tryz.prog.built 69 [(0, .bool x0), (2, .int .i64 x1), (3, .slice x2 x3 x4)] = some [.bool x0, .int .i64 0, .int .i64 x1, .slice x2 x3 x4, .slice none 0 0].toArray := by kernel_rfl
theorem ent_12 : Enters Tryz.prog 12 := enters_of Tryz.func12 (by kernel_rfl) rfl
theorem ent_140 : Enters Tryz.prog 140 := enters_of Tryz.func140 (by kernel_rfl) rfl
theorem ent_15 : Enters Tryz.prog 15 := enters_of Tryz.func15 (by kernel_rfl) rfl
theorem ent_19 : Enters Tryz.prog 19 := enters_of Tryz.func19 (by kernel_rfl) rfl
theorem ent_20 : Enters Tryz.prog 20 := enters_of Tryz.func20 (by kernel_rfl) rfl
theorem ent_23 : Enters Tryz.prog 23 := enters_of Tryz.func23 (by kernel_rfl) rfl
theorem ent_32 : Enters Tryz.prog 32 := enters_of Tryz.func32 (by kernel_rfl) rfl
theorem ent_44 : Enters Tryz.prog 44 := enters_of Tryz.func44 (by kernel_rfl) rfl
theorem ent_57 : Enters Tryz.prog 57 := enters_of Tryz.func57 (by kernel_rfl) rfl
theorem ent_58 : Enters Tryz.prog 58 := enters_of Tryz.func58 (by kernel_rfl) rfl
theorem ent_61 : Enters Tryz.prog 61 := enters_of Tryz.func61 (by kernel_rfl) rfl
theorem ent_62 : Enters Tryz.prog 62 := enters_of Tryz.func62 (by kernel_rfl) rfl
theorem ent_63 : Enters Tryz.prog 63 := enters_of Tryz.func63 (by kernel_rfl) rfl
theorem ty_32 : TyI Tryz.prog 32 false 1 8 (.pointer none) := TyI.mk' (by kernel_rfl) (fun _ => by kernel_rfl)

def sortRt_ren : Go.Shelf.Ren := ⟨fun | 6 => 63 | 15 => 112 | 14 => 111 | 28 => 151 | 29 => 152 | 20 => 143 | 21 => 144 | 22 => 145 | 23 => 146 | 24 => 147 | 25 => 148 | 26 => 149 | 27 => 150 | 46 => 167 | 47 => 168 | 48 => 169 | 49 => 170 | 50 => 171 | 57 => 178 | n => n, fun | 22 => 50 | 24 => 38 | 25 => 108 | 3 => 3 | 39 => 114 | 0 => 0 | 53 => 45 | 55 => 26 | 4 => 4 | 46 => 196 | 45 => 195 | 50 => 124 | 5 => 5 | 9 => 9 | 66 => 211 | 70 => 215 | 76 => 223 | 77 => 224 | n => n, fun | n => n⟩
theorem sortRt : Go.Proofs.SlLaysF0.n6 Tryz.prog sortRt_ren := {
  mixed := by kernel_rfl,
  f6 := ⟨Tryz.f63.name, by decide, Tryz.func63.trans (congrArg some (by kernel_rfl))⟩,
  f14 := ⟨Tryz.f111.name, by decide, Tryz.func111.trans (congrArg some (by kernel_rfl))⟩,
  f15 := Tryz.func112.trans (congrArg some (by kernel_rfl)),
  f20 := ⟨Tryz.f143.name, by decide, Tryz.func143.trans (congrArg some (by kernel_rfl))⟩,
  f21 := ⟨Tryz.f144.name, by decide, Tryz.func144.trans (congrArg some (by kernel_rfl))⟩,
  f22 := ⟨Tryz.f145.name, by decide, Tryz.func145.trans (congrArg some (by kernel_rfl))⟩,
  f23 := ⟨Tryz.f146.name, by decide, Tryz.func146.trans (congrArg some (by kernel_rfl))⟩,
  f24 := ⟨Tryz.f147.name, by decide, Tryz.func147.trans (congrArg some (by kernel_rfl))⟩,
  f25 := ⟨Tryz.f148.name, by decide, Tryz.func148.trans (congrArg some (by kernel_rfl))⟩,
  f26 := ⟨Tryz.f149.name, by decide, Tryz.func149.trans (congrArg some (by kernel_rfl))⟩,
  f27 := ⟨Tryz.f150.name, by decide, Tryz.func150.trans (congrArg some (by kernel_rfl))⟩,
  f28 := Tryz.func151.trans (congrArg some (by kernel_rfl)),
  f29 := Tryz.func152.trans (congrArg some (by kernel_rfl)),
  f46 := ⟨Tryz.f167.name, by decide, Tryz.func167.trans (congrArg some (by kernel_rfl))⟩,
  f47 := Tryz.func168.trans (congrArg some (by kernel_rfl)),
  f48 := Tryz.func169.trans (congrArg some (by kernel_rfl)),
  f49 := ⟨Tryz.f170.name, by decide, Tryz.func170.trans (congrArg some (by kernel_rfl))⟩,
  f50 := ⟨Tryz.f171.name, by decide, Tryz.func171.trans (congrArg some (by kernel_rfl))⟩,
  f57 := ⟨Tryz.f178.name, by decide, Tryz.func178.trans (congrArg some (by kernel_rfl))⟩,
  t0 := Tryz.underlying0,
  a0 := Tryz.isAgg0,
  z0 := Tryz.sizeOf0,
  v0 := Tryz.zeroValue0,
  t3 := Tryz.underlying3,
  a3 := Tryz.isAgg3,
  z3 := Tryz.sizeOf3,
  v3 := Tryz.zeroValue3,
  t4 := Tryz.underlying4,
  a4 := Tryz.isAgg4,
  z4 := Tryz.sizeOf4,
  v4 := Tryz.zeroValue4,
  t5 := Tryz.underlying5,
  a5 := Tryz.isAgg5,
  z5 := Tryz.sizeOf5,
  v5 := Tryz.zeroValue5,
  t9 := Tryz.underlying9,
  a9 := Tryz.isAgg9,
  z9 := Tryz.sizeOf9,
  v9 := Tryz.zeroValue9,
  t22 := Tryz.underlying50,
  a22 := Tryz.isAgg50,
  z22 := Tryz.sizeOf50,
  v22 := Tryz.zeroValue50,
  t25 := Tryz.underlying108,
  a25 := Tryz.isAgg108,
  z25 := Tryz.sizeOf108,
  v25 := Tryz.zeroValue108,
  t39 := Tryz.underlying114,
  a39 := Tryz.isAgg114,
  z39 := Tryz.sizeOf114,
  v39 := Tryz.zeroValue114,
  t45 := Tryz.underlying195,
  a45 := Tryz.isAgg195,
  z45 := Tryz.sizeOf195,
  v45 := Tryz.zeroValue195,
  t46 := Tryz.underlying196,
  a46 := Tryz.isAgg196,
  z46 := Tryz.sizeOf196,
  v46 := Tryz.zeroValue196,
  t50 := Tryz.underlying124,
  a50 := Tryz.isAgg124,
  z50 := Tryz.sizeOf124,
  v50 := Tryz.zeroValue124,
  t53 := Tryz.underlying45,
  a53 := Tryz.isAgg45,
  z53 := Tryz.sizeOf45,
  v53 := Tryz.zeroValue45,
  t55 := Tryz.underlying26,
  a55 := Tryz.isAgg26,
  z55 := Tryz.sizeOf26,
  v55 := Tryz.zeroValue26,
  t66 := Tryz.underlying211,
  a66 := Tryz.isAgg211,
  z66 := Tryz.sizeOf211,
  v66 := Tryz.zeroValue211,
  t70 := Tryz.underlying215,
  a70 := Tryz.isAgg215,
  z70 := Tryz.sizeOf215,
  v70 := Tryz.zeroValue215,
  t76 := Tryz.underlying223,
  a76 := Tryz.isAgg223,
  z76 := Tryz.sizeOf223,
  v76 := Tryz.zeroValue223,
  t77 := Tryz.underlying224,
  a77 := Tryz.isAgg224,
  z77 := Tryz.sizeOf224,
  v77 := Tryz.zeroValue224 }

theorem c_Sort_rt (A : Option Addr) (c : Nat) (xs : List Rt) (hl : xs.length ≤ 1000000) : UC Tryz.prog 63 #[.slice A xs.length c, .func (.func 59) #[] #[]] [] (Ch.ls A c 38 5 rtC xs) (α := {ys : List Rt // ys.Perm xs ∧ ys.Pairwise fun a b => ¬ cmpA b.ad a.ad < 0}) (fun _ => .tuple #[]) (fun o => Ch.ls A c 38 5 rtC o.1) :=
  uc_sort (p := fun _ => True) sortRt 5 Tryz.isAgg38 Tryz.sizeOf38 enc_rt (fun a b : Rt => cmpA a.ad b.ad) swo_rt 59 #[] (enters_of Tryz.func59 (by kernel_rfl) rfl) (fun x y _ _ => by rw [Array.append_empty]; exact c_rAll1 x y) 38 A c xs (fun _ _ => trivial) (by omega)
def addM (x : Ixd) (M : List (Ad × Rt)) (al : List Ad) : List (Ad × Rt) := al.foldl (fun m a => upd m a (rtI x a)) M
def allM (x : Ixd) (l : List Le) : List (Ad × Rt) := l.foldl (fun m e => addM x m (adsI x e.e.host)) []
theorem upd_len (m : List (Ad × Rt)) (a : Ad) (r : Rt) : (upd m a r).length ≤ m.length + 1 := by
  induction m with
  | nil => simp [upd]
  | cons p q ih =>
    obtain ⟨b, u⟩ := p
    simp only [upd]; split
    · simp
    · simp; omega
theorem addM_len (x : Ixd) : ∀ (al : List Ad) (M : List (Ad × Rt)), (addM x M al).length ≤ M.length + al.length
  | [], M => Nat.le_refl _
  | a :: r, M => by
    have h1 := addM_len x r (upd M a (rtI x a)); have h2 := upd_len M a (rtI x a)
    show (addM x (upd M a (rtI x a)) r).length ≤ _
    simp; omega
theorem allM_len {x : Ixd} (h : ∀ n, (adsI x n).length ≤ 1000) (l : List Le) : (allM x l).length ≤ 1000 * l.length := by
  have key : ∀ (l : List Le) (M : List (Ad × Rt)), (l.foldl (fun m e => addM x m (adsI x e.e.host)) M).length ≤ M.length + 1000 * l.length := by
    intro l
    induction l with
    | nil => intro M; exact Nat.le_refl _
    | cons e r ih =>
      intro M
      have h1 := ih (addM x M (adsI x e.e.host)); have h2 := addM_len x (adsI x e.e.host) M; have h3 := h e.e.host
      rw [List.foldl_cons, List.length_cons]; omega
  have := key l []
  simpa [allM] using this
theorem addM_snoc {x : Ixd} {M : List (Ad × Rt)} {al : List Ad} {k : Nat} (hk : k < al.length) : addM x M (al.take (k + 1)) = upd (addM x M (al.take k)) (al.getD k ad0) (rtI x (al.getD k ad0)) := by
  rw [take_getD al ad0 k hk, addM, List.foldl_append]; rfl
theorem allM_snoc (x : Ixd) (pre : List Le) (e : Le) : allM x (pre ++ [e]) = addM x (allM x pre) (adsI x e.e.host) := by rw [allM, List.foldl_append]; rfl

set_option maxRecDepth 100000 in
set_option maxHeartbeats 1000000 in
theorem c_route_All (x : Ixd) (l : List Le) (hs : List Hd) (hix : IxOk2 l hs x) (hok : TbOk l) (hhs : ∀ h ∈ hs, 0 ≤ h.ad.lo) (hlen : l.length ≤ 1000) : RC Tryz.prog 15 #[.pointer (some ⟨x.b, 0, none⟩)] [Ch.row x.b (ixC x) 91, Ch.mp x.rh encN encE x.hm, Ch.mp x.rd encN encA x.dm, Ch.mp x.ra encA encE x.am, Ch.rd x.A 7 elC x.l, Ch.rall ((le0 :: x.l).flatMap elR)] (α := {p : List Rt × Option Addr × Nat // p.1.Perm ((allM x x.l).map (·.2)) ∧ p.1.Pairwise fun a b => ¬ cmpA b.ad a.ad < 0}) (fun p => .slice p.1.2.1 p.1.1.length p.1.2.2) (fun p => [Ch.ls p.1.2.1 p.1.2.2 38 5 rtC p.1.1]) := by
 refine rc_of_WM (args := [.pointer (some ⟨x.b, 0, none⟩)]) 37 Tryz.func15 rfl rfl rfl (fun w0 => ?_)
 have hxl8 : x.l.length ≤ 1000 := by rw [ix_len hix.ix]; exact hlen
 have hxl9 : x.l.length ≤ 1000000000 := by omega
 have hmn := allM_len (ads_len hix.ix hok) x.l
 have hbm : ∀ pre : List Rt, (∃ rest, (pre ++ rest).Perm ((allM x x.l).map (·.2))) → pre.length ≤ 1000000 := fun pre ⟨rest, h⟩ => by
   have := h.length_eq
   rw [List.length_append, List.length_map] at this
   omega
 refine w_seq ?_
 refine w_region ?_
 refine o_box rfl rfl rfl (fun b1 => ?_)
 refine o_y (y_assign rfl) rfl rfl ?_
 refine wl_nil ?_
 refine e_seq ?_
 refine w_seq ?_
 refine w_region ?_
 refine o_makeMap encA encRt rfl (fun r1 => ?_)
 refine o_alloc ty_103 rfl rfl (fun b3 => ?_)
 refine o_store ty_103 rfl rfl rfl .z rfl rfl rfl rfl ?_
 refine wl_nil ?_
 refine e_seq ?_
 refine w_seq ?_
 refine w_seq ?_
 refine w_region ?_
 refine o_y (y_loadr 2 ty_32 rfl rfl rfl) rfl rfl ?_
 refine o_callr1 rfl ent_57 rfl (c_Entries x) (fun w hw => (rd_cons (rd_S 0 rfl hw) rd_nil)) (fun p3 => ?_)
 refine wl_heap (fun w h => h.freeze) ?_
 refine wl_nil ?_
 refine e_seq ?_
 refine w_block ?_
 refine w_range (σ := List (Ad × Rt)) (fun pre g => g = allM x pre) (fun c pre g => False) (fun g => [Ch.row b3 [.map (some r1)] 103, Ch.mp r1 encA encRt g, Ch.row b1 [.pointer (some ⟨x.b, 0, none⟩)] 32]) ([]) rfl rfl ent_140 (c_Values1 x.l x.A x.c p3 hxl9) (List.forall_mem_cons.2 ⟨.head _, List.forall_mem_cons.2 ⟨.tail _ (.tail _ (.tail _ (.tail _ (.tail _ (.head _))))), nofun⟩⟩) rfl (fun _ => rfl) (rfl) rfl (fun pre e post g hxs hI lr D r hr okb wb => ?_) (fun g D0 hI => ?_) (fun c pre post g D0 hxs hI => ?_)
 subst hI
 have hal := ads_len hix.ix hok e.e.host
 refine w_region ?_
 refine o_alloc ty_47 rfl rfl (fun b5 => ?_)
 refine o_store ty_47 rfl rfl rfl .z rfl rfl rfl rfl ?_
 refine wl_nil ?_
 refine e_begin rfl hr (.s (.z)) ?_
 refine w_block ?_
 refine w_seq ?_
 refine w_region ?_
 refine o_y (y_loadr 5 ty_32 rfl rfl rfl) rfl rfl ?_
 refine o_y (y_loadrs 0 ty_47 rfl rfl rfl rfl) rfl rfl ?_
 refine o_callr1 rfl ent_58 rfl (c_Addrs x l hs e hix hok hhs) (fun w hw => (rd_cons (rd_S 1 rfl hw) (rd_cons (rd_S 2 rfl hw) (rd_cons (rd_S 3 rfl hw) (rd_cons (rd_S 4 rfl hw) (rd_cons (rd_S 6 rfl hw) rd_nil)))))) (fun ⟨A5, c5⟩ => ?_)
 refine o_y (y_lenl Tryz.underlying43 rfl) rfl rfl ?_
 refine o_y (y_move rfl) rfl rfl ?_
 refine wl_nil ?_
 refine e_seq ?_
 refine w_block ?_
 refine w_heap (fun w h => h.f5) ?_
 refine w_loop1 (σ := Nat × List (Ad × Rt)) [6, 17, 18, 19, 20, 21, 22, 23, 24, 25, 26, 27, 28, 29] (fun q => q.1 ≤ (adsI x e.e.host).length ∧ q.2 = addM x (allM x pre) ((adsI x e.e.host).take q.1)) (fun q => (adsI x e.e.host).length - q.1) (fun q => [(17, .int .i64 q.1)]) (fun q => Ch.mp r1 encA encRt q.2) ((0, allM x pre)) ?_ ⟨rfl, trivial⟩ rfl (fun q hI => ?_)
 exact ⟨Nat.zero_le _, rfl⟩
 obtain ⟨k, M⟩ := q
 dsimp only at hI ⊢
 refine w_seq ?_
 refine w_region ?_
 refine o_y (y_lss rfl rfl) rfl rfl ?_
 refine wl_splitp (t := 18) rfl (fun h5_0 => ?_) (fun h5_0 => ?_)
 have hk : k < (adsI x e.e.host).length := by omega
 refine wl_nil ?_
 refine e_seq ?_
 refine w_seq ?_
 refine w_cond_t rfl ?_
 refine w_skip ?_
 refine e_seq ?_
 refine w_seq ?_
 refine w_block ?_
 refine w_seq ?_
 refine w_region ?_
 refine o_y (y_ixm  Tryz.underlying43 ty_28 rfl rfl (rs_L 1 rfl) rfl (by omega)) rfl rfl ?_
 refine o_y (y_ldsm0 enc_ad ad0 ty_28 rfl (rs_L 1 rfl) (by omega) rfl rfl rfl) rfl rfl ?_
 refine o_alloc ty_28 rfl rfl (fun b7 => ?_)
 refine o_store ty_28 rfl rfl rfl .z rfl rfl rfl rfl ?_
 refine wl_nil ?_
 refine e_seq ?_
 refine w_drawV 8 mixed ?_
 refine v_take (i := 0) rfl wanted_none (y_loadr 6 ty_103 rfl rfl rfl) (fun w h => h) (fun w h => h) rfl (pk_blk (pk_seq (pk_loop (pk_blk (pk_blk pk_rd))))) (by kernel_rfl) rfl ?_
 refine v_take (i := 1) rfl wanted_none (y_loadrs 0 ty_28 rfl rfl rfl rfl) (fun w h => h) (fun w h => h) rfl (pk_blk (pk_seq (pk_loop (pk_blk (pk_blk pk_rd))))) (by kernel_rfl) rfl ?_
 refine v_take (i := 2) rfl wanted_none (y_loadr 7 ty_32 rfl rfl rfl) (fun w h => h) (fun w h => h) rfl (pk_blk (pk_seq (pk_loop (pk_blk (pk_blk pk_rd))))) (by kernel_rfl) rfl ?_
 refine v_take (i := 3) rfl wanted_none (y_loadrs 0 ty_28 rfl rfl rfl rfl) (fun w h => h) (fun w h => h) rfl (pk_blk (pk_seq (pk_loop (pk_blk (pk_blk pk_rd))))) (by kernel_rfl) rfl ?_
 refine v_one (i := 4) rfl (by kernel_rfl) rfl ?_
 refine o_callq rfl ent_13 rfl (c_route_Find x _) (fun w hw => (rd_cons (rd_S 1 rfl hw) (rd_cons (rd_S 4 rfl hw) rd_nil))) ?_
 refine wl_nil ?_
 refine ev_one (fun w h => h) ?_
 refine v_take (i := 5) rfl wanted_none (y_move rfl) (fun w h => h) (fun w h => h) rfl (pk_blk (pk_seq (pk_loop (pk_blk (pk_blk pk_rd))))) (by kernel_rfl) rfl ?_
 refine v_take (i := 6) rfl wanted_none (y_extract rfl rfl) (fun w h => h) (fun w h => h) rfl (pk_blk (pk_seq (pk_loop (pk_blk (pk_blk pk_rd))))) (by kernel_rfl) rfl ?_
 refine v_many (js := [7, 8]) (by kernel_rfl) rfl ?_
 refine wrv_cons (i := 7) rfl rfl ?_ ?_
 refine o_y (y_extract rfl rfl) rfl rfl ?_
 refine wl_nil ?_
 refine ev_one (fun w h => h) ?_
 refine v_one (i := 8) rfl (by kernel_rfl) rfl ?_
 refine o_mapUpd (encK := encA) (encV := encRt) (v := (rtI x ((adsI x e.e.host).getD k ad0))) Tryz.underlying103 keyl_ad rfl rfl rfl (.s (.z)) ?_
 refine wl_nil ?_
 refine ev_tail rfl ?_
 refine v_done (by kernel_rfl) ?_
 refine e_blk ?_
 refine e_seq ?_
 refine w_region ?_
 refine o_y (y_addi rfl rfl (by omega) (by omega)) rfl rfl ?_
 refine o_y (y_move rfl) rfl rfl ?_
 refine wl_nil ?_
 refine e_back ((k + 1, upd M ((adsI x e.e.host).getD k ad0) (rtI x ((adsI x e.e.host).getD k ad0)))) ?_ ?_ ⟨rfl, trivial⟩ (by repeat (first | exact trivial | refine ⟨rfl, ?_⟩)) (fun w h => h.weak (.cons _ (List.Sublist.refl _)) (fun s hs => hs))
 exact ⟨by show k + 1 ≤ _; omega, by show upd M _ _ = addM _ _ (List.take (k + 1) _); rw [addM_snoc hk, ← hI.2]⟩
 show (adsI x e.e.host).length - (k + 1) < (adsI x e.e.host).length - k
 omega
 refine wrv_cons (i := 8) rfl rfl ?_ ?_
 refine o_mapUpd (encK := encA) (encV := encRt) (v := (rtI x ((adsI x e.e.host).getD k ad0))) Tryz.underlying103 keyl_ad rfl rfl rfl (.s (.z)) ?_
 refine wl_nil ?_
 refine ev_tail rfl ?_
 refine v_one (i := 7) rfl (by kernel_rfl) rfl ?_
 refine o_y (y_extract rfl rfl) rfl rfl ?_
 refine wl_nil ?_
 refine ev_tail rfl ?_
 refine v_done (by kernel_rfl) ?_
 refine e_blk ?_
 refine e_seq ?_
 refine w_region ?_
 refine o_y (y_addi rfl rfl (by omega) (by omega)) rfl rfl ?_
 refine o_y (y_move rfl) rfl rfl ?_
 refine wl_nil ?_
 refine e_back ((k + 1, upd M ((adsI x e.e.host).getD k ad0) (rtI x ((adsI x e.e.host).getD k ad0)))) ?_ ?_ ⟨rfl, trivial⟩ (by repeat (first | exact trivial | refine ⟨rfl, ?_⟩)) (fun w h => h.weak (.cons _ (List.Sublist.refl _)) (fun s hs => hs))
 exact ⟨by show k + 1 ≤ _; omega, by show upd M _ _ = addM _ _ (List.take (k + 1) _); rw [addM_snoc hk, ← hI.2]⟩
 show (adsI x e.e.host).length - (k + 1) < (adsI x e.e.host).length - k
 omega
 exact wrv_nil
 refine wl_nil ?_
 refine e_seq ?_
 refine w_seq ?_
 refine w_cond_f rfl ?_
 refine w_exit ?_
 refine e_seq_exit ?_
 refine e_loop_exit ?_
 refine e_blk_hit ?_
 refine e_blk ?_
 refine e_rend (M) ?_ (fun w h => (h.weak (.cons_cons _ (.cons _ (.cons _ (List.Sublist.refl _)))) (fun s hs => hs)).perm (List.perm_middle (l₁ := [_, _, _])))
 rw [hI.2, List.take_of_length_le (by omega)]
 exact (allM_snoc x pre e).symm
 subst hI
 refine e_blk ?_
 refine e_seq ?_
 refine w_seq ?_
 refine w_region ?_
 refine o_y (y_assign rfl) rfl rfl ?_
 refine wl_nil ?_
 refine e_seq ?_
 refine w_seq ?_
 refine w_region ?_
 refine o_y (y_loadr 1 ty_103 rfl rfl rfl) rfl rfl ?_
 refine o_callr1 rfl ent_62 rfl (c_MapValues _) (fun w hw => rd_nil) (fun p7 => ?_)
 refine o_callr1 rfl ent_61 rfl (c_Collect_rt 110 [.pointer (some ⟨p7, 0, none⟩)] _ _ _ (c_MapValues1 (allM x x.l) r1 p7) (enters_of Tryz.func110 (by kernel_rfl) rfl) hbm) (fun w hw => (rd_cons (rd_L 0 rfl hw) (rd_cons (rd_L 3 rfl hw) rd_nil))) (fun ⟨⟨q, Ax, cx⟩, hfx⟩ => ?_)
 refine o_y (y_assign rfl) rfl rfl ?_
 refine wl_nil ?_
 refine e_seq ?_
 refine w_seq ?_
 refine w_region ?_
 refine o_y (y_move rfl) rfl rfl ?_
 refine o_y (y_move rfl) rfl rfl ?_
 refine o_callu rfl ent_63 rfl (c_Sort_rt Ax cx q (by have := hbm q ⟨[], by rw [List.append_nil]; exact hfx⟩; omega)) (fun o => .z) (List.mem_of_getElem? (i := 0) rfl) (fun s hs => nomatch hs) (fun ⟨ys, hyp, hys⟩ => ?_)
 refine wl_nil ?_
 refine e_seq ?_
 refine w_seq ?_
 refine w_region ?_
 refine o_y (y_move rfl) rfl rfl ?_
 refine o_y (y_assign rfl) rfl rfl ?_
 refine wl_nil ?_
 refine e_seq ?_
 refine w_ret ?_
 refine e_lvr ?_
 refine lv_take (.s (.s (.z))) ?_
 refine lv_nil (rs := [.tmp 2]) rfl (rs_tmp rfl rs_nil) (fun w hw => ?_)
 exact ⟨⟨(ys, Ax, cx), hyp.trans hfx, hys⟩, by rw [← hyp.length_eq]; rfl, hw.base, (hw.weak (.cons_cons _ (.cons _ (.cons _ (.cons _ (.cons _ (.cons _ .slnil)))))) (fun s hs => hs)).toNews⟩
 exact hI.elim

def rtE (es : List En) (hs : List Hd) (a : Ad) : Rt := if (ofE es hs a).isSome = true then ⟨a, ((ofE es hs a).getD en0).host, ((ofE es hs a).getD en0).cluster⟩ else rt0
theorem rt_E {l : List Le} {hs : List Hd} {x : Ixd} (hx : IxOk2 l hs x) (a : Ad) : rtI x a = rtE (l.map (·.e)) hs a := by rw [rtI, rtE, am_s hx, am_e hx]
def allF (es : List En) (hs : List Hd) (es0 : List En) : List (Ad × Rt) := es0.foldl (fun m e => (adsE es hs e.host).foldl (fun m a => upd m a (rtE es hs a)) m) []
theorem allM_E {l : List Le} {hs : List Hd} {x : Ixd} (hx : IxOk2 l hs x) : allM x x.l = allF (l.map (·.e)) hs (l.map (·.e)) := by
  have h1 : ∀ es, x.l.map (·.e) = es → allM x x.l = allF (l.map (·.e)) hs es := by
    intro es h
    rw [← h, allF, List.foldl_map, allM]
    have : (fun (m : List (Ad × Rt)) (e : Le) => addM x m (adsI x e.e.host)) = fun m e => (adsE (l.map (·.e)) hs e.e.host).foldl (fun m a => upd m a (rtE (l.map (·.e)) hs a)) m := funext fun m => funext fun e => by
      rw [addM, ads_E hx]
      have : (fun (m : List (Ad × Rt)) (a : Ad) => upd m a (rtI x a)) = fun m a => upd m a (rtE (l.map (·.e)) hs a) := funext fun m => funext fun a => by rw [rt_E hx]
      rw [this]
    rw [this]
  exact h1 _ hx.ix.es
theorem perm_sorted {α : Type} {R : α → α → Prop} (hR : ∀ a b, R a b → R b a → a = b) : ∀ {xs ys : List α}, xs.Perm ys → xs.Pairwise R → ys.Pairwise R → xs = ys
  | [], ys, h, _, _ => (List.nil_perm.1 h).symm
  | x :: xs, [], h, _, _ => absurd h.length_eq (by simp)
  | x :: xs, y :: ys, h, h1, h2 => by
    have e : x = y := by
      rcases List.mem_cons.1 (h.mem_iff.1 (List.mem_cons_self : x ∈ x :: xs)) with e | hx
      · exact e
      · rcases List.mem_cons.1 (h.mem_iff.2 (List.mem_cons_self : y ∈ y :: ys)) with e | hy
        · exact e.symm
        · exact hR _ _ ((List.pairwise_cons.1 h1).1 _ hy) ((List.pairwise_cons.1 h2).1 _ hx)
    subst e
    rw [perm_sorted hR (List.Perm.cons_inv h) (List.pairwise_cons.1 h1).2 (List.pairwise_cons.1 h2).2]
theorem cmpA_anti {a b : Ad} (h1 : ¬ cmpA b a < 0) (h2 : ¬ cmpA a b < 0) : kdA a = kdA b ∧ a.hi = b.hi ∧ a.lo = b.lo := by
  rw [cmpA_neg] at h1 h2; omega
theorem kd_inj {a b : Ad} (h : kdA a = kdA b) : a.six = b.six := by
  revert h; unfold kdA; cases a.six <;> cases b.six <;> simp
theorem cmpA_eq {a b : Ad} (h1 : ¬ cmpA b a < 0) (h2 : ¬ cmpA a b < 0) : a = b := by
  obtain ⟨q1, q2, q3⟩ := cmpA_anti h1 h2
  have q0 := kd_inj q1
  cases a; cases b; cases q0; cases q2; cases q3; rfl
/-- Rows that rise by their addresses, each address once, are the same if their members are. -/
theorem rt_sorted {xs ys zs : List Rt} (hp : xs.Perm zs) (hs : xs.Pairwise fun a b => ¬ cmpA b.ad a.ad < 0) (hz : ys.Perm zs) (hy : ys.Pairwise fun a b => ¬ cmpA b.ad a.ad < 0) (hu : ∀ a ∈ zs, ∀ b ∈ zs, a.ad = b.ad → a = b) : xs = ys := by
  have hx2 : xs.Pairwise fun a b => a ∈ zs ∧ b ∈ zs ∧ ¬ cmpA b.ad a.ad < 0 := by
    rw [List.pairwise_iff_getElem] at hs ⊢
    exact fun i j hi hj hij => ⟨hp.mem_iff.1 (List.getElem_mem hi), hp.mem_iff.1 (List.getElem_mem hj), hs i j hi hj hij⟩
  have hy2 : ys.Pairwise fun a b => a ∈ zs ∧ b ∈ zs ∧ ¬ cmpA b.ad a.ad < 0 := by
    rw [List.pairwise_iff_getElem] at hy ⊢
    exact fun i j hi hj hij => ⟨hz.mem_iff.1 (List.getElem_mem hi), hz.mem_iff.1 (List.getElem_mem hj), hy i j hi hj hij⟩
  exact perm_sorted (fun a b h1 h2 => hu a h1.1 b h1.2.1 (cmpA_eq h1.2.2 h2.2.2)) (hp.trans hz.symm) hx2 hy2
def n19 (c : UInt8) : Str := (makeN [[c]]).1
def a19 : Ad := ⟨false, 0, 16843009⟩
def b19 : Ad := ⟨false, 0, 167772161⟩
def eA19 : En := ⟨n19 97, 1, [120], [a19], [], [], 0⟩
def eB19 : En := ⟨n19 98, 2, [121], [], [], [], 0⟩
def p19 (A : Option Addr) : List Le := [⟨eA19, A, 1, none, 0⟩, ⟨eB19, none, 0, none, 0⟩]
def h19 : List Hd := [⟨n19 98, b19⟩]
def es19 : List En := putEE (putEE [] eA19) eB19
def rts19 : List Rt := [⟨a19, n19 97, [120]⟩, ⟨b19, n19 98, [121]⟩]
theorem p19_e (A : Option Addr) : (putAll [] (p19 A)).map (·.e) = es19 := by rw [putAll_e]; rfl
section
variable {tl : List Le} (h : tl.map (·.e) = es19)
include h
theorem tl19_ck : tabCk 1 tl = 0 := by rw [tab_e 1 (h.trans (lft_e es19).symm)]; decide +kernel
theorem tl19_tb : TbOk tl := sm_tb (by rw [h]; decide +kernel)
theorem tl19_len : tl.length = 2 := by rw [es_len h]; decide +kernel
end
theorem p19_tb (A : Option Addr) : TbOk (p19 A) := sm_tb (by show [eA19, eB19].all smE = true; decide +kernel)
theorem p19_ck (A : Option Addr) : ∀ y ∈ p19 A, entCk y.e = 0 := fun y hy => by
  have h : ∀ e ∈ [eA19, eB19], entCk e = 0 := by decide +kernel
  exact h _ (List.mem_map.2 ⟨y, hy, rfl⟩ : y.e ∈ (p19 A).map (·.e))
theorem p19_nd (A : Option Addr) : ((p19 A).map (fun y : Le => foldN y.e.host)).Nodup := by show [foldN eA19.host, foldN eB19.host].Nodup; decide +kernel
theorem p19_sz (A : Option Addr) : (putAll (if true = true then [] else []) (p19 A)).length ≤ 256 := by
  have := es_len (p19_e A)
  show (putAll [] (p19 A)).length ≤ 256
  rw [this]; decide +kernel
theorem rd_p19 {w : World} {A : Option Addr} (h : (Ch.rd A 3 adC [a19]).P w ∧ ∀ b, (Ch.rd A 3 adC [a19]).ok b → b < w.heap.size) : (Ch.rall ((p19 A).flatMap elR)).P w ∧ ∀ b, (Ch.rall ((p19 A).flatMap elR)).ok b → b < w.heap.size := rd_rall (rd_cons h (rd_cons rd_none1 (rd_cons rd_none1 (rd_cons rd_none1 rd_nil))))
theorem hb19 : ∀ h ∈ h19, h.host.length ≤ 1000 ∧ 0 ≤ h.ad.lo := hb18 h19 (by decide +kernel)
theorem rts19_eq {tl : List Le} (h : tl.map (·.e) = es19) {x : Ixd} (hx : IxOk2 tl h19 x) {ys : List Rt} (h1 : ys.Perm ((allM x x.l).map (·.2))) (h2 : ys.Pairwise fun a b => ¬ cmpA b.ad a.ad < 0) : ys = rts19 := by
  rw [allM_E hx, h] at h1
  exact rt_sorted h1 h2 (by decide +kernel) (by decide +kernel) (by decide +kernel)
theorem Hp.ex19 {ok0 : Nat → Prop} {w0 w : World} {A A9 Ah : Option Addr} {c9 ch : Nat} {T1 T3 T4 : TypeId} {S : List Ch} (h : Hp ok0 w0 [Ch.ls Ah ch T4 4 hdC h19, Ch.ls A9 c9 T1 7 elC (putAll [] (p19 A)), Ch.ls A 1 T3 3 adC [a19]] S w) : Hp ok0 w0 [Ch.rall ((putAll [] (p19 A)).flatMap elR), Ch.ls A9 c9 T1 7 elC (putAll [] (p19 A)), Ch.ls Ah ch T4 4 hdC h19] S w := by
  have h1 := h.rall0.perm (L' := [Ch.ls A 1 T3 3 adC [a19], Ch.rall [], Ch.ls A9 c9 T1 7 elC (putAll [] (p19 A)), Ch.ls Ah ch T4 4 hdC h19]) ((List.Perm.cons _ (.cons _ (.swap _ _ _))).trans (List.perm_middle (l₁ := [Ch.rall [], Ch.ls Ah ch T4 4 hdC h19, Ch.ls A9 c9 T1 7 elC (putAll [] (p19 A))]) (l₂ := [])).symm)
  have h2 := Hp.intoE (e := eA19) (A := A) (c := 1) (B := none) (d := 0) (T1 := T1) (T2 := T3) (h1.nilsl T1 1)
  have h3 := Hp.intoE (e := eB19) (A := none) (c := 0) (B := none) (d := 0) (T1 := T1) (T2 := T3) ((h2.nilsl T3 3).nilsl T1 1)
  exact h3.rallSub (fun c hc => by
    obtain ⟨y, hy, hc⟩ := List.mem_flatMap.1 hc
    rcases putAll_mem hy with hy | hy
    · cases hy
    · have : c ∈ (p19 A).flatMap elR := List.mem_flatMap.2 ⟨y, hy, hc⟩
      simpa [p19] using this)

theorem c_Four1  : Pure Tryz.prog 20 #[.int .u8 1, .int .u8 1, .int .u8 1, .int .u8 1] (.agg (adC a19).toArray) := by
 intro w0
 refine calls_of_W (ok0 := no) (S := []) (args := [.int .u8 1, .int .u8 1, .int .u8 1, .int .u8 1]) 24 Tryz.func20 rfl rfl rfl (by simp) (by simp) ?_
 refine w_seq ?_
 refine w_region ?_
 refine o_alloc ty_28 rfl rfl (fun b1 => ?_)
 refine wl_nil ?_
 refine e_seq ?_
 refine w_seq ?_
 refine w_region ?_
 refine o_y (y_move rfl) rfl rfl ?_
 refine o_y (y_convi Tryz.underlying5 Tryz.underlying26 rfl (wrap_u64 (by omega) (by omega))) rfl rfl ?_
 refine o_y (y_shl rfl rfl (by omega)) rfl rfl ?_
 refine o_y (y_move rfl) rfl rfl ?_
 refine o_y (y_convi Tryz.underlying5 Tryz.underlying26 rfl (wrap_u64 (by omega) (by omega))) rfl rfl ?_
 refine o_y (y_shl rfl rfl (by omega)) rfl rfl ?_
 refine o_y (y_or rfl rfl) rfl rfl ?_
 refine o_y (y_move rfl) rfl rfl ?_
 refine o_y (y_convi Tryz.underlying5 Tryz.underlying26 rfl (wrap_u64 (by omega) (by omega))) rfl rfl ?_
 refine o_y (y_shl rfl rfl (by omega)) rfl rfl ?_
 refine o_y (y_or rfl rfl) rfl rfl ?_
 refine o_y (y_move rfl) rfl rfl ?_
 refine o_y (y_convi Tryz.underlying5 Tryz.underlying26 rfl (wrap_u64 (by omega) (by omega))) rfl rfl ?_
 refine o_y (y_or rfl rfl) rfl rfl ?_
 refine o_y (y_build rfl (bu_28_2 _)) rfl rfl ?_
 refine o_store ty_28 rfl rfl rfl .z rfl rfl rfl rfl ?_
 refine wl_nil ?_
 refine e_seq ?_
 refine w_ret ?_
 refine e_rsr (rs := [.cell 8 28]) rfl (rs_cells 0 ty_28 rfl rfl rfl rfl rs_nil) rfl (fun w hw => ?_)
 exact ⟨rfl, hw.base⟩

theorem c_Four2  : Pure Tryz.prog 20 #[.int .u8 10, .int .u8 0, .int .u8 0, .int .u8 1] (.agg (adC b19).toArray) := by
 intro w0
 refine calls_of_W (ok0 := no) (S := []) (args := [.int .u8 10, .int .u8 0, .int .u8 0, .int .u8 1]) 24 Tryz.func20 rfl rfl rfl (by simp) (by simp) ?_
 refine w_seq ?_
 refine w_region ?_
 refine o_alloc ty_28 rfl rfl (fun b1 => ?_)
 refine wl_nil ?_
 refine e_seq ?_
 refine w_seq ?_
 refine w_region ?_
 refine o_y (y_move rfl) rfl rfl ?_
 refine o_y (y_convi Tryz.underlying5 Tryz.underlying26 rfl (wrap_u64 (by omega) (by omega))) rfl rfl ?_
 refine o_y (y_shl rfl rfl (by omega)) rfl rfl ?_
 refine o_y (y_move rfl) rfl rfl ?_
 refine o_y (y_convi Tryz.underlying5 Tryz.underlying26 rfl (wrap_u64 (by omega) (by omega))) rfl rfl ?_
 refine o_y (y_shl rfl rfl (by omega)) rfl rfl ?_
 refine o_y (y_or rfl rfl) rfl rfl ?_
 refine o_y (y_move rfl) rfl rfl ?_
 refine o_y (y_convi Tryz.underlying5 Tryz.underlying26 rfl (wrap_u64 (by omega) (by omega))) rfl rfl ?_
 refine o_y (y_shl rfl rfl (by omega)) rfl rfl ?_
 refine o_y (y_or rfl rfl) rfl rfl ?_
 refine o_y (y_move rfl) rfl rfl ?_
 refine o_y (y_convi Tryz.underlying5 Tryz.underlying26 rfl (wrap_u64 (by omega) (by omega))) rfl rfl ?_
 refine o_y (y_or rfl rfl) rfl rfl ?_
 refine o_y (y_build rfl (bu_28_2 _)) rfl rfl ?_
 refine o_store ty_28 rfl rfl rfl .z rfl rfl rfl rfl ?_
 refine wl_nil ?_
 refine e_seq ?_
 refine w_ret ?_
 refine e_rsr (rs := [.cell 8 28]) rfl (rs_cells 0 ty_28 rfl rfl rfl rfl rs_nil) rfl (fun w hw => ?_)
 exact ⟨rfl, hw.base⟩

theorem c_host19 (ls : List Str) (A : Option Addr) (ca : Nat) (hl : ls.length ≤ 1000000000000) : RC Tryz.prog 44 #[.slice A ls.length ca] [Ch.rd A 1 encs ls] (α := Unit) (fun _ => .string (ba (makeN ls).1)) (fun _ => []) := by
 refine rc_of_W (args := [.slice A ls.length ca]) 11 Tryz.func44 rfl rfl rfl (fun w0 => ?_)
 refine w_seq ?_
 refine w_region ?_
 refine o_y (y_assign rfl) rfl rfl ?_
 refine wl_nil ?_
 refine e_seq ?_
 refine w_seq ?_
 refine w_region ?_
 refine o_y (y_move rfl) rfl rfl ?_
 refine o_callq rfl ent_93 rfl (c_ref02_Make _ _ _ (by omega)) (fun w hw => (rd_cons (rd_S 0 rfl hw) rd_nil)) ?_
 refine o_y (y_move rfl) rfl rfl ?_
 refine o_y (y_extract rfl rfl) rfl rfl ?_
 refine o_y (y_extract rfl rfl) rfl rfl ?_
 refine o_y (y_assign rfl) rfl rfl ?_
 refine o_y (y_assign rfl) rfl rfl ?_
 refine wl_nil ?_
 refine e_seq ?_
 refine w_seq ?_
 refine w_region ?_
 refine o_y (y_move rfl) rfl rfl ?_
 refine o_y (y_assign rfl) rfl rfl ?_
 refine wl_nil ?_
 refine e_seq ?_
 refine w_ret ?_
 refine e_ret (ts := [2]) rfl rfl rfl (fun w hw => ?_)
 exact ⟨(), rfl, hw.base, (hw.weak (List.nil_sublist _) (fun s hs => hs)).toNews⟩

set_option maxRecDepth 100000 in
set_option maxHeartbeats 4000000 in
theorem c_example19  : RC Tryz.prog 19 #[] [] (α := {o : (List Le × Option Addr × Nat) × Option Addr × Nat // o.1.1.map (·.e) = es19}) (fun o => .tuple #[.agg (tbC 1 o.1.1.2.1 o.1.1.1.length o.1.1.2.2).toArray, .slice o.1.2.1 h19.length o.1.2.2]) (fun o => [Ch.rall (o.1.1.1.flatMap elR), Ch.ls o.1.1.2.1 o.1.1.2.2 47 7 elC o.1.1.1, Ch.ls o.1.2.1 o.1.2.2 42 4 hdC h19]) := by
 refine rc_of_W (args := []) 25 Tryz.func19 rfl rfl rfl (fun w0 => ?_)
 refine w_seq ?_
 refine w_region ?_
 refine o_alloc ty_24 rfl rfl (fun b1 => ?_)
 refine o_y (y_assign rfl) rfl rfl ?_
 refine wl_nil ?_
 refine e_seq ?_
 refine w_seq ?_
 refine w_region ?_
 refine o_y (y_build rfl (bu_24)) rfl rfl ?_
 refine o_bsl (vs := [_]) ([[97]] : List (Str)) enc_s Tryz.underlying139 ty_9 rfl rfl rfl rfl rfl rfl (fun As2 => ?_)
 refine o_callq rfl ent_44 rfl (c_host19 _ _ _ (by decide)) (fun w hw => (rd_cons (rd_Ls 0 rfl hw) rd_nil)) ?_
 refine o_callp rfl ent_20 c_Four1 rfl ?_
 refine o_bsl (vs := [_]) ([a19] : List (Ad)) enc_ad Tryz.underlying43 ty_28 rfl rfl rfl rfl rfl rfl (fun As3 => ?_)
 refine o_y (y_build rfl (bu_47_0_1_2_3 _ _ _ _ _ _)) rfl rfl ?_
 refine o_bsl (vs := [_]) ([[98]] : List (Str)) enc_s Tryz.underlying139 ty_9 rfl rfl rfl rfl rfl rfl (fun As4 => ?_)
 refine o_callq rfl ent_44 rfl (c_host19 _ _ _ (by decide)) (fun w hw => (rd_cons (rd_Ls 0 rfl hw) rd_nil)) ?_
 refine o_y (y_build rfl (bu_47_0_1_2 _ _ _)) rfl rfl ?_
 refine o_bsl (vs := [_, _]) ((p19 As3) : List (Le)) enc_le Tryz.underlying22 ty_47 rfl rfl rfl rfl rfl rfl (fun As5 => ?_)
 refine o_y (y_build rfl (bu_69_0_2_3 _ _ _ _ _)) rfl rfl ?_
 refine o_callr1 rfl ent_32 rfl (c_Apply0 0 [] none 0 true 0 1 (p19 As3) _ _ none 0 nofun (by decide) rfl ⟨by decide, by decide⟩ (fun _ => rfl) nofun (p19_tb _) (show 2 ≤ 1000 by decide) (p19_ck _) (p19_nd _) (p19_sz _)) (fun w hw => (rd_cons (rd_none) (rd_cons (rd_rall nofun) (rd_cons (rd_Ls 0 rfl hw) (rd_cons (rd_p19 (rd_Ls 2 rfl hw)) rd_nil))))) (fun ⟨A5, c5⟩ => ?_)
 refine o_y (y_move rfl) rfl rfl ?_
 refine o_y (y_extract rfl rfl) rfl rfl ?_
 refine o_y (y_extract rfl rfl) rfl rfl ?_
 refine o_alloc ty_24 rfl rfl (fun b7 => ?_)
 refine o_store ty_24 rfl rfl rfl .z rfl rfl rfl rfl ?_
 refine o_y (y_assign rfl) rfl rfl ?_
 refine wl_nil ?_
 refine e_seq ?_
 refine w_seq ?_
 refine w_drawU 6 rfl mixed ?_
 refine u_take (i := 0) rfl wanted_none (y_loadrs 0 ty_24 rfl rfl rfl rfl) (fun w h => h) (fun w h => h) rfl (pk_seq pk_fn) (by kernel_rfl) rfl ?_
 refine u_one (i := 1) rfl rfl rfl (fun _ _ _ => tame_op (by kernel_rfl)) (by kernel_rfl) rfl ?_
 refine o_bsl (vs := [_]) ([[98]] : List (Str)) enc_s Tryz.underlying139 ty_9 rfl rfl rfl rfl rfl rfl (fun As8 => ?_)
 refine wl_nil ?_
 refine eu_one (fun w h => h.weak (.cons _ (List.Sublist.refl _)) (fun s hs => hs)) ?_
 refine u_one (i := 2) rfl rfl rfl (tame_call rfl ent_44) (by kernel_rfl) rfl ?_
 refine o_callq rfl ent_44 rfl (c_host19 _ _ _ (by decide)) (fun w hw => (rd_cons (rd_Ls 0 rfl hw) rd_nil)) ?_
 refine wl_nil ?_
 refine eu_one (fun w h => h.weak (.cons _ (List.Sublist.refl _)) (fun s hs => hs)) ?_
 refine u_one (i := 3) rfl rfl rfl (tame_call rfl ent_20) (by kernel_rfl) rfl ?_
 refine o_callp rfl ent_20 c_Four2 rfl ?_
 refine wl_nil ?_
 refine eu_one (fun w h => h.weak (.cons _ (List.Sublist.refl _)) (fun s hs => hs)) ?_
 refine u_many (js := [4, 6]) (by kernel_rfl) rfl ?_
 refine wru_cons (i := 4) rfl rfl rfl (fun _ _ _ => tame_op (by kernel_rfl)) rfl ?_ ?_
 refine o_y (y_build rfl (bu_42_0_1 _ _ _ _)) rfl rfl ?_
 refine wl_nil ?_
 refine eu_one (fun w h => h.weak (.cons _ (List.Sublist.refl _)) (fun s hs => hs)) ?_
 refine u_many (js := [5, 6]) (by kernel_rfl) rfl ?_
 refine wru_cons (i := 5) rfl rfl rfl (fun _ _ _ => tame_op (by kernel_rfl)) rfl ?_ ?_
 refine o_bsl (vs := [_]) (h19 : List (Hd)) enc_hd Tryz.underlying25 ty_42 rfl rfl rfl rfl rfl rfl (fun As9 => ?_)
 refine wl_nil ?_
 refine eu_one (fun w h => h.weak (.cons _ (.cons _ (List.Sublist.refl _))) (fun s hs => hs)) ?_
 refine u_one (i := 6) rfl rfl rfl (fun _ _ _ => tame_op (by kernel_rfl)) (by kernel_rfl) rfl ?_
 refine o_store ty_24 rfl rfl rfl (.s (.s (.s (.s (.s (.s (.s (.s (.z))))))))) rfl rfl rfl rfl ?_
 refine wl_nil ?_
 refine eu_tail rfl ?_
 refine u_one (i := 7) rfl rfl rfl (fun _ _ _ => tame_op (by kernel_rfl)) (by kernel_rfl) rfl ?_
 refine o_y (y_assign rfl) rfl rfl ?_
 refine wl_nil ?_
 refine eu_tail rfl ?_
 refine u_done (by kernel_rfl) ?_
 refine e_seq ?_
 refine w_ret ?_
 refine e_rsr (rs := [.cell 0 24, .tmp 1]) rfl (rs_cells 8 ty_24 rfl rfl rfl rfl (rs_tmp rfl rs_nil)) rfl (fun w hw => ?_)
 exact ⟨⟨((putAll [] (p19 As3), A5, c5), As9, 1), p19_e _⟩, rfl, hw.base, ((hw.weak (.cons_cons _ (.cons _ (.cons _ (.cons_cons _ (.cons _ (.cons _ (.cons_cons _ (.cons _ (.cons _ .slnil))))))))) (fun s hs => hs)).ex19).toNews⟩
 refine wru_cons (i := 6) rfl rfl rfl (fun _ _ _ => tame_op (by kernel_rfl)) rfl ?_ ?_
 refine o_store ty_24 rfl rfl rfl (.s (.s (.s (.s (.s (.s (.s (.z)))))))) rfl rfl rfl rfl ?_
 refine wl_nil ?_
 refine eu_tail rfl ?_
 refine u_one (i := 5) rfl rfl rfl (fun _ _ _ => tame_op (by kernel_rfl)) (by kernel_rfl) rfl ?_
 refine o_bsl (vs := [_]) (h19 : List (Hd)) enc_hd Tryz.underlying25 ty_42 rfl rfl rfl rfl rfl rfl (fun As10 => ?_)
 refine wl_nil ?_
 refine eu_tail rfl ?_
 refine u_one (i := 7) rfl rfl rfl (fun _ _ _ => tame_op (by kernel_rfl)) (by kernel_rfl) rfl ?_
 refine o_y (y_assign rfl) rfl rfl ?_
 refine wl_nil ?_
 refine eu_tail rfl ?_
 refine u_done (by kernel_rfl) ?_
 refine e_seq ?_
 refine w_ret ?_
 refine e_rsr (rs := [.cell 0 24, .tmp 1]) rfl (rs_cells 8 ty_24 rfl rfl rfl rfl (rs_tmp rfl rs_nil)) rfl (fun w hw => ?_)
 exact ⟨⟨((putAll [] (p19 As3), A5, c5), As10, 1), p19_e _⟩, rfl, hw.base, ((hw.weak (.cons_cons _ (.cons _ (.cons _ (.cons_cons _ (.cons _ (.cons _ (.cons_cons _ (.cons _ (.cons _ .slnil))))))))) (fun s hs => hs)).ex19).toNews⟩
 exact wru_nil
 refine wru_cons (i := 6) rfl rfl rfl (fun _ _ _ => tame_op (by kernel_rfl)) rfl ?_ ?_
 refine o_store ty_24 rfl rfl rfl (.s (.s (.s (.s (.s (.s (.s (.z)))))))) rfl rfl rfl rfl ?_
 refine wl_nil ?_
 refine eu_tail rfl ?_
 refine u_one (i := 4) rfl rfl rfl (fun _ _ _ => tame_op (by kernel_rfl)) (by kernel_rfl) rfl ?_
 refine o_y (y_build rfl (bu_42_0_1 _ _ _ _)) rfl rfl ?_
 refine wl_nil ?_
 refine eu_tail rfl ?_
 refine u_one (i := 5) rfl rfl rfl (fun _ _ _ => tame_op (by kernel_rfl)) (by kernel_rfl) rfl ?_
 refine o_bsl (vs := [_]) (h19 : List (Hd)) enc_hd Tryz.underlying25 ty_42 rfl rfl rfl rfl rfl rfl (fun As11 => ?_)
 refine wl_nil ?_
 refine eu_tail rfl ?_
 refine u_one (i := 7) rfl rfl rfl (fun _ _ _ => tame_op (by kernel_rfl)) (by kernel_rfl) rfl ?_
 refine o_y (y_assign rfl) rfl rfl ?_
 refine wl_nil ?_
 refine eu_tail rfl ?_
 refine u_done (by kernel_rfl) ?_
 refine e_seq ?_
 refine w_ret ?_
 refine e_rsr (rs := [.cell 0 24, .tmp 1]) rfl (rs_cells 8 ty_24 rfl rfl rfl rfl (rs_tmp rfl rs_nil)) rfl (fun w hw => ?_)
 exact ⟨⟨((putAll [] (p19 As3), A5, c5), As11, 1), p19_e _⟩, rfl, hw.base, ((hw.weak (.cons_cons _ (.cons _ (.cons _ (.cons_cons _ (.cons _ (.cons _ (.cons_cons _ (.cons _ (.cons _ .slnil))))))))) (fun s hs => hs)).ex19).toNews⟩
 exact wru_nil

set_option maxRecDepth 100000 in
set_option maxHeartbeats 4000000 in
theorem c_lives19  : Pure Tryz.prog 9 #[] (.bool true) := by
 intro w0
 refine calls_of_W (ok0 := no) (S := []) (args := []) 33 Tryz.func9 rfl rfl rfl (by simp) (by simp) ?_
 refine w_seq ?_
 refine w_region ?_
 refine o_y (y_assign rfl) rfl rfl ?_
 refine wl_nil ?_
 refine e_seq ?_
 refine w_seq ?_
 refine w_region ?_
 refine o_callr3 rfl ent_19 rfl c_example19 (fun w hw => rd_nil) (fun ⟨⟨⟨tl, At, ct⟩, Ah, ch⟩, htl⟩ => ?_)
 refine o_y (y_move rfl) rfl rfl ?_
 refine o_y (y_extract rfl rfl) rfl rfl ?_
 refine o_y (y_extract rfl rfl) rfl rfl ?_
 refine o_alloc ty_24 rfl rfl (fun b2 => ?_)
 refine o_store ty_24 rfl rfl rfl .z rfl rfl rfl rfl ?_
 refine o_y (y_assign rfl) rfl rfl ?_
 refine wl_nil ?_
 refine e_seq ?_
 refine w_seq ?_
 refine w_region ?_
 refine o_y (y_loadrs 0 ty_24 rfl rfl rfl rfl) rfl rfl ?_
 refine o_y (y_move rfl) rfl rfl ?_
 refine o_callr1 rfl ent_12 rfl (c_index_NewH 1 tl _ _ _ h19 _ (tl19_tb htl) (by rw [tl19_len htl]; decide) (tl19_ck htl) (by decide) hb19) (fun w hw => (rd_cons (rd_Ls 2 rfl hw) (rd_cons (rd_L 1 rfl hw) (rd_cons (rd_Ls 3 rfl hw) rd_nil)))) (fun ⟨oix1, hno1, hyes1⟩ => ?_)
 refine wl_as (t := 12) (.tuple #[.pointer (ixP oix1), .int .i64 (ixE oix1)]) rfl (ixV_pe oix1) ?_
 obtain ⟨ix1, rfl⟩ := ix_yes hno1 (by rw [htl]; decide +kernel)
 obtain ⟨hH1, hix21⟩ := hyes1 ix1 rfl
 refine o_y (y_move rfl) rfl rfl ?_
 refine o_y (y_extract rfl rfl) rfl rfl ?_
 refine o_y (y_extract rfl rfl) rfl rfl ?_
 refine o_y (y_assign rfl) rfl rfl ?_
 refine o_y (y_assign rfl) rfl rfl ?_
 refine wl_nil ?_
 refine e_seq ?_
 refine w_seq ?_
 refine w_seq ?_
 refine w_region ?_
 refine o_y (y_move rfl) rfl rfl ?_
 refine o_y (y_neq rfl rfl) rfl rfl ?_
 refine wl_af (t := 16) rfl (fun h => h rfl) ?_
 refine o_y (y_move rfl) rfl rfl ?_
 refine wl_gyes rfl rfl ?_
 refine o_y (y_move rfl) rfl rfl ?_
 refine wl_gyes rfl rfl ?_
 refine o_y (y_eqp Tryz.underlying32 rfl rfl) rfl rfl ?_
 refine wl_as (t := 19) (.bool false) rfl (congrArg Value.bool rfl) ?_
 refine o_y (y_pick_f rfl rfl) rfl rfl ?_
 refine wl_nil ?_
 refine e_seq ?_
 refine w_cond_f rfl ?_
 refine w_skip ?_
 refine e_seq ?_
 refine w_seq ?_
 refine w_region ?_
 refine o_y (y_move rfl) rfl rfl ?_
 refine o_callr1 rfl ent_15 rfl (c_route_All ix1 tl h19 hix21 (tl19_tb htl) (fun h hh => (hb19 h hh).2) (by rw [tl19_len htl]; decide)) (fun w hw => (rd_cons (rd_all (rd_L 0 rfl hw) (.head _)) (rd_cons (rd_all (rd_L 0 rfl hw) (.tail _ (.head _))) (rd_cons (rd_all (rd_L 0 rfl hw) (.tail _ (.tail _ (.head _)))) (rd_cons (rd_all (rd_L 0 rfl hw) (.tail _ (.tail _ (.tail _ (.head _))))) (rd_cons (rd_all (rd_L 0 rfl hw) (.tail _ (.tail _ (.tail _ (.tail _ (.head _)))))) (rd_cons (rd_sub (rd_L 0 rfl hw) (fun c hc => .tail _ (.tail _ (.tail _ (.tail _ (.tail _ hc)))))) rd_nil))))))) (fun ⟨⟨ys, Ay, cy⟩, hyp, hys⟩ => ?_)
 refine o_callp rfl ent_20 c_Four1 rfl ?_
 refine o_bsl (vs := [_]) ([[97]] : List (Str)) enc_s Tryz.underlying139 ty_9 rfl rfl rfl rfl rfl rfl (fun As5 => ?_)
 refine o_callq rfl ent_44 rfl (c_host19 _ _ _ (by decide)) (fun w hw => (rd_cons (rd_Ls 0 rfl hw) rd_nil)) ?_
 refine o_y (y_build rfl (bu_38_0_1_2 _ _ _ _ _)) rfl rfl ?_
 refine o_callp rfl ent_20 c_Four2 rfl ?_
 refine o_bsl (vs := [_]) ([[98]] : List (Str)) enc_s Tryz.underlying139 ty_9 rfl rfl rfl rfl rfl rfl (fun As6 => ?_)
 refine o_callq rfl ent_44 rfl (c_host19 _ _ _ (by decide)) (fun w hw => (rd_cons (rd_Ls 0 rfl hw) rd_nil)) ?_
 refine o_y (y_build rfl (bu_38_0_1_2 _ _ _ _ _)) rfl rfl ?_
 refine o_bsl (vs := [_, _]) (rts19 : List (Rt)) enc_rt Tryz.underlying50 ty_38 rfl rfl rfl rfl rfl rfl (fun As7 => ?_)
 refine o_callq rfl ent_23 rfl (c_kit_Same_rt _ _ _ _ _ _ (by rw [rts19_eq htl hix21 hyp hys]; decide)) (fun w hw => (rd_cons (rd_Ls 3 rfl hw) (rd_cons (rd_Ls 0 rfl hw) rd_nil))) ?_
 refine wl_as (t := 32) (.bool true) rfl (congrArg Value.bool (decide_eq_true (rts19_eq htl hix21 hyp hys))) ?_
 refine o_y (y_assign rfl) rfl rfl ?_
 refine wl_nil ?_
 refine e_seq ?_
 refine w_ret ?_
 refine e_ret (ts := [0]) rfl rfl rfl (fun w hw => ?_)
 exact ⟨rfl, hw.base⟩
end Go.Proofs.YtfmelbpgkbiooaaGreat

/- the laws of routes: rows that are the same -/
namespace Go.Proofs.YtfmelbpgkbiooaaGreat
open Go.RowKit Go.Shelf
set_option linter.unusedVariables false
set_option linter.unusedSimpArgs false

theorem ent_18 : Enters Tryz.prog 18 := enters_of Tryz.func18 (by kernel_rfl) rfl
theorem ent_9 : Enters Tryz.prog 9 := enters_of Tryz.func9 (by kernel_rfl) rfl

theorem dc_rt {w : World} : Dc Tryz.prog w 38 (α := Rt) (rtC) (fun _ => []) (fun r => AdOk r.ad ∧ r.host.length ≤ 9223372036854775807 ∧ r.cl.length ≤ 9223372036854775807) := fun H enc base sp hd fuel cs x h => by
  obtain ⟨xs, n, rfl, _, hcl, hxl, hf⟩ := DataW.trod_struct Tryz.underlying38 h
  have hcl2 : cs.length = 5 := hcl.trans (by kernel_rfl)
  obtain ⟨x0, c0, r0, o0⟩ := dc_field hxl hf 0 (ft := 28) (off := 0) (k := 3) (by kernel_rfl) (by kernel_rfl) dc_ad
  obtain ⟨x1, c1, r1, o1⟩ := dc_field hxl hf 1 (ft := 36) (off := 3) (k := 1) (by kernel_rfl) (by kernel_rfl) (dc_str Tryz.underlying36)
  obtain ⟨x2, c2, r2, o2⟩ := dc_field hxl hf 2 (ft := 9) (off := 4) (k := 1) (by kernel_rfl) (by kernel_rfl) (dc_str Tryz.underlying9)
  have hcs := cut0 (cutc c0 (cutc c1 (cutc c2 (cutn hcl2) rfl) rfl) rfl)
  exact ⟨⟨x0, x1, x2⟩, hcs, nofun, o0, o1, o2⟩

theorem dc_rts {w : World} : Dc Tryz.prog w 50 (fun p : List Rt × Option Addr × Nat => [.slice p.2.1 p.1.length p.2.2]) (fun p => Ch.rd p.2.1 5 rtC p.1 :: p.1.flatMap (fun _ => [])) (fun p => p.1.length ≤ 9223372036854775807 ∧ ∀ r ∈ p.1, AdOk r.ad ∧ r.host.length ≤ 9223372036854775807 ∧ r.cl.length ≤ 9223372036854775807) := dc_slice Tryz.underlying50 (by kernel_rfl) (by decide) enc_rt dc_rt

end Go.Proofs.YtfmelbpgkbiooaaGreat

/- the laws of routes: what is fixed -/
namespace Go.Proofs.YtfmelbpgkbiooaaGreat
open Go.RowKit Go.Shelf
set_option linter.unusedVariables false
set_option linter.unusedSimpArgs false

theorem ent_10 : Enters Tryz.prog 10 := enters_of Tryz.func10 (by kernel_rfl) rfl
theorem ent_17 : Enters Tryz.prog 17 := enters_of Tryz.func17 (by kernel_rfl) rfl

end Go.Proofs.YtfmelbpgkbiooaaGreat
