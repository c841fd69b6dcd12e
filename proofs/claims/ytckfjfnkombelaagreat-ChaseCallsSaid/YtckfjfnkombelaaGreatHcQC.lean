/- chains over a table that is known; the law asked ahead -/
import Derived.Test.YtckfjfnkombelaaGreatHbQC
namespace Go.Proofs.YtckfjfnkombelaaGreat
open Go.RowKit Go.Shelf
set_option linter.unusedVariables false
set_option linter.unusedSimpArgs false

theorem bu_143_0_2_3 (x0 : Bool) (x1 : Int) (x2 : Option Addr) (x3 : Nat) (x4 : Nat) : Tryz.prog.built 143 [(0, .bool x0), (2, .int .i64 x1), (3, .slice x2 x3 x4)] = some [.bool x0, .int .i64 0, .int .i64 x1, .slice x2 x3 x4, .slice none 0 0].toArray := by kernel_rfl
theorem bu_24 : Tryz.prog.built 24 [] = some [.int .i64 0, .slice none 0 0].toArray := by kernel_rfl
theorem bu_34_0_1_2 (x0 : Str) (x1 : Int) (x2 : Str) : Tryz.prog.built 34 [(0, .string (ba x0)), (1, .int .i64 x1), (2, .string (ba x2))] = some [.string (ba x0), .int .i64 x1, .string (ba x2), .slice none 0 0, .string ⟨#[]⟩, .slice none 0 0, .int .u32 0].toArray := by kernel_rfl
theorem ent_10 : Enters Tryz.prog 10 := enters_of Tryz.func10 (by kernel_rfl) rfl
theorem ent_33 : Enters Tryz.prog 33 := enters_of Tryz.func33 (by kernel_rfl) rfl
theorem ent_75 : Enters Tryz.prog 75 := enters_of Tryz.func75 (by kernel_rfl) rfl
theorem ent_76 : Enters Tryz.prog 76 := enters_of Tryz.func76 (by kernel_rfl) rfl
theorem ent_77 : Enters Tryz.prog 77 := enters_of Tryz.func77 (by kernel_rfl) rfl
theorem ent_89 : Enters Tryz.prog 89 := enters_of Tryz.func89 (by kernel_rfl) rfl

/-- What an index holds, its entries' slices too. -/
def ixR2 (x : Ixd) : List Ch := Ch.row x.b (ixC x) 104 :: Ch.mp x.rh encN encE x.hm :: (le0 :: x.l).flatMap elR
theorem Hp.ixOpen {ok0 : Nat → Prop} {w0 w : World} {x : Ixd} {L S : List Ch} (h : Hp ok0 w0 (Ch.rall (ixR x) :: L) S w) : Hp ok0 w0 (Ch.rall (ixR2 x) :: L) S w :=
  h.turn (c' := Ch.rall (ixR2 x)) .z (fun hp d hd => by
    have h6 : (Ch.rall (x.l.flatMap elR)).P w := hp _ (.tail _ (.tail _ (.tail _ (.tail _ (.tail _ (.head _))))))
    rcases List.mem_cons.1 hd with rfl | hd
    · exact hp _ (.head _)
    rcases List.mem_cons.1 hd with rfl | hd
    · exact hp _ (.tail _ (.tail _ (.head _)))
    rw [List.flatMap_cons] at hd
    rcases List.mem_append.1 hd with hd | hd
    · exact (elR0 d hd w).1
    · exact h6 d hd) (fun b hb => by
    obtain ⟨d, hd, hdb⟩ := hb
    rcases List.mem_cons.1 hd with rfl | hd
    · exact ⟨_, .head _, hdb⟩
    rcases List.mem_cons.1 hd with rfl | hd
    · exact ⟨_, .tail _ (.tail _ (.head _)), hdb⟩
    rw [List.flatMap_cons] at hd
    rcases List.mem_append.1 hd with hd | hd
    · simp only [elR, List.mem_cons, List.not_mem_nil, or_false] at hd
      rcases hd with rfl | rfl <;> exact absurd hdb.1 (by simp [le0, en0])
    · exact ⟨Ch.rall (x.l.flatMap elR), .tail _ (.tail _ (.tail _ (.tail _ (.tail _ (.head _))))), d, hd, hdb⟩)
theorem find_mem {x : Ixd} {l : List Le} (h : IxOk l x) {n : Str} {y : Le} (hf : findI x.hm n = some y) : y ∈ x.l := by
  have look : ∀ {key : Str} {y : Le}, lkp x.hm key = some y → y ∈ x.l := fun hl => by
    rw [h.hm] at hl; exact List.mem_of_find?_eq_some hl
  unfold findI at hf
  split at hf
  · cases hf
  · cases h1 : lkp x.hm (foldN n) with
    | some z => rw [h1] at hf; have : z = y := Option.some.inj hf; subst this; exact look h1
    | none =>
      rw [h1] at hf
      have hf : (pars (foldN n)).findSome? (fun p => lkp x.hm ([1, 42] ++ p)) = some y := hf
      obtain ⟨_, p, _, _, h2, _⟩ := List.findSome?_eq_some_iff.1 hf
      exact look h2
theorem chE_mem {x : Ixd} {l : List Le} (h : IxOk l x) (n : Str) : chE x.hm n ∈ le0 :: x.l := by
  unfold chE enL
  cases hf : findI x.hm (chL x.hm n) with
  | none => exact .head _
  | some y =>
    dsimp only; split
    · exact .head _
    · exact .tail _ (find_mem h hf)
theorem mem_e {x : Ixd} {l : List Le} (h : IxOk l x) {y : Le} (hy : y ∈ x.l) : ∃ z ∈ l, z.e = y.e := by
  have : y.e ∈ l.map (·.e) := by rw [← h.es]; exact List.mem_map.2 ⟨y, hy, rfl⟩
  obtain ⟨z, hz, e⟩ := List.mem_map.1 this
  exact ⟨z, hz, e⟩
theorem TbOk.mem {l : List Le} (h : TbOk l) {z : Le} (hz : z ∈ l) : EnB z.e := by
  obtain ⟨h1, h2⟩ := h z hz
  have h3 := light_le h2
  exact ⟨h1.lo, by omega, by omega, h1.2.1, by omega, by omega⟩
theorem ix_bnd {x : Ixd} {l : List Le} (h : IxOk l x) (hok : TbOk l) {y : Le} (hy : y ∈ le0 :: x.l) : EnB y.e := by
  rcases List.mem_cons.1 hy with rfl | hy
  · exact ⟨nofun, by decide, by decide, by decide, by decide, by decide⟩
  · obtain ⟨z, hz, e⟩ := mem_e h hy
    exact (hok.mem hz).eq e.symm
/-! Of a table that is known. -/
def alE (es : List En) (n : Str) : Option Str := aliE (findE es n)
def cN (es : List En) (n : Str) : List Str := tailN (alE es) 8 n
def cL (es : List En) (n : Str) : Str := lastN (alE es) 8 n
def stE (o : Option En) (len : Nat) : Int := match o with
  | some e => if e.kind = 3 then 3 else 1
  | none => if 1 < len then 2 else 0
def enE (o : Option En) : En := match o with
  | some e => if e.kind = 3 then en0 else e
  | none => en0
theorem gal_E {l : List Le} {x : Ixd} (h : IxOk l x) : galI x.hm = alE (l.map (·.e)) := funext fun n => by rw [galI, find_E h.hm, h.es]; rfl
theorem chN_E {l : List Le} {x : Ixd} (h : IxOk l x) (n : Str) : chN x.hm n = cN (l.map (·.e)) n := by rw [chN, gal_E h]; rfl
theorem chL_E {l : List Le} {x : Ixd} (h : IxOk l x) (n : Str) : chL x.hm n = cL (l.map (·.e)) n := by rw [chL, gal_E h]; rfl
theorem st_E (o : Option Le) (len : Nat) : stN o len = stE (o.map (·.e)) len := by cases o <;> rfl
theorem en_E (o : Option Le) : (enL o).e = enE (o.map (·.e)) := by
  cases o with
  | none => rfl
  | some x =>
    show (if x.e.kind = 3 then le0 else x).e = if x.e.kind = 3 then en0 else x.e
    split <;> rfl
theorem chS_E {l : List Le} {x : Ixd} (h : IxOk l x) (n : Str) : chS x.hm n = stE (findE (l.map (·.e)) (cL (l.map (·.e)) n)) (cN (l.map (·.e)) n).length := by rw [chS, st_E, find_E h.hm, h.es, chL_E h, chN_E h]
theorem chE_E {l : List Le} {x : Ixd} (h : IxOk l x) (n : Str) : (chE x.hm n).e = enE (findE (l.map (·.e)) (cL (l.map (·.e)) n)) := by rw [chE, en_E, find_E h.hm, h.es, chL_E h]
theorem hops_E {l : List Le} {x : Ixd} (h : IxOk l x) (q : List Str) : hopsI x.hm q = hopsO (findE (l.map (·.e))) q := by
  rw [hopsI, hopsO]
  congr 1
  funext p
  rw [hopI, find_E h.hm, h.es]
/-- An entry without addresses and ports. -/
structure Bare (e : En) : Prop where
  ad : e.addrs = []
  po : e.ports = []
  h : e.host.length ≤ 300
  al : e.alias.length ≤ 300
  cl : e.cluster.length ≤ 300
  k : 0 ≤ e.kind ∧ e.kind ≤ 5
  t : 0 ≤ e.ttl ∧ e.ttl ≤ 1000
def bareB (e : En) : Bool := decide (e.addrs = []) && decide (e.ports = []) && decide (e.host.length ≤ 300) && decide (e.alias.length ≤ 300) && decide (e.cluster.length ≤ 300) && decide (0 ≤ e.kind ∧ e.kind ≤ 5) && decide (0 ≤ e.ttl ∧ e.ttl ≤ 1000)
theorem bare_of {e : En} (h : bareB e = true) : Bare e := by
  simp only [bareB, Bool.and_eq_true, decide_eq_true_eq] at h
  exact ⟨h.1.1.1.1.1.1, h.1.1.1.1.1.2, h.1.1.1.1.2, h.1.1.1.2, h.1.1.2, h.1.2, h.2⟩
theorem bare_tb {l : List Le} (h : (l.all fun x => bareB x.e) = true) : TbOk l := fun x hx => by
  have h1 := bare_of (List.all_eq_true.1 h x hx)
  refine ⟨⟨by have := h1.h; omega, by have := h1.k; omega, by have := h1.cl; omega, by rw [h1.ad]; exact nofun, by rw [h1.ad]; decide, by have := h1.al; omega, by rw [h1.po]; exact nofun, by rw [h1.po]; decide, h1.t.1, by have := h1.t; omega⟩, ?_⟩
  simp only [lightE, Bool.and_eq_true, decide_eq_true_eq]
  exact ⟨⟨⟨⟨h1.h, h1.al⟩, h1.cl⟩, by rw [h1.ad]; decide⟩, by rw [h1.po]; decide⟩
theorem bare_rd {w : World} {l : List Le} (h : (l.all fun x => bareB x.e) = true) : Rd (l.flatMap elR) w := rd_bare fun x hx => by
  have h1 := bare_of (List.all_eq_true.1 h x hx)
  exact ⟨h1.ad, h1.po⟩

theorem c_table21 (es : List Le) (P : Option Addr) (pc : Nat) (hpok : TbOk es) (hpl : es.length ≤ 1000) (hck : ∀ y ∈ es, entCk y.e = 0) (hnd : (es.map (fun y : Le => foldN y.e.host)).Nodup) (hsz : (putAll [] es).length ≤ 256) : RC Tryz.prog 76 #[.slice P es.length pc] [Ch.rd P 7 elC es, Ch.rall (es.flatMap elR)] (α := Option Addr × Nat) (fun p => .agg (tbC 1 p.1 (putAll [] es).length p.2).toArray) (fun p => [Ch.ls p.1 p.2 34 7 elC (putAll [] es)]) := by
  refine rc_of_W (args := [.slice P es.length pc]) 13 Tryz.func76 rfl rfl rfl (fun w0 => ?_)
  refine w_seq ?_
  refine w_region ?_
  refine o_alloc ty_24 rfl rfl (fun b1 => ?_)
  refine wl_nil ?_
  refine e_seq ?_
  refine w_seq ?_
  refine w_region ?_
  refine o_y (y_build rfl (bu_24)) rfl rfl ?_
  refine o_y (y_move rfl) rfl rfl ?_
  refine o_y (y_build rfl (bu_143_0_2_3 _ _ _ _ _)) rfl rfl ?_
  refine o_callr1 rfl ent_89 rfl (c_Apply0 0 [] none 0 true 0 1 es _ _ none 0 nofun (by decide) rfl ⟨by decide, by decide⟩ (fun _ => rfl) nofun hpok hpl hck hnd hsz) (fun w hw => (rd_cons (rd_none) (rd_cons (rd_rall nofun) (rd_cons (rd_S 0 rfl hw) (rd_cons (rd_S 1 rfl hw) rd_nil))))) (fun ⟨A1, c1⟩ => ?_)
  refine o_y (y_move rfl) rfl rfl ?_
  refine o_y (y_extract rfl rfl) rfl rfl ?_
  refine o_y (y_extract rfl rfl) rfl rfl ?_
  refine o_alloc ty_24 rfl rfl (fun b3 => ?_)
  refine o_store ty_24 rfl rfl rfl .z rfl rfl rfl rfl ?_
  refine o_y (y_assign rfl) rfl rfl ?_
  refine wl_nil ?_
  refine e_seq ?_
  refine w_seq ?_
  refine w_region ?_
  refine o_y (y_loadrs 0 ty_24 rfl rfl rfl rfl) rfl rfl ?_
  refine o_store ty_24 rfl rfl rfl (.s (.s (.z))) rfl rfl rfl rfl ?_
  refine wl_nil ?_
  refine e_seq ?_
  refine w_ret ?_
  refine e_rsr (rs := [.cell 2 24]) rfl (rs_cells 2 ty_24 rfl rfl rfl rfl rs_nil) rfl (fun w hw => ?_)
  exact ⟨(A1, c1), rfl, hw.base, (hw.weak (.cons _ (.cons_cons _ (.cons _ .slnil))) (fun s hs => hs)).toNews⟩

def n21a : Str := (makeN [[97]]).1
def n21b : Str := (makeN [[98]]).1
def n21c : Str := (makeN [[99]]).1
def leA (a b : Str) : Le := ⟨⟨a, 3, [], [], b, [], 7⟩, none, 0, none, 0⟩
def es1 : List Le := [leA n21a n21b, leA n21b n21c, ⟨⟨n21c, 2, [120], [], [], [], 0⟩, none, 0, none, 0⟩]
def es2 : List Le := [leA n21a n21a]
structure Fit (es : List Le) : Prop where
  b : (es.all fun x => bareB x.e) = true
  b2 : ((putAll [] es).all fun x => bareB x.e) = true
  len : es.length ≤ 1000
  ck : ∀ y ∈ es, entCk y.e = 0
  nd : (es.map (fun y : Le => foldN y.e.host)).Nodup
  sz : (putAll [] es).length ≤ 256
  tab : tabCk 1 (putAll [] es) = 0
theorem fit1 : Fit es1 := ⟨by decide +kernel, by decide +kernel, by decide +kernel, by decide +kernel, by decide +kernel, by decide +kernel, by decide +kernel⟩
theorem fit2 : Fit es2 := ⟨by decide +kernel, by decide +kernel, by decide +kernel, by decide +kernel, by decide +kernel, by decide +kernel, by decide +kernel⟩
set_option maxRecDepth 100000 in
set_option maxHeartbeats 4000000 in
theorem c_lives21  : Pure Tryz.prog 27 #[] (.bool true) := by
  intro w0
  refine calls_of_W (ok0 := no) (S := []) (args := []) 81 Tryz.func27 rfl rfl rfl (by simp) (by simp) ?_
  refine w_seq ?_
  refine w_region ?_
  refine o_y (y_assign rfl) rfl rfl ?_
  refine wl_nil ?_
  refine e_seq ?_
  refine w_seq ?_
  refine w_region ?_
  refine o_bsl (vs := [_]) ([[97]] : List (Str)) enc_s Tryz.underlying71 ty_9 rfl rfl rfl rfl rfl rfl (fun As1 => ?_)
  refine o_callq rfl ent_75 rfl (c_host21 _ _ _ (by decide)) (fun w hw => (rd_cons (rd_Ls 0 rfl hw) rd_nil)) ?_
  refine o_bsl (vs := [_]) ([[98]] : List (Str)) enc_s Tryz.underlying71 ty_9 rfl rfl rfl rfl rfl rfl (fun As2 => ?_)
  refine o_callq rfl ent_75 rfl (c_host21 _ _ _ (by decide)) (fun w hw => (rd_cons (rd_Ls 0 rfl hw) rd_nil)) ?_
  refine o_bsl (vs := [_]) ([[99]] : List (Str)) enc_s Tryz.underlying71 ty_9 rfl rfl rfl rfl rfl rfl (fun As3 => ?_)
  refine o_callq rfl ent_75 rfl (c_host21 _ _ _ (by decide)) (fun w hw => (rd_cons (rd_Ls 0 rfl hw) rd_nil)) ?_
  refine o_y (y_assign rfl) rfl rfl ?_
  refine o_y (y_assign rfl) rfl rfl ?_
  refine o_y (y_assign rfl) rfl rfl ?_
  refine wl_nil ?_
  refine e_seq ?_
  refine w_seq ?_
  refine w_region ?_
  refine o_y (y_move rfl) rfl rfl ?_
  refine o_y (y_move rfl) rfl rfl ?_
  refine o_callq rfl ent_77 rfl (c_alias21 _ _) (fun w hw => rd_nil) ?_
  refine o_y (y_move rfl) rfl rfl ?_
  refine o_y (y_move rfl) rfl rfl ?_
  refine o_callq rfl ent_77 rfl (c_alias21 _ _) (fun w hw => rd_nil) ?_
  refine o_y (y_move rfl) rfl rfl ?_
  refine o_y (y_build rfl (bu_34_0_1_2 _ _ _)) rfl rfl ?_
  refine o_bsl (vs := [_, _, _]) (es1 : List (Le)) enc_le Tryz.underlying22 ty_34 rfl rfl rfl rfl rfl rfl (fun As4 => ?_)
  refine o_callr1 rfl ent_76 rfl (c_table21 es1 _ _ (bare_tb fit1.b) fit1.len fit1.ck fit1.nd fit1.sz) (fun w hw => (rd_cons (rd_Ls 0 rfl hw) (rd_cons (rd_rall (bare_rd fit1.b)) rd_nil))) (fun ⟨A4, c4⟩ => ?_)
  refine o_callr1 rfl ent_10 rfl (c_index_New0 1 (putAll [] es1) _ _ (bare_tb fit1.b2) (by have := fit1.sz; omega) fit1.tab) (fun w hw => (rd_cons (rd_Ls 0 rfl hw) (rd_cons (rd_rall (bare_rd fit1.b2)) rd_nil))) (fun ⟨ix1, hix1⟩ => ?_)
  refine o_y (y_move rfl) rfl rfl ?_
  refine o_y (y_extract rfl rfl) rfl rfl ?_
  refine o_y (y_extract rfl rfl) rfl rfl ?_
  refine o_y (y_assign rfl) rfl rfl ?_
  refine o_y (y_assign rfl) rfl rfl ?_
  refine wl_nil ?_
  refine e_seq ?_
  refine w_seq ?_
  refine w_region ?_
  refine o_y (y_move rfl) rfl rfl ?_
  refine o_y (y_move rfl) rfl rfl ?_
  refine o_callq rfl ent_77 rfl (c_alias21 _ _) (fun w hw => rd_nil) ?_
  refine o_bsl (vs := [_]) (es2 : List (Le)) enc_le Tryz.underlying22 ty_34 rfl rfl rfl rfl rfl rfl (fun As7 => ?_)
  refine o_callr1 rfl ent_76 rfl (c_table21 es2 _ _ (bare_tb fit2.b) fit2.len fit2.ck fit2.nd fit2.sz) (fun w hw => (rd_cons (rd_Ls 0 rfl hw) (rd_cons (rd_rall (bare_rd fit2.b)) rd_nil))) (fun ⟨A7, c7⟩ => ?_)
  refine o_callr1 rfl ent_10 rfl (c_index_New0 1 (putAll [] es2) _ _ (bare_tb fit2.b2) (by have := fit2.sz; omega) fit2.tab) (fun w hw => (rd_cons (rd_Ls 0 rfl hw) (rd_cons (rd_rall (bare_rd fit2.b2)) rd_nil))) (fun ⟨ix2, hix2⟩ => ?_)
  refine o_y (y_move rfl) rfl rfl ?_
  refine o_y (y_extract rfl rfl) rfl rfl ?_
  refine o_y (y_extract rfl rfl) rfl rfl ?_
  refine o_y (y_assign rfl) rfl rfl ?_
  refine o_y (y_assign rfl) rfl rfl ?_
  refine wl_nil ?_
  refine e_seq ?_
  refine w_seq ?_
  refine w_seq ?_
  refine w_region ?_
  refine o_y (y_move rfl) rfl rfl ?_
  refine o_y (y_eqp Tryz.underlying39 rfl rfl) rfl rfl ?_
  refine wl_as (t := 40) (.bool false) rfl (congrArg Value.bool rfl) ?_
  refine o_y (y_move rfl) rfl rfl ?_
  refine wl_gyes rfl rfl ?_
  refine o_y (y_move rfl) rfl rfl ?_
  refine wl_gyes rfl rfl ?_
  refine o_y (y_eqp Tryz.underlying39 rfl rfl) rfl rfl ?_
  refine wl_as (t := 43) (.bool false) rfl (congrArg Value.bool rfl) ?_
  refine o_y (y_pick_f rfl rfl) rfl rfl ?_
  refine wl_nil ?_
  refine e_seq ?_
  refine w_cond_f rfl ?_
  refine w_skip ?_
  refine e_seq ?_
  refine w_seq ?_
  refine w_region ?_
  refine o_y (y_move rfl) rfl rfl ?_
  refine o_y (y_move rfl) rfl rfl ?_
  refine o_callr1 rfl ent_33 rfl (c_Follow ix1 n21a) (fun w hw => (rd_cons (rd_all (rd_L 3 rfl hw) (.head _)) (rd_cons (rd_all (rd_L 3 rfl hw) (.tail _ (.tail _ (.head _)))) rd_nil))) (fun ⟨A9, c9⟩ => ?_)
  refine o_y (y_move rfl) rfl rfl ?_
  refine o_y (y_move rfl) rfl rfl ?_
  refine o_callr1 rfl ent_33 rfl (c_Follow ix2 n21a) (fun w hw => (rd_cons (rd_all (rd_L 1 rfl hw) (.head _)) (rd_cons (rd_all (rd_L 1 rfl hw) (.tail _ (.tail _ (.head _)))) rd_nil))) (fun ⟨A10, c10⟩ => ?_)
  refine o_alloc ty_64 rfl rfl (fun b12 => ?_)
  refine o_alloc ty_64 rfl rfl (fun b13 => ?_)
  refine o_store ty_64 rfl rfl rfl (.s (.z)) rfl rfl rfl rfl ?_
  refine o_store ty_64 rfl rfl rfl .z rfl rfl rfl rfl ?_
  refine wl_nil ?_
  refine e_seq ?_
  refine w_seq ?_
  refine w_region ?_
  refine o_y (y_field fa_64_1 rfl) rfl rfl ?_
  refine o_y (y_loadr 1 ty_3 rfl rfl rfl) rfl rfl ?_
  refine o_y (y_eql rfl rfl) rfl rfl ?_
  refine wl_at (t := 53) rfl (by rw [chS_E hix1]; decide +kernel) ?_
  refine o_y (y_move rfl) rfl rfl ?_
  refine wl_gyes rfl rfl ?_
  refine o_y (y_field fa_64_0 rfl) rfl rfl ?_
  refine wl_gyes rfl rfl ?_
  refine o_y (y_loadr 1 ty_59 rfl rfl rfl) rfl rfl ?_
  refine wl_gyes rfl rfl ?_
  refine o_y (y_move rfl) rfl rfl ?_
  refine wl_gyes rfl rfl ?_
  refine o_y (y_move rfl) rfl rfl ?_
  refine wl_gyes rfl rfl ?_
  refine o_y (y_move rfl) rfl rfl ?_
  refine wl_gyes rfl rfl ?_
  refine o_bsl (vs := [_, _, _]) ([n21a, n21b, n21c] : List (Str)) enc_s Tryz.underlying59 ty_26 rfl rfl rfl rfl rfl rfl (fun As14 => ?_)
  refine wl_gyes rfl rfl ?_
  refine o_callq rfl ent_23 rfl (c_kit_Same_n _ _ _ _ _ _ (by have := (ch_len ix1.hm n21a).2; omega)) (fun w hw => (rd_cons (rd_Ls 4 rfl hw) (rd_cons (rd_Ls 0 rfl hw) rd_nil))) ?_
  refine wl_as (t := 61) (.bool true) rfl (congrArg Value.bool (by rw [chN_E hix1]; decide +kernel)) ?_
  refine o_y (y_pick_t rfl rfl) rfl rfl ?_
  refine o_y (y_move rfl) rfl rfl ?_
  refine wl_gyes rfl rfl ?_
  refine o_y (y_field fa_64_2 rfl) rfl rfl ?_
  refine wl_gyes rfl rfl ?_
  refine o_y (y_field fa_34_0 rfl) rfl rfl ?_
  refine wl_gyes rfl rfl ?_
  refine o_y (y_loadr 2 ty_26 rfl rfl rfl) rfl rfl ?_
  refine wl_gyes rfl rfl ?_
  refine o_y (y_move rfl) rfl rfl ?_
  refine wl_gyes rfl rfl ?_
  refine o_y (y_eqls rfl rfl) rfl rfl ?_
  refine wl_at (t := 68) rfl (by rw [chE_E hix1]; decide +kernel) ?_
  refine o_y (y_pick_t rfl rfl) rfl rfl ?_
  refine o_y (y_move rfl) rfl rfl ?_
  refine wl_gyes rfl rfl ?_
  refine o_y (y_field fa_64_1 rfl) rfl rfl ?_
  refine wl_gyes rfl rfl ?_
  refine o_y (y_loadr 1 ty_3 rfl rfl rfl) rfl rfl ?_
  refine wl_gyes rfl rfl ?_
  refine o_y (y_eql rfl rfl) rfl rfl ?_
  refine wl_at (t := 73) rfl (by rw [chS_E hix2]; decide +kernel) ?_
  refine o_y (y_pick_t rfl rfl) rfl rfl ?_
  refine o_y (y_move rfl) rfl rfl ?_
  refine wl_gyes rfl rfl ?_
  refine o_y (y_field fa_64_0 rfl) rfl rfl ?_
  refine wl_gyes rfl rfl ?_
  refine o_y (y_loadr 1 ty_59 rfl rfl rfl) rfl rfl ?_
  refine wl_gyes rfl rfl ?_
  refine o_y (y_lenl Tryz.underlying59 rfl) rfl rfl ?_
  refine wl_gyes rfl rfl ?_
  refine o_y (y_eql rfl rfl) rfl rfl ?_
  refine wl_at (t := 79) rfl (by rw [chN_E hix2]; decide +kernel) ?_
  refine o_y (y_pick_t rfl rfl) rfl rfl ?_
  refine o_y (y_assign rfl) rfl rfl ?_
  refine wl_nil ?_
  refine e_seq ?_
  refine w_ret ?_
  refine e_ret (ts := [0]) rfl rfl rfl (fun w hw => ?_)
  exact ⟨rfl, hw.base⟩
end Go.Proofs.YtckfjfnkombelaaGreat
