import Derived.Test.YtnpdgmoeoidppaaGreatLsQa
/- an index gone through; who holds nothing -/
namespace Go.Proofs.YtnpdgmoeoidppaaGreat
open Go.RowKit Go.Shelf
set_option linter.unusedVariables false
set_option linter.unusedSimpArgs false

theorem ent_155 : Enters Tryz.prog 155 := enters_of Tryz.func155 (by kernel_rfl) rfl
theorem ent_211 : Enters Tryz.prog 211 := enters_of Tryz.func211 (by kernel_rfl) rfl
theorem ent_85 : Enters Tryz.prog 85 := enters_of Tryz.func85 (by kernel_rfl) rfl
theorem ty_39 : TyI Tryz.prog 39 false 1 8 (.pointer none) := TyI.mk' (by kernel_rfl) (fun _ => by kernel_rfl)

def encV1 (x : Le) : List Value := [.agg (dB x).toArray]

theorem c_Values1 (l : List Le) (A : Option Addr) (c bn : Nat) (hl : l.length ≤ 1000000000) : Iter Tryz.prog 211 [.pointer (some ⟨bn, 0, none⟩)] [Ch.row bn [.slice A l.length c] 22, Ch.rd A 7 dB l] encV1 (l) := by
 refine iter_of_W 16 Tryz.func211 rfl rfl rfl (fun lr σ I Ix C Sc hy g0 hg0 w0 => ?_)
 refine ar ?_
 refine ai ?_
 refine au (cN 0 bZ rfl rfl rfl) rfl rfl ?_
 refine au (bg Tryz.underlying22 rfl) rfl rfl ?_
 refine au (ap rfl) rfl rfl ?_
 refine ah ?_
 refine aq ?_
 refine aW ?_
 refine cP (σ := Nat × σ) [4, 7, 8, 9, 10, 11, 12, 13, 14, 15] (fun q => q.1 ≤ l.length ∧ I (l.take q.1) q.2) (fun q => l.length - q.1) (fun q => [(7, .int .i64 q.1)]) (fun q => C q.2) ((0, g0)) ?_ ⟨rfl, trivial⟩ rfl (fun q hI => ?_)
 exact ⟨Nat.zero_le _, hg0⟩
 obtain ⟨k, g⟩ := q
 dsimp only at hI ⊢
 refine ar ?_
 refine ai ?_
 refine au (bI rfl rfl) rfl rfl ?_
 refine aB (t := 8) rfl (fun h1_0 => ?_) (fun h1_0 => ?_)
 have hk : k < l.length := by omega
 have hx2 := split_at br hk
 refine ah ?_
 refine aq ?_
 refine ar ?_
 refine aA rfl ?_
 refine aS ?_
 refine aq ?_
 refine ar ?_
 refine aW ?_
 refine ar ?_
 refine ai ?_
 refine au (bz  Tryz.underlying22 aR rfl rfl (bE 1 rfl) rfl (by omega)) rfl rfl ?_
 refine au (bW cj br aR rfl (bE 1 rfl) (by omega) rfl rfl rfl) rfl rfl ?_
 refine bj aR rfl rfl (fun b1 => ?_)
 refine a0 aR rfl rfl rfl .z rfl rfl rfl rfl ?_
 refine ah ?_
 refine aq ?_
 refine ar ?_
 refine ai ?_
 refine au (ap rfl) rfl rfl ?_
 refine au (a6 0 aR rfl rfl rfl rfl) rfl rfl ?_
 refine o_yield rfl rfl (hy _ (l.getD k br) _ g hx2 hI.2) (fun _ => (.s (.z))) (fun s hs => List.mem_append_right _ hs) rfl (fun g' hT => ?_) (fun g' hF => ?_)
 refine au (bC rfl) rfl rfl ?_
 refine ah ?_
 refine aq ?_
 refine aC rfl ?_
 refine aS ?_
 refine bo ?_
 refine aq ?_
 refine ai ?_
 refine au (bl rfl rfl (by omega) (by omega)) rfl rfl ?_
 refine au (ap rfl) rfl rfl ?_
 refine ah ?_
 refine bq ((k + 1, g')) ?_ ?_ ⟨rfl, trivial⟩ (by repeat (first | exact trivial | refine ⟨rfl, ?_⟩)) (fun w h => h.weak (.cons _ (List.Sublist.refl _)) (fun s hs => hs))
 exact ⟨by show k + 1 ≤ _; omega, by show I (l.take (k + 1)) _; rw [take_succ_getD br hk]; exact hT⟩
 show l.length - (k + 1) < l.length - k
 omega
 refine au (bC rfl) rfl rfl ?_
 refine ah ?_
 refine aq ?_
 refine aA rfl ?_
 refine aQ ?_
 refine aK ?_
 refine ay ?_
 refine a9 ?_
 refine aK ?_
 refine aV (ts := []) rfl rfl rfl (fun w hw => ?_)
 focus first
   | exact gG _ (.inr ⟨_, l.drop (k + 1), by rw [List.append_assoc]; exact hx2, hF⟩) (hw.weak (.cons _ (.cons_cons _ .slnil)) (fun s hs => hs))
   | exact gG _ (.inl (by rw [List.take_of_length_le (by omega)] at hI; exact hI.2)) (hw.weak (.cons _ (.cons_cons _ .slnil)) (fun s hs => hs))
   | (trace_state; fail)
 refine ah ?_
 refine aq ?_
 refine ar ?_
 refine aC rfl ?_
 refine bw ?_
 refine aY ?_
 refine aZ ?_
 refine a7 ?_
 refine e_end (ts := []) rfl rfl rfl (fun w hw => ?_)
 focus first
   | exact gG _ (.inr ⟨_, l.drop (k + 1), by rw [List.append_assoc]; exact hx2, hF⟩) (hw.weak (.cons_cons _ .slnil) (fun s hs => hs))
   | exact gG _ (.inl (by rw [List.take_of_length_le (by omega)] at hI; exact hI.2)) (hw.weak (.cons_cons _ .slnil) (fun s hs => hs))
   | (trace_state; fail)

theorem c_Values (l : List Le) (A : Option Addr) (c : Nat) : RC Tryz.prog 155 #[.slice A l.length c] [] (α := Nat) (fun p => .func (.func 211) #[] #[.pointer (some ⟨p, 0, none⟩)]) (fun p => [Ch.row p [.slice A l.length c] 22]) := by
 refine bx (args := [.slice A l.length c]) 4 Tryz.func155 rfl rfl rfl (fun w0 => ?_)
 refine ar ?_
 refine ai ?_
 refine cv rfl rfl rfl (fun b1 => ?_)
 refine au (ao rfl) rfl rfl ?_
 refine ah ?_
 refine aq ?_
 refine ar ?_
 refine ai ?_
 refine au (y_makeFunc rfl rfl) rfl rfl ?_
 refine au (ao rfl) rfl rfl ?_
 refine ah ?_
 refine aq ?_
 refine aQ ?_
 refine aV (ts := [2]) rfl rfl rfl (fun w hw => ?_)
 exact ⟨b1, rfl, hw.base, (hw.weak (.cons_cons _ .slnil) (fun s hs => hs)).toNews⟩

theorem c_Entries (x : Ixd) : RC Tryz.prog 85 #[.pointer (some ⟨x.b, 0, none⟩)] [Ch.row x.b (ixC x) 122] (α := Nat) (fun p => .func (.func 211) #[] #[.pointer (some ⟨p, 0, none⟩)]) (fun p => [Ch.row p [.slice x.A x.l.length x.c] 22]) := by
 refine bx (args := [.pointer (some ⟨x.b, 0, none⟩)]) 10 Tryz.func85 rfl rfl rfl (fun w0 => ?_)
 refine ar ?_
 refine ai ?_
 refine au (ao rfl) rfl rfl ?_
 refine ah ?_
 refine aq ?_
 refine ar ?_
 refine ar ?_
 refine ai ?_
 refine au (ap rfl) rfl rfl ?_
 refine au (gr Tryz.underlying39 rfl rfl) rfl rfl ?_
 refine cU (t := 4) (.bool false) rfl (congrArg Value.bool rfl) ?_
 refine ah ?_
 refine aq ?_
 refine aC rfl ?_
 refine aS ?_
 refine aq ?_
 refine ar ?_
 refine ai ?_
 refine au (ap rfl) rfl rfl ?_
 refine au (bh rfl) rfl rfl ?_
 refine au (aD dZ rfl) rfl rfl ?_
 refine au (cN 0 bZ rfl rfl rfl) rfl rfl ?_
 refine bM rfl ent_155 rfl (c_Values _ _ _) (fun w hw => bd) (fun p0 => ?_)
 refine au (ao rfl) rfl rfl ?_
 refine ah ?_
 refine aq ?_
 refine aQ ?_
 refine aV (ts := [2]) rfl rfl rfl (fun w hw => ?_)
 exact ⟨p0, rfl, hw.base, (hw.weak (.cons_cons _ .slnil) (fun s hs => hs)).toNews⟩

def jH (x : Ixd) (y : Le) : Bool := decide (y.e.kind = 2) && !(bT x.dm (aX y.e.host)).isSome
def fP (x : Ixd) (l : List Le) : List bf := (l.filter (jH x)).map (·.e.host)
theorem lost_len (x : Ixd) (l : List Le) : (fP x l).length ≤ l.length := by rw [fP, List.length_map]; exact List.length_filter_le _ _
theorem lost_yes {x : Ixd} {pre : List Le} {e : Le} (h1 : e.e.kind = 2) (h2 : (bT x.dm (aX e.e.host)).isSome = false) : fP x (pre ++ [e]) = fP x pre ++ [e.e.host] := by
  have : jH x e = true := by rw [jH, decide_eq_true h1, h2]; rfl
  rw [fP, List.filter_append, List.map_append, List.filter_cons_of_pos this]; rfl
theorem lost_no {x : Ixd} {pre : List Le} {e : Le} (h : ¬ e.e.kind = 2 ∨ (bT x.dm (aX e.e.host)).isSome = true) : fP x (pre ++ [e]) = fP x pre := by
  have : jH x e = false := by
    rcases h with h | h
    · rw [jH, decide_eq_false h]; rfl
    · rw [jH, h, Bool.not_true, Bool.and_false]
  rw [fP, List.filter_append, List.map_append, List.filter_cons_of_neg (by rw [this]; decide)]; exact List.append_nil _

set_option maxRecDepth 100000 in
set_option maxHeartbeats 1000000 in
theorem c_Lost (x : Ixd) (hxl : x.l.length ≤ 1000000000) (hxb : ∀ y ∈ x.l, y.e.host.length ≤ 1000) : RC Tryz.prog 27 #[.pointer (some ⟨x.b, 0, none⟩)] [Ch.row x.b (ixC x) 122, Ch.mp x.rd fL eY x.dm, Ch.rd x.A 7 dB x.l] (α := Option Addr × Nat) (fun p => .slice p.1 (fP x x.l).length p.2) (fun p => [Ch.ls p.1 p.2 26 1 d9 (fP x x.l)]) := by
 refine rc_of_WM (args := [.pointer (some ⟨x.b, 0, none⟩)]) 33 Tryz.func27 rfl rfl rfl (fun w0 => ?_)
 refine ar ?_
 refine ai ?_
 refine cv rfl rfl rfl (fun b1 => ?_)
 refine au (ao rfl) rfl rfl ?_
 refine ah ?_
 refine aq ?_
 refine ar ?_
 refine ai ?_
 refine bj ip rfl rfl (fun b2 => ?_)
 refine ah ?_
 refine aq ?_
 refine ar ?_
 refine ar ?_
 refine ai ?_
 refine au (aM 1 ty_39 rfl rfl rfl) rfl rfl ?_
 refine bM rfl ent_85 rfl (c_Entries x) (fun w hw => (aO (bJ 0 rfl hw) bd)) (fun p2 => ?_)
 refine ib (fun w h => h.freeze) ?_
 refine ah ?_
 refine aq ?_
 refine aW ?_
 refine bF (fun w h => h.nilsl 26 1) ?_
 refine w_range (σ := List bf × Option Addr × Nat) (fun pre g => g.1 = fP x pre) (fun c pre g => False) (fun g => [Ch.ls g.2.1 g.2.2 26 1 d9 g.1, Ch.row b2 [.slice g.2.1 g.1.length g.2.2] 59, Ch.row b1 [.pointer (some ⟨x.b, 0, none⟩)] 39]) (([], none, 0)) rfl rfl ent_211 (c_Values1 x.l x.A x.c p2 hxl) (List.forall_mem_cons.2 ⟨.head _, List.forall_mem_cons.2 ⟨.tail _ (.tail _ (.tail _ (.head _))), nofun⟩⟩) rfl (fun _ => rfl) (rfl) rfl (fun pre e post g hxs hI lr D r hr okb wb => ?_) (fun g D0 hI => ?_) (fun c pre post g D0 hxs hI => ?_)
 obtain ⟨q, Ax, cx⟩ := g
 dsimp only at hI ⊢
 subst hI
 have hpl : pre.length ≤ x.l.length := by rw [hxs]; simp
 have hq9 := lost_len x pre
 have heb := hxb e (by rw [hxs]; simp)
 refine ai ?_
 refine bj aR rfl rfl (fun b4 => ?_)
 refine a0 aR rfl rfl rfl .z rfl rfl rfl rfl ?_
 refine ah ?_
 refine e_begin rfl hr (.s (.z)) ?_
 refine aW ?_
 refine g3 (σ := Nat) (fun qd => [(5, .pointer (some ⟨qd, 0, none⟩)), (6, .bool (bT x.dm (aX e.e.host)).isSome)]) (fun qd => [Ch.row qd (dT ((bT x.dm (aX e.e.host)).getD eZ)) 29]) (fun qd => ?_) (fun J4 => ?_)
 refine ar ?_
 refine ai ?_
 refine au (aD ea rfl) rfl rfl ?_
 refine au (aM 1 de rfl rfl rfl) rfl rfl ?_
 refine au (dk rfl rfl) rfl rfl ?_
 refine aB (t := 22) rfl (fun h5_2 => ?_) (fun h5_2 => ?_)
 refine au (ap rfl) rfl rfl ?_
 refine az rfl rfl ?_
 refine au (ap rfl) rfl rfl ?_
 refine bD (t := 24) rfl (fun h5_4 => ?_) (fun h5_4 => ?_)
 refine az rfl rfl ?_
 refine au (bC rfl) rfl rfl ?_
 refine au (aG rfl rfl) rfl rfl ?_
 refine ah ?_
 refine aq ?_
 refine aC rfl ?_
 refine aS ?_
 refine bo ?_
 refine e_rend ((fP x pre, Ax, cx)) ?_ (fun w h => h.weak (.cons _ (.cons _ (List.Sublist.refl _))) (fun s hs => hs))
 rw [lost_no (by first | exact .inl h5_2 | exact .inr (by simpa using h5_4))]
 refine az rfl rfl ?_
 refine au (bC rfl) rfl rfl ?_
 refine au (aG rfl rfl) rfl rfl ?_
 refine ah ?_
 refine aq ?_
 refine aA rfl ?_
 refine ai ?_
 refine au (aM 5 ip rfl rfl rfl) rfl rfl ?_
 refine au (aD cQ rfl) rfl rfl ?_
 refine au (aM 1 bN rfl rfl rfl) rfl rfl ?_
 refine cD (vs := [_]) ([e.e.host] : List (bf)) ct Tryz.underlying59 bN rfl rfl rfl rfl rfl rfl (fun As5 => ?_)
 refine cC (enc := d9) (sz := 1) [e.e.host] Tryz.underlying59 bN rfl rfl rfl (fun A c => (.s (.s (.s (.s (.s (.z))))))) (d5 0 Tryz.underlying59 rfl) (by simp only [List.length_cons, List.length_nil, Nat.zero_add]; omega) (by simp only [List.length_cons, List.length_nil, Nat.zero_add]; omega) rfl (fun A5 c5 => ?_)
 refine a0 ip rfl rfl rfl (.s (.s (.s (.s (.s (.s (.z))))))) rfl rfl rfl rfl ?_
 refine ah ?_
 refine bo ?_
 refine e_rend ((fP x pre ++ [e.e.host], A5, c5)) ?_ (fun w h => h.weak (.cons _ (.cons _ (.cons _ (List.Sublist.refl _)))) (fun s hs => hs))
 rw [lost_yes h5_2 (by simpa using h5_4)]
 refine au (ap rfl) rfl rfl ?_
 refine ax rfl rfl rfl rfl ?_
 refine ax rfl rfl rfl rfl ?_
 refine au (aI rfl rfl) rfl rfl ?_
 refine ah ?_
 refine aq ?_
 refine aC rfl ?_
 refine aS ?_
 refine bo ?_
 refine e_rend ((fP x pre, Ax, cx)) ?_ (fun w h => h.weak (.cons _ (.cons _ (List.Sublist.refl _))) (fun s hs => hs))
 rw [lost_no (by first | exact .inl h5_2 | exact .inr (by simpa using h5_4))]
 refine ar ?_
 refine gp 11 cu ?_
 refine aL (i := 0) rfl aj (aM 5 ty_39 rfl rfl rfl) aE aE rfl (aa (ae f9)) (by kernel_rfl) rfl ?_
 refine aL (i := 1) rfl aj (bh rfl) aE aE rfl (aa (ae f9)) (by kernel_rfl) rfl ?_
 refine aL (i := 2) rfl aj (aD io rfl) aE aE rfl (aa (ae f9)) (by kernel_rfl) rfl ?_
 refine aL (i := 3) rfl aj (cN 1 ty_118 rfl rfl rfl) aE aE rfl (aa (ae f9)) (by kernel_rfl) rfl ?_
 refine aL (i := 4) rfl aj (a6 0 aR rfl rfl rfl rfl) aE aE rfl (aa (ae f9)) (by kernel_rfl) rfl ?_
 refine f6 (js := [5, 10]) (by kernel_rfl) rfl ?_
 refine cV (i := 5) rfl rfl ?_ ?_
 refine bb rfl dM (cI _ _ _ _ _ (by omega)) rfl ?_
 refine ah ?_
 refine bR aE ?_
 refine f6 (js := [6, 10]) (by kernel_rfl) rfl ?_
 refine cV (i := 6) rfl rfl ?_ ?_
 refine bp rfl ia rfl (iH _ _ _) (fun w hw => (aO (bJ 2 rfl hw) bd)) ?_
 refine ah ?_
 refine bR aE ?_
 refine aL (i := 7) rfl aj (ap rfl) aE aE rfl (aa (ae f9)) (by kernel_rfl) rfl ?_
 refine aL (i := 8) rfl aj (aP rfl rfl) aE aE rfl (aa (ae f9)) (by kernel_rfl) rfl ?_
 refine f6 (js := [9, 10]) (by kernel_rfl) rfl ?_
 refine cV (i := 9) rfl rfl ?_ ?_
 refine au (aP rfl rfl) rfl rfl ?_
 refine ah ?_
 refine bR aE ?_
 refine bQ (i := 10) rfl (by kernel_rfl) rfl ?_
 refine bj bu rfl rfl (fun b7 => ?_)
 refine ah ?_
 refine bR (fun w h => h.weak (.cons _ (List.Sublist.refl _)) (fun s hs => hs)) ?_
 refine bQ (i := 11) rfl (by kernel_rfl) rfl ?_
 refine a0 bu rfl rfl rfl .z rfl rfl rfl rfl ?_
 refine ah ?_
 refine bY rfl ?_
 refine bQ (i := 12) rfl (by kernel_rfl) rfl ?_
 refine au (ao rfl) rfl rfl ?_
 refine ah ?_
 refine bY rfl ?_
 refine cr (by kernel_rfl) ?_
 refine aq ?_
 refine bF (fun w h => h.weak (.cons_cons _ (List.Sublist.refl _)) (fun s hs => hs)) ?_
 exact J4 b7 _ (by repeat (first | exact trivial | refine ⟨rfl, ?_⟩))
 refine cV (i := 10) rfl rfl ?_ ?_
 refine bj bu rfl rfl (fun b8 => ?_)
 refine ah ?_
 refine bR (fun w h => h.weak (.cons _ (List.Sublist.refl _)) (fun s hs => hs)) ?_
 refine f6 (js := [9, 11]) (by kernel_rfl) rfl ?_
 refine cV (i := 9) rfl rfl ?_ ?_
 refine au (aP rfl rfl) rfl rfl ?_
 refine ah ?_
 refine bR (fun w h => h.weak (.cons _ (List.Sublist.refl _)) (fun s hs => hs)) ?_
 refine bQ (i := 11) rfl (by kernel_rfl) rfl ?_
 refine a0 bu rfl rfl rfl .z rfl rfl rfl rfl ?_
 refine ah ?_
 refine bY rfl ?_
 refine bQ (i := 12) rfl (by kernel_rfl) rfl ?_
 refine au (ao rfl) rfl rfl ?_
 refine ah ?_
 refine bY rfl ?_
 refine cr (by kernel_rfl) ?_
 refine aq ?_
 refine bF (fun w h => h.weak (.cons_cons _ (List.Sublist.refl _)) (fun s hs => hs)) ?_
 exact J4 b8 _ (by repeat (first | exact trivial | refine ⟨rfl, ?_⟩))
 refine cV (i := 11) rfl rfl ?_ ?_
 refine a0 bu rfl rfl rfl .z rfl rfl rfl rfl ?_
 refine ah ?_
 refine bY rfl ?_
 refine bQ (i := 9) rfl (by kernel_rfl) rfl ?_
 refine au (aP rfl rfl) rfl rfl ?_
 refine ah ?_
 refine bY rfl ?_
 refine bQ (i := 12) rfl (by kernel_rfl) rfl ?_
 refine au (ao rfl) rfl rfl ?_
 refine ah ?_
 refine bY rfl ?_
 refine cr (by kernel_rfl) ?_
 refine aq ?_
 refine bF (fun w h => h.weak (.cons_cons _ (List.Sublist.refl _)) (fun s hs => hs)) ?_
 exact J4 b8 _ (by repeat (first | exact trivial | refine ⟨rfl, ?_⟩))
 exact ff
 exact ff
 refine cV (i := 10) rfl rfl ?_ ?_
 refine bj bu rfl rfl (fun b9 => ?_)
 refine ah ?_
 refine bR (fun w h => h.weak (.cons _ (List.Sublist.refl _)) (fun s hs => hs)) ?_
 refine bQ (i := 6) rfl (by kernel_rfl) rfl ?_
 refine bp rfl ia rfl (iH _ _ _) (fun w hw => (aO (bJ 2 rfl hw) bd)) ?_
 refine ah ?_
 refine bR (fun w h => h.weak (.cons _ (List.Sublist.refl _)) (fun s hs => hs)) ?_
 refine aL (i := 7) rfl aj (ap rfl) (fun w h => h.weak (.cons _ (List.Sublist.refl _)) (fun s hs => hs)) aE rfl (aa (ae f9)) (by kernel_rfl) rfl ?_
 refine aL (i := 8) rfl aj (aP rfl rfl) (fun w h => h.weak (.cons _ (List.Sublist.refl _)) (fun s hs => hs)) aE rfl (aa (ae f9)) (by kernel_rfl) rfl ?_
 refine f6 (js := [9, 11]) (by kernel_rfl) rfl ?_
 refine cV (i := 9) rfl rfl ?_ ?_
 refine au (aP rfl rfl) rfl rfl ?_
 refine ah ?_
 refine bR (fun w h => h.weak (.cons _ (List.Sublist.refl _)) (fun s hs => hs)) ?_
 refine bQ (i := 11) rfl (by kernel_rfl) rfl ?_
 refine a0 bu rfl rfl rfl .z rfl rfl rfl rfl ?_
 refine ah ?_
 refine bY rfl ?_
 refine bQ (i := 12) rfl (by kernel_rfl) rfl ?_
 refine au (ao rfl) rfl rfl ?_
 refine ah ?_
 refine bY rfl ?_
 refine cr (by kernel_rfl) ?_
 refine aq ?_
 refine bF (fun w h => h.weak (.cons_cons _ (List.Sublist.refl _)) (fun s hs => hs)) ?_
 exact J4 b9 _ (by repeat (first | exact trivial | refine ⟨rfl, ?_⟩))
 refine cV (i := 11) rfl rfl ?_ ?_
 refine a0 bu rfl rfl rfl .z rfl rfl rfl rfl ?_
 refine ah ?_
 refine bY rfl ?_
 refine bQ (i := 9) rfl (by kernel_rfl) rfl ?_
 refine au (aP rfl rfl) rfl rfl ?_
 refine ah ?_
 refine bY rfl ?_
 refine bQ (i := 12) rfl (by kernel_rfl) rfl ?_
 refine au (ao rfl) rfl rfl ?_
 refine ah ?_
 refine bY rfl ?_
 refine cr (by kernel_rfl) ?_
 refine aq ?_
 refine bF (fun w h => h.weak (.cons_cons _ (List.Sublist.refl _)) (fun s hs => hs)) ?_
 exact J4 b9 _ (by repeat (first | exact trivial | refine ⟨rfl, ?_⟩))
 exact ff
 exact ff
 refine cV (i := 10) rfl rfl ?_ ?_
 refine bj bu rfl rfl (fun b10 => ?_)
 refine ah ?_
 refine bR (fun w h => h.weak (.cons _ (List.Sublist.refl _)) (fun s hs => hs)) ?_
 refine bQ (i := 5) rfl (by kernel_rfl) rfl ?_
 refine bb rfl dM (cI _ _ _ _ _ (by omega)) rfl ?_
 refine ah ?_
 refine bR (fun w h => h.weak (.cons _ (List.Sublist.refl _)) (fun s hs => hs)) ?_
 refine bQ (i := 6) rfl (by kernel_rfl) rfl ?_
 refine bp rfl ia rfl (iH _ _ _) (fun w hw => (aO (bJ 2 rfl hw) bd)) ?_
 refine ah ?_
 refine bR (fun w h => h.weak (.cons _ (List.Sublist.refl _)) (fun s hs => hs)) ?_
 refine aL (i := 7) rfl aj (ap rfl) (fun w h => h.weak (.cons _ (List.Sublist.refl _)) (fun s hs => hs)) aE rfl (aa (ae f9)) (by kernel_rfl) rfl ?_
 refine aL (i := 8) rfl aj (aP rfl rfl) (fun w h => h.weak (.cons _ (List.Sublist.refl _)) (fun s hs => hs)) aE rfl (aa (ae f9)) (by kernel_rfl) rfl ?_
 refine f6 (js := [9, 11]) (by kernel_rfl) rfl ?_
 refine cV (i := 9) rfl rfl ?_ ?_
 refine au (aP rfl rfl) rfl rfl ?_
 refine ah ?_
 refine bR (fun w h => h.weak (.cons _ (List.Sublist.refl _)) (fun s hs => hs)) ?_
 refine bQ (i := 11) rfl (by kernel_rfl) rfl ?_
 refine a0 bu rfl rfl rfl .z rfl rfl rfl rfl ?_
 refine ah ?_
 refine bY rfl ?_
 refine bQ (i := 12) rfl (by kernel_rfl) rfl ?_
 refine au (ao rfl) rfl rfl ?_
 refine ah ?_
 refine bY rfl ?_
 refine cr (by kernel_rfl) ?_
 refine aq ?_
 refine bF (fun w h => h.weak (.cons_cons _ (List.Sublist.refl _)) (fun s hs => hs)) ?_
 exact J4 b10 _ (by repeat (first | exact trivial | refine ⟨rfl, ?_⟩))
 refine cV (i := 11) rfl rfl ?_ ?_
 refine a0 bu rfl rfl rfl .z rfl rfl rfl rfl ?_
 refine ah ?_
 refine bY rfl ?_
 refine bQ (i := 9) rfl (by kernel_rfl) rfl ?_
 refine au (aP rfl rfl) rfl rfl ?_
 refine ah ?_
 refine bY rfl ?_
 refine bQ (i := 12) rfl (by kernel_rfl) rfl ?_
 refine au (ao rfl) rfl rfl ?_
 refine ah ?_
 refine bY rfl ?_
 refine cr (by kernel_rfl) ?_
 refine aq ?_
 refine bF (fun w h => h.weak (.cons_cons _ (List.Sublist.refl _)) (fun s hs => hs)) ?_
 exact J4 b10 _ (by repeat (first | exact trivial | refine ⟨rfl, ?_⟩))
 exact ff
 exact ff
 obtain ⟨q, Ax, cx⟩ := g
 dsimp only at hI ⊢
 subst hI
 refine bo ?_
 refine aq ?_
 refine ar ?_
 refine ai ?_
 refine au (aM 2 ip rfl rfl rfl) rfl rfl ?_
 refine au (ao rfl) rfl rfl ?_
 refine ah ?_
 refine aq ?_
 refine aQ ?_
 refine e_lvr ?_
 refine lv_take .z ?_
 refine lv_nil (rs := [.tmp 2]) rfl (dR rfl dp) (fun w hw => ?_)
 exact ⟨(Ax, cx), rfl, hw.base, (hw.weak (.cons _ (.cons_cons _ (.cons _ (.cons _ .slnil)))) (fun s hs => hs)).toNews⟩
 exact hI.elim
end Go.Proofs.YtnpdgmoeoidppaaGreat

/- an index in plain words: whatever order; a host looked for in a table -/
namespace Go.Proofs.YtnpdgmoeoidppaaGreat
open Go.RowKit Go.Shelf
set_option linter.unusedVariables false
set_option linter.unusedSimpArgs false

theorem ent_135 : Enters Tryz.prog 135 := enters_of Tryz.func135 (by kernel_rfl) rfl

def ij (es : List En) (n : bf) : Option En := if a8 n ≠ 0 then none else ee es (aX n)
def hdAd (hs : List Hd) (a : Ad) : Option Hd := hs.find? fun h => decide (h.ad = a)
def eC (hs : List Hd) (key : bf) : Option Hd := hs.find? fun h => decide (aX h.host = key)
def ofE (es : List En) (hs : List Hd) (a : Ad) : Option En := ((hdAd hs a).bind fun h => ee es (aX h.host)).or (es.find? fun e => decide (a ∈ e.addrs))
def adsE (es : List En) (hs : List Hd) (n : bf) : List Ad := match ij es n with
  | none => []
  | some e => di e ((eC hs (aX e.host)).map (·.ad)).toList
def lostQ (hs : List Hd) (e : En) : Bool := decide (e.kind = 2) && !(eC hs (aX e.host)).isSome
def lostE (es : List En) (hs : List Hd) : List bf := (es.filter (lostQ hs)).map (·.host)
theorem am_E {l : List Le} {hs : List Hd} {x : Ixd} (hx : IxOk2 l hs x) (a : Ad) : (bT x.am a).map (·.e) = ofE (l.map (·.e)) hs a := by
  rw [hx.am a, ofE]
  have e : ∀ o p : Option Le, (o.or p).map (·.e) = (o.map (·.e)).or (p.map (·.e)) := fun o p => by cases o <;> rfl
  rw [e]
  congr 1
  · show Option.map _ ((hdAd hs a).bind _) = _
    cases hdAd hs a with
    | none => rfl
    | some p => exact lk_E hx.ix.hm hx.ix.es _
  · rw [← hx.ix.es, List.find?_map]; rfl
theorem dm_isSome {l : List Le} {hs : List Hd} {x : Ixd} (hx : IxOk2 l hs x) (key : bf) : (bT x.dm key).isSome = (eC hs key).isSome := by
  rw [hx.dm key]; show (Option.map _ (eC hs key)).isSome = _; cases eC hs key <;> rfl
theorem ads_E {l : List Le} {hs : List Hd} {x : Ixd} (hx : IxOk2 l hs x) (n : bf) : i9 x n = adsE (l.map (·.e)) hs n := by
  have h1 : (ownI x n).map (·.e) = ij (l.map (·.e)) n := by
    unfold ownI ij
    split
    · rfl
    · exact lk_E hx.ix.hm hx.ix.es _
  rw [i9, adsE, ← h1]
  cases ownI x n with
  | none => rfl
  | some y =>
    show di y.e (i2 x y) = di y.e _
    rw [i2, hx.dm]; rfl
theorem lost_E {l : List Le} {hs : List Hd} {x : Ixd} (hx : IxOk2 l hs x) : fP x x.l = lostE (l.map (·.e)) hs := by
  rw [fP, lostE, ← hx.ix.es, List.filter_map, List.map_map]
  have : (jH x) = (lostQ hs ∘ fun y : Le => y.e) := funext fun y => by
    show jH x y = lostQ hs y.e
    rw [jH, lostQ, dm_isSome hx]
  rw [this]; rfl
theorem held_iff {es : List En} {hs : List Hd} : bU es hs ↔ (∀ h ∈ hs, a8 h.host = 0 ∧ (∃ e, ee es (aX h.host) = some e ∧ e.kind = 2) ∧ cz h.ad = 0) ∧ hs.Pairwise fun a b => aX a.host ≠ aX b.host ∧ a.ad ≠ b.ad := by
  constructor
  · intro H
    refine ⟨fun h hh => (held_at H hh).1, ?_⟩
    rw [List.pairwise_iff_getElem]
    intro i j hi hj hij
    have h1 := H j hj
    rw [List.getD_eq_getElem?_getD, List.getElem?_eq_getElem hj] at h1
    have hm : hs[i] ∈ hs.take j := List.mem_iff_getElem.2 ⟨i, by simp; omega, by rw [List.getElem_take]⟩
    exact ⟨h1.2.2.2.1 _ hm, h1.2.2.2.2 _ hm⟩
  · rintro ⟨h1, h2⟩ i hi
    rw [List.getD_eq_getElem?_getD, List.getElem?_eq_getElem hi]
    obtain ⟨q1, q2, q3⟩ := h1 _ (List.getElem_mem hi)
    rw [List.pairwise_iff_getElem] at h2
    have h3 : ∀ p ∈ hs.take i, aX p.host ≠ aX hs[i].host ∧ p.ad ≠ hs[i].ad := fun p hp => by
      obtain ⟨j, hj, rfl⟩ := List.mem_iff_getElem.1 hp
      have hj2 : j < i := by simp at hj; omega
      rw [List.getElem_take]
      exact h2 j i (by omega) hi hj2
    exact ⟨q1, q2, q3, fun p hp => (h3 p hp).1, fun p hp => (h3 p hp).2⟩
theorem opt_e {o p : Option Le} (h : o.map (·.e) = p.map (·.e)) : o.isSome = p.isSome ∧ (o.getD br).e = (p.getD br).e := by
  cases o <;> cases p <;> first | exact ⟨rfl, rfl⟩ | (cases h; done) | exact ⟨rfl, Option.some.inj h⟩
def FX (l : List Le) (n : bf) : Option Nat → Prop
  | none => ∀ q, q < l.length → dE (gm l q) n = false
  | some i => i < l.length ∧ dE (gm l i) n = true ∧ ∀ q, q < i → dE (gm l q) n = false
/-- What a table tells of a host. -/
structure FE (l : List Le) (n : bf) (r : Option Le) : Prop where
  e : r.map (·.e) = ij (l.map (·.e)) n
  mem : r.getD br ∈ br :: l
theorem fx_none {v : Int} {l : List Le} (h0 : bO v l = 0) {n : bf} {o : Option Nat} (h : FX l n o) (hb : ez o < 0) : FE l n none := by
  cases o with
  | some j => exact absurd hb (by simp only [ez]; omega)
  | none =>
    refine ⟨?_, .head _⟩
    unfold ij
    split
    · rfl
    · rename_i hn
      cases hl : ee (l.map (·.e)) (aX n) with
      | none => rfl
      | some e =>
        obtain ⟨h1, h2⟩ := jR hl
        obtain ⟨x, hx, rfl⟩ := List.mem_map.1 h1
        have h3 : dE x.e.host n = false := at_all (p := fun s => dE s n = false) h x hx
        rw [(dP ((f5 h0).ck _ h1) (by omega)).2 h2] at h3; cases h3
theorem fx_some {v : Int} {l : List Le} (h0 : bO v l = 0) {n : bf} {o : Option Nat} (h : FX l n o) (hb : ¬ ez o < 0) : (ez o).toNat < l.length ∧ FE l n (some (l.getD (ez o).toNat br)) := by
  cases o with
  | none => exact absurd (by decide) hb
  | some i =>
    obtain ⟨h1, h2, h3⟩ := h
    have e : (ez (some i)).toNat = i := by simp [ez]
    rw [e]
    have hm : (l.getD i br) ∈ l := bA h1
    have hme : (l.getD i br).e ∈ l.map (·.e) := List.mem_map.2 ⟨_, hm, rfl⟩
    have hn : a8 n = 0 := by
      simp only [dE, Bool.and_eq_true, decide_eq_true_eq] at h2; exact h2.1.2
    refine ⟨h1, ?_, .tail _ hm⟩
    rw [ij, if_neg (fun q => q hn), ← (dP ((f5 h0).ck _ hme) hn).1 h2, iR (f5 h0) hme]; rfl

theorem c_ref17_find (l : List Le) (A : Option Addr) (c : Nat) (n : bf) (hok : TbOk l) (hlen : l.length ≤ 1000000000) (hn : n.length ≤ 1000000000) : RC Tryz.prog 135 #[.slice A l.length c, .string (ba n)] [Ch.rd A 7 dB l] (α := {o : Option Nat // FX l n o}) (fun o => .int .i64 (ez o.1)) (fun o => []) := by
 refine bx (args := [.slice A l.length c, .string (ba n)]) 20 Tryz.func135 rfl rfl rfl (fun w0 => ?_)
 refine ar ?_
 refine ai ?_
 refine au (ao rfl) rfl rfl ?_
 refine ah ?_
 refine aq ?_
 refine ar ?_
 refine ar ?_
 refine ai ?_
 refine au (ao rfl) rfl rfl ?_
 refine ah ?_
 refine aq ?_
 refine aW ?_
 refine bV (σ := Nat) [4, 5, 6, 7, 8, 9, 10, 11, 12, 13, 14, 15, 16, 17, 18, 19] (fun k => k ≤ l.length ∧ ∀ q, q < k → dE (gm l q) n = false) (fun k => l.length - k) (fun k => [(5, .int .i64 k)]) (0) ?_ ⟨rfl, trivial⟩ (fun k hI => ?_)
 exact ⟨Nat.zero_le _, nofun⟩
 refine ar ?_
 refine ar ?_
 refine ai ?_
 refine au (ap rfl) rfl rfl ?_
 refine au (ap rfl) rfl rfl ?_
 refine au (bg Tryz.underlying22 rfl) rfl rfl ?_
 refine au (bI rfl rfl) rfl rfl ?_
 refine aB (t := 9) rfl (fun h2_3 => ?_) (fun h2_3 => ?_)
 have hk : k < l.length := by omega
 have hb9 := hok.at hk
 have hh9 := hb9.h
 refine ah ?_
 refine aq ?_
 refine aA rfl ?_
 refine aS ?_
 refine aq ?_
 refine ar ?_
 refine aW ?_
 refine ar ?_
 refine ai ?_
 refine au (ap rfl) rfl rfl ?_
 refine au (ap rfl) rfl rfl ?_
 refine au (bz  Tryz.underlying22 aR rfl rfl (bE 0 rfl) rfl (by omega)) rfl rfl ?_
 refine au (aD cQ rfl) rfl rfl ?_
 refine au (cf cj br bN rfl (bE 0 rfl) (by omega) rfl rfl) rfl rfl ?_
 refine au (ap rfl) rfl rfl ?_
 refine bb rfl ent_46 (fU _ _ (by omega) (by omega)) rfl ?_
 refine bD (t := 18) rfl (fun h4_6 => ?_) (fun h4_6 => ?_)
 refine ah ?_
 refine aq ?_
 refine aA rfl ?_
 refine ar ?_
 refine ai ?_
 refine au (ap rfl) rfl rfl ?_
 refine au (ao rfl) rfl rfl ?_
 refine ah ?_
 refine aq ?_
 refine aQ ?_
 refine aK ?_
 refine ay ?_
 refine a9 ?_
 refine aK ?_
 refine ay ?_
 refine aV (ts := [4]) rfl rfl rfl (fun w hw => ?_)
 exact ⟨⟨some k, by omega, h4_6, hI.2⟩, rfl, hw.base, (hw.weak (List.nil_sublist _) (fun s hs => hs)).toNews⟩
 refine ah ?_
 refine aq ?_
 refine aC rfl ?_
 refine aS ?_
 refine bo ?_
 refine aq ?_
 refine ai ?_
 refine au (ap rfl) rfl rfl ?_
 refine au (bl rfl rfl (by omega) (by omega)) rfl rfl ?_
 refine au (ao rfl) rfl rfl ?_
 refine ah ?_
 refine bq (k + 1) ?_ ?_ ⟨rfl, trivial⟩ (by repeat (first | exact trivial | refine ⟨rfl, ?_⟩)) aE
 refine ⟨by omega, fun q hq => ?_⟩
 by_cases e : q = k
 · rw [e]; exact h4_6
 · exact hI.2 q (by omega)
 omega
 refine ah ?_
 refine aq ?_
 refine aC rfl ?_
 refine bw ?_
 refine aY ?_
 refine aZ ?_
 refine a7 ?_
 refine aq ?_
 refine ar ?_
 refine ai ?_
 refine au (ao rfl) rfl rfl ?_
 refine ah ?_
 refine aq ?_
 refine aQ ?_
 refine aV (ts := [4]) rfl rfl rfl (fun w hw => ?_)
 exact ⟨⟨none, fun q hq => hI.2 q (by omega)⟩, rfl, hw.base, (hw.weak (List.nil_sublist _) (fun s hs => hs)).toNews⟩

set_option maxRecDepth 100000 in
theorem dV (v : Int) (l : List Le) (A : Option Addr) (c : Nat) (n : bf) (hok : TbOk l) (hlen : l.length ≤ 1000000000) (hn : n.length ≤ 1000000000) (h0 : bO v l = 0) : RC Tryz.prog 58 #[.agg (iM v A l.length c).toArray, .string (ba n)] [Ch.rd A 7 dB l, Ch.rall (l.flatMap e6)] (α := {r : Option Le // FE l n r}) (fun o => .tuple #[.agg (dB (o.1.getD br)).toArray, .bool o.1.isSome]) (fun o => []) := by
 refine bx (args := [.agg (iM v A l.length c).toArray, .string (ba n)]) 23 Tryz.func58 rfl rfl rfl (fun w0 => ?_)
 refine ar ?_
 refine ai ?_
 refine cv rfl rfl rfl (fun b1 => ?_)
 refine bj aR rfl rfl (fun b2 => ?_)
 refine au (ao rfl) rfl rfl ?_
 refine ah ?_
 refine aq ?_
 refine ar ?_
 refine ar ?_
 refine ai ?_
 refine au (a6 1 dh rfl rfl rfl rfl) rfl rfl ?_
 refine bp rfl ent_62 rfl (eO _ _ _ _ hok (by omega)) (fun w hw => (aO (bJ 0 rfl hw) (aO (bJ 1 rfl hw) bd))) ?_
 refine au (bX rfl rfl) rfl rfl ?_
 refine dJ (t := 9) rfl (fun h => h h0) ?_
 refine ah ?_
 refine aq ?_
 refine aC rfl ?_
 refine aS ?_
 refine aq ?_
 refine ar ?_
 refine ai ?_
 refine au (aD cw rfl) rfl rfl ?_
 refine au (aM 1 bZ rfl rfl rfl) rfl rfl ?_
 refine au (ap rfl) rfl rfl ?_
 refine eM rfl ent_135 rfl (c_ref17_find l A c n hok hlen hn) (fun w hw => (aO (bJ 0 rfl hw) bd)) (fun ⟨fo, hfo⟩ => ?_)
 refine au (ao rfl) rfl rfl ?_
 refine ah ?_
 refine aq ?_
 refine ar ?_
 refine ar ?_
 refine ai ?_
 refine au (ap rfl) rfl rfl ?_
 refine au (bI rfl rfl) rfl rfl ?_
 refine aB (t := 16) rfl (fun h4_1 => ?_) (fun h4_1 => ?_)
 refine ah ?_
 refine aq ?_
 refine aA rfl ?_
 refine ar ?_
 refine ai ?_
 refine au (dW rfl (bu_34)) rfl rfl ?_
 refine a0 aR rfl rfl rfl .z rfl rfl rfl rfl ?_
 refine au (ao rfl) rfl rfl ?_
 refine ah ?_
 refine aq ?_
 refine aQ ?_
 refine ay ?_
 refine ed (rs := [.cell 4 34, .tmp 5]) rfl (cF 0 aR rfl rfl rfl rfl (dR rfl dp)) rfl (fun w hw => ?_)
 exact ⟨⟨none, fx_none h0 hfo h4_1⟩, rfl, hw.base, (hw.weak (List.nil_sublist _) (fun s hs => hs)).toNews⟩
 refine ah ?_
 refine aq ?_
 refine aC rfl ?_
 refine aS ?_
 refine aq ?_
 refine ar ?_
 have hb4 : ¬ ez fo < 0 := h4_1
 refine ai ?_
 refine au (aD cw rfl) rfl rfl ?_
 refine au (aM 1 bZ rfl rfl rfl) rfl rfl ?_
 refine au (ap rfl) rfl rfl ?_
 refine au (bz (k := (ez fo).toNat) Tryz.underlying22 aR rfl rfl (bE 0 rfl) (Int.toNat_of_nonneg (a := ez fo) (by omega)).symm (fx_some h0 hfo h4_1).1) rfl rfl ?_
 refine au (bW cj br aR rfl (bE 0 rfl) (fx_some h0 hfo h4_1).1 rfl rfl rfl) rfl rfl ?_
 refine a0 aR rfl rfl rfl .z rfl rfl rfl rfl ?_
 refine au (ao rfl) rfl rfl ?_
 refine ah ?_
 refine aq ?_
 refine aQ ?_
 refine ed (rs := [.cell 4 34, .tmp 5]) rfl (cF 0 aR rfl rfl rfl rfl (dR rfl dp)) rfl (fun w hw => ?_)
 exact ⟨⟨some (l.getD (ez fo).toNat br), (fx_some h0 hfo h4_1).2⟩, rfl, hw.base, (hw.weak (List.nil_sublist _) (fun s hs => hs)).toNews⟩
end Go.Proofs.YtnpdgmoeoidppaaGreat
