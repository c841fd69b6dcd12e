import Derived.Test.YtnpdgmoeoidppaaGreatUeQx
import Derived.Test.YtnpdgmoeoidppaaGreatLvQx
/- two tables told apart -/
namespace Go.Proofs.YtnpdgmoeoidppaaGreat
open Go.RowKit Go.Shelf
set_option linter.unusedVariables false
set_option linter.unusedSimpArgs false

theorem bu_103 : Tryz.prog.built 103 [] = some [.bool false, .int .i64 0, .int .i64 0, .slice none 0 0, .slice none 0 0].toArray := by kernel_rfl
theorem bu_103_1_2 (x0 : Int) (x1 : Int) : Tryz.prog.built 103 [(1, .int .i64 x0), (2, .int .i64 x1)] = some [.bool false, .int .i64 x0, .int .i64 x1, .slice none 0 0, .slice none 0 0].toArray := by kernel_rfl

def dfP (v : Int) (l : List Le) (v2 : Int) (l2 : List Le) : List Le := if bI v l = 0 ∧ bI v2 l2 = 0 then dx l l2 else []
def dfD (v : Int) (l : List Le) (v2 : Int) (l2 : List Le) : List a6 := if bI v l = 0 ∧ bI v2 l2 = 0 then dd l l2 else []
def dfV (v : Int) (l : List Le) (v2 : Int) (l2 : List Le) (x : Int) : Int := if bI v l = 0 ∧ bI v2 l2 = 0 then x else 0
theorem fm_snoc {α β : Type} (f : α → Option β) (l : List α) (a : α) : (l ++ [a]).filterMap f = l.filterMap f ++ (f a).toList := by
  rw [List.filterMap_append, List.filterMap_cons]
  cases f a <;> rfl
theorem jq {l l2 : List Le} {pre : List (Option Nat × Option Nat)} {e : Option Nat × Option Nat} {o : Option Le} (h : putV (g9 l l2 e) = o) : ((pre ++ [e]).map (g9 l l2)).filterMap putV = (pre.map (g9 l l2)).filterMap putV ++ o.toList := by
  rw [List.map_append, List.map_cons, List.map_nil, fm_snoc, h]
theorem g1 {l l2 : List Le} {pre : List (Option Nat × Option Nat)} {e : Option Nat × Option Nat} {o : Option a6} (h : dropV (g9 l l2 e) = o) : ((pre ++ [e]).map (g9 l l2)).filterMap dropV = (pre.map (g9 l l2)).filterMap dropV ++ o.toList := by
  rw [List.map_append, List.map_cons, List.map_nil, fm_snoc, h]
theorem putV_eq {x y : Le} (h : decide (x.e = y.e) = true) : putV (some x, some y) = none := if_pos (congrArg some (of_decide_eq_true h))
theorem putV_ne {x y : Le} (h : decide (x.e = y.e) = false) : putV (some x, some y) = some y := if_neg (fun q => of_decide_eq_false h (Option.some.inj q))
theorem fm_len {l l2 : List Le} (pre : List (Option Nat × Option Nat)) : ((pre.map (g9 l l2)).filterMap putV).length ≤ pre.length ∧ ((pre.map (g9 l l2)).filterMap dropV).length ≤ pre.length := by
  constructor
  · have := List.length_filterMap_le putV (pre.map (g9 l l2)); rwa [List.length_map] at this
  · have := List.length_filterMap_le dropV (pre.map (g9 l l2)); rwa [List.length_map] at this
theorem dfP_len (v : Int) (l : List Le) (v2 : Int) (l2 : List Le) : (dfP v l v2 l2).length ≤ l2.length := by
  unfold dfP; split
  · exact diffPut_len l l2
  · exact Nat.zero_le _
theorem dfD_len (v : Int) (l : List Le) (v2 : Int) (l2 : List Le) : (dfD v l v2 l2).length ≤ l.length := by
  unfold dfD; split
  · exact jC l l2
  · exact Nat.zero_le _

set_option maxRecDepth 100000 in
set_option maxHeartbeats 4000000 in
theorem jY (v : Int) (l : List Le) (A : Option Addr) (c : Nat) (v2 : Int) (l2 : List Le) (A2 : Option Addr) (c2 : Nat) (hok : TbOk l) (hok2 : TbOk l2) (hl : l.length ≤ 1000) (hl2 : l2.length ≤ 1000) (hlc : l.length ≤ c) (hlc2 : l2.length ≤ c2) : RC Tryz.prog 59 #[.agg (eE v A l.length c).toArray, .agg (eE v2 A2 l2.length c2).toArray] [Ch.rd A 7 dF l, Ch.rall (l.flatMap fm), Ch.rd A2 7 dF l2, Ch.rall (l2.flatMap fm)] (α := (Option Addr × Nat) × Option Addr × Nat) (fun p => .agg (er false (dfV v l v2 l2 v) (dfV v l v2 l2 v2) p.1.1 (dfP v l v2 l2).length p.1.2 p.2.1 (dfD v l v2 l2).length p.2.2).toArray) (fun p => [Ch.ls p.2.1 p.2.2 26 1 dD (dfD v l v2 l2), Ch.ls p.1.1 p.1.2 34 7 dF (dfP v l v2 l2)]) := by
 refine rc_of_WM (args := [.agg (eE v A l.length c).toArray, .agg (eE v2 A2 l2.length c2).toArray]) 63 Tryz.func59 rfl rfl rfl (fun w0 => ?_)
 refine ap ?_
 refine ae ?_
 refine cL rfl rfl rfl (fun b1 => ?_)
 refine cL rfl rfl rfl (fun b2 => ?_)
 refine bH bL rfl rfl (fun b3 => ?_)
 refine aa ?_
 refine aj ?_
 refine ap ?_
 refine ap ?_
 refine ae ?_
 refine aq (bu 2 bw rfl rfl rfl rfl) rfl rfl ?_
 refine bA rfl ent_61 rfl (e6 _ _ _ _ hok (by omega)) (fun w hw => (az (bo 0 rfl hw) (az (bo 1 rfl hw) aY))) ?_
 refine aq (cO rfl rfl) rfl rfl ?_
 refine ay (t := 10) rfl (fun h1_2 => ?_) (fun h1_2 => ?_)
 refine aq (am rfl) rfl rfl ?_
 refine ar rfl rfl rfl rfl ?_
 refine ar rfl rfl rfl rfl ?_
 refine ar rfl rfl rfl rfl ?_
 refine aq (aH rfl rfl) rfl rfl ?_
 refine aa ?_
 refine aj ?_
 refine aA rfl ?_
 refine ap ?_
 refine ae ?_
 refine aq (bP rfl (bu_103)) rfl rfl ?_
 refine aW bL rfl rfl rfl .z rfl rfl rfl rfl ?_
 refine aa ?_
 refine aj ?_
 refine aN ?_
 refine ax ?_
 refine e_lvr ?_
 refine iG (rs := [.cell 4 103]) rfl (bQ 0 bL rfl rfl rfl rfl cG) (fun w hw => ?_)
 have hn9 : ¬ (bI v l = 0 ∧ bI v2 l2 = 0) := fun q => by first | exact h1_2 q.1 | exact h1_6 q.2
 have e1 : dfP v l v2 l2 = [] := if_neg hn9
 have e2 : dfD v l v2 l2 = [] := if_neg hn9
 have e3 : ∀ x, dfV v l v2 l2 x = 0 := fun x => if_neg hn9
 rw [e1, e2, e3, e3]
 exact ⟨((none, 0), none, 0), rfl, hw.base, (((hw.weak (List.nil_sublist _) (fun s hs => hs)).nilsl 34 7).nilsl 26 1).toNews⟩
 refine aq (am rfl) rfl rfl ?_
 refine au rfl rfl ?_
 refine aq (bu 1 bw rfl rfl rfl rfl) rfl rfl ?_
 refine au rfl rfl ?_
 refine bA rfl ent_61 rfl (e6 _ _ _ _ hok2 (by omega)) (fun w hw => (az (bo 2 rfl hw) (az (bo 3 rfl hw) aY))) ?_
 refine au rfl rfl ?_
 refine aq (cO rfl rfl) rfl rfl ?_
 refine ay (t := 14) rfl (fun h1_6 => ?_) (fun h1_6 => ?_)
 refine aq (aF rfl rfl) rfl rfl ?_
 refine aa ?_
 refine aj ?_
 refine aA rfl ?_
 refine ap ?_
 refine ae ?_
 refine aq (bP rfl (bu_103)) rfl rfl ?_
 refine aW bL rfl rfl rfl .z rfl rfl rfl rfl ?_
 refine aa ?_
 refine aj ?_
 refine aN ?_
 refine ax ?_
 refine e_lvr ?_
 refine iG (rs := [.cell 4 103]) rfl (bQ 0 bL rfl rfl rfl rfl cG) (fun w hw => ?_)
 have hn9 : ¬ (bI v l = 0 ∧ bI v2 l2 = 0) := fun q => by first | exact h1_2 q.1 | exact h1_6 q.2
 have e1 : dfP v l v2 l2 = [] := if_neg hn9
 have e2 : dfD v l v2 l2 = [] := if_neg hn9
 have e3 : ∀ x, dfV v l v2 l2 x = 0 := fun x => if_neg hn9
 rw [e1, e2, e3, e3]
 exact ⟨((none, 0), none, 0), rfl, hw.base, (((hw.weak (List.nil_sublist _) (fun s hs => hs)).nilsl 34 7).nilsl 26 1).toNews⟩
 refine aq (aF rfl rfl) rfl rfl ?_
 refine aa ?_
 refine aj ?_
 refine aD rfl ?_
 refine aQ ?_
 refine aj ?_
 refine ap ?_
 refine ae ?_
 refine aq (aB dZ rfl) rfl rfl ?_
 refine aq (aC 2 cX rfl rfl rfl) rfl rfl ?_
 refine aq (aB dZ rfl) rfl rfl ?_
 refine aq (aC 1 cX rfl rfl rfl) rfl rfl ?_
 refine aq (bP rfl (bu_103_1_2 _ _)) rfl rfl ?_
 refine bH bL rfl rfl (fun b4 => ?_)
 refine aW bL rfl rfl rfl .z rfl rfl rfl rfl ?_
 refine aa ?_
 refine aj ?_
 refine ap ?_
 refine ap ?_
 have hT1 : bI v l = 0 := Decidable.not_not.1 h1_2
 have hT2 : bI v2 l2 = 0 := Decidable.not_not.1 h1_6
 have hlh : ∀ x ∈ l, x.e.host.length ≤ 1000000000 := fun x hx => by have := (hok.mem17 hx).h; omega
 have hlh2 : ∀ x ∈ l2, x.e.host.length ≤ 1000000000 := fun x hx => by have := (hok2.mem17 hx).h; omega
 refine ae ?_
 refine aq (aB bX rfl) rfl rfl ?_
 refine aq (aC 3 bz rfl rfl rfl) rfl rfl ?_
 refine aq (aB bX rfl) rfl rfl ?_
 refine aq (aC 2 bz rfl rfl rfl) rfl rfl ?_
 refine bU rfl ent_132 rfl (c_pairs A A2 l.length l2.length c c2) (fun w hw => aY) (fun ⟨pa, pb⟩ => ?_)
 refine aa ?_
 refine aj ?_
 refine aS ?_
 refine cz (fun w h => (h.nilsl 34 7).nilsl 26 1) ?_
 refine w_rangeG (σ := (List Le × Option Addr × Nat) × List a6 × Option Addr × Nat) (fun pre g => g.1.1 = (pre.map (g9 l l2)).filterMap putV ∧ g.2.1 = (pre.map (g9 l l2)).filterMap dropV) (fun c pre g => False) (fun g => [Ch.ls g.2.2.1 g.2.2.2 26 1 dD g.2.1, Ch.ls g.1.2.1 g.1.2.2 34 7 dF g.1.1, Ch.row b4 (er false v v2 g.1.2.1 g.1.1.length g.1.2.2 g.2.2.1 g.2.1.length g.2.2.2) 103, Ch.row b3 (er false 0 0 none 0 0 none 0 0) 103, Ch.row b2 (eE v2 A2 l2.length c2) 24, Ch.row b1 (eE v A l.length c) 24]) ((([], none, 0), [], none, 0)) rfl rfl ent_193 (c_pairs1 l l2 A A2 c c2 pa pb hlc hlc2 (by omega) (by omega) hlh hlh2) (List.forall_mem_cons.2 ⟨.head _, List.forall_mem_cons.2 ⟨.tail _ (.tail _ (.head _)), nofun⟩⟩) rfl (fun _ => rfl) (⟨rfl, rfl⟩) (fun w h => h.back2) (fun pre e g hxs hI lr D r hr okb wb => ?_) (fun g D0 hI => ?_) (fun c pre g D0 hxs hI => ?_)
 obtain ⟨⟨pu, Ax, cx⟩, da, Ay, cy⟩ := g
 obtain ⟨post, hxs⟩ := hxs
 dsimp only at hI ⊢
 have hlen9 := gl (l := l) (p := l2) _ 0 0 (Nat.le_refl _)
 rw [hxs] at hlen9
 simp only [List.length_append, List.length_cons, List.length_nil] at hlen9
 have hpl9 := fm_len (l := l) (l2 := l2) pre
 rw [← hI.1, ← hI.2] at hpl9
 have hem := gk (l := l) (p := l2) _ 0 0 e (Nat.le_refl _) (by rw [hxs]; simp)
 refine ap ?_
 refine ae ?_
 refine aq (ai rfl) rfl rfl ?_
 refine aa ?_
 refine aj ?_
 refine ae ?_
 refine aq (ai rfl) rfl rfl ?_
 refine aa ?_
 refine e_begin rfl hr .z ?_
 refine aS ?_
 refine aS ?_
 refine ap ?_
 refine ae ?_
 refine aq (am rfl) rfl rfl ?_
 refine aq (y_eqp Tryz.underlying190 rfl rfl) rfl rfl ?_
 refine bN (t := 31) rfl (fun h7_1 => ?_) (fun h7_1 => ?_)
 obtain ⟨i, hi, rfl⟩ := pr_old hem h7_1
 have hbx := hok.mem17 (aZ (d := bm) hi)
 refine aq (ai rfl) rfl rfl ?_
 refine aa ?_
 refine aj ?_
 refine aA rfl ?_
 refine ik 7 mixed ?_
 refine cB (i := 0) rfl ak (aB cP rfl) aG aG rfl (ao (ao db)) (by kernel_rfl) rfl ?_
 refine cB (i := 2) rfl ak (am rfl) aG aG rfl (ao (ao db)) (by kernel_rfl) rfl ?_
 refine cB (i := 3) rfl ak (cR rfl) aG aG rfl (ao (ao db)) (by kernel_rfl) rfl ?_
 refine cB (i := 4) rfl ak (aB cM rfl) aG aG rfl (ao (ao db)) (by kernel_rfl) rfl ?_
 refine cB (i := 5) rfl ak (bZ bp bm bE rfl (bF 0 rfl) hi rfl rfl) aG aG rfl (ao (ao db)) (by kernel_rfl) rfl ?_
 refine iC (js := [1, 6]) (by kernel_rfl) rfl ?_
 refine dX (i := 1) rfl rfl ?_ ?_
 refine aq (aC 4 ew rfl rfl rfl) rfl rfl ?_
 refine aa ?_
 refine dg aG ?_
 refine cS (i := 6) rfl (by kernel_rfl) rfl ?_
 refine bY (vs := [_]) ([(l.getD i bm).e.host] : List (a6)) bV Tryz.underlying59 bE rfl rfl rfl rfl rfl rfl (fun As6 => ?_)
 refine aa ?_
 refine dg (bq 1) ?_
 refine cS (i := 7) rfl (by kernel_rfl) rfl ?_
 refine cv (enc := dD) (sz := 1) [(l.getD i bm).e.host] Tryz.underlying59 bE rfl rfl rfl (fun A c => (.s (.s (.s (.z))))) (d5 0 Tryz.underlying59 rfl) (by simp only [List.length_cons, List.length_nil, Nat.zero_add]; omega) (by simp only [List.length_cons, List.length_nil, Nat.zero_add]; omega) rfl (fun A6 c6 => ?_)
 refine aa ?_
 refine cQ rfl ?_
 refine cS (i := 8) rfl (by kernel_rfl) rfl ?_
 refine aq (aB cP rfl) rfl rfl ?_
 refine aa ?_
 refine cQ rfl ?_
 refine cS (i := 9) rfl (by kernel_rfl) rfl ?_
 refine aW ew rfl rfl rfl (.s (.s (.s (.s (.s (.z)))))) rfl rfl rfl rfl ?_
 refine aa ?_
 refine cQ rfl ?_
 refine eQ (by kernel_rfl) ?_
 refine bj ?_
 refine bj ?_
 refine fq (((pu, Ax, cx), da ++ [(l.getD i bm).e.host], A6, c6)) ?_ (bq 1)
 exact ⟨(by rw [jq (o := none) rfl, ← hI.1]; exact (List.append_nil _).symm), (by rw [g1 (o := some (l.getD i bm).e.host) rfl, ← hI.2]; rfl)⟩
 refine dX (i := 6) rfl rfl ?_ ?_
 refine bY (vs := [_]) ([(l.getD i bm).e.host] : List (a6)) bV Tryz.underlying59 bE rfl rfl rfl rfl rfl rfl (fun As8 => ?_)
 refine aa ?_
 refine dg (bq 1) ?_
 refine cS (i := 1) rfl (by kernel_rfl) rfl ?_
 refine aq (aC 5 ew rfl rfl rfl) rfl rfl ?_
 refine aa ?_
 refine dg (bq 1) ?_
 refine cS (i := 7) rfl (by kernel_rfl) rfl ?_
 refine cv (enc := dD) (sz := 1) [(l.getD i bm).e.host] Tryz.underlying59 bE rfl rfl rfl (fun A c => (.s (.s (.s (.z))))) (d5 0 Tryz.underlying59 rfl) (by simp only [List.length_cons, List.length_nil, Nat.zero_add]; omega) (by simp only [List.length_cons, List.length_nil, Nat.zero_add]; omega) rfl (fun A8 c8 => ?_)
 refine aa ?_
 refine cQ rfl ?_
 refine cS (i := 8) rfl (by kernel_rfl) rfl ?_
 refine aq (aB cP rfl) rfl rfl ?_
 refine aa ?_
 refine cQ rfl ?_
 refine cS (i := 9) rfl (by kernel_rfl) rfl ?_
 refine aW ew rfl rfl rfl (.s (.s (.s (.s (.s (.z)))))) rfl rfl rfl rfl ?_
 refine aa ?_
 refine cQ rfl ?_
 refine eQ (by kernel_rfl) ?_
 refine bj ?_
 refine bj ?_
 refine fq (((pu, Ax, cx), da ++ [(l.getD i bm).e.host], A8, c8)) ?_ (bq 1)
 exact ⟨(by rw [jq (o := none) rfl, ← hI.1]; exact (List.append_nil _).symm), (by rw [g1 (o := some (l.getD i bm).e.host) rfl, ← hI.2]; rfl)⟩
 exact gG
 obtain ⟨oi, j, hj, rfl, hoi⟩ := pr_new hem h7_1
 refine aq (ai rfl) rfl rfl ?_
 refine aa ?_
 refine aj ?_
 refine aD rfl ?_
 refine ap ?_
 refine ik 13 mixed ?_
 refine cB (i := 0) rfl ak (am rfl) aG aG rfl (ah (ao (ao db))) (by kernel_rfl) rfl ?_
 refine cB (i := 1) rfl ak (y_eqp Tryz.underlying190 rfl rfl) aG aG rfl (ah (ao (ao db))) (by kernel_rfl) rfl ?_
 refine wv_splitb (t := 43) rfl (fun h9_1 => ?_) (fun h9_1 => ?_)
 obtain rfl : oi = none := by
   cases oi with
   | none => rfl
   | some i => cases h9_1
 refine cB (i := 2) rfl ak (am rfl) aG aG rfl (ah (ao (ao db))) (by kernel_rfl) rfl ?_
 refine iL (i := 3) rfl (bC rfl rfl rfl) aG rfl (ah (ao (ao db))) (by kernel_rfl) rfl ?_
 refine iL (i := 4) rfl (bC rfl rfl rfl) aG rfl (ah (ao (ao db))) (by kernel_rfl) rfl ?_
 refine iL (i := 5) rfl (bC rfl rfl rfl) aG rfl (ah (ao (ao db))) (by kernel_rfl) rfl ?_
 refine iL (i := 6) rfl (bC rfl rfl rfl) aG rfl (ah (ao (ao db))) (by kernel_rfl) rfl ?_
 refine iL (i := 7) rfl (bC rfl rfl rfl) aG rfl (ah (ao (ao db))) (by kernel_rfl) rfl ?_
 refine iL (i := 8) rfl (bC rfl rfl rfl) aG rfl (ah (ao (ao db))) (by kernel_rfl) rfl ?_
 refine iL (i := 9) rfl (bC rfl rfl rfl) aG rfl (ah (ao (ao db))) (by kernel_rfl) rfl ?_
 refine iL (i := 10) rfl (bC rfl rfl rfl) aG rfl (ah (ao (ao db))) (by kernel_rfl) rfl ?_
 refine cB (i := 11) rfl ak (aH rfl rfl) aG aG rfl (ah (ao (ao db))) (by kernel_rfl) rfl ?_
 refine cB (i := 12) rfl ak (ai rfl) aG aG rfl (ah (ao (ao db))) (by kernel_rfl) rfl ?_
 refine eQ (by kernel_rfl) ?_
 refine aj ?_
 refine aA rfl ?_
 refine ik 6 mixed ?_
 refine cB (i := 0) rfl ak (aB cE rfl) aG aG rfl (ao (ao db)) (by kernel_rfl) rfl ?_
 refine cB (i := 2) rfl ak (am rfl) aG aG rfl (ao (ao db)) (by kernel_rfl) rfl ?_
 refine cB (i := 3) rfl ak (cR rfl) aG aG rfl (ao (ao db)) (by kernel_rfl) rfl ?_
 refine cB (i := 4) rfl ak (b6 bp bm aU rfl (bF 2 rfl) hj rfl rfl rfl) aG aG rfl (ao (ao db)) (by kernel_rfl) rfl ?_
 refine iC (js := [1, 5]) (by kernel_rfl) rfl ?_
 refine dX (i := 1) rfl rfl ?_ ?_
 refine aq (aC 4 bz rfl rfl rfl) rfl rfl ?_
 refine aa ?_
 refine dg aG ?_
 refine cS (i := 5) rfl (by kernel_rfl) rfl ?_
 refine bY (vs := [_]) ([l2.getD j bm] : List (Le)) bp Tryz.underlying22 aU rfl rfl rfl rfl rfl rfl (fun As10 => ?_)
 refine aa ?_
 refine dg (bq 1) ?_
 refine cS (i := 6) rfl (by kernel_rfl) rfl ?_
 refine cv (enc := dF) (sz := 7) [l2.getD j bm] Tryz.underlying22 aU rfl rfl rfl (fun A c => (.s (.s (.s (.s (.z)))))) (d5 0 Tryz.underlying22 rfl) (by simp only [List.length_cons, List.length_nil, Nat.zero_add]; omega) (by simp only [List.length_cons, List.length_nil, Nat.zero_add]; omega) rfl (fun A10 c10 => ?_)
 refine aa ?_
 refine cQ rfl ?_
 refine cS (i := 7) rfl (by kernel_rfl) rfl ?_
 refine aq (aB cE rfl) rfl rfl ?_
 refine aa ?_
 refine cQ rfl ?_
 refine cS (i := 8) rfl (by kernel_rfl) rfl ?_
 refine aW bz rfl rfl rfl (.s (.s (.s (.s (.s (.z)))))) rfl rfl rfl rfl ?_
 refine aa ?_
 refine cQ rfl ?_
 refine eQ (by kernel_rfl) ?_
 refine bj ?_
 refine bj ?_
 refine fq (((pu ++ [l2.getD j bm], A10, c10), da, Ay, cy)) ?_ (bq 1)
 exact ⟨(by rw [jq (l := l) (l2 := l2) (e := (none, some j)) (o := some (l2.getD j bm)) rfl, ← hI.1]; rfl), (by rw [g1 (o := none) rfl, ← hI.2]; exact (List.append_nil _).symm)⟩
 refine dX (i := 5) rfl rfl ?_ ?_
 refine bY (vs := [_]) ([l2.getD j bm] : List (Le)) bp Tryz.underlying22 aU rfl rfl rfl rfl rfl rfl (fun As12 => ?_)
 refine aa ?_
 refine dg (bq 1) ?_
 refine cS (i := 1) rfl (by kernel_rfl) rfl ?_
 refine aq (aC 5 bz rfl rfl rfl) rfl rfl ?_
 refine aa ?_
 refine dg (bq 1) ?_
 refine cS (i := 6) rfl (by kernel_rfl) rfl ?_
 refine cv (enc := dF) (sz := 7) [l2.getD j bm] Tryz.underlying22 aU rfl rfl rfl (fun A c => (.s (.s (.s (.s (.z)))))) (d5 0 Tryz.underlying22 rfl) (by simp only [List.length_cons, List.length_nil, Nat.zero_add]; omega) (by simp only [List.length_cons, List.length_nil, Nat.zero_add]; omega) rfl (fun A12 c12 => ?_)
 refine aa ?_
 refine cQ rfl ?_
 refine cS (i := 7) rfl (by kernel_rfl) rfl ?_
 refine aq (aB cE rfl) rfl rfl ?_
 refine aa ?_
 refine cQ rfl ?_
 refine cS (i := 8) rfl (by kernel_rfl) rfl ?_
 refine aW bz rfl rfl rfl (.s (.s (.s (.s (.s (.z)))))) rfl rfl rfl rfl ?_
 refine aa ?_
 refine cQ rfl ?_
 refine eQ (by kernel_rfl) ?_
 refine bj ?_
 refine bj ?_
 refine fq (((pu ++ [l2.getD j bm], A12, c12), da, Ay, cy)) ?_ (bq 1)
 exact ⟨(by rw [jq (l := l) (l2 := l2) (e := (none, some j)) (o := some (l2.getD j bm)) rfl, ← hI.1]; rfl), (by rw [g1 (o := none) rfl, ← hI.2]; exact (List.append_nil _).symm)⟩
 exact gG
 obtain ⟨i, rfl⟩ : ∃ i, oi = some i := by
   cases oi with
   | none => cases h9_1
   | some i => exact ⟨i, rfl⟩
 have hi := hoi i rfl
 have hbx := hok.mem17 (aZ (d := bm) hi)
 refine cB (i := 2) rfl ak (am rfl) aG aG rfl (ah (ao (ao db))) (by kernel_rfl) rfl ?_
 refine cB (i := 3) rfl (aL rfl rfl) (am rfl) aG aG rfl (ah (ao (ao db))) (by kernel_rfl) rfl ?_
 refine cB (i := 4) rfl (aL rfl rfl) (cR rfl) aG aG rfl (ah (ao (ao db))) (by kernel_rfl) rfl ?_
 refine cB (i := 5) rfl (aL rfl rfl) (b6 bp bm aU rfl (bF 0 rfl) hi rfl rfl rfl) aG aG rfl (ah (ao (ao db))) (by kernel_rfl) rfl ?_
 refine cB (i := 6) rfl (aL rfl rfl) (am rfl) aG aG rfl (ah (ao (ao db))) (by kernel_rfl) rfl ?_
 refine cB (i := 7) rfl (aL rfl rfl) (cR rfl) aG aG rfl (ah (ao (ao db))) (by kernel_rfl) rfl ?_
 refine cB (i := 8) rfl (aL rfl rfl) (b6 bp bm aU rfl (bF 2 rfl) hj rfl rfl rfl) aG aG rfl (ah (ao (ao db))) (by kernel_rfl) rfl ?_
 refine cS (i := 9) rfl (by kernel_rfl) rfl ?_
 refine au rfl rfl ?_
 refine bA rfl ent_137 rfl (jL (l.getD i bm).e (l.getD i bm).A (l.getD i bm).B (l.getD i bm).c (l.getD i bm).d (l2.getD j bm).e (l2.getD j bm).A (l2.getD j bm).B (l2.getD j bm).c (l2.getD j bm).d (by have := hbx.la; omega) (by have := hbx.lp; omega)) (fun w hw => (az (cJ (bo 1 rfl hw) (bM (aZ hi) _ (hU _))) (az (cJ (bo 1 rfl hw) (bM (aZ hi) _ (im _))) (az (cJ (bo 3 rfl hw) (bM (aZ hj) _ (hU _))) (az (cJ (bo 3 rfl hw) (bM (aZ hj) _ (im _))) aY))))) ?_
 refine aa ?_
 refine dg aG ?_
 refine wv_splitb (t := 51) rfl (fun h9_9 => ?_) (fun h9_9 => ?_)
 refine cB (i := 10) rfl (aL rfl rfl) (bS rfl) aG aG rfl (ah (ao (ao db))) (by kernel_rfl) rfl ?_
 refine cB (i := 11) rfl ak (aF rfl rfl) aG aG rfl (ah (ao (ao db))) (by kernel_rfl) rfl ?_
 refine cB (i := 12) rfl ak (ai rfl) aG aG rfl (ah (ao (ao db))) (by kernel_rfl) rfl ?_
 refine eQ (by kernel_rfl) ?_
 refine aj ?_
 refine aD rfl ?_
 refine aQ ?_
 refine bj ?_
 refine bj ?_
 refine fq (((pu, Ax, cx), da, Ay, cy)) ?_ aG
 exact ⟨(by rw [jq (l := l) (l2 := l2) (e := (some i, some j)) (o := none) (putV_eq h9_9), ← hI.1]; exact (List.append_nil _).symm), (by rw [g1 (o := none) rfl, ← hI.2]; exact (List.append_nil _).symm)⟩
 refine cB (i := 10) rfl (aL rfl rfl) (bS rfl) aG aG rfl (ah (ao (ao db))) (by kernel_rfl) rfl ?_
 refine cB (i := 11) rfl ak (aF rfl rfl) aG aG rfl (ah (ao (ao db))) (by kernel_rfl) rfl ?_
 refine cB (i := 12) rfl ak (ai rfl) aG aG rfl (ah (ao (ao db))) (by kernel_rfl) rfl ?_
 refine eQ (by kernel_rfl) ?_
 refine aj ?_
 refine aA rfl ?_
 refine ik 6 mixed ?_
 refine cB (i := 0) rfl ak (aB cE rfl) aG aG rfl (ao (ao db)) (by kernel_rfl) rfl ?_
 refine cB (i := 2) rfl ak (am rfl) aG aG rfl (ao (ao db)) (by kernel_rfl) rfl ?_
 refine cB (i := 3) rfl ak (cR rfl) aG aG rfl (ao (ao db)) (by kernel_rfl) rfl ?_
 refine cB (i := 4) rfl ak (b6 bp bm aU rfl (bF 2 rfl) hj rfl rfl rfl) aG aG rfl (ao (ao db)) (by kernel_rfl) rfl ?_
 refine iC (js := [1, 5]) (by kernel_rfl) rfl ?_
 refine dX (i := 1) rfl rfl ?_ ?_
 refine aq (aC 4 bz rfl rfl rfl) rfl rfl ?_
 refine aa ?_
 refine dg aG ?_
 refine cS (i := 5) rfl (by kernel_rfl) rfl ?_
 refine bY (vs := [_]) ([l2.getD j bm] : List (Le)) bp Tryz.underlying22 aU rfl rfl rfl rfl rfl rfl (fun As14 => ?_)
 refine aa ?_
 refine dg (bq 1) ?_
 refine cS (i := 6) rfl (by kernel_rfl) rfl ?_
 refine cv (enc := dF) (sz := 7) [l2.getD j bm] Tryz.underlying22 aU rfl rfl rfl (fun A c => (.s (.s (.s (.s (.z)))))) (d5 0 Tryz.underlying22 rfl) (by simp only [List.length_cons, List.length_nil, Nat.zero_add]; omega) (by simp only [List.length_cons, List.length_nil, Nat.zero_add]; omega) rfl (fun A14 c14 => ?_)
 refine aa ?_
 refine cQ rfl ?_
 refine cS (i := 7) rfl (by kernel_rfl) rfl ?_
 refine aq (aB cE rfl) rfl rfl ?_
 refine aa ?_
 refine cQ rfl ?_
 refine cS (i := 8) rfl (by kernel_rfl) rfl ?_
 refine aW bz rfl rfl rfl (.s (.s (.s (.s (.s (.z)))))) rfl rfl rfl rfl ?_
 refine aa ?_
 refine cQ rfl ?_
 refine eQ (by kernel_rfl) ?_
 refine bj ?_
 refine bj ?_
 refine fq (((pu ++ [l2.getD j bm], A14, c14), da, Ay, cy)) ?_ (bq 1)
 exact ⟨(by rw [jq (l := l) (l2 := l2) (e := (some i, some j)) (o := some (l2.getD j bm)) (putV_ne h9_9), ← hI.1]; rfl), (by rw [g1 (o := none) rfl, ← hI.2]; exact (List.append_nil _).symm)⟩
 refine dX (i := 5) rfl rfl ?_ ?_
 refine bY (vs := [_]) ([l2.getD j bm] : List (Le)) bp Tryz.underlying22 aU rfl rfl rfl rfl rfl rfl (fun As16 => ?_)
 refine aa ?_
 refine dg (bq 1) ?_
 refine cS (i := 1) rfl (by kernel_rfl) rfl ?_
 refine aq (aC 5 bz rfl rfl rfl) rfl rfl ?_
 refine aa ?_
 refine dg (bq 1) ?_
 refine cS (i := 6) rfl (by kernel_rfl) rfl ?_
 refine cv (enc := dF) (sz := 7) [l2.getD j bm] Tryz.underlying22 aU rfl rfl rfl (fun A c => (.s (.s (.s (.s (.z)))))) (d5 0 Tryz.underlying22 rfl) (by simp only [List.length_cons, List.length_nil, Nat.zero_add]; omega) (by simp only [List.length_cons, List.length_nil, Nat.zero_add]; omega) rfl (fun A16 c16 => ?_)
 refine aa ?_
 refine cQ rfl ?_
 refine cS (i := 7) rfl (by kernel_rfl) rfl ?_
 refine aq (aB cE rfl) rfl rfl ?_
 refine aa ?_
 refine cQ rfl ?_
 refine cS (i := 8) rfl (by kernel_rfl) rfl ?_
 refine aW bz rfl rfl rfl (.s (.s (.s (.s (.s (.z)))))) rfl rfl rfl rfl ?_
 refine aa ?_
 refine cQ rfl ?_
 refine eQ (by kernel_rfl) ?_
 refine bj ?_
 refine bj ?_
 refine fq (((pu ++ [l2.getD j bm], A16, c16), da, Ay, cy)) ?_ (bq 1)
 exact ⟨(by rw [jq (l := l) (l2 := l2) (e := (some i, some j)) (o := some (l2.getD j bm)) (putV_ne h9_9), ← hI.1]; rfl), (by rw [g1 (o := none) rfl, ← hI.2]; exact (List.append_nil _).symm)⟩
 exact gG
 obtain ⟨⟨pu, Ax, cx⟩, da, Ay, cy⟩ := g
 obtain ⟨xs, hfx, hI⟩ := hI
 dsimp only at hI ⊢
 subst hfx
 obtain ⟨hm1, hm2⟩ := merge_diff (gA hT1) (gA hT2)
 obtain rfl : pu = dfP v l v2 l2 := by rw [hI.1, dfP, if_pos ⟨hT1, hT2⟩]; exact hm2
 obtain rfl : da = dfD v l v2 l2 := by rw [hI.2, dfD, if_pos ⟨hT1, hT2⟩]; exact hm1
 have hv9 : ∀ x, dfV v l v2 l2 x = x := fun x => if_pos ⟨hT1, hT2⟩
 refine bj ?_
 refine aj ?_
 refine ap ?_
 refine ae ?_
 refine aq (bu 3 bL rfl rfl rfl rfl) rfl rfl ?_
 refine aW bL rfl rfl rfl (.s (.s (.s (.s (.z))))) rfl rfl rfl rfl ?_
 refine aa ?_
 refine aj ?_
 refine aN ?_
 refine e_lvr ?_
 refine lv_take .z ?_
 refine iG (rs := [.cell 4 103]) rfl (bQ 4 bL rfl rfl rfl rfl cG) (fun w hw => ?_)
 rw [hv9, hv9]
 exact ⟨((Ax, cx), Ay, cy), rfl, hw.base, (hw.weak (.cons _ (.cons_cons _ (.cons_cons _ (.cons _ (.cons _ (.cons _ (.cons _ .slnil))))))) (fun s hs => hs)).toNews⟩
 exact hI.elim
end Go.Proofs.YtnpdgmoeoidppaaGreat

/- Regions with open order whose states are met more than once. -/
namespace Go.Proofs.YtnpdgmoeoidppaaGreat
open Go.RowKit Go.Shelf
set_option linter.unusedVariables false
theorem kn2_sub {l' : Fr} : ∀ {seen : List Nat} {l : Fr}, (∀ t v, look l t = some v → seen.elem t = false → look l' t = some v) → Kn2 l' seen l
  | seen, [], _ => by rw [Kn2]; trivial
  | seen, (t, v) :: r, h => by
    rw [Kn2]
    cases hs : seen.elem t with
    | true => exact kn2_sub fun t' v' ht hs' => h t' v' (by
        simp only [look]
        cases e : Nat.beq t t' with
        | true => rw [← Nat.eq_of_beq_eq_true e, hs] at hs'; cases hs'
        | false => exact ht) hs'
    | false =>
      refine ⟨h t v (by simp only [look]; rw [show Nat.beq t t = true from Nat.beq_refl t]) hs, kn2_sub fun t' v' ht hs' => h t' v' ?_ ?_⟩
      · simp only [look]
        cases e : Nat.beq t t' with
        | true => rw [← Nat.eq_of_beq_eq_true e] at hs'; simp at hs'
        | false => exact ht
      · revert hs'; simp only [List.elem_cons]; cases t' == t <;> simp
theorem ec {l : Fr} : Kn2 l [] l := kn2_sub fun _ _ h _ => h
section
variable {x : Cx} {C : World → Prop} {l : Fr} {L S : List Ch} {Q : Exit → Act → World → Prop} {ops : Array Oper} {fuel m : Nat} {listed : Array Bool}
theorem fB {L' S' : List Ch} (hs : ∀ w, Hp x.ok0 x.w0 L S w → Hp x.ok0 x.w0 L' S' w) (h : WU x C m ops fuel listed l L' S' Q) : WU x C m ops fuel listed l L S Q := fun a w ha hw => h a w ha (hs w hw)
theorem dw {listed' : Array Bool} (hl : listed = listed') (h : WU x C m ops fuel listed' l L S Q) : WU x C m ops fuel listed l L S Q := hl ▸ h
theorem wu_fr {l' : Fr} (h : WU x C m ops fuel listed l L S Q) (hk : Kn2 l' [] l) : WU x C m ops fuel listed l' L S Q := fun a w ha hw => h a w (ha.mono fun t v ht => hk.look t v ht rfl) hw
theorem wu_k0 (lst : Array Bool) (fl : Nat) {lf : Fr} {Lf : List Ch} (k : (∀ (l' : Fr), Kn2 l' [] (lf) → WU x C m ops fl lst l' (Lf) S Q) → WU x C m ops fuel listed l L S Q) (h : WU x C m ops fl lst (lf) (Lf) S Q) : WU x C m ops fuel listed l L S Q := k fun l' hk => wu_fr (h) hk
theorem wu_k1 {α0 : Type} (lst : Array Bool) (fl : Nat) {lf : α0 → Fr} {Lf : α0 → List Ch} (k : (∀ (a0 : α0) (l' : Fr), Kn2 l' [] (lf a0) → WU x C m ops fl lst l' (Lf a0) S Q) → WU x C m ops fuel listed l L S Q) (h : ∀ (a0 : α0) , WU x C m ops fl lst (lf a0) (Lf a0) S Q) : WU x C m ops fuel listed l L S Q := k fun a0 l' hk => wu_fr (h a0) hk
theorem wu_k2 {α0 α1 : Type} (lst : Array Bool) (fl : Nat) {lf : α0 → α1 → Fr} {Lf : α0 → α1 → List Ch} (k : (∀ (a0 : α0) (a1 : α1) (l' : Fr), Kn2 l' [] (lf a0 a1) → WU x C m ops fl lst l' (Lf a0 a1) S Q) → WU x C m ops fuel listed l L S Q) (h : ∀ (a0 : α0) (a1 : α1) , WU x C m ops fl lst (lf a0 a1) (Lf a0 a1) S Q) : WU x C m ops fuel listed l L S Q := k fun a0 a1 l' hk => wu_fr (h a0 a1) hk
theorem wu_k3 {α0 α1 α2 : Type} (lst : Array Bool) (fl : Nat) {lf : α0 → α1 → α2 → Fr} {Lf : α0 → α1 → α2 → List Ch} (k : (∀ (a0 : α0) (a1 : α1) (a2 : α2) (l' : Fr), Kn2 l' [] (lf a0 a1 a2) → WU x C m ops fl lst l' (Lf a0 a1 a2) S Q) → WU x C m ops fuel listed l L S Q) (h : ∀ (a0 : α0) (a1 : α1) (a2 : α2) , WU x C m ops fl lst (lf a0 a1 a2) (Lf a0 a1 a2) S Q) : WU x C m ops fuel listed l L S Q := k fun a0 a1 a2 l' hk => wu_fr (h a0 a1 a2) hk
theorem wu_k4 {α0 α1 α2 α3 : Type} (lst : Array Bool) (fl : Nat) {lf : α0 → α1 → α2 → α3 → Fr} {Lf : α0 → α1 → α2 → α3 → List Ch} (k : (∀ (a0 : α0) (a1 : α1) (a2 : α2) (a3 : α3) (l' : Fr), Kn2 l' [] (lf a0 a1 a2 a3) → WU x C m ops fl lst l' (Lf a0 a1 a2 a3) S Q) → WU x C m ops fuel listed l L S Q) (h : ∀ (a0 : α0) (a1 : α1) (a2 : α2) (a3 : α3) , WU x C m ops fl lst (lf a0 a1 a2 a3) (Lf a0 a1 a2 a3) S Q) : WU x C m ops fuel listed l L S Q := k fun a0 a1 a2 a3 l' hk => wu_fr (h a0 a1 a2 a3) hk
end
end Go.Proofs.YtnpdgmoeoidppaaGreat
