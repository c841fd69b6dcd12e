import Derived.Test.YtnpdgmoeoidppaaUhQc
/- law 17: what the chapter tells, in plain words -/
namespace Go.Proofs.Ytnpdgmoeoidppaa
open Go.RowKit Go.Shelf
set_option linter.unusedVariables false
set_option linter.unusedSimpArgs false

def pN17 : List Le := [cF [[98]], cF [[97]]]
def rN17 : List Le := [cF [[97]], cF [[98]]]
theorem pN17_tb : TbOk pN17 := gu (by decide +kernel)
theorem pN17_rd {w : World} : Rd (pN17.flatMap fv) w := fL (gD (by decide))
theorem rN17_tb {l : List Le} (h : l.map (·.e) = rN17.map (·.e)) : TbOk l := gu (by rw [h]; decide +kernel)
theorem apN_a : (bv 0 [] true 0 3 pN17 []).1 = 0 ∧ (bv 0 [] true 0 3 pN17 []).2.map (·.e) = rN17.map (·.e) := by decide +kernel
theorem apN_1 : (bv 3 rN17 false 2 4 [] []).1 = 9 := by decide +kernel
theorem apN_2 : (bv 3 rN17 false 3 4 [] [cQ 99]).1 = 5 := by decide +kernel
theorem gy : (bv 3 rN17 false 3 4 [cF [[65]]] [cQ 97]).1 = 6 := by decide +kernel
theorem apN_4 : (bv 3 rN17 true 3 4 [] []).1 = 2 := by decide +kernel
theorem apN_5 : (bv 3 rN17 true 0 4 [bQ] []).1 = 2 := by decide +kernel
theorem fdN17 : g3 3 rN17 (cQ 65) = some (auE17 [[97]]) := by decide +kernel
theorem tabN17 : bY 3 rN17 = 0 := by decide +kernel
theorem tabN17b : bY 0 [cF [[98]], cF [[66]]] = 2 := by decide +kernel
theorem bN17_tb : TbOk [cF [[98]], cF [[66]]] := gu (by decide +kernel)
theorem bN17_rd {w : World} : Rd ([cF [[98]], cF [[66]]].flatMap fv) w := fL (gD (by decide))
theorem ef : TbOk [cF [[65]]] := gu (by decide +kernel)
theorem ec {w : World} : Rd ([cF [[65]]].flatMap fv) w := fL (gD (by decide))
theorem zN17_tb : TbOk [bQ] := gu (by decide +kernel)
theorem zN17_rd {w : World} : Rd ([bQ].flatMap fv) w := fL (gD (by decide))
theorem fV : ∀ n ∈ [cQ 99], n.length ≤ 1000 := by decide +kernel
theorem dy : ∀ n ∈ [cQ 97], n.length ≤ 1000 := by decide +kernel
theorem auN17 : auL rN17 = [cQ 97, cQ 98] := by decide +kernel
theorem auL_e {l l' : List Le} (h : l.map (·.e) = l'.map (·.e)) : auL l = auL l' := by
  have g : ∀ l : List Le, auL l = ((l.map (·.e)).filter fun e => decide (e.kind = 2)).map (·.host) := fun l => by rw [auL, auF, List.filter_map, List.map_map]; rfl
  rw [g, g, h]
def mE17 (i : Nat) : Le := cF [[UInt8.ofNat (97 + i % 16), UInt8.ofNat (97 + i / 16)]]
def c8 (n : Nat) : List Le := (List.range n).map mE17
theorem eL (n : Nat) : (c8 n).length = n := by rw [c8, List.length_map, List.length_range]
theorem many_succ (n : Nat) : c8 (n + 1) = c8 n ++ [mE17 n] := by rw [c8, List.range_succ, List.map_append]; rfl
theorem many_tb : TbOk (c8 257) := gu (by decide +kernel)
theorem many_ck : ∀ x ∈ c8 257, cM x.e = 0 := by decide +kernel
theorem many_rd {w : World} : Rd ((c8 257).flatMap fv) w := fL (gD (by decide +kernel))
theorem many_nd : ((c8 257).map fun y : Le => bg y.e.host).Nodup := by
  have h : ((c8 257).map fun y : Le => bg y.e.host).map (fun s : aW => (s.getD 1 0).toNat - 97 + 16 * ((s.getD 2 0).toNat - 97)) = List.range 257 := by decide +kernel
  exact List.Pairwise.of_map (fun s : aW => (s.getD 1 0).toNat - 97 + 16 * ((s.getD 2 0).toNat - 97)) (fun a b q e => q (by rw [e])) (h ▸ List.nodup_range)
theorem putAll_len {p : List Le} (hck : ∀ x ∈ p, bi x.e.host = 0) (hnd : (p.map fun y : Le => bg y.e.host).Nodup) : (di [] p).length = p.length := by
  have hk : ∀ key, (bS ((di [] p).map (·.e)) key).isSome = (bS (p.map (·.e)) key).isSome := fun key => by
    rw [e6 (l := []) hck hnd fZ]
    cases bS (p.map (·.e)) key <;> rfl
  have h1 := nd_len17 (gC (l := []) hck fZ).keys (ys := (p.map (·.e)).map fun e => bg e.host) (fun a ha => look_isSome.1 (by rw [← hk]; exact look_isSome.2 ha))
  have h2 := nd_len17 (xs := (p.map (·.e)).map fun e => bg e.host) (ys := ((di [] p).map (·.e)).map fun e => bg e.host) (by rw [List.map_map]; exact hnd) (fun a ha => look_isSome.1 (by rw [hk]; exact look_isSome.2 ha))
  simp only [List.length_map] at h1 h2
  omega
theorem ap_full {v : Int} {l : List Le} (h : bY v l = 0) {ver : Int} (hv : v < ver ∧ ver ≤ 2147483647) {p : List Le} (h1 : ∀ x ∈ p, cM x.e = 0) (hnd : (p.map fun y : Le => bg y.e.host).Nodup) : bv v l true 0 ver p [] = if 256 < p.length then (3, []) else (0, di [] p) := by
  have hf : dl v true 0 ver ([] : List aW).length = 0 := form_zero.2 ⟨hv, fun _ => ⟨rfl, rfl⟩, nofun⟩
  have hp : cy p [] = 0 := parts_zero.2 ⟨h1, nofun, by rw [dq, List.map_nil, List.append_nil]; exact hnd⟩
  rw [gP ⟨h, hf, hp⟩ (m := []) (by rw [if_pos rfl]; rfl), putAll_len (fun x hx => fE (h1 x hx)) hnd]
theorem ap_many_long {l : List Le} (h : bY 3 l = 0) : (bv 3 l true 0 4 (c8 257) []).1 = 3 := by
  rw [ap_full h (by decide) many_ck many_nd, eL, if_pos (by decide)]
theorem ap_full_len {v : Int} {l : List Le} (h : bY v l = 0) {ver : Int} (hv : v < ver ∧ ver ≤ 2147483647) {p : List Le} (h1 : ∀ x ∈ p, cM x.e = 0) (hnd : (p.map fun y : Le => bg y.e.host).Nodup) {k : Nat} (hl : p.length = k) (hk : ¬ 256 < k) : (bv v l true 0 ver p []).1 = 0 ∧ (bv v l true 0 ver p []).2.length = k := by
  subst hl
  rw [ap_full h hv h1 hnd, if_neg hk]
  exact ⟨rfl, putAll_len (fun x hx => fE (h1 x hx)) hnd⟩
theorem ap_many_ok {l : List Le} (h : bY 3 l = 0) : (bv 3 l true 0 4 ((c8 257).take 256) []).1 = 0 ∧ (bv 3 l true 0 4 ((c8 257).take 256) []).2.length = 256 :=
  ap_full_len h (by decide) (fun x hx => many_ck x (List.mem_of_mem_take hx)) (many_nd.sublist ((List.take_sublist 256 _).map _)) (by rw [List.length_take, eL]; rfl) (by decide)
theorem many_tbt : TbOk ((c8 257).take 256) := fun x hx => many_tb x (List.mem_of_mem_take hx)
theorem many_rdt {w : World} : Rd (((c8 257).take 256).flatMap fv) w := fun c hc => by
  obtain ⟨x, hx, hc⟩ := List.mem_flatMap.1 hc
  exact many_rd c (List.mem_flatMap.2 ⟨x, List.mem_of_mem_take hx, hc⟩)
theorem u8n {n : Nat} (h : n ≤ 255) : ((UInt8.ofNat n).toNat : Int) = n := by simp; omega

end Go.Proofs.Ytnpdgmoeoidppaa
