import Derived.Test.YtnpdgmoeoidppaaGreatVgQt
import Derived.Test.YtnpdgmoeoidppaaGreatLzQt
import Derived.Test.YtnpdgmoeoidppaaGreatPaQt
/- vips: Keep -/
namespace Go.Proofs.YtnpdgmoeoidppaaGreat
open Go.RowKit Go.Shelf
set_option linter.unusedVariables false
set_option linter.unusedSimpArgs false

theorem ent_108 : Enters Tryz.prog 108 := enters_of Tryz.func108 (by kernel_rfl) rfl
theorem ent_109 : Enters Tryz.prog 109 := enters_of Tryz.func109 (by kernel_rfl) rfl
theorem ent_34 : Enters Tryz.prog 34 := enters_of Tryz.func34 (by kernel_rfl) rfl

theorem take_new {α : Type} {q : List α} (hq : q.Nodup) {j : Nat} (hj : j < q.length) (d : α) : q.getD j d ∉ q.take j := by
  have h1 := bH q d j hj
  have h2 : (q.take (j + 1)).Nodup := hq.sublist (List.take_sublist _ _)
  rw [h1, List.nodup_append] at h2
  exact fun h => h2.2.2 _ h _ (.head _) rfl

set_option maxRecDepth 100000 in
set_option maxHeartbeats 4000000 in
theorem c_vKeep (v : Vp) (hm : Hm) (hosts : List aV) (A : Option Addr) (c : Nat) (hv : VOk v) (hi0 : PInv hm) (hml : hm.length + hosts.length ≤ 1000000) (hhb : ∀ n ∈ hosts, n.length ≤ 1000000000) : UC Tryz.prog 41 #[.pointer (some ⟨v.b, 0, none⟩), .slice A hosts.length c] [Ch.row v.b (vpC v) 146, Ch.rd v.A 4 dR v.res, Ch.rd A 1 dw hosts] (vmC v hm (bw hm)) (α := Option Addr × Nat) (fun p => .tuple #[.slice p.1 (cZ v hm hosts).1.1.length p.2, .int .i64 (cZ v hm hosts).1.2]) (fun p => Ch.two (vmC v (cZ v hm hosts).2 (bw (cZ v hm hosts).2)) (Ch.ls p.1 p.2 26 1 dw (cZ v hm hosts).1.1)) := by
 refine ea (args := [.pointer (some ⟨v.b, 0, none⟩), .slice A hosts.length c]) 83 Tryz.func41 rfl rfl rfl (fun w0 => ?_)
 refine cH (fun w h => h.untwo) ?_
 refine ao ?_
 refine ab ?_
 refine ap (ai rfl) rfl rfl ?_
 refine ap (ai rfl) rfl rfl ?_
 refine ae ?_
 refine aj ?_
 refine ao ?_
 refine ao ?_
 refine ab ?_
 refine ap (ak rfl) rfl rfl ?_
 refine ap (eH Tryz.underlying68 rfl rfl) rfl rfl ?_
 refine bV (t := 18) (.bool false) rfl (congrArg Value.bool rfl) ?_
 refine ae ?_
 refine aj ?_
 refine au rfl ?_
 refine aH ?_
 refine aj ?_
 refine ao ?_
 refine ab ?_
 refine da cy (fun b : Bool => .bool b) rfl (fun r0 => ?_)
 refine ap (ai rfl) rfl rfl ?_
 refine ae ?_
 refine aj ?_
 refine ao ?_
 refine ao ?_
 refine ab ?_
 refine ap (ak rfl) rfl rfl ?_
 refine ap (bM Tryz.underlying59 rfl) rfl rfl ?_
 refine ap (ak rfl) rfl rfl ?_
 refine ae ?_
 refine aj ?_
 refine aP ?_
 refine d6 (σ := Nat × List (aV × Bool)) [4, 5, 8, 22, 23, 24, 25, 26, 27, 28, 29, 30, 31, 32] (fun q => q.1 ≤ hosts.length ∧ q.2 = stayM (hosts.take q.1) ∧ ∀ n ∈ hosts.take q.1, bl n = true) (fun q => hosts.length - q.1) (fun q => [(22, .int .i64 q.1), (4, .slice none 0 0)]) (fun q => Ch.mp r0 cy (fun b : Bool => .bool b) q.2) ((0, [])) ?_ ⟨rfl, rfl, trivial⟩ rfl (fun q hI => ?_)
 exact ⟨Nat.zero_le _, rfl, nofun⟩
 obtain ⟨k, sm⟩ := q
 dsimp only at hI ⊢
 refine ao ?_
 refine ab ?_
 refine ap (bF rfl rfl) rfl rfl ?_
 refine aC (t := 23) rfl (fun h5_0 => ?_) (fun h5_0 => ?_)
 have hk : k < hosts.length := by omega
 have hnb := hhb _ (bX (d := ([] : aV)) hk)
 refine ae ?_
 refine aj ?_
 refine ao ?_
 refine ay rfl ?_
 refine aH ?_
 refine aj ?_
 refine ao ?_
 refine aP ?_
 refine ao ?_
 refine ab ?_
 refine ap (bP  Tryz.underlying59 bL rfl rfl (bY 2 rfl) rfl (by omega)) rfl rfl ?_
 refine ap (cG dq ([] : aV) bL rfl (bY 2 rfl) (by omega) rfl rfl) rfl rfl ?_
 refine ap (ai rfl) rfl rfl ?_
 refine ae ?_
 refine aj ?_
 refine ao ?_
 refine ao ?_
 refine ab ?_
 refine ap (ak rfl) rfl rfl ?_
 refine aS rfl ent_95 (c_vhost _) rfl ?_
 refine bk (t := 27) rfl (fun h7_1 => ?_) (fun h7_1 => ?_)
 refine ap (bJ rfl) rfl rfl ?_
 refine ae ?_
 refine aj ?_
 refine au rfl ?_
 refine aH ?_
 refine aj ?_
 refine ab ?_
 refine ap (ak rfl) rfl rfl ?_
 refine ap (ak rfl) rfl rfl ?_
 refine aS rfl gl (dK _ (by omega)) rfl ?_
 refine o_mapUpd (encK := cy) (encV := (fun b : Bool => .bool b)) (v := true) Tryz.underlying167 (cV Tryz.underlying26) rfl rfl rfl .z ?_
 refine ae ?_
 refine bq ?_
 refine aj ?_
 refine ab ?_
 refine ap (bg rfl rfl (by omega) (by omega)) rfl rfl ?_
 refine ap (ak rfl) rfl rfl ?_
 refine ae ?_
 refine bo ((k + 1, upd sm (a6 (hosts.getD k [])) true)) ?_ ?_ ⟨rfl, rfl, trivial⟩ (by repeat (first | exact trivial | refine ⟨rfl, ?_⟩)) aw
 exact ⟨by show k + 1 ≤ _; omega, by show upd sm _ true = _; rw [bH hosts [] k hk, stay_snoc, hI.2.1], fun n hn => by rw [bH hosts [] k hk] at hn; exact (List.mem_append.1 hn).elim (hI.2.2 n) (fun h => by rw [List.mem_singleton.1 h]; exact h7_1)⟩
 show hosts.length - (k + 1) < hosts.length - k
 omega
 refine ap (bJ rfl) rfl rfl ?_
 refine ae ?_
 refine aj ?_
 refine ay rfl ?_
 refine ao ?_
 refine ab ?_
 refine ap (ai rfl) rfl rfl ?_
 refine ap (ai rfl) rfl rfl ?_
 refine ae ?_
 refine aj ?_
 refine aF ?_
 refine aA ?_
 refine aL ?_
 refine aA ?_
 refine bu ?_
 refine aL ?_
 refine aA ?_
 refine aJ (ts := [4, 5]) rfl rfl rfl (fun w hw => ?_)
 have hE : cZ v hm hosts = (([], 2), hm) := if_pos (by rw [Bool.eq_false_iff]; intro h; have := List.all_eq_true.1 h _ (bX (d := ([] : aV)) hk); rw [h7_1] at this; cases this)
 obtain ⟨h1, h2, h3⟩ := ((hw.weak (.cons _ (.cons_cons _ (.cons_cons _ .slnil))) (fun s hs => hs)).f1.f1.two.nilsl 26 1).f1.two.uc
 exact ⟨(none, 0), by rw [hE]; rfl, h1, by rw [hE]; exact h2, by rw [hE]; exact h3⟩
 refine ae ?_
 refine aj ?_
 refine ao ?_
 refine au rfl ?_
 refine bC ?_
 refine aY ?_
 refine aU ?_
 refine a8 ?_
 refine aj ?_
 refine ao ?_
 refine ao ?_
 have hkl : k = hosts.length := by omega
 have hsm : sm = stayM hosts := by rw [hI.2.1, hkl, List.take_length]
 have hall : hosts.all bl = true := List.all_eq_true.2 (by have := hI.2.2; rw [hkl, List.take_length] at this; exact this)
 subst hsm
 have hbm : ∀ pre : List aV, (∃ rest, (pre ++ rest).Perm (hm.map (·.1))) → pre.length ≤ 1000000 := fun pre ⟨rest, h⟩ => by
   have := h.length_eq
   rw [List.length_append, List.length_map] at this
   omega
 refine ab ?_
 refine ap (ak rfl) rfl rfl ?_
 refine ap (aR rfl) rfl rfl ?_
 refine ap (aB dA rfl) rfl rfl ?_
 refine ap (bp 0 eE rfl rfl rfl) rfl rfl ?_
 refine co rfl ent_109 rfl (c_MapKey v.rh) (fun w hw => bf) (fun p1 => ?_)
 refine co rfl ent_108 rfl (c_Collect_nm 178 [.pointer (some ⟨p1, 0, none⟩)] _ _ _ (c_MapKey1 hm v.rh p1) (enters_of Tryz.func178 (by kernel_rfl) rfl) hbm) (fun w hw => (aQ (dL 0 rfl hw) (aQ (dL 2 rfl hw) bf))) (fun ⟨⟨q, Ax, cx⟩, hfx⟩ => ?_)
 refine bV (t := 38) (.slice Ax q.length cx) rfl rfl ?_
 have hql : q.length = hm.length := by rw [hfx.length_eq, List.length_map]
 refine ap (bM Tryz.underlying59 rfl) rfl rfl ?_
 refine ap (ak rfl) rfl rfl ?_
 refine ae ?_
 refine aj ?_
 refine aP ?_
 refine cH (fun w h => h.f4.f4) ?_
 refine cH (fun w h => (by rw [List.take_zero, keepK_nil]; exact h : Hp _ _ (Ch.mp v.rh cy cQ (dP hm hosts (q.take 0)) :: Ch.mp v.ra fx cy (bw (dP hm hosts (q.take 0))) :: _) _ w)) ?_
 refine w_loop2 (σ := Nat) [10, 40, 41, 42, 43, 44, 45, 46, 47, 48, 49, 50, 51] (fun j => j ≤ q.length) (fun j => q.length - j) (fun j => [(40, .int .i64 j)]) (fun j => Ch.mp v.rh cy cQ (dP hm hosts (q.take j))) (fun j => Ch.mp v.ra fx cy (bw (dP hm hosts (q.take j)))) (0) ?_ ⟨rfl, trivial⟩ rfl rfl (fun j hI => ?_)
 exact Nat.zero_le _
 refine ao ?_
 refine ab ?_
 refine ap (bF rfl rfl) rfl rfl ?_
 refine aC (t := 41) rfl (fun h12_0 => ?_) (fun h12_0 => ?_)
 have hj : j < q.length := by omega
 refine ae ?_
 refine aj ?_
 refine ao ?_
 refine ay rfl ?_
 refine aH ?_
 refine aj ?_
 refine ao ?_
 refine aP ?_
 refine ao ?_
 refine ab ?_
 refine ap (bP  Tryz.underlying59 bL rfl rfl (ek 2 rfl) rfl (by omega)) rfl rfl ?_
 refine ap (cG dq ([] : aV) bL rfl (ek 2 rfl) (by omega) rfl rfl) rfl rfl ?_
 refine ap (ai rfl) rfl rfl ?_
 refine ae ?_
 refine aj ?_
 refine ao ?_
 refine ab ?_
 refine ap (ak rfl) rfl rfl ?_
 refine ap (ak rfl) rfl rfl ?_
 refine ap (iR Tryz.underlying167 (cV Tryz.underlying26) gk rfl rfl (fun w hw => hw.own _ (List.mem_of_getElem? (i := 4) rfl))) rfl rfl ?_
 refine bV (t := 46) (.bool (decide (q.getD j [] ∈ hosts.map a6))) rfl (look1_b.trans (congrArg Value.bool (stay_lkp _ _))) ?_
 refine bk (t := 46) rfl (fun h14_2 => ?_) (fun h14_2 => ?_)
 refine ap (bJ rfl) rfl rfl ?_
 refine ae ?_
 refine aj ?_
 refine au rfl ?_
 refine aH ?_
 refine bq ?_
 refine aj ?_
 refine ab ?_
 refine ap (bg rfl rfl (by omega) (by omega)) rfl rfl ?_
 refine ap (ak rfl) rfl rfl ?_
 refine ae ?_
 have hks : dP hm hosts (q.take (j + 1)) = dP hm hosts (q.take j) := by rw [bH q [] j hj]; exact keepK_stay (of_decide_eq_true h14_2)
 refine bo (j + 1) ?_ ?_ ⟨rfl, trivial⟩ (by repeat (first | exact trivial | refine ⟨rfl, ?_⟩)) (fun w h => by rw [hks]; exact h)
 omega
 omega
 refine ap (bJ rfl) rfl rfl ?_
 refine ae ?_
 refine aj ?_
 refine ay rfl ?_
 have hns : q.getD j [] ∉ hosts.map a6 := of_decide_eq_false h14_2
 have hdk := keepK_drop (pre := q.take j) hi0 hns (take_new (hfx.nodup_iff.2 hi0.keys) hj []) (hfx.mem_iff.1 (bX hj))
 rw [← bH q [] j hj] at hdk
 refine ab ?_
 refine ap (ak rfl) rfl rfl ?_
 refine ap (ak rfl) rfl rfl ?_
 refine cE (fun w h => h.f1.f1.two) ?_
 refine cu rfl ent_104 rfl (c_vdrop v (dP hm hosts (q.take j)) (bw (dP hm hosts (q.take j))) (q.getD j [])) (fun o => .z) (List.mem_of_getElem? (i := 0) rfl) (fun s hs => by obtain rfl := List.mem_singleton.1 hs; exact .head _) (fun o3 => ?_)
 refine cE (fun w h => h.untwo) ?_
 refine cE (fun w h => by rw [hdk] at h; exact h) ?_
 refine ae ?_
 refine bq ?_
 refine aj ?_
 refine ab ?_
 refine ap (bg rfl rfl (by omega) (by omega)) rfl rfl ?_
 refine ap (ak rfl) rfl rfl ?_
 refine ae ?_
 refine bo (j + 1) ?_ ?_ ⟨rfl, trivial⟩ (by repeat (first | exact trivial | refine ⟨rfl, ?_⟩)) aw
 omega
 omega
 refine ae ?_
 refine aj ?_
 refine ao ?_
 refine au rfl ?_
 refine bC ?_
 refine aY ?_
 refine aU ?_
 refine a8 ?_
 refine aj ?_
 refine ao ?_
 have hjl : j = q.length := by omega
 have hst : dP hm hosts (q.take j) = dx hm hosts := by rw [hjl, List.take_length]; exact keepK_all fun p hp => hfx.mem_iff.2 (List.mem_map.2 ⟨p, hp, rfl⟩)
 refine cH (fun w h => by rw [hst] at h; exact h) ?_
 refine ab ?_
 refine da cy (fun b : Bool => .bool b) rfl (fun r4 => ?_)
 refine ap (ai rfl) rfl rfl ?_
 refine ae ?_
 refine aj ?_
 refine ao ?_
 refine ao ?_
 refine ab ?_
 refine ap (ak rfl) rfl rfl ?_
 refine ap (bM Tryz.underlying59 rfl) rfl rfl ?_
 refine ap (ak rfl) rfl rfl ?_
 refine ae ?_
 refine aj ?_
 refine aP ?_
 refine cH (fun w h => (h.f2.f2.f2.nilsl 26 1)) ?_
 refine cH (fun w h => h.weak (.cons_cons _ (.cons_cons _ (.cons_cons _ (.cons_cons _ (List.nil_sublist _))))) (fun s hs => hs)) ?_
 refine w_loopL (σ := Nat × (Hm × List aV) × Option Addr × Nat) [4, 13, 14, 15, 16, 55, 56, 57, 58, 59, 60, 61, 62, 63, 64, 65, 66, 67, 68, 69, 70, 71, 72, 73, 74, 75, 76, 77, 78, 79, 80, 81] (fun z => z.1 ≤ hosts.length ∧ z.2.1 = ew v (dx hm hosts) (hosts.take z.1) ∧ PInv z.2.1.1 ∧ z.2.1.1.length ≤ hm.length + z.1 ∧ z.2.1.2.length ≤ z.1) (fun z => hosts.length - z.1) (fun z => [(55, .int .i64 z.1), (4, .slice z.2.2.1 z.2.1.2.length z.2.2.2)]) (fun z => [Ch.ls z.2.2.1 z.2.2.2 26 1 dw z.2.1.2, Ch.mp r4 cy (fun b : Bool => .bool b) (stayM z.2.1.2), Ch.mp v.rh cy cQ z.2.1.1, Ch.mp v.ra fx cy (bw z.2.1.1)]) ((0, (dx hm hosts, []), none, 0)) ?_ ⟨rfl, rfl, trivial⟩ rfl (fun z hI => ?_)
 exact ⟨Nat.zero_le _, rfl, hi0.filter _, List.length_filter_le _ _, Nat.zero_le _⟩
 obtain ⟨i, ⟨hc, lost⟩, Aq, cq⟩ := z
 dsimp only at hI ⊢
 refine ao ?_
 refine ab ?_
 refine ap (bF rfl rfl) rfl rfl ?_
 refine aC (t := 56) rfl (fun h19_0 => ?_) (fun h19_0 => ?_)
 have hi : i < hosts.length := by omega
 have hnb := hhb _ (bX (d := ([] : aV)) hi)
 have hll := hI.2.2.2.2
 refine ae ?_
 refine aj ?_
 refine ao ?_
 refine ay rfl ?_
 refine aH ?_
 refine aj ?_
 refine ao ?_
 refine aP ?_
 refine ao ?_
 refine ab ?_
 refine ap (bP  Tryz.underlying59 bL rfl rfl (bY 2 rfl) rfl (by omega)) rfl rfl ?_
 refine ap (cG dq ([] : aV) bL rfl (bY 2 rfl) (by omega) rfl rfl) rfl rfl ?_
 refine ap (ai rfl) rfl rfl ?_
 refine ae ?_
 refine aj ?_
 refine ao ?_
 refine ab ?_
 refine ap (ak rfl) rfl rfl ?_
 refine aS rfl gl (dK _ (by omega)) rfl ?_
 refine ap (ai rfl) rfl rfl ?_
 refine ae ?_
 refine aj ?_
 refine ao ?_
 have hgi := iV (v := v) hI.2.2.1 (hosts.getD i [])
 have hlc := hI.2.2.2.1
 refine ab ?_
 refine ap (ak rfl) rfl rfl ?_
 refine ap (ak rfl) rfl rfl ?_
 refine cE (fun w h => h.f3.f3.two) ?_
 refine cu rfl ent_34 rfl (c_vGive v hc (bw hc) (hosts.getD i []) hv (hhb _ (bX hi)) (by omega)) (fun o => .z) (List.mem_of_getElem? (i := 0) rfl) (fun s hs => (List.mem_cons.1 hs).elim (fun e => e ▸ .head _) (fun h => (List.mem_singleton.1 h) ▸ .tail _ (.head _))) (fun o5 => ?_)
 refine cE (fun w h => h.untwo) ?_
 refine cE (fun w h => by rw [hgi.1] at h; exact h) ?_
 refine ap (ak rfl) rfl rfl ?_
 refine ap (aI rfl rfl) rfl rfl ?_
 refine ap (aI rfl rfl) rfl rfl ?_
 refine bz aN rfl rfl (fun b7 => ?_)
 refine aT aN rfl rfl rfl .z rfl rfl rfl rfl ?_
 refine ap (ai rfl) rfl rfl ?_
 refine ae ?_
 refine aj ?_
 refine ao ?_
 refine ab ?_
 refine ap (ak rfl) rfl rfl ?_
 refine ap (cv rfl rfl) rfl rfl ?_
 refine aC (t := 68) rfl (fun h23_1 => ?_) (fun h23_1 => ?_)
 refine ap (ak rfl) rfl rfl ?_
 refine az rfl rfl ?_
 refine ap (ak rfl) rfl rfl ?_
 refine az rfl rfl ?_
 refine ap (ak rfl) rfl rfl ?_
 refine az rfl rfl ?_
 refine ap (iR Tryz.underlying167 (cV Tryz.underlying26) gk rfl rfl (fun w hw => hw.own _ (List.mem_of_getElem? (i := 4) rfl))) rfl rfl ?_
 refine bV (t := 72) (.bool (decide (a6 (hosts.getD i []) ∈ lost.map a6))) rfl (look1_b.trans (congrArg Value.bool (stay_lkp _ _))) ?_
 refine bk (t := 72) rfl (fun h23_5 => ?_) (fun h23_5 => ?_)
 refine az rfl rfl ?_
 refine ap (bJ rfl) rfl rfl ?_
 refine ap (aX rfl rfl) rfl rfl ?_
 refine ae ?_
 refine aj ?_
 refine au rfl ?_
 refine aH ?_
 refine bq ?_
 refine aj ?_
 refine ab ?_
 refine ap (bg rfl rfl (by omega) (by omega)) rfl rfl ?_
 refine ap (ak rfl) rfl rfl ?_
 refine ae ?_
 refine bo ((i + 1, ((bK v hc (bw hc) (hosts.getD i [])).2.1, lost), Aq, cq)) ?_ ?_ ⟨rfl, rfl, trivial⟩ (by repeat (first | exact trivial | refine ⟨rfl, ?_⟩)) (fun w h => by exact (h.weak (.cons _ (.cons_cons _ (.cons_cons _ (.cons_cons _ (.cons_cons _ .slnil))))) (fun s hs => hs)).f1.f1.f3.f3)
 refine ⟨by show i + 1 ≤ _; omega, ?_, hgi.2.1, by show (bK v hc (bw hc) (hosts.getD i [])).2.1.length ≤ _; have := hgi.2.2; have := hI.2.2.2.1; omega, by have := hI.2.2.2.2; show lost.length ≤ i + 1; omega⟩
 show (_, _) = ew v _ (hosts.take (i + 1))
 rw [bH hosts [] i hi, eO, ← hI.2.1, fI]
 focus first
   | (rw [if_pos ⟨h23_1, of_decide_eq_false h23_5⟩]; done)
   | (rw [if_neg (fun h => h23_1 h.1)]; done)
   | (rw [if_neg (fun h => h.2 (of_decide_eq_true h23_5))]; done)
 show hosts.length - (i + 1) < hosts.length - i
 omega
 refine az rfl rfl ?_
 refine ap (bJ rfl) rfl rfl ?_
 refine ap (aX rfl rfl) rfl rfl ?_
 refine ae ?_
 refine aj ?_
 refine ay rfl ?_
 refine ao ?_
 refine ab ?_
 refine ap (ak rfl) rfl rfl ?_
 refine ap (ak rfl) rfl rfl ?_
 refine o_mapUpd (encK := cy) (encV := (fun b : Bool => .bool b)) (v := true) Tryz.underlying167 (cV Tryz.underlying26) rfl rfl rfl (.s (.s (.s (.s (.z))))) ?_
 refine ae ?_
 refine aj ?_
 refine ab ?_
 refine ap (ak rfl) rfl rfl ?_
 refine ap (ak rfl) rfl rfl ?_
 refine du (vs := [_]) ([hosts.getD i []] : List (aV)) dq Tryz.underlying59 bL rfl rfl rfl rfl rfl rfl (fun As8 => ?_)
 refine cg (enc := dw) (sz := 1) [hosts.getD i []] Tryz.underlying59 bL rfl rfl rfl (fun A c => (.s (.s (.s (.s (.z)))))) (eZ 0 Tryz.underlying59 rfl) (by simp only [List.length_cons, List.length_nil, Nat.zero_add]; omega) (by simp only [List.length_cons, List.length_nil, Nat.zero_add]; omega) rfl (fun A8 c8 => ?_)
 refine ap (ai rfl) rfl rfl ?_
 refine ae ?_
 refine bq ?_
 refine aj ?_
 refine ab ?_
 refine ap (bg rfl rfl (by omega) (by omega)) rfl rfl ?_
 refine ap (ak rfl) rfl rfl ?_
 refine ae ?_
 refine bo ((i + 1, ((bK v hc (bw hc) (hosts.getD i [])).2.1, lost ++ [hosts.getD i []]), A8, c8)) ?_ ?_ ⟨rfl, rfl, trivial⟩ (by repeat (first | exact trivial | refine ⟨rfl, ?_⟩)) (fun w h => by rw [stay_snoc]; exact (h.weak (.cons _ (.cons _ (.cons_cons _ (.cons_cons _ (.cons_cons _ (.cons_cons _ .slnil)))))) (fun s hs => hs)).f1.f1.f3.f3)
 refine ⟨by show i + 1 ≤ _; omega, ?_, hgi.2.1, by show (bK v hc (bw hc) (hosts.getD i [])).2.1.length ≤ _; have := hgi.2.2; have := hI.2.2.2.1; omega, by have := hI.2.2.2.2; show (lost ++ [hosts.getD i []]).length ≤ i + 1; simp; omega⟩
 show (_, _) = ew v _ (hosts.take (i + 1))
 rw [bH hosts [] i hi, eO, ← hI.2.1, fI]
 focus first
   | (rw [if_pos ⟨h23_1, of_decide_eq_false h23_5⟩]; done)
   | (rw [if_neg (fun h => h23_1 h.1)]; done)
   | (rw [if_neg (fun h => h.2 (of_decide_eq_true h23_5))]; done)
 show hosts.length - (i + 1) < hosts.length - i
 omega
 refine ap (ak rfl) rfl rfl ?_
 refine aO rfl rfl rfl rfl ?_
 refine aO rfl rfl rfl rfl ?_
 refine aO rfl rfl rfl rfl ?_
 refine aO rfl rfl rfl rfl ?_
 refine ap (aW rfl rfl) rfl rfl ?_
 refine ae ?_
 refine aj ?_
 refine au rfl ?_
 refine aH ?_
 refine bq ?_
 refine aj ?_
 refine ab ?_
 refine ap (bg rfl rfl (by omega) (by omega)) rfl rfl ?_
 refine ap (ak rfl) rfl rfl ?_
 refine ae ?_
 refine bo ((i + 1, ((bK v hc (bw hc) (hosts.getD i [])).2.1, lost), Aq, cq)) ?_ ?_ ⟨rfl, rfl, trivial⟩ (by repeat (first | exact trivial | refine ⟨rfl, ?_⟩)) (fun w h => by exact (h.weak (.cons _ (.cons_cons _ (.cons_cons _ (.cons_cons _ (.cons_cons _ .slnil))))) (fun s hs => hs)).f1.f1.f3.f3)
 refine ⟨by show i + 1 ≤ _; omega, ?_, hgi.2.1, by show (bK v hc (bw hc) (hosts.getD i [])).2.1.length ≤ _; have := hgi.2.2; have := hI.2.2.2.1; omega, by have := hI.2.2.2.2; show lost.length ≤ i + 1; omega⟩
 show (_, _) = ew v _ (hosts.take (i + 1))
 rw [bH hosts [] i hi, eO, ← hI.2.1, fI]
 focus first
   | (rw [if_pos ⟨h23_1, of_decide_eq_false h23_5⟩]; done)
   | (rw [if_neg (fun h => h23_1 h.1)]; done)
   | (rw [if_neg (fun h => h.2 (of_decide_eq_true h23_5))]; done)
 show hosts.length - (i + 1) < hosts.length - i
 omega
 refine ae ?_
 refine aj ?_
 refine ao ?_
 refine au rfl ?_
 refine bC ?_
 refine aY ?_
 refine aU ?_
 refine a8 ?_
 refine aj ?_
 refine ao ?_
 refine ab ?_
 refine ap (ak rfl) rfl rfl ?_
 refine ap (ai rfl) rfl rfl ?_
 refine ap (ai rfl) rfl rfl ?_
 refine ae ?_
 refine aj ?_
 refine aF ?_
 refine aJ (ts := [4, 5]) rfl rfl rfl (fun w hw => ?_)
 have hil : i = hosts.length := by omega
 have hG : ew v (dx hm hosts) hosts = (hc, lost) := by rw [hI.2.1, hil, List.take_length]
 have hE : cZ v hm hosts = ((lost, 0), hc) := by rw [cZ, if_neg (by rw [hall]; decide), hG]
 obtain ⟨h1, h2, h3⟩ := (hw.weak (.cons_cons _ (.cons _ (.cons_cons _ (.cons_cons _ .slnil)))) (fun s hs => hs)).f2.f2.two.two.uc
 exact ⟨(Aq, cq), by rw [hE]; rfl, h1, by rw [hE]; exact h2, by rw [hE]; exact h3⟩
end Go.Proofs.YtnpdgmoeoidppaaGreat

/- A map is cloned. -/
namespace Go.Proofs.YtnpdgmoeoidppaaGreat
open Go.RowKit Go.Shelf
set_option linter.unusedVariables false
section
variable {x : Cx} {l : Fr} {L S : List Ch} {Q : Exit → Act → World → Prop} {ops : Array Oper} {rest : List Oper} {d : Nat} {ty : TypeId} {pos : String} {af : Array Edge} {gd : Option (Nat × Bool)}
theorem eqb_mn {P : Program} {t k e : TypeId} (h : P.underlying t = some (.map k e)) (p : Option Nat) : EqB P t (.map p) (.map none) p.isNone := fun d w => by
  cases p <;> simp [Op.equalIn, run_underlying h]
theorem y_eqmn {y z : Operand} {p : Option Nat} {yt zt k e : TypeId} (h : x.P.underlying yt = some (.map k e)) (hy : ev l y = some (.map p)) (hz : ev l z = some (.map none)) :
    Yv x l L S ⟨some d, .binOp .eql yt y z zt, ty, pos, af, gd⟩ (.bool p.isNone) := y_eqg (eqb_mn h p) rfl hy hz
theorem y_mkif {y : Operand} {t k e : TypeId} {p : Option Nat} (h : x.P.underlying t = some (.map k e)) (hy : ev l y = some (.map p)) : Yv x l L S ⟨some d, .makeInterface t y, ty, pos, af, gd⟩ (.iface t (.map p)) := fun a w ha hw => by
  simp [execOp, ha.ev hy, Instr.makeInterface, run_underlying h, Result.andThen]
theorem y_asmap {y : Operand} {t xT k e : TypeId} {v : Value} (h : x.P.underlying t = some (.map k e)) (hy : ev l y = some (.iface t v)) : Yv x l L S ⟨some d, .typeAssert y xT t false, ty, pos, af, gd⟩ v := fun a w ha hw => by
  simp [execOp, ha.ev hy, Instr.typeAssert, run_underlying h, Result.andThen]
theorem o_mclone {α β : Type} {encK : α → Value} {encV : β → Value} {g r : Nat} {fn : Func} {y : Operand} {t : TypeId} {m : List (α × β)} {tys : Array TypeId} (hf : x.P.funcs[g]? = some fn) (hname : (fn.name == "runtime.NumGoroutine") = false) (hb : fn.body.isNone = true) (hn : Extern.findNext fn = none) (he : Extern.find fn = some Extern.MapsClone.clone) (hy : ev l y = some (.iface t (.map (some r)))) (hm : ∀ w, Hp x.ok0 x.w0 L S w → MpP r encK encV m w) (hN : Nat.blt d x.N = true)
    (k : ∀ r', WL x ((d, .iface t (.map (some r'))) :: l) (Ch.mp r' encK encV m :: L) S ops rest Q) : WL x l L S ops (⟨some d, .call { callee := .value (.func g), args := #[y], argTypes := tys }, ty, pos, af, none⟩ :: rest) Q :=
  eR (fun r' => .iface t (.map (some r'))) (fun r' => Ch.mp r' encK encV m :: L) (fun _ => S) rfl rfl (fun _ => nofun) hN (fun ac w hac hw => by
    obtain ⟨es, c, h1, h2, h3, h4, h5⟩ := (hm w hw).at_
    have e := run_callFunc_extern (P := x.P) hf hname hb hn he #[.iface t (.map (some r))] w
    have e2 : (Extern.MapsClone.clone #[.iface t (.map (some r))]).run x.P w = .ok (.iface t (.map (some w.heap.size))) (w.alloc (.map es c)) := by
      have e3 : Extern.MapsClone.clone #[.iface t (.map (some r))] = (getObj r >>= fun o => match o with
        | .map entries clock => (newObj (.map entries clock) >>= fun n => pure (.iface t (.map (some n))))
        | _ => stuck "maps.clone: a map expected") := rfl
      rw [e3]
      simp [getObj, newObj, Sem.run, h1, Result.andThen, go_sem]
    rw [e2] at e
    simp only [Result.andThen] at e
    have hg : ac.eval (.func g) = .func (.func g) #[] #[] := rfl
    refine ⟨w.heap.size, w.alloc (.map es c), ?_, hw.fresh (Upd.alloc w _) _ ⟨es, c, World.alloc_heap_new w _, h2, h3, h4, h5⟩ (fun b hb => Nat.le_of_eq hb.symm) (fun b hb => by rw [show b = w.heap.size from hb]; simp)⟩
    simp [execOp, resolve, hg, Deferred.ofValue, invoke, hac.ev hy, e]) k
end
end Go.Proofs.YtnpdgmoeoidppaaGreat

/- vips: a pool is cloned -/
namespace Go.Proofs.YtnpdgmoeoidppaaGreat
open Go.RowKit Go.Shelf
set_option linter.unusedVariables false
set_option linter.unusedSimpArgs false

theorem cU (x0 : Bool) (x1 : Int) (x2 : Int) (x3 : Int) (x4 : Option Addr) (x5 : Nat) (x6 : Nat) (x7 : Option Nat) (x8 : Option Nat) (x9 : Int) : Tryz.prog.built 146 [(0, .agg [.bool x0, .int .u64 x1, .int .u64 x2, .int .i64 x3, .slice x4 x5 x6].toArray), (1, .map x7), (2, .map x8), (3, .int .i64 x9)] = some [.bool x0, .int .u64 x1, .int .u64 x2, .int .i64 x3, .slice x4 x5 x6, .map x7, .map x8, .int .i64 x9].toArray := by kernel_rfl
theorem ent_106 : Enters Tryz.prog 106 := enters_of Tryz.func106 (by kernel_rfl) rfl
theorem ent_107 : Enters Tryz.prog 107 := enters_of Tryz.func107 (by kernel_rfl) rfl
theorem eU : TyI Tryz.prog 67 true 5 56 (.agg #[.bool false, .int .u64 0, .int .u64 0, .int .i64 0, .slice none 0 0]) := TyI.mk' (by kernel_rfl) (fun _ => by kernel_rfl)

theorem c_mcloneH (m : List (aV × Hd)) (r : Nat) : RC Tryz.prog 106 #[.map (some r)] [Ch.mp r cy cQ m] (α := Nat) (fun o => .map (some o)) (fun o => [Ch.mp o cy cQ m]) := by
 refine bi (args := [.map (some r)]) 9 Tryz.func106 rfl rfl rfl (fun w0 => ?_)
 refine ao ?_
 refine ab ?_
 refine ap (ai rfl) rfl rfl ?_
 refine ae ?_
 refine aj ?_
 refine ao ?_
 refine ao ?_
 refine ab ?_
 refine ap (ak rfl) rfl rfl ?_
 refine ap (y_eqmn Tryz.underlying143 rfl rfl) rfl rfl ?_
 refine ae ?_
 refine aj ?_
 refine au rfl ?_
 refine aH ?_
 refine aj ?_
 refine ao ?_
 refine ab ?_
 refine ap (ak rfl) rfl rfl ?_
 refine ap (y_mkif Tryz.underlying143 rfl) rfl rfl ?_
 refine o_mclone (encK := cy) (encV := cQ) Tryz.func176 (by kernel_rfl) (by kernel_rfl) (by kernel_rfl) (by kernel_rfl) rfl (fun w hw => hw.sh _ (List.mem_of_getElem? (i := 0) rfl)) rfl (fun r9 => ?_)
 refine ap (y_asmap Tryz.underlying143 rfl) rfl rfl ?_
 refine ap (ai rfl) rfl rfl ?_
 refine ae ?_
 refine aj ?_
 refine aF ?_
 refine aJ (ts := [2]) rfl rfl rfl (fun w hw => ?_)
 exact ⟨r9, rfl, hw.base, hw.toNews⟩

theorem c_mcloneA (m : List (Ad × aV)) (r : Nat) : RC Tryz.prog 107 #[.map (some r)] [Ch.mp r fx cy m] (α := Nat) (fun o => .map (some o)) (fun o => [Ch.mp o fx cy m]) := by
 refine bi (args := [.map (some r)]) 9 Tryz.func107 rfl rfl rfl (fun w0 => ?_)
 refine ao ?_
 refine ab ?_
 refine ap (ai rfl) rfl rfl ?_
 refine ae ?_
 refine aj ?_
 refine ao ?_
 refine ao ?_
 refine ab ?_
 refine ap (ak rfl) rfl rfl ?_
 refine ap (y_eqmn Tryz.underlying144 rfl rfl) rfl rfl ?_
 refine ae ?_
 refine aj ?_
 refine au rfl ?_
 refine aH ?_
 refine aj ?_
 refine ao ?_
 refine ab ?_
 refine ap (ak rfl) rfl rfl ?_
 refine ap (y_mkif Tryz.underlying144 rfl) rfl rfl ?_
 refine o_mclone (encK := fx) (encV := cy) Tryz.func176 (by kernel_rfl) (by kernel_rfl) (by kernel_rfl) (by kernel_rfl) rfl (fun w hw => hw.sh _ (List.mem_of_getElem? (i := 0) rfl)) rfl (fun r9 => ?_)
 refine ap (y_asmap Tryz.underlying144 rfl) rfl rfl ?_
 refine ap (ai rfl) rfl rfl ?_
 refine ae ?_
 refine aj ?_
 refine aF ?_
 refine aJ (ts := [2]) rfl rfl rfl (fun w hw => ?_)
 exact ⟨r9, rfl, hw.base, hw.toNews⟩

set_option maxRecDepth 100000 in
theorem c_vClone (v : Vp) (hm : Hm) (am : Am) : RC Tryz.prog 40 #[.pointer (some ⟨v.b, 0, none⟩)] [Ch.row v.b (vpC v) 146, Ch.mp v.rh cy cQ hm, Ch.mp v.ra fx cy am] (α := {u : Vp // u.rg = v.rg ∧ u.res = v.res ∧ u.A = v.A ∧ u.c = v.c ∧ u.room = v.room}) (fun o => .pointer (some ⟨o.1.b, 0, none⟩)) (fun o => [vmC o.1 hm am, Ch.row o.1.b (vpC o.1) 146]) := by
 refine bi (args := [.pointer (some ⟨v.b, 0, none⟩)]) 25 Tryz.func40 rfl rfl rfl (fun w0 => ?_)
 refine ao ?_
 refine ab ?_
 refine ap (ai rfl) rfl rfl ?_
 refine ae ?_
 refine aj ?_
 refine ao ?_
 refine ao ?_
 refine ab ?_
 refine ap (ak rfl) rfl rfl ?_
 refine ap (eH Tryz.underlying68 rfl rfl) rfl rfl ?_
 refine bV (t := 4) (.bool false) rfl (congrArg Value.bool rfl) ?_
 refine ae ?_
 refine aj ?_
 refine au rfl ?_
 refine aH ?_
 refine aj ?_
 refine ao ?_
 refine de 21 rfl mixed ?_
 refine ax (i := 0) rfl ah (ak rfl) aw aw rfl (aa ar) (by kernel_rfl) rfl ?_
 refine ax (i := 1) rfl ah (aR rfl) aw aw rfl (aa ar) (by kernel_rfl) rfl ?_
 refine ax (i := 2) rfl ah (aB f9 rfl) aw aw rfl (aa ar) (by kernel_rfl) rfl ?_
 refine ax (i := 3) rfl ah (dD 0 eU rfl rfl rfl rfl) aw aw rfl (aa ar) (by kernel_rfl) rfl ?_
 refine ax (i := 4) rfl ah (ak rfl) aw aw rfl (aa ar) (by kernel_rfl) rfl ?_
 refine ax (i := 5) rfl ah (aR rfl) aw aw rfl (aa ar) (by kernel_rfl) rfl ?_
 refine ax (i := 6) rfl ah (aB dA rfl) aw aw rfl (aa ar) (by kernel_rfl) rfl ?_
 refine ax (i := 7) rfl ah (bp 0 eE rfl rfl rfl) aw aw rfl (aa ar) (by kernel_rfl) rfl ?_
 refine ax (i := 9) rfl ah (ak rfl) aw aw rfl (aa ar) (by kernel_rfl) rfl ?_
 refine ax (i := 10) rfl ah (aR rfl) aw aw rfl (aa ar) (by kernel_rfl) rfl ?_
 refine ax (i := 11) rfl ah (aB gb rfl) aw aw rfl (aa ar) (by kernel_rfl) rfl ?_
 refine ax (i := 12) rfl ah (bp 0 ty_144 rfl rfl rfl) aw aw rfl (aa ar) (by kernel_rfl) rfl ?_
 refine ax (i := 14) rfl ah (ak rfl) aw aw rfl (aa ar) (by kernel_rfl) rfl ?_
 refine ax (i := 15) rfl ah (aR rfl) aw aw rfl (aa ar) (by kernel_rfl) rfl ?_
 refine ax (i := 16) rfl ah (aB fa_146_3 rfl) aw aw rfl (aa ar) (by kernel_rfl) rfl ?_
 refine ax (i := 17) rfl ah (bp 0 eW rfl rfl rfl) aw aw rfl (aa ar) (by kernel_rfl) rfl ?_
 refine bD (i := 8) rfl rfl rfl (br rfl ent_106) (by kernel_rfl) rfl ?_
 refine co rfl ent_106 rfl (c_mcloneH hm v.rh) (fun w hw => (aQ (cI 1 rfl hw) bf)) (fun r0 => ?_)
 refine ae ?_
 refine bc (bS 1) ?_
 refine bD (i := 13) rfl rfl rfl (br rfl ent_107) (by kernel_rfl) rfl ?_
 refine co rfl ent_107 rfl (c_mcloneA am v.ra) (fun w hw => (aQ (cI 2 rfl hw) bf)) (fun r1 => ?_)
 refine ae ?_
 refine bc (bS 2) ?_
 refine ax (i := 18) rfl ah (bN rfl (cU _ _ _ _ _ _ _ _ _ _)) (bS 2) aw rfl (aa ar) (by kernel_rfl) rfl ?_
 refine bD (i := 19) rfl rfl rfl (fun _ _ _ => a7 (by kernel_rfl)) (by kernel_rfl) rfl ?_
 refine bE rfl rfl rfl (fun b3 => ?_)
 refine ae ?_
 refine bc (bS 3) ?_
 refine ax (i := 20) rfl ah (ai rfl) (bS 3) aw rfl (aa ar) (by kernel_rfl) rfl ?_
 refine bQ (by kernel_rfl) ?_
 refine aj ?_
 refine aF ?_
 refine aJ (ts := [2]) rfl rfl rfl (fun w hw => ?_)
 exact ⟨⟨⟨v.rg, v.res, v.A, v.c, v.room, b3, r0, r1⟩, rfl, rfl, rfl, rfl, rfl⟩, rfl, hw.base, ((hw.weak (.cons_cons _ (.cons_cons _ (.cons_cons _ .slnil))) (fun s hs => hs)).f1.f2).two.toNews⟩
end Go.Proofs.YtnpdgmoeoidppaaGreat

/- law 14: a pool is made; the examples; a pool that nobody made -/
namespace Go.Proofs.YtnpdgmoeoidppaaGreat
open Go.RowKit Go.Shelf
set_option linter.unusedVariables false
set_option linter.unusedSimpArgs false

theorem bu_29_2 (x0 : Int) : Tryz.prog.built 29 [(2, .int .u64 x0)] = some [.bool false, .int .u64 0, .int .u64 x0].toArray := by kernel_rfl
theorem bu_64_0_1 (x0 : Bool) (x1 : Int) (x2 : Int) (x3 : Int) : Tryz.prog.built 64 [(0, .agg [.bool x0, .int .u64 x1, .int .u64 x2].toArray), (1, .int .i64 x3)] = some [.bool x0, .int .u64 x1, .int .u64 x2, .int .i64 x3].toArray := by kernel_rfl
theorem bu_67_0 (x0 : Bool) (x1 : Int) (x2 : Int) (x3 : Int) : Tryz.prog.built 67 [(0, .agg [.bool x0, .int .u64 x1, .int .u64 x2, .int .i64 x3].toArray)] = some [.bool x0, .int .u64 x1, .int .u64 x2, .int .i64 x3, .slice none 0 0].toArray := by kernel_rfl
theorem ent_31 : Enters Tryz.prog 31 := enters_of Tryz.func31 (by kernel_rfl) rfl
theorem ent_38 : Enters Tryz.prog 38 := enters_of Tryz.func38 (by kernel_rfl) rfl
theorem ent_43 : Enters Tryz.prog 43 := enters_of Tryz.func43 (by kernel_rfl) rfl
theorem ent_89 : Enters Tryz.prog 89 := enters_of Tryz.func89 (by kernel_rfl) rfl
theorem ent_90 : Enters Tryz.prog 90 := enters_of Tryz.func90 (by kernel_rfl) rfl
theorem fL : Enters Tryz.prog 91 := enters_of Tryz.func91 (by kernel_rfl) rfl

set_option maxRecDepth 100000 in
theorem c_vNewbad (rg : Rg) (res : List Rg) (A : Option Addr) (c : Nat) (hr : RgOk rg) (hrs : ∀ x ∈ res, RgOk x) (hl : res.length ≤ 4398046510976) (h0 : dn (rg :: res) ≠ 0) : RC Tryz.prog 31 #[.agg (plC rg A res.length c).toArray] [Ch.rd A 4 dR res] (α := Unit) (fun _ => .tuple #[.pointer none, .int .i64 (dn (rg :: res))]) (fun _ => []) := by
 refine bi (args := [.agg (plC rg A res.length c).toArray]) 24 Tryz.func31 rfl rfl rfl (fun w0 => ?_)
 refine ao ?_
 refine ab ?_
 refine bE rfl rfl rfl (fun b1 => ?_)
 refine ap (ai rfl) rfl rfl ?_
 refine ap (ai rfl) rfl rfl ?_
 refine ae ?_
 refine aj ?_
 refine ao ?_
 refine ao ?_
 refine ab ?_
 refine ap (aK 0 eU rfl rfl rfl rfl) rfl rfl ?_
 refine bv rfl ent_43 rfl (i6 rg res A c hr hrs hl) (fun w hw => (aQ (cI 0 rfl hw) bf)) ?_
 refine ap (ai rfl) rfl rfl ?_
 refine ae ?_
 refine aj ?_
 refine ao ?_
 refine ab ?_
 refine ap (ak rfl) rfl rfl ?_
 refine ap (cv rfl rfl) rfl rfl ?_
 refine fu (t := 8) rfl h0 ?_
 refine ae ?_
 refine aj ?_
 refine ay rfl ?_
 refine ao ?_
 refine ab ?_
 refine ap (ak rfl) rfl rfl ?_
 refine ap (ai rfl) rfl rfl ?_
 refine ap (ai rfl) rfl rfl ?_
 refine ae ?_
 refine aj ?_
 refine aF ?_
 refine aA ?_
 refine aJ (ts := [2, 3]) rfl rfl rfl (fun w hw => ?_)
 exact ⟨(), rfl, hw.base, (hw.weak (List.nil_sublist _) (fun s hs => hs)).toNews⟩

set_option maxRecDepth 100000 in
theorem c_vNew (rg : Rg) (res : List Rg) (A : Option Addr) (c : Nat) (hr : RgOk rg) (hrs : ∀ x ∈ res, RgOk x) (hl : res.length ≤ 4398046510976) (h0 : dn (rg :: res) = 0) : RC Tryz.prog 31 #[.agg (plC rg A res.length c).toArray] [Ch.rd A 4 dR res] (α := {v : Vp // v.rg = rg ∧ v.res = res ∧ v.room = dv rg res}) (fun o => .tuple #[.pointer (some ⟨o.1.b, 0, none⟩), .int .i64 0]) (fun o => [vmC o.1 [] [], Ch.ls o.1.A o.1.c 64 4 dR o.1.res, Ch.row o.1.b (vpC o.1) 146]) := by
 refine bi (args := [.agg (plC rg A res.length c).toArray]) 24 Tryz.func31 rfl rfl rfl (fun w0 => ?_)
 refine ao ?_
 refine ab ?_
 refine bE rfl rfl rfl (fun b1 => ?_)
 refine ap (ai rfl) rfl rfl ?_
 refine ap (ai rfl) rfl rfl ?_
 refine ae ?_
 refine aj ?_
 refine ao ?_
 refine ao ?_
 refine ab ?_
 refine ap (aK 0 eU rfl rfl rfl rfl) rfl rfl ?_
 refine bv rfl ent_43 rfl (i6 rg res A c hr hrs hl) (fun w hw => (aQ (cI 0 rfl hw) bf)) ?_
 refine ap (ai rfl) rfl rfl ?_
 refine ae ?_
 refine aj ?_
 refine ao ?_
 refine ab ?_
 refine ap (ak rfl) rfl rfl ?_
 refine ap (cv rfl rfl) rfl rfl ?_
 refine e5 (t := 8) rfl (fun h => h h0) ?_
 refine ae ?_
 refine aj ?_
 refine au rfl ?_
 refine aH ?_
 refine aj ?_
 refine ao ?_
 refine ab ?_
 refine ap (aB eb rfl) rfl rfl ?_
 refine ap (aM 0 fZ rfl rfl rfl) rfl rfl ?_
 refine co rfl ent_90 rfl (c_Clone_rg res A c hl) (fun w hw => (aQ (cI 0 rfl hw) bf)) (fun ⟨A1, c1⟩ => ?_)
 refine ap (aB eb rfl) rfl rfl ?_
 refine aT fZ rfl rfl rfl (.s (.z)) rfl rfl rfl rfl ?_
 refine ae ?_
 refine aj ?_
 refine ao ?_
 refine de 12 rfl mixed ?_
 refine ax (i := 0) rfl ah (aK 1 eU rfl rfl rfl rfl) aw aw rfl (aa ar) (by kernel_rfl) rfl ?_
 refine ax (i := 3) rfl ah (aB d7 rfl) aw aw rfl (aa ar) (by kernel_rfl) rfl ?_
 refine ax (i := 4) rfl ah (aK 1 cm rfl rfl rfl rfl) aw aw rfl (aa ar) (by kernel_rfl) rfl ?_
 refine ax (i := 5) rfl ah (aB eb rfl) aw aw rfl (aa ar) (by kernel_rfl) rfl ?_
 refine ax (i := 6) rfl ah (aM 1 fZ rfl rfl rfl) aw aw rfl (aa ar) (by kernel_rfl) rfl ?_
 refine eX (js := [1, 2, 7]) (by kernel_rfl) rfl ?_
 refine bZ (i := 1) rfl rfl rfl (fun _ _ _ => a7 (by kernel_rfl)) rfl ?_ ?_
 refine da cy cQ rfl (fun r2 => ?_)
 refine ae ?_
 refine bc (bS 1) ?_
 refine eX (js := [2, 7]) (by kernel_rfl) rfl ?_
 refine bZ (i := 2) rfl rfl rfl (fun _ _ _ => a7 (by kernel_rfl)) rfl ?_ ?_
 refine da fx cy rfl (fun r3 => ?_)
 refine ae ?_
 refine bc (bS 2) ?_
 refine bD (i := 7) rfl rfl rfl (br rfl fL) (by kernel_rfl) rfl ?_
 refine bv rfl fL rfl (iP rg res A1 c1 hr hrs hl) (fun w hw => (aQ (eF 2 rfl hw) bf)) ?_
 refine ae ?_
 refine bc (bS 2) ?_
 refine ax (i := 8) rfl ah (bN rfl (cU _ _ _ _ _ _ _ _ _ _)) (bS 2) aw rfl (aa ar) (by kernel_rfl) rfl ?_
 refine bD (i := 9) rfl rfl rfl (fun _ _ _ => a7 (by kernel_rfl)) (by kernel_rfl) rfl ?_
 refine bE rfl rfl rfl (fun b5 => ?_)
 refine ae ?_
 refine bc (bS 3) ?_
 refine ax (i := 10) rfl ah (ai rfl) (bS 3) aw rfl (aa ar) (by kernel_rfl) rfl ?_
 refine ax (i := 11) rfl ah (ai rfl) (bS 3) aw rfl (aa ar) (by kernel_rfl) rfl ?_
 refine bQ (by kernel_rfl) ?_
 refine aj ?_
 refine aF ?_
 refine aJ (ts := [2, 3]) rfl rfl rfl (fun w hw => ?_)
 exact ⟨⟨⟨rg, res, A1, c1, (dv rg res : Nat), b5, r2, r3⟩, rfl, rfl, rfl⟩, rfl, hw.base, ((hw.weak (.cons_cons _ (.cons_cons _ (.cons_cons _ (.cons_cons _ (.cons _ .slnil))))) (fun s hs => hs)).f3.f2.f3).two.toNews⟩
 refine bZ (i := 7) rfl rfl rfl (br rfl fL) rfl ?_ ?_
 refine bv rfl fL rfl (iP rg res A1 c1 hr hrs hl) (fun w hw => (aQ (eF 1 rfl hw) bf)) ?_
 refine ae ?_
 refine bc (bS 1) ?_
 refine bD (i := 2) rfl rfl rfl (fun _ _ _ => a7 (by kernel_rfl)) (by kernel_rfl) rfl ?_
 refine da fx cy rfl (fun r5 => ?_)
 refine ae ?_
 refine bc (bS 2) ?_
 refine ax (i := 8) rfl ah (bN rfl (cU _ _ _ _ _ _ _ _ _ _)) (bS 2) aw rfl (aa ar) (by kernel_rfl) rfl ?_
 refine bD (i := 9) rfl rfl rfl (fun _ _ _ => a7 (by kernel_rfl)) (by kernel_rfl) rfl ?_
 refine bE rfl rfl rfl (fun b7 => ?_)
 refine ae ?_
 refine bc (bS 3) ?_
 refine ax (i := 10) rfl ah (ai rfl) (bS 3) aw rfl (aa ar) (by kernel_rfl) rfl ?_
 refine ax (i := 11) rfl ah (ai rfl) (bS 3) aw rfl (aa ar) (by kernel_rfl) rfl ?_
 refine bQ (by kernel_rfl) ?_
 refine aj ?_
 refine aF ?_
 refine aJ (ts := [2, 3]) rfl rfl rfl (fun w hw => ?_)
 exact ⟨⟨⟨rg, res, A1, c1, (dv rg res : Nat), b7, r2, r5⟩, rfl, rfl, rfl⟩, rfl, hw.base, ((hw.weak (.cons_cons _ (.cons_cons _ (.cons_cons _ (.cons_cons _ (.cons _ .slnil))))) (fun s hs => hs)).f3.f2.f3).two.toNews⟩
 exact d8
 refine bZ (i := 2) rfl rfl rfl (fun _ _ _ => a7 (by kernel_rfl)) rfl ?_ ?_
 refine da fx cy rfl (fun r7 => ?_)
 refine ae ?_
 refine bc (bS 1) ?_
 refine eX (js := [1, 7]) (by kernel_rfl) rfl ?_
 refine bZ (i := 1) rfl rfl rfl (fun _ _ _ => a7 (by kernel_rfl)) rfl ?_ ?_
 refine da cy cQ rfl (fun r8 => ?_)
 refine ae ?_
 refine bc (bS 2) ?_
 refine bD (i := 7) rfl rfl rfl (br rfl fL) (by kernel_rfl) rfl ?_
 refine bv rfl fL rfl (iP rg res A1 c1 hr hrs hl) (fun w hw => (aQ (eF 2 rfl hw) bf)) ?_
 refine ae ?_
 refine bc (bS 2) ?_
 refine ax (i := 8) rfl ah (bN rfl (cU _ _ _ _ _ _ _ _ _ _)) (bS 2) aw rfl (aa ar) (by kernel_rfl) rfl ?_
 refine bD (i := 9) rfl rfl rfl (fun _ _ _ => a7 (by kernel_rfl)) (by kernel_rfl) rfl ?_
 refine bE rfl rfl rfl (fun b10 => ?_)
 refine ae ?_
 refine bc (bS 3) ?_
 refine ax (i := 10) rfl ah (ai rfl) (bS 3) aw rfl (aa ar) (by kernel_rfl) rfl ?_
 refine ax (i := 11) rfl ah (ai rfl) (bS 3) aw rfl (aa ar) (by kernel_rfl) rfl ?_
 refine bQ (by kernel_rfl) ?_
 refine aj ?_
 refine aF ?_
 refine aJ (ts := [2, 3]) rfl rfl rfl (fun w hw => ?_)
 exact ⟨⟨⟨rg, res, A1, c1, (dv rg res : Nat), b10, r8, r7⟩, rfl, rfl, rfl⟩, rfl, hw.base, ((hw.weak (.cons_cons _ (.cons_cons _ (.cons_cons _ (.cons_cons _ (.cons _ .slnil))))) (fun s hs => hs)).f3.f3.f3).two.toNews⟩
 refine bZ (i := 7) rfl rfl rfl (br rfl fL) rfl ?_ ?_
 refine bv rfl fL rfl (iP rg res A1 c1 hr hrs hl) (fun w hw => (aQ (eF 1 rfl hw) bf)) ?_
 refine ae ?_
 refine bc (bS 1) ?_
 refine bD (i := 1) rfl rfl rfl (fun _ _ _ => a7 (by kernel_rfl)) (by kernel_rfl) rfl ?_
 refine da cy cQ rfl (fun r10 => ?_)
 refine ae ?_
 refine bc (bS 2) ?_
 refine ax (i := 8) rfl ah (bN rfl (cU _ _ _ _ _ _ _ _ _ _)) (bS 2) aw rfl (aa ar) (by kernel_rfl) rfl ?_
 refine bD (i := 9) rfl rfl rfl (fun _ _ _ => a7 (by kernel_rfl)) (by kernel_rfl) rfl ?_
 refine bE rfl rfl rfl (fun b12 => ?_)
 refine ae ?_
 refine bc (bS 3) ?_
 refine ax (i := 10) rfl ah (ai rfl) (bS 3) aw rfl (aa ar) (by kernel_rfl) rfl ?_
 refine ax (i := 11) rfl ah (ai rfl) (bS 3) aw rfl (aa ar) (by kernel_rfl) rfl ?_
 refine bQ (by kernel_rfl) ?_
 refine aj ?_
 refine aF ?_
 refine aJ (ts := [2, 3]) rfl rfl rfl (fun w hw => ?_)
 exact ⟨⟨⟨rg, res, A1, c1, (dv rg res : Nat), b12, r10, r7⟩, rfl, rfl, rfl⟩, rfl, hw.base, ((hw.weak (.cons_cons _ (.cons_cons _ (.cons_cons _ (.cons_cons _ (.cons _ .slnil))))) (fun s hs => hs)).f3.f3.f3).two.toNews⟩
 exact d8
 refine bZ (i := 7) rfl rfl rfl (br rfl fL) rfl ?_ ?_
 refine bv rfl fL rfl (iP rg res A1 c1 hr hrs hl) (fun w hw => (aQ (eF 0 rfl hw) bf)) ?_
 refine ae ?_
 refine bc aw ?_
 refine eX (js := [1, 2]) (by kernel_rfl) rfl ?_
 refine bZ (i := 1) rfl rfl rfl (fun _ _ _ => a7 (by kernel_rfl)) rfl ?_ ?_
 refine da cy cQ rfl (fun r12 => ?_)
 refine ae ?_
 refine bc (bS 1) ?_
 refine bD (i := 2) rfl rfl rfl (fun _ _ _ => a7 (by kernel_rfl)) (by kernel_rfl) rfl ?_
 refine da fx cy rfl (fun r13 => ?_)
 refine ae ?_
 refine bc (bS 2) ?_
 refine ax (i := 8) rfl ah (bN rfl (cU _ _ _ _ _ _ _ _ _ _)) (bS 2) aw rfl (aa ar) (by kernel_rfl) rfl ?_
 refine bD (i := 9) rfl rfl rfl (fun _ _ _ => a7 (by kernel_rfl)) (by kernel_rfl) rfl ?_
 refine bE rfl rfl rfl (fun b15 => ?_)
 refine ae ?_
 refine bc (bS 3) ?_
 refine ax (i := 10) rfl ah (ai rfl) (bS 3) aw rfl (aa ar) (by kernel_rfl) rfl ?_
 refine ax (i := 11) rfl ah (ai rfl) (bS 3) aw rfl (aa ar) (by kernel_rfl) rfl ?_
 refine bQ (by kernel_rfl) ?_
 refine aj ?_
 refine aF ?_
 refine aJ (ts := [2, 3]) rfl rfl rfl (fun w hw => ?_)
 exact ⟨⟨⟨rg, res, A1, c1, (dv rg res : Nat), b15, r12, r13⟩, rfl, rfl, rfl⟩, rfl, hw.base, ((hw.weak (.cons_cons _ (.cons_cons _ (.cons_cons _ (.cons_cons _ (.cons _ .slnil))))) (fun s hs => hs)).f3.f2.f3).two.toNews⟩
 refine bZ (i := 2) rfl rfl rfl (fun _ _ _ => a7 (by kernel_rfl)) rfl ?_ ?_
 refine da fx cy rfl (fun r15 => ?_)
 refine ae ?_
 refine bc (bS 1) ?_
 refine bD (i := 1) rfl rfl rfl (fun _ _ _ => a7 (by kernel_rfl)) (by kernel_rfl) rfl ?_
 refine da cy cQ rfl (fun r16 => ?_)
 refine ae ?_
 refine bc (bS 2) ?_
 refine ax (i := 8) rfl ah (bN rfl (cU _ _ _ _ _ _ _ _ _ _)) (bS 2) aw rfl (aa ar) (by kernel_rfl) rfl ?_
 refine bD (i := 9) rfl rfl rfl (fun _ _ _ => a7 (by kernel_rfl)) (by kernel_rfl) rfl ?_
 refine bE rfl rfl rfl (fun b18 => ?_)
 refine ae ?_
 refine bc (bS 3) ?_
 refine ax (i := 10) rfl ah (ai rfl) (bS 3) aw rfl (aa ar) (by kernel_rfl) rfl ?_
 refine ax (i := 11) rfl ah (ai rfl) (bS 3) aw rfl (aa ar) (by kernel_rfl) rfl ?_
 refine bQ (by kernel_rfl) ?_
 refine aj ?_
 refine aF ?_
 refine aJ (ts := [2, 3]) rfl rfl rfl (fun w hw => ?_)
 exact ⟨⟨⟨rg, res, A1, c1, (dv rg res : Nat), b18, r16, r15⟩, rfl, rfl, rfl⟩, rfl, hw.base, ((hw.weak (.cons_cons _ (.cons_cons _ (.cons_cons _ (.cons_cons _ (.cons _ .slnil))))) (fun s hs => hs)).f3.f3.f3).two.toNews⟩
 exact d8
 exact d8

theorem new_ok {rg : Rg} {res : List Rg} (hr : RgOk rg) (hrs : ∀ x ∈ res, RgOk x) (hl : res.length ≤ 4398046510976) {v : Vp} (h : v.rg = rg ∧ v.res = res ∧ v.room = dv rg res) : VOk v :=
  ⟨h.1 ▸ hr, h.2.1 ▸ hrs, by rw [h.2.1]; exact hl, by rw [h.2.2]; have := free_le rg res; omega⟩
theorem give_cong {v v' : Vp} (h : v.rg = v'.rg ∧ v.res = v'.res ∧ v.room = v'.room) (hm : Hm) (am : Am) (n : aV) : bK v hm am n = bK v' hm am n := by
  obtain ⟨rg, res, A, c, room, b, rh, ra⟩ := v
  obtain ⟨rg', res', A', c', room', b', rh', ra'⟩ := v'
  obtain ⟨h1, h2, h3⟩ := h
  dsimp only at h1 h2 h3
  subst h1 h2 h3
  rfl
def rg14 : Rg := ⟨⟨false, 0, 167772160⟩, 31⟩
def v14 : Vp := ⟨rg14, [], none, 0, 2, 0, 0, 0⟩
theorem rg14_ok : RgOk rg14 := by unfold RgOk gO rg14; decide
theorem ck14 : dn [rg14] = 0 := by decide +kernel
theorem fr14 : dv rg14 [] = 2 := by decide +kernel
def s14a : Hm × Am := (bK v14 [] [] [1, 97]).2
def s14b : Hm × Am := (bK v14 s14a.1 s14a.2 [1, 98]).2
def s14f : Hm × Am := (bK v14 s14b.1 s14b.2 [1, 99]).2
def s14c : Hm × Am := (di s14f.1 s14f.2 [1, 65]).2
theorem g14a : (bK v14 [] [] [1, 97]).1.2 = 0 := by decide +kernel
theorem g14b : (bK v14 s14a.1 s14a.2 [1, 98]).1.2 = 0 ∧ (bK v14 [] [] [1, 97]).1.1 ≠ (bK v14 s14a.1 s14a.2 [1, 98]).1.1 := by decide +kernel
theorem g14c : (bK v14 s14b.1 s14b.2 [1, 99]).1.2 = 10 := by decide +kernel
theorem g14d : (bK v14 s14c.1 s14c.2 [1, 99]).1.2 = 0 ∧ (bK v14 s14c.1 s14c.2 [1, 99]).1.1 = (bK v14 [] [] [1, 97]).1.1 := by decide +kernel
theorem ok14 {v : Vp} (h : v.rg = rg14 ∧ v.res = [] ∧ v.room = 2) : VOk v := ⟨h.1 ▸ rg14_ok, by rw [h.2.1]; exact nofun, by rw [h.2.1]; decide, by rw [h.2.2]; decide⟩
theorem c_g14 {v : Vp} (h : v.rg = rg14 ∧ v.res = [] ∧ v.room = 2) (hm : Hm) (am : Am) (n : aV) (hn : n.length ≤ 1000000000) (hml : hm.length ≤ 1000000) :
    UC Tryz.prog 34 #[.pointer (some ⟨v.b, 0, none⟩), .string (ba n)] [Ch.row v.b (vpC v) 146, Ch.rd v.A 4 dR v.res] (vmC v hm am) (fun _ : Unit => .tuple #[.agg (dN (bK v14 hm am n).1.1).toArray, .int .i64 (bK v14 hm am n).1.2]) (fun _ : Unit => vmC v (bK v14 hm am n).2.1 (bK v14 hm am n).2.2) := by
  rw [← give_cong (v := v) (v' := v14) h]; exact c_vGive v hm am n (ok14 h) hn hml

theorem c_two14  : RC Tryz.prog 89 #[] [] (α := Unit) (fun _ => .agg (plC rg14 none 0 0).toArray) (fun _ => []) := by
 refine bi (args := []) 4 Tryz.func89 rfl rfl rfl (fun w0 => ?_)
 refine ao ?_
 refine ab ?_
 refine bz eU rfl rfl (fun b1 => ?_)
 refine ae ?_
 refine aj ?_
 refine ao ?_
 refine ab ?_
 refine ap (bN rfl (bu_29_2 _)) rfl rfl ?_
 refine ap (bN rfl (bu_64_0_1 _ _ _ _)) rfl rfl ?_
 refine ap (bN rfl (bu_67_0 _ _ _ _)) rfl rfl ?_
 refine aT eU rfl rfl rfl .z rfl rfl rfl rfl ?_
 refine ae ?_
 refine aj ?_
 refine aF ?_
 refine dp (rs := [.cell 0 67]) rfl (bA 0 eU rfl rfl rfl rfl bR) rfl (fun w hw => ?_)
 exact ⟨(), rfl, hw.base, (hw.weak (List.nil_sublist _) (fun s hs => hs)).toNews⟩

set_option maxRecDepth 100000 in
set_option maxHeartbeats 4000000 in
theorem c_lives14  : cO Tryz.prog 30 #[] (.bool true) := by
 intro w0
 refine bd (ok0 := no) (S := []) (args := []) 68 Tryz.func30 rfl rfl rfl (by simp) (by simp) ?_
 refine ao ?_
 refine ab ?_
 refine ap (ai rfl) rfl rfl ?_
 refine ae ?_
 refine aj ?_
 refine ao ?_
 refine ab ?_
 refine bv rfl ent_89 rfl c_two14 (fun w hw => bf) ?_
 refine o_callr3 rfl ent_31 rfl (c_vNew rg14 [] none 0 rg14_ok nofun (by decide) ck14) (fun w hw => (aQ (rd_none) bf)) (fun ⟨v, hv⟩ => ?_)
 have hv14 : v.rg = rg14 ∧ v.res = [] ∧ v.room = 2 := ⟨hv.1, hv.2.1, hv.2.2.trans (by rw [fr14]; rfl)⟩
 refine cE (fun w h => h.f1.toRdV.f1.freeze) ?_
 refine ap (ak rfl) rfl rfl ?_
 refine ap (aI rfl rfl) rfl rfl ?_
 refine ap (aI rfl rfl) rfl rfl ?_
 refine ap (ai rfl) rfl rfl ?_
 refine ap (ai rfl) rfl rfl ?_
 refine ae ?_
 refine aj ?_
 refine ao ?_
 refine ao ?_
 refine ab ?_
 refine ap (ak rfl) rfl rfl ?_
 refine ap (cv rfl rfl) rfl rfl ?_
 refine e5 (t := 17) rfl (fun h => h rfl) ?_
 refine ap (ak rfl) rfl rfl ?_
 refine az rfl rfl ?_
 refine ap (ak rfl) rfl rfl ?_
 refine az rfl rfl ?_
 refine ap (eH Tryz.underlying68 rfl rfl) rfl rfl ?_
 refine bV (t := 20) (.bool false) rfl (congrArg Value.bool rfl) ?_
 refine ap (aW rfl rfl) rfl rfl ?_
 refine ae ?_
 refine aj ?_
 refine au rfl ?_
 refine aH ?_
 refine aj ?_
 refine ao ?_
 refine ab ?_
 refine ap (ak rfl) rfl rfl ?_
 refine cu rfl ent_34 rfl (c_g14 hv14 [] [] [1, 97] (by decide) (by as_aux_lemma => decide +kernel)) (fun o => .z) (List.mem_of_getElem? (i := 0) rfl) (fun s hs => (List.mem_cons.1 hs).elim (fun e => e ▸ .head _) (fun h => (List.mem_singleton.1 h) ▸ .tail _ (.head _))) (fun o1 => ?_)
 refine ap (ak rfl) rfl rfl ?_
 refine ap (aI rfl rfl) rfl rfl ?_
 refine ap (aI rfl rfl) rfl rfl ?_
 refine bz aN rfl rfl (fun b3 => ?_)
 refine aT aN rfl rfl rfl .z rfl rfl rfl rfl ?_
 refine ap (ai rfl) rfl rfl ?_
 refine ae ?_
 refine aj ?_
 refine ao ?_
 refine ab ?_
 refine ap (ak rfl) rfl rfl ?_
 refine cu rfl ent_34 rfl (c_g14 hv14 s14a.1 s14a.2 [1, 98] (by decide) (by as_aux_lemma => decide +kernel)) (fun o => (.s (.z))) (List.mem_of_getElem? (i := 1) rfl) (fun s hs => (List.mem_cons.1 hs).elim (fun e => e ▸ .head _) (fun h => (List.mem_singleton.1 h) ▸ .tail _ (.head _))) (fun o3 => ?_)
 refine ap (ak rfl) rfl rfl ?_
 refine ap (aI rfl rfl) rfl rfl ?_
 refine ap (aI rfl rfl) rfl rfl ?_
 refine bz aN rfl rfl (fun b5 => ?_)
 refine aT aN rfl rfl rfl .z rfl rfl rfl rfl ?_
 refine ap (ai rfl) rfl rfl ?_
 refine ae ?_
 refine aj ?_
 refine ao ?_
 refine ab ?_
 refine ap (ak rfl) rfl rfl ?_
 refine cu rfl ent_34 rfl (c_g14 hv14 s14b.1 s14b.2 [1, 99] (by decide) (by as_aux_lemma => decide +kernel)) (fun o => (.s (.s (.z)))) (List.mem_of_getElem? (i := 2) rfl) (fun s hs => (List.mem_cons.1 hs).elim (fun e => e ▸ .head _) (fun h => (List.mem_singleton.1 h) ▸ .tail _ (.head _))) (fun o5 => ?_)
 refine ap (ak rfl) rfl rfl ?_
 refine ap (aI rfl rfl) rfl rfl ?_
 refine ap (aI rfl rfl) rfl rfl ?_
 refine bz aN rfl rfl (fun b7 => ?_)
 refine aT aN rfl rfl rfl .z rfl rfl rfl rfl ?_
 refine ap (ai rfl) rfl rfl ?_
 refine ae ?_
 refine aj ?_
 refine ao ?_
 refine ab ?_
 refine ap (ak rfl) rfl rfl ?_
 refine cu rfl ent_38 rfl (c_vDrop v s14f.1 s14f.2 [1, 65] (by decide)) (fun o => (.s (.s (.s (.z))))) (List.mem_of_getElem? (i := 3) rfl) (fun s hs => (List.mem_singleton.1 hs) ▸ .head _) (fun o7 => ?_)
 refine ae ?_
 refine aj ?_
 refine ao ?_
 refine ab ?_
 refine ap (ak rfl) rfl rfl ?_
 refine cu rfl ent_34 rfl (c_g14 hv14 s14c.1 s14c.2 [1, 99] (by decide) (by as_aux_lemma => decide +kernel)) (fun o => (.s (.s (.s (.z))))) (List.mem_of_getElem? (i := 3) rfl) (fun s hs => (List.mem_cons.1 hs).elim (fun e => e ▸ .head _) (fun h => (List.mem_singleton.1 h) ▸ .tail _ (.head _))) (fun o8 => ?_)
 refine ap (ak rfl) rfl rfl ?_
 refine ap (aI rfl rfl) rfl rfl ?_
 refine ap (aI rfl rfl) rfl rfl ?_
 refine bz aN rfl rfl (fun b10 => ?_)
 refine aT aN rfl rfl rfl .z rfl rfl rfl rfl ?_
 refine ap (ai rfl) rfl rfl ?_
 refine ae ?_
 refine aj ?_
 refine ao ?_
 refine ab ?_
 refine ap (ak rfl) rfl rfl ?_
 refine ap (dB rfl rfl) rfl rfl ?_
 refine fu (t := 45) rfl g14a ?_
 refine ap (ak rfl) rfl rfl ?_
 refine az rfl rfl ?_
 refine ap (ak rfl) rfl rfl ?_
 refine az rfl rfl ?_
 refine ap (dB rfl rfl) rfl rfl ?_
 refine fu (t := 48) rfl g14b.1 ?_
 refine ap (aX rfl rfl) rfl rfl ?_
 refine ap (ak rfl) rfl rfl ?_
 refine az rfl rfl ?_
 refine ap (ak rfl) rfl rfl ?_
 refine az rfl rfl ?_
 refine ap (dB rfl rfl) rfl rfl ?_
 refine fu (t := 52) rfl g14c ?_
 refine ap (aX rfl rfl) rfl rfl ?_
 refine ap (ak rfl) rfl rfl ?_
 refine az rfl rfl ?_
 refine ap (ak rfl) rfl rfl ?_
 refine az rfl rfl ?_
 refine ap (dB rfl rfl) rfl rfl ?_
 refine fu (t := 56) rfl g14d.1 ?_
 refine ap (aX rfl rfl) rfl rfl ?_
 refine ap (ak rfl) rfl rfl ?_
 refine az rfl rfl ?_
 refine ap (aK 3 aN rfl rfl rfl rfl) rfl rfl ?_
 refine az rfl rfl ?_
 refine ap (aK 2 aN rfl rfl rfl rfl) rfl rfl ?_
 refine az rfl rfl ?_
 refine ap (y_nestd (by as_aux_lemma => kernel_rfl) rfl rfl (fq _ _) rfl) rfl rfl ?_
 refine fu (t := 61) rfl g14b.2 ?_
 refine ap (aX rfl rfl) rfl rfl ?_
 refine ap (ak rfl) rfl rfl ?_
 refine az rfl rfl ?_
 refine ap (aK 0 aN rfl rfl rfl rfl) rfl rfl ?_
 refine az rfl rfl ?_
 refine ap (aK 3 aN rfl rfl rfl rfl) rfl rfl ?_
 refine az rfl rfl ?_
 refine ap (il (by as_aux_lemma => kernel_rfl) rfl rfl (fq _ _) rfl) rfl rfl ?_
 refine fu (t := 66) rfl g14d.2 ?_
 refine ap (aX rfl rfl) rfl rfl ?_
 refine ap (ai rfl) rfl rfl ?_
 refine ae ?_
 refine aj ?_
 refine aF ?_
 refine aJ (ts := [0]) rfl rfl rfl (fun w hw => ?_)
 exact ⟨rfl, hw.base⟩

end Go.Proofs.YtnpdgmoeoidppaaGreat

/- law 14: what the chapter tells -/
namespace Go.Proofs.YtnpdgmoeoidppaaGreat
open Go.RowKit Go.Shelf
set_option linter.unusedVariables false
set_option linter.unusedSimpArgs false

theorem sub1 {α : Type} {a s : α} {S : List α} (ha : a ∈ S) (h : s ∈ [a]) : s ∈ S := by rw [List.mem_singleton.1 h]; exact ha
theorem sub2 {α : Type} {a b s : α} {S : List α} (ha : a ∈ S) (hb : b ∈ S) (h : s ∈ [a, b]) : s ∈ S := (List.mem_cons.1 h).elim (fun e => by rw [e]; exact ha) (sub1 hb)
theorem sub3 {α : Type} {a b c s : α} {S : List α} (ha : a ∈ S) (hb : b ∈ S) (hc : c ∈ S) (h : s ∈ [a, b, c]) : s ∈ S := (List.mem_cons.1 h).elim (fun e => by rw [e]; exact ha) (sub2 hb hc)
theorem keep_cong {v v' : Vp} (h : v.rg = v'.rg ∧ v.res = v'.res ∧ v.room = v'.room) (hm : Hm) (hosts : List aV) : cZ v hm hosts = cZ v' hm hosts := by
  obtain ⟨rg, res, A, c, room, b, rh, ra⟩ := v
  obtain ⟨rg', res', A', c', room', b', rh', ra'⟩ := v'
  obtain ⟨h1, h2, h3⟩ := h
  dsimp only at h1 h2 h3
  subst h1 h2 h3
  rfl
end Go.Proofs.YtnpdgmoeoidppaaGreat
