import Derived.Test.YtnpdgmoeoidppaaVgQe
import Derived.Test.YtnpdgmoeoidppaaLzQe
import Derived.Test.YtnpdgmoeoidppaaPaQe
/- vips: Keep -/
namespace Go.Proofs.Ytnpdgmoeoidppaa
open Go.RowKit Go.Shelf
set_option linter.unusedVariables false
set_option linter.unusedSimpArgs false

theorem ent_31 : Enters Try.prog 31 := enters_of Try.func31 (by kernel_rfl) rfl
theorem ent_64 : Enters Try.prog 64 := enters_of Try.func64 (by kernel_rfl) rfl
theorem ent_65 : Enters Try.prog 65 := enters_of Try.func65 (by kernel_rfl) rfl

theorem take_new {α : Type} {q : List α} (hq : q.Nodup) {j : Nat} (hj : j < q.length) (d : α) : q.getD j d ∉ q.take j := by
  have h1 := bC q d j hj
  have h2 : (q.take (j + 1)).Nodup := hq.sublist (List.take_sublist _ _)
  rw [h1, List.nodup_append] at h2
  exact fun h => h2.2.2 _ h _ (.head _) rfl

set_option maxRecDepth 100000 in
set_option maxHeartbeats 4000000 in
theorem c_vKeep (v : Vp) (hm : Hm) (hosts : List aL) (A : Option Addr) (c : Nat) (hv : VOk v) (hi0 : PInv hm) (hml : hm.length + hosts.length ≤ 1000000) (hhb : ∀ n ∈ hosts, n.length ≤ 1000000000) : UC Try.prog 29 #[.pointer (some ⟨v.b, 0, none⟩), .slice A hosts.length c] [Ch.row v.b (vpC v) 113, Ch.rd v.A 4 eb v.res, Ch.rd A 1 dy hosts] (vmC v hm (bS hm)) (α := Option Addr × Nat) (fun p => .tuple #[.slice p.1 (c9 v hm hosts).1.1.length p.2, .int .i64 (c9 v hm hosts).1.2]) (fun p => Ch.two (vmC v (c9 v hm hosts).2 (bS (c9 v hm hosts).2)) (Ch.ls p.1 p.2 37 1 dy (c9 v hm hosts).1.1)) := by
 refine dN (args := [.pointer (some ⟨v.b, 0, none⟩), .slice A hosts.length c]) 83 Try.func29 rfl rfl rfl (fun w0 => ?_)
 refine cK (fun w h => h.untwo) ?_
 refine ao ?_
 refine aa ?_
 refine ap (ah rfl) rfl rfl ?_
 refine ap (ah rfl) rfl rfl ?_
 refine ae ?_
 refine aj ?_
 refine ao ?_
 refine ao ?_
 refine aa ?_
 refine ap (ak rfl) rfl rfl ?_
 refine ap (eB Try.underlying57 rfl rfl) rfl rfl ?_
 refine bv (t := 18) (.bool false) rfl (congrArg Value.bool rfl) ?_
 refine ae ?_
 refine aj ?_
 refine av rfl ?_
 refine aG ?_
 refine aj ?_
 refine ao ?_
 refine aa ?_
 refine bV bB (fun b : Bool => .bool b) rfl (fun r0 => ?_)
 refine ap (ah rfl) rfl rfl ?_
 refine ae ?_
 refine aj ?_
 refine ao ?_
 refine ao ?_
 refine aa ?_
 refine ap (ak rfl) rfl rfl ?_
 refine ap (cp Try.underlying25 rfl) rfl rfl ?_
 refine ap (ak rfl) rfl rfl ?_
 refine ae ?_
 refine aj ?_
 refine aS ?_
 refine eh (σ := Nat × List (aL × Bool)) [4, 5, 8, 22, 23, 24, 25, 26, 27, 28, 29, 30, 31, 32] (fun q => q.1 ≤ hosts.length ∧ q.2 = stayM (hosts.take q.1) ∧ ∀ n ∈ hosts.take q.1, bZ n = true) (fun q => hosts.length - q.1) (fun q => [(22, .int .i64 q.1), (4, .slice none 0 0)]) (fun q => Ch.mp r0 bB (fun b : Bool => .bool b) q.2) ((0, [])) ?_ ⟨rfl, rfl, trivial⟩ rfl (fun q hI => ?_)
 exact ⟨Nat.zero_le _, rfl, nofun⟩
 obtain ⟨k, sm⟩ := q
 dsimp only at hI ⊢
 refine ao ?_
 refine aa ?_
 refine ap (cE rfl rfl) rfl rfl ?_
 refine aD (t := 23) rfl (fun h5_0 => ?_) (fun h5_0 => ?_)
 have hk : k < hosts.length := by omega
 have hnb := hhb _ (cF (d := ([] : aL)) hk)
 refine ae ?_
 refine aj ?_
 refine ao ?_
 refine ay rfl ?_
 refine aG ?_
 refine aj ?_
 refine ao ?_
 refine aS ?_
 refine ao ?_
 refine aa ?_
 refine ap (dB  Try.underlying25 bE rfl rfl (ey 2 rfl) rfl (by omega)) rfl rfl ?_
 refine ap (dU dx ([] : aL) bE rfl (ey 2 rfl) (by omega) rfl rfl) rfl rfl ?_
 refine ap (ah rfl) rfl rfl ?_
 refine ae ?_
 refine aj ?_
 refine ao ?_
 refine ao ?_
 refine aa ?_
 refine ap (ak rfl) rfl rfl ?_
 refine aR rfl ent_62 (c_vhost _) rfl ?_
 refine bp (t := 27) rfl (fun h7_1 => ?_) (fun h7_1 => ?_)
 refine ap (bG rfl) rfl rfl ?_
 refine ae ?_
 refine aj ?_
 refine av rfl ?_
 refine aG ?_
 refine aj ?_
 refine aa ?_
 refine ap (ak rfl) rfl rfl ?_
 refine ap (ak rfl) rfl rfl ?_
 refine aR rfl ek (cz _ (by omega)) rfl ?_
 refine o_mapUpd (encK := bB) (encV := (fun b : Bool => .bool b)) (v := true) Try.underlying114 (bO Try.underlying37) rfl rfl rfl .z ?_
 refine ae ?_
 refine bA ?_
 refine aj ?_
 refine aa ?_
 refine ap (bQ rfl rfl (by omega) (by omega)) rfl rfl ?_
 refine ap (ak rfl) rfl rfl ?_
 refine ae ?_
 refine bR ((k + 1, upd sm (aT (hosts.getD k [])) true)) ?_ ?_ ⟨rfl, rfl, trivial⟩ (by repeat (first | exact trivial | refine ⟨rfl, ?_⟩)) ar
 exact ⟨by show k + 1 ≤ _; omega, by show upd sm _ true = _; rw [bC hosts [] k hk, stay_snoc, hI.2.1], fun n hn => by rw [bC hosts [] k hk] at hn; exact (List.mem_append.1 hn).elim (hI.2.2 n) (fun h => by rw [List.mem_singleton.1 h]; exact h7_1)⟩
 show hosts.length - (k + 1) < hosts.length - k
 omega
 refine ap (bG rfl) rfl rfl ?_
 refine ae ?_
 refine aj ?_
 refine ay rfl ?_
 refine ao ?_
 refine aa ?_
 refine ap (ah rfl) rfl rfl ?_
 refine ap (ah rfl) rfl rfl ?_
 refine ae ?_
 refine aj ?_
 refine aC ?_
 refine aA ?_
 refine aU ?_
 refine aA ?_
 refine bH ?_
 refine aU ?_
 refine aA ?_
 refine aJ (ts := [4, 5]) rfl rfl rfl (fun w hw => ?_)
 have hE : c9 v hm hosts = (([], 2), hm) := if_pos (by rw [Bool.eq_false_iff]; intro h; have := List.all_eq_true.1 h _ (cF (d := ([] : aL)) hk); rw [h7_1] at this; cases this)
 obtain ⟨h1, h2, h3⟩ := ((hw.weak (.cons _ (.cons_cons _ (.cons_cons _ .slnil))) (fun s hs => hs)).f1.f1.two.nilsl 37 1).f1.two.uc
 exact ⟨(none, 0), by rw [hE]; rfl, h1, by rw [hE]; exact h2, by rw [hE]; exact h3⟩
 refine ae ?_
 refine aj ?_
 refine ao ?_
 refine av rfl ?_
 refine ce ?_
 refine bf ?_
 refine a7 ?_
 refine bq ?_
 refine aj ?_
 refine ao ?_
 refine ao ?_
 have hkl : k = hosts.length := by omega
 have hsm : sm = stayM hosts := by rw [hI.2.1, hkl, List.take_length]
 have hall : hosts.all bZ = true := List.all_eq_true.2 (by have := hI.2.2; rw [hkl, List.take_length] at this; exact this)
 subst hsm
 have hbm : ∀ pre : List aL, (∃ rest, (pre ++ rest).Perm (hm.map (·.1))) → pre.length ≤ 1000000 := fun pre ⟨rest, h⟩ => by
   have := h.length_eq
   rw [List.length_append, List.length_map] at this
   omega
 refine aa ?_
 refine ap (ak rfl) rfl rfl ?_
 refine ap (aO rfl) rfl rfl ?_
 refine ap (aB ck rfl) rfl rfl ?_
 refine ap (bd 0 c4 rfl rfl rfl) rfl rfl ?_
 refine bF rfl ent_65 rfl (c_MapKey v.rh) (fun w hw => aY) (fun p1 => ?_)
 refine bF rfl ent_64 rfl (c_Collect_nm 106 [.pointer (some ⟨p1, 0, none⟩)] _ _ _ (c_MapKey1 hm v.rh p1) (enters_of Try.func106 (by kernel_rfl) rfl) hbm) (fun w hw => (aN (d7 0 rfl hw) (aN (d7 2 rfl hw) aY))) (fun ⟨⟨q, Ax, cx⟩, hfx⟩ => ?_)
 refine bv (t := 38) (.slice Ax q.length cx) rfl rfl ?_
 have hql : q.length = hm.length := by rw [hfx.length_eq, List.length_map]
 refine ap (cp Try.underlying25 rfl) rfl rfl ?_
 refine ap (ak rfl) rfl rfl ?_
 refine ae ?_
 refine aj ?_
 refine aS ?_
 refine cK (fun w h => h.f4.f4) ?_
 refine cK (fun w h => (by rw [List.take_zero, keepK_nil]; exact h : Hp _ _ (Ch.mp v.rh bB bM (cw hm hosts (q.take 0)) :: Ch.mp v.ra dD bB (bS (cw hm hosts (q.take 0))) :: _) _ w)) ?_
 refine w_loop2 (σ := Nat) [10, 40, 41, 42, 43, 44, 45, 46, 47, 48, 49, 50, 51] (fun j => j ≤ q.length) (fun j => q.length - j) (fun j => [(40, .int .i64 j)]) (fun j => Ch.mp v.rh bB bM (cw hm hosts (q.take j))) (fun j => Ch.mp v.ra dD bB (bS (cw hm hosts (q.take j)))) (0) ?_ ⟨rfl, trivial⟩ rfl rfl (fun j hI => ?_)
 exact Nat.zero_le _
 refine ao ?_
 refine aa ?_
 refine ap (cE rfl rfl) rfl rfl ?_
 refine aD (t := 41) rfl (fun h12_0 => ?_) (fun h12_0 => ?_)
 have hj : j < q.length := by omega
 refine ae ?_
 refine aj ?_
 refine ao ?_
 refine ay rfl ?_
 refine aG ?_
 refine aj ?_
 refine ao ?_
 refine aS ?_
 refine ao ?_
 refine aa ?_
 refine ap (dB  Try.underlying25 bE rfl rfl (rs_L 2 rfl) rfl (by omega)) rfl rfl ?_
 refine ap (dU dx ([] : aL) bE rfl (rs_L 2 rfl) (by omega) rfl rfl) rfl rfl ?_
 refine ap (ah rfl) rfl rfl ?_
 refine ae ?_
 refine aj ?_
 refine ao ?_
 refine aa ?_
 refine ap (ak rfl) rfl rfl ?_
 refine ap (ak rfl) rfl rfl ?_
 refine ap (fH Try.underlying114 (bO Try.underlying37) ty_4 rfl rfl (fun w hw => hw.own _ (List.mem_of_getElem? (i := 4) rfl))) rfl rfl ?_
 refine bv (t := 46) (.bool (decide (q.getD j [] ∈ hosts.map aT))) rfl (look1_b.trans (congrArg Value.bool (stay_lkp _ _))) ?_
 refine bp (t := 46) rfl (fun h14_2 => ?_) (fun h14_2 => ?_)
 refine ap (bG rfl) rfl rfl ?_
 refine ae ?_
 refine aj ?_
 refine av rfl ?_
 refine aG ?_
 refine bA ?_
 refine aj ?_
 refine aa ?_
 refine ap (bQ rfl rfl (by omega) (by omega)) rfl rfl ?_
 refine ap (ak rfl) rfl rfl ?_
 refine ae ?_
 have hks : cw hm hosts (q.take (j + 1)) = cw hm hosts (q.take j) := by rw [bC q [] j hj]; exact keepK_stay (of_decide_eq_true h14_2)
 refine bR (j + 1) ?_ ?_ ⟨rfl, trivial⟩ (by repeat (first | exact trivial | refine ⟨rfl, ?_⟩)) (fun w h => by rw [hks]; exact h)
 omega
 omega
 refine ap (bG rfl) rfl rfl ?_
 refine ae ?_
 refine aj ?_
 refine ay rfl ?_
 have hns : q.getD j [] ∉ hosts.map aT := of_decide_eq_false h14_2
 have hdk := keepK_drop (pre := q.take j) hi0 hns (take_new (hfx.nodup_iff.2 hi0.keys) hj []) (hfx.mem_iff.1 (cF hj))
 rw [← bC q [] j hj] at hdk
 refine aa ?_
 refine ap (ak rfl) rfl rfl ?_
 refine ap (ak rfl) rfl rfl ?_
 refine bD (fun w h => h.f1.f1.two) ?_
 refine bI rfl ent_66 rfl (c_vdrop v (cw hm hosts (q.take j)) (bS (cw hm hosts (q.take j))) (q.getD j [])) (fun o => .z) (List.mem_of_getElem? (i := 0) rfl) (fun s hs => by obtain rfl := List.mem_singleton.1 hs; exact .head _) (fun o3 => ?_)
 refine bD (fun w h => h.untwo) ?_
 refine bD (fun w h => by rw [hdk] at h; exact h) ?_
 refine ae ?_
 refine bA ?_
 refine aj ?_
 refine aa ?_
 refine ap (bQ rfl rfl (by omega) (by omega)) rfl rfl ?_
 refine ap (ak rfl) rfl rfl ?_
 refine ae ?_
 refine bR (j + 1) ?_ ?_ ⟨rfl, trivial⟩ (by repeat (first | exact trivial | refine ⟨rfl, ?_⟩)) ar
 omega
 omega
 refine ae ?_
 refine aj ?_
 refine ao ?_
 refine av rfl ?_
 refine ce ?_
 refine bf ?_
 refine a7 ?_
 refine bq ?_
 refine aj ?_
 refine ao ?_
 have hjl : j = q.length := by omega
 have hst : cw hm hosts (q.take j) = stayH hm hosts := by rw [hjl, List.take_length]; exact keepK_all fun p hp => hfx.mem_iff.2 (List.mem_map.2 ⟨p, hp, rfl⟩)
 refine cK (fun w h => by rw [hst] at h; exact h) ?_
 refine aa ?_
 refine bV bB (fun b : Bool => .bool b) rfl (fun r4 => ?_)
 refine ap (ah rfl) rfl rfl ?_
 refine ae ?_
 refine aj ?_
 refine ao ?_
 refine ao ?_
 refine aa ?_
 refine ap (ak rfl) rfl rfl ?_
 refine ap (cp Try.underlying25 rfl) rfl rfl ?_
 refine ap (ak rfl) rfl rfl ?_
 refine ae ?_
 refine aj ?_
 refine aS ?_
 refine cK (fun w h => (h.f2.f2.f2.nilsl 37 1)) ?_
 refine cK (fun w h => h.weak (.cons_cons _ (.cons_cons _ (.cons_cons _ (.cons_cons _ (List.nil_sublist _))))) (fun s hs => hs)) ?_
 refine w_loopL (σ := Nat × (Hm × List aL) × Option Addr × Nat) [4, 13, 14, 15, 16, 55, 56, 57, 58, 59, 60, 61, 62, 63, 64, 65, 66, 67, 68, 69, 70, 71, 72, 73, 74, 75, 76, 77, 78, 79, 80, 81] (fun z => z.1 ≤ hosts.length ∧ z.2.1 = eS v (stayH hm hosts) (hosts.take z.1) ∧ PInv z.2.1.1 ∧ z.2.1.1.length ≤ hm.length + z.1 ∧ z.2.1.2.length ≤ z.1) (fun z => hosts.length - z.1) (fun z => [(55, .int .i64 z.1), (4, .slice z.2.2.1 z.2.1.2.length z.2.2.2)]) (fun z => [Ch.ls z.2.2.1 z.2.2.2 37 1 dy z.2.1.2, Ch.mp r4 bB (fun b : Bool => .bool b) (stayM z.2.1.2), Ch.mp v.rh bB bM z.2.1.1, Ch.mp v.ra dD bB (bS z.2.1.1)]) ((0, (stayH hm hosts, []), none, 0)) ?_ ⟨rfl, rfl, trivial⟩ rfl (fun z hI => ?_)
 exact ⟨Nat.zero_le _, rfl, hi0.filter _, List.length_filter_le _ _, Nat.zero_le _⟩
 obtain ⟨i, ⟨hc, lost⟩, Aq, cq⟩ := z
 dsimp only at hI ⊢
 refine ao ?_
 refine aa ?_
 refine ap (cE rfl rfl) rfl rfl ?_
 refine aD (t := 56) rfl (fun h19_0 => ?_) (fun h19_0 => ?_)
 have hi : i < hosts.length := by omega
 have hnb := hhb _ (cF (d := ([] : aL)) hi)
 have hll := hI.2.2.2.2
 refine ae ?_
 refine aj ?_
 refine ao ?_
 refine ay rfl ?_
 refine aG ?_
 refine aj ?_
 refine ao ?_
 refine aS ?_
 refine ao ?_
 refine aa ?_
 refine ap (dB  Try.underlying25 bE rfl rfl (ey 2 rfl) rfl (by omega)) rfl rfl ?_
 refine ap (dU dx ([] : aL) bE rfl (ey 2 rfl) (by omega) rfl rfl) rfl rfl ?_
 refine ap (ah rfl) rfl rfl ?_
 refine ae ?_
 refine aj ?_
 refine ao ?_
 refine aa ?_
 refine ap (ak rfl) rfl rfl ?_
 refine aR rfl ek (cz _ (by omega)) rfl ?_
 refine ap (ah rfl) rfl rfl ?_
 refine ae ?_
 refine aj ?_
 refine ao ?_
 have hgi := give_inv (v := v) hI.2.2.1 (hosts.getD i [])
 have hlc := hI.2.2.2.1
 refine aa ?_
 refine ap (ak rfl) rfl rfl ?_
 refine ap (ak rfl) rfl rfl ?_
 refine bD (fun w h => h.f3.f3.two) ?_
 refine bI rfl ent_31 rfl (c_vGive v hc (bS hc) (hosts.getD i []) hv (hhb _ (cF hi)) (by omega)) (fun o => .z) (List.mem_of_getElem? (i := 0) rfl) (fun s hs => (List.mem_cons.1 hs).elim (fun e => e ▸ .head _) (fun h => (List.mem_singleton.1 h) ▸ .tail _ (.head _))) (fun o5 => ?_)
 refine bD (fun w h => h.untwo) ?_
 refine bD (fun w h => by rw [hgi.1] at h; exact h) ?_
 refine ap (ak rfl) rfl rfl ?_
 refine ap (aw rfl rfl) rfl rfl ?_
 refine ap (aw rfl rfl) rfl rfl ?_
 refine bc aF rfl rfl (fun b7 => ?_)
 refine aH aF rfl rfl rfl .z rfl rfl rfl rfl ?_
 refine ap (ah rfl) rfl rfl ?_
 refine ae ?_
 refine aj ?_
 refine ao ?_
 refine aa ?_
 refine ap (ak rfl) rfl rfl ?_
 refine ap (cQ rfl rfl) rfl rfl ?_
 refine aD (t := 68) rfl (fun h23_1 => ?_) (fun h23_1 => ?_)
 refine ap (ak rfl) rfl rfl ?_
 refine az rfl rfl ?_
 refine ap (ak rfl) rfl rfl ?_
 refine az rfl rfl ?_
 refine ap (ak rfl) rfl rfl ?_
 refine az rfl rfl ?_
 refine ap (fH Try.underlying114 (bO Try.underlying37) ty_4 rfl rfl (fun w hw => hw.own _ (List.mem_of_getElem? (i := 4) rfl))) rfl rfl ?_
 refine bv (t := 72) (.bool (decide (aT (hosts.getD i []) ∈ lost.map aT))) rfl (look1_b.trans (congrArg Value.bool (stay_lkp _ _))) ?_
 refine bp (t := 72) rfl (fun h23_5 => ?_) (fun h23_5 => ?_)
 refine az rfl rfl ?_
 refine ap (bG rfl) rfl rfl ?_
 refine ap (aQ rfl rfl) rfl rfl ?_
 refine ae ?_
 refine aj ?_
 refine av rfl ?_
 refine aG ?_
 refine bA ?_
 refine aj ?_
 refine aa ?_
 refine ap (bQ rfl rfl (by omega) (by omega)) rfl rfl ?_
 refine ap (ak rfl) rfl rfl ?_
 refine ae ?_
 refine bR ((i + 1, ((bw v hc (bS hc) (hosts.getD i [])).2.1, lost), Aq, cq)) ?_ ?_ ⟨rfl, rfl, trivial⟩ (by repeat (first | exact trivial | refine ⟨rfl, ?_⟩)) (fun w h => by exact (h.weak (.cons _ (.cons_cons _ (.cons_cons _ (.cons_cons _ (.cons_cons _ .slnil))))) (fun s hs => hs)).f1.f1.f3.f3)
 refine ⟨by show i + 1 ≤ _; omega, ?_, hgi.2.1, by show (bw v hc (bS hc) (hosts.getD i [])).2.1.length ≤ _; have := hgi.2.2; have := hI.2.2.2.1; omega, by have := hI.2.2.2.2; show lost.length ≤ i + 1; omega⟩
 show (_, _) = eS v _ (hosts.take (i + 1))
 rw [bC hosts [] i hi, e5, ← hI.2.1, keepF]
 focus first
   | (rw [if_pos ⟨h23_1, of_decide_eq_false h23_5⟩]; done)
   | (rw [if_neg (fun h => h23_1 h.1)]; done)
   | (rw [if_neg (fun h => h.2 (of_decide_eq_true h23_5))]; done)
 show hosts.length - (i + 1) < hosts.length - i
 omega
 refine az rfl rfl ?_
 refine ap (bG rfl) rfl rfl ?_
 refine ap (aQ rfl rfl) rfl rfl ?_
 refine ae ?_
 refine aj ?_
 refine ay rfl ?_
 refine ao ?_
 refine aa ?_
 refine ap (ak rfl) rfl rfl ?_
 refine ap (ak rfl) rfl rfl ?_
 refine o_mapUpd (encK := bB) (encV := (fun b : Bool => .bool b)) (v := true) Try.underlying114 (bO Try.underlying37) rfl rfl rfl (.s (.s (.s (.s (.z))))) ?_
 refine ae ?_
 refine aj ?_
 refine aa ?_
 refine ap (ak rfl) rfl rfl ?_
 refine ap (ak rfl) rfl rfl ?_
 refine el (vs := [_]) ([hosts.getD i []] : List (aL)) dx Try.underlying25 bE rfl rfl rfl rfl rfl rfl (fun As8 => ?_)
 refine eD (enc := dy) (sz := 1) [hosts.getD i []] Try.underlying25 bE rfl rfl rfl (fun A c => (.s (.s (.s (.s (.z)))))) (src_L 0 Try.underlying25 rfl) (by simp only [List.length_cons, List.length_nil, Nat.zero_add]; omega) (by simp only [List.length_cons, List.length_nil, Nat.zero_add]; omega) rfl (fun A8 c8 => ?_)
 refine ap (ah rfl) rfl rfl ?_
 refine ae ?_
 refine bA ?_
 refine aj ?_
 refine aa ?_
 refine ap (bQ rfl rfl (by omega) (by omega)) rfl rfl ?_
 refine ap (ak rfl) rfl rfl ?_
 refine ae ?_
 refine bR ((i + 1, ((bw v hc (bS hc) (hosts.getD i [])).2.1, lost ++ [hosts.getD i []]), A8, c8)) ?_ ?_ ⟨rfl, rfl, trivial⟩ (by repeat (first | exact trivial | refine ⟨rfl, ?_⟩)) (fun w h => by rw [stay_snoc]; exact (h.weak (.cons _ (.cons _ (.cons_cons _ (.cons_cons _ (.cons_cons _ (.cons_cons _ .slnil)))))) (fun s hs => hs)).f1.f1.f3.f3)
 refine ⟨by show i + 1 ≤ _; omega, ?_, hgi.2.1, by show (bw v hc (bS hc) (hosts.getD i [])).2.1.length ≤ _; have := hgi.2.2; have := hI.2.2.2.1; omega, by have := hI.2.2.2.2; show (lost ++ [hosts.getD i []]).length ≤ i + 1; simp; omega⟩
 show (_, _) = eS v _ (hosts.take (i + 1))
 rw [bC hosts [] i hi, e5, ← hI.2.1, keepF]
 focus first
   | (rw [if_pos ⟨h23_1, of_decide_eq_false h23_5⟩]; done)
   | (rw [if_neg (fun h => h23_1 h.1)]; done)
   | (rw [if_neg (fun h => h.2 (of_decide_eq_true h23_5))]; done)
 show hosts.length - (i + 1) < hosts.length - i
 omega
 refine ap (ak rfl) rfl rfl ?_
 refine bg rfl rfl rfl rfl ?_
 refine bg rfl rfl rfl rfl ?_
 refine bg rfl rfl rfl rfl ?_
 refine bg rfl rfl rfl rfl ?_
 refine ap (a2 rfl rfl) rfl rfl ?_
 refine ae ?_
 refine aj ?_
 refine av rfl ?_
 refine aG ?_
 refine bA ?_
 refine aj ?_
 refine aa ?_
 refine ap (bQ rfl rfl (by omega) (by omega)) rfl rfl ?_
 refine ap (ak rfl) rfl rfl ?_
 refine ae ?_
 refine bR ((i + 1, ((bw v hc (bS hc) (hosts.getD i [])).2.1, lost), Aq, cq)) ?_ ?_ ⟨rfl, rfl, trivial⟩ (by repeat (first | exact trivial | refine ⟨rfl, ?_⟩)) (fun w h => by exact (h.weak (.cons _ (.cons_cons _ (.cons_cons _ (.cons_cons _ (.cons_cons _ .slnil))))) (fun s hs => hs)).f1.f1.f3.f3)
 refine ⟨by show i + 1 ≤ _; omega, ?_, hgi.2.1, by show (bw v hc (bS hc) (hosts.getD i [])).2.1.length ≤ _; have := hgi.2.2; have := hI.2.2.2.1; omega, by have := hI.2.2.2.2; show lost.length ≤ i + 1; omega⟩
 show (_, _) = eS v _ (hosts.take (i + 1))
 rw [bC hosts [] i hi, e5, ← hI.2.1, keepF]
 focus first
   | (rw [if_pos ⟨h23_1, of_decide_eq_false h23_5⟩]; done)
   | (rw [if_neg (fun h => h23_1 h.1)]; done)
   | (rw [if_neg (fun h => h.2 (of_decide_eq_true h23_5))]; done)
 show hosts.length - (i + 1) < hosts.length - i
 omega
 refine ae ?_
 refine aj ?_
 refine ao ?_
 refine av rfl ?_
 refine ce ?_
 refine bf ?_
 refine a7 ?_
 refine bq ?_
 refine aj ?_
 refine ao ?_
 refine aa ?_
 refine ap (ak rfl) rfl rfl ?_
 refine ap (ah rfl) rfl rfl ?_
 refine ap (ah rfl) rfl rfl ?_
 refine ae ?_
 refine aj ?_
 refine aC ?_
 refine aJ (ts := [4, 5]) rfl rfl rfl (fun w hw => ?_)
 have hil : i = hosts.length := by omega
 have hG : eS v (stayH hm hosts) hosts = (hc, lost) := by rw [hI.2.1, hil, List.take_length]
 have hE : c9 v hm hosts = ((lost, 0), hc) := by rw [c9, if_neg (by rw [hall]; decide), hG]
 obtain ⟨h1, h2, h3⟩ := (hw.weak (.cons_cons _ (.cons _ (.cons_cons _ (.cons_cons _ .slnil)))) (fun s hs => hs)).f2.f2.two.two.uc
 exact ⟨(Aq, cq), by rw [hE]; rfl, h1, by rw [hE]; exact h2, by rw [hE]; exact h3⟩
end Go.Proofs.Ytnpdgmoeoidppaa

/- A map is cloned. -/
namespace Go.Proofs.Ytnpdgmoeoidppaa
open Go.RowKit Go.Shelf
set_option linter.unusedVariables false
section
variable {x : Cx} {l : Fr} {L S : List Ch} {Q : Exit → Act → World → Prop} {ops : Array Oper} {rest : List Oper} {d : Nat} {ty : TypeId} {pos : String} {af : Array Edge} {gd : Option (Nat × Bool)}
theorem eqb_mn {P : Program} {t k e : TypeId} (h : P.underlying t = some (.map k e)) (p : Option Nat) : EqB P t (.map p) (.map none) p.isNone := fun d w => by
  cases p <;> simp [Op.equalIn, run_underlying h]
theorem y_eqmn {y z : Operand} {p : Option Nat} {yt zt k e : TypeId} (h : x.P.underlying yt = some (.map k e)) (hy : ev l y = some (.map p)) (hz : ev l z = some (.map none)) :
    Yv x l L S ⟨some d, .binOp .eql yt y z zt, ty, pos, af, gd⟩ (.bool p.isNone) := y_eqg (eqb_mn h p) rfl hy hz
theorem y_mkif {y : Operand} {t k e : TypeId} {p : Option Nat} (h : x.P.underlying t = some (.map k e)) (hy : ev l y = some (.map p)) : Yv x l L S ⟨some d, .makeInterface t y, ty, pos, af, gd⟩ (.iface t (.map p)) := fun a w ha hw => by
  simp [execOp, ha.ev hy, Instr.makeInterface, run_underlying h, Result.andThen]
theorem y_asmap {y : Operand} {t xT k e : TypeId} {v : Value} (h : x.P.underlying t = some (.map k e)) (hy : ev l y = some (.iface t v)) : Yv x l L S ⟨some d, .typeAssert y xT t false, ty, pos, af, gd⟩ v := fun a w ha hw => by
  simp [execOp, ha.ev hy, Instr.typeAssert, run_underlying h, Result.andThen]
theorem o_mclone {α β : Type} {encK : α → Value} {encV : β → Value} {g r : Nat} {fn : Func} {y : Operand} {t : TypeId} {m : List (α × β)} {tys : Array TypeId} (hf : x.P.funcs[g]? = some fn) (hname : (fn.name == "runtime.NumGoroutine") = false) (hb : fn.body.isNone = true) (hn : Extern.findNext fn = none) (he : Extern.find fn = some Extern.MapsClone.clone) (hy : ev l y = some (.iface t (.map (some r)))) (hm : ∀ w, Hp x.ok0 x.w0 L S w → MpP r encK encV m w) (hN : Nat.blt d x.N = true)
    (k : ∀ r', WL x ((d, .iface t (.map (some r'))) :: l) (Ch.mp r' encK encV m :: L) S ops rest Q) : WL x l L S ops (⟨some d, .call { callee := .value (.func g), args := #[y], argTypes := tys }, ty, pos, af, none⟩ :: rest) Q :=
  dd (fun r' => .iface t (.map (some r'))) (fun r' => Ch.mp r' encK encV m :: L) (fun _ => S) rfl rfl (fun _ => nofun) hN (fun ac w hac hw => by
    obtain ⟨es, c, h1, h2, h3, h4, h5⟩ := (hm w hw).at_
    have e := run_callFunc_extern (P := x.P) hf hname hb hn he #[.iface t (.map (some r))] w
    have e2 : (Extern.MapsClone.clone #[.iface t (.map (some r))]).run x.P w = .ok (.iface t (.map (some w.heap.size))) (w.alloc (.map es c)) := by
      have e3 : Extern.MapsClone.clone #[.iface t (.map (some r))] = (getObj r >>= fun o => match o with
        | .map entries clock => (newObj (.map entries clock) >>= fun n => pure (.iface t (.map (some n))))
        | _ => stuck "maps.clone: a map expected") := rfl
      rw [e3]
      simp [getObj, newObj, Sem.run, h1, Result.andThen, go_sem]
    rw [e2] at e
    simp only [Result.andThen] at e
    have hg : ac.eval (.func g) = .func (.func g) #[] #[] := rfl
    refine ⟨w.heap.size, w.alloc (.map es c), ?_, hw.fresh (Upd.alloc w _) _ ⟨es, c, World.alloc_heap_new w _, h2, h3, h4, h5⟩ (fun b hb => Nat.le_of_eq hb.symm) (fun b hb => by rw [show b = w.heap.size from hb]; simp)⟩
    simp [execOp, resolve, hg, Deferred.ofValue, invoke, hac.ev hy, e]) k
end
end Go.Proofs.Ytnpdgmoeoidppaa

/- vips: a pool is cloned -/
namespace Go.Proofs.Ytnpdgmoeoidppaa
open Go.RowKit Go.Shelf
set_option linter.unusedVariables false
set_option linter.unusedSimpArgs false

theorem bP (x0 : Bool) (x1 : Int) (x2 : Int) (x3 : Int) (x4 : Option Addr) (x5 : Nat) (x6 : Nat) (x7 : Option Nat) (x8 : Option Nat) (x9 : Int) : Try.prog.built 113 [(0, .agg [.bool x0, .int .u64 x1, .int .u64 x2, .int .i64 x3, .slice x4 x5 x6].toArray), (1, .map x7), (2, .map x8), (3, .int .i64 x9)] = some [.bool x0, .int .u64 x1, .int .u64 x2, .int .i64 x3, .slice x4 x5 x6, .map x7, .map x8, .int .i64 x9].toArray := by kernel_rfl
theorem ent_71 : Enters Try.prog 71 := enters_of Try.func71 (by kernel_rfl) rfl
theorem ent_72 : Enters Try.prog 72 := enters_of Try.func72 (by kernel_rfl) rfl
theorem ty_67 : TyI Try.prog 67 true 5 56 (.agg #[.bool false, .int .u64 0, .int .u64 0, .int .i64 0, .slice none 0 0]) := TyI.mk' (by kernel_rfl) (fun _ => by kernel_rfl)

theorem c_mcloneH (m : List (aL × Hd)) (r : Nat) : RC Try.prog 71 #[.map (some r)] [Ch.mp r bB bM m] (α := Nat) (fun o => .map (some o)) (fun o => [Ch.mp o bB bM m]) := by
 refine a6 (args := [.map (some r)]) 9 Try.func71 rfl rfl rfl (fun w0 => ?_)
 refine ao ?_
 refine aa ?_
 refine ap (ah rfl) rfl rfl ?_
 refine ae ?_
 refine aj ?_
 refine ao ?_
 refine ao ?_
 refine aa ?_
 refine ap (ak rfl) rfl rfl ?_
 refine ap (y_eqmn Try.underlying109 rfl rfl) rfl rfl ?_
 refine ae ?_
 refine aj ?_
 refine av rfl ?_
 refine aG ?_
 refine aj ?_
 refine ao ?_
 refine aa ?_
 refine ap (ak rfl) rfl rfl ?_
 refine ap (y_mkif Try.underlying109 rfl) rfl rfl ?_
 refine o_mclone (encK := bB) (encV := bM) Try.func112 (by kernel_rfl) (by kernel_rfl) (by kernel_rfl) (by kernel_rfl) rfl (fun w hw => hw.sh _ (List.mem_of_getElem? (i := 0) rfl)) rfl (fun r9 => ?_)
 refine ap (y_asmap Try.underlying109 rfl) rfl rfl ?_
 refine ap (ah rfl) rfl rfl ?_
 refine ae ?_
 refine aj ?_
 refine aC ?_
 refine aJ (ts := [2]) rfl rfl rfl (fun w hw => ?_)
 exact ⟨r9, rfl, hw.base, hw.toNews⟩

theorem c_mcloneA (m : List (Ad × aL)) (r : Nat) : RC Try.prog 72 #[.map (some r)] [Ch.mp r dD bB m] (α := Nat) (fun o => .map (some o)) (fun o => [Ch.mp o dD bB m]) := by
 refine a6 (args := [.map (some r)]) 9 Try.func72 rfl rfl rfl (fun w0 => ?_)
 refine ao ?_
 refine aa ?_
 refine ap (ah rfl) rfl rfl ?_
 refine ae ?_
 refine aj ?_
 refine ao ?_
 refine ao ?_
 refine aa ?_
 refine ap (ak rfl) rfl rfl ?_
 refine ap (y_eqmn Try.underlying110 rfl rfl) rfl rfl ?_
 refine ae ?_
 refine aj ?_
 refine av rfl ?_
 refine aG ?_
 refine aj ?_
 refine ao ?_
 refine aa ?_
 refine ap (ak rfl) rfl rfl ?_
 refine ap (y_mkif Try.underlying110 rfl) rfl rfl ?_
 refine o_mclone (encK := dD) (encV := bB) Try.func112 (by kernel_rfl) (by kernel_rfl) (by kernel_rfl) (by kernel_rfl) rfl (fun w hw => hw.sh _ (List.mem_of_getElem? (i := 0) rfl)) rfl (fun r9 => ?_)
 refine ap (y_asmap Try.underlying110 rfl) rfl rfl ?_
 refine ap (ah rfl) rfl rfl ?_
 refine ae ?_
 refine aj ?_
 refine aC ?_
 refine aJ (ts := [2]) rfl rfl rfl (fun w hw => ?_)
 exact ⟨r9, rfl, hw.base, hw.toNews⟩

set_option maxRecDepth 100000 in
theorem c_vClone (v : Vp) (hm : Hm) (am : Am) : RC Try.prog 32 #[.pointer (some ⟨v.b, 0, none⟩)] [Ch.row v.b (vpC v) 113, Ch.mp v.rh bB bM hm, Ch.mp v.ra dD bB am] (α := {u : Vp // u.rg = v.rg ∧ u.res = v.res ∧ u.A = v.A ∧ u.c = v.c ∧ u.room = v.room}) (fun o => .pointer (some ⟨o.1.b, 0, none⟩)) (fun o => [vmC o.1 hm am, Ch.row o.1.b (vpC o.1) 113]) := by
 refine a6 (args := [.pointer (some ⟨v.b, 0, none⟩)]) 25 Try.func32 rfl rfl rfl (fun w0 => ?_)
 refine ao ?_
 refine aa ?_
 refine ap (ah rfl) rfl rfl ?_
 refine ae ?_
 refine aj ?_
 refine ao ?_
 refine ao ?_
 refine aa ?_
 refine ap (ak rfl) rfl rfl ?_
 refine ap (eB Try.underlying57 rfl rfl) rfl rfl ?_
 refine bv (t := 4) (.bool false) rfl (congrArg Value.bool rfl) ?_
 refine ae ?_
 refine aj ?_
 refine av rfl ?_
 refine aG ?_
 refine aj ?_
 refine ao ?_
 refine eM 21 rfl mixed ?_
 refine aI (i := 0) rfl ab (ak rfl) ar ar rfl (ai aq) (by kernel_rfl) rfl ?_
 refine aI (i := 1) rfl ab (aO rfl) ar ar rfl (ai aq) (by kernel_rfl) rfl ?_
 refine aI (i := 2) rfl ab (aB d6 rfl) ar ar rfl (ai aq) (by kernel_rfl) rfl ?_
 refine aI (i := 3) rfl ab (cC 0 ty_67 rfl rfl rfl rfl) ar ar rfl (ai aq) (by kernel_rfl) rfl ?_
 refine aI (i := 4) rfl ab (ak rfl) ar ar rfl (ai aq) (by kernel_rfl) rfl ?_
 refine aI (i := 5) rfl ab (aO rfl) ar ar rfl (ai aq) (by kernel_rfl) rfl ?_
 refine aI (i := 6) rfl ab (aB ck rfl) ar ar rfl (ai aq) (by kernel_rfl) rfl ?_
 refine aI (i := 7) rfl ab (bd 0 c4 rfl rfl rfl) ar ar rfl (ai aq) (by kernel_rfl) rfl ?_
 refine aI (i := 9) rfl ab (ak rfl) ar ar rfl (ai aq) (by kernel_rfl) rfl ?_
 refine aI (i := 10) rfl ab (aO rfl) ar ar rfl (ai aq) (by kernel_rfl) rfl ?_
 refine aI (i := 11) rfl ab (aB d3 rfl) ar ar rfl (ai aq) (by kernel_rfl) rfl ?_
 refine aI (i := 12) rfl ab (bd 0 ty_110 rfl rfl rfl) ar ar rfl (ai aq) (by kernel_rfl) rfl ?_
 refine aI (i := 14) rfl ab (ak rfl) ar ar rfl (ai aq) (by kernel_rfl) rfl ?_
 refine aI (i := 15) rfl ab (aO rfl) ar ar rfl (ai aq) (by kernel_rfl) rfl ?_
 refine aI (i := 16) rfl ab (aB fa_113_3 rfl) ar ar rfl (ai aq) (by kernel_rfl) rfl ?_
 refine aI (i := 17) rfl ab (bd 0 ew rfl rfl rfl) ar ar rfl (ai aq) (by kernel_rfl) rfl ?_
 refine cg (i := 8) rfl rfl rfl (bb rfl ent_71) (by kernel_rfl) rfl ?_
 refine bF rfl ent_71 rfl (c_mcloneH hm v.rh) (fun w hw => (aN (cL 1 rfl hw) aY)) (fun r0 => ?_)
 refine ae ?_
 refine bk (bU 1) ?_
 refine cg (i := 13) rfl rfl rfl (bb rfl ent_72) (by kernel_rfl) rfl ?_
 refine bF rfl ent_72 rfl (c_mcloneA am v.ra) (fun w hw => (aN (cL 2 rfl hw) aY)) (fun r1 => ?_)
 refine ae ?_
 refine bk (bU 2) ?_
 refine aI (i := 18) rfl ab (bl rfl (bP _ _ _ _ _ _ _ _ _ _)) (bU 2) ar rfl (ai aq) (by kernel_rfl) rfl ?_
 refine cg (i := 19) rfl rfl rfl (fun _ _ _ => a8 (by kernel_rfl)) (by kernel_rfl) rfl ?_
 refine bx rfl rfl rfl (fun b3 => ?_)
 refine ae ?_
 refine bk (bU 3) ?_
 refine aI (i := 20) rfl ab (ah rfl) (bU 3) ar rfl (ai aq) (by kernel_rfl) rfl ?_
 refine cM (by kernel_rfl) ?_
 refine aj ?_
 refine aC ?_
 refine aJ (ts := [2]) rfl rfl rfl (fun w hw => ?_)
 exact ⟨⟨⟨v.rg, v.res, v.A, v.c, v.room, b3, r0, r1⟩, rfl, rfl, rfl, rfl, rfl⟩, rfl, hw.base, ((hw.weak (.cons_cons _ (.cons_cons _ (.cons_cons _ .slnil))) (fun s hs => hs)).f1.f2).two.toNews⟩
end Go.Proofs.Ytnpdgmoeoidppaa

/- law 14: a pool is made; the examples; a pool that nobody made -/
namespace Go.Proofs.Ytnpdgmoeoidppaa
open Go.RowKit Go.Shelf
set_option linter.unusedVariables false
set_option linter.unusedSimpArgs false

theorem bu_62_2 (x0 : Int) : Try.prog.built 62 [(2, .int .u64 x0)] = some [.bool false, .int .u64 0, .int .u64 x0].toArray := by kernel_rfl
theorem bu_64_0_1 (x0 : Bool) (x1 : Int) (x2 : Int) (x3 : Int) : Try.prog.built 64 [(0, .agg [.bool x0, .int .u64 x1, .int .u64 x2].toArray), (1, .int .i64 x3)] = some [.bool x0, .int .u64 x1, .int .u64 x2, .int .i64 x3].toArray := by kernel_rfl
theorem bu_67_0 (x0 : Bool) (x1 : Int) (x2 : Int) (x3 : Int) : Try.prog.built 67 [(0, .agg [.bool x0, .int .u64 x1, .int .u64 x2, .int .i64 x3].toArray)] = some [.bool x0, .int .u64 x1, .int .u64 x2, .int .i64 x3, .slice none 0 0].toArray := by kernel_rfl
theorem ent_26 : Enters Try.prog 26 := enters_of Try.func26 (by kernel_rfl) rfl
theorem ent_27 : Enters Try.prog 27 := enters_of Try.func27 (by kernel_rfl) rfl
theorem ent_28 : Enters Try.prog 28 := enters_of Try.func28 (by kernel_rfl) rfl
theorem ent_29 : Enters Try.prog 29 := enters_of Try.func29 (by kernel_rfl) rfl
theorem ent_30 : Enters Try.prog 30 := enters_of Try.func30 (by kernel_rfl) rfl
theorem ent_32 : Enters Try.prog 32 := enters_of Try.func32 (by kernel_rfl) rfl
theorem ent_33 : Enters Try.prog 33 := enters_of Try.func33 (by kernel_rfl) rfl
theorem ent_34 : Enters Try.prog 34 := enters_of Try.func34 (by kernel_rfl) rfl
theorem ent_36 : Enters Try.prog 36 := enters_of Try.func36 (by kernel_rfl) rfl
theorem ent_37 : Enters Try.prog 37 := enters_of Try.func37 (by kernel_rfl) rfl
theorem ent_60 : Enters Try.prog 60 := enters_of Try.func60 (by kernel_rfl) rfl
theorem dR : Enters Try.prog 61 := enters_of Try.func61 (by kernel_rfl) rfl

set_option maxRecDepth 100000 in
theorem c_vNewbad (rg : Rg) (res : List Rg) (A : Option Addr) (c : Nat) (hr : RgOk rg) (hrs : ∀ x ∈ res, RgOk x) (hl : res.length ≤ 1000000000000) (h0 : eC (rg :: res) ≠ 0) : RC Try.prog 27 #[.agg (plC rg A res.length c).toArray] [Ch.rd A 4 eb res] (α := Unit) (fun _ => .tuple #[.pointer none, .int .i64 (eC (rg :: res))]) (fun _ => []) := by
 refine a6 (args := [.agg (plC rg A res.length c).toArray]) 24 Try.func27 rfl rfl rfl (fun w0 => ?_)
 refine ao ?_
 refine aa ?_
 refine bx rfl rfl rfl (fun b1 => ?_)
 refine ap (ah rfl) rfl rfl ?_
 refine ap (ah rfl) rfl rfl ?_
 refine ae ?_
 refine aj ?_
 refine ao ?_
 refine ao ?_
 refine aa ?_
 refine ap (aM 0 ty_67 rfl rfl rfl rfl) rfl rfl ?_
 refine bi rfl ent_37 rfl (c_vCheck rg res A c hr hrs hl) (fun w hw => (aN (cL 0 rfl hw) aY)) ?_
 refine ap (ah rfl) rfl rfl ?_
 refine ae ?_
 refine aj ?_
 refine ao ?_
 refine aa ?_
 refine ap (ak rfl) rfl rfl ?_
 refine ap (cQ rfl rfl) rfl rfl ?_
 refine c7 (t := 8) rfl h0 ?_
 refine ae ?_
 refine aj ?_
 refine ay rfl ?_
 refine ao ?_
 refine aa ?_
 refine ap (ak rfl) rfl rfl ?_
 refine ap (ah rfl) rfl rfl ?_
 refine ap (ah rfl) rfl rfl ?_
 refine ae ?_
 refine aj ?_
 refine aC ?_
 refine aA ?_
 refine aJ (ts := [2, 3]) rfl rfl rfl (fun w hw => ?_)
 exact ⟨(), rfl, hw.base, (hw.weak (List.nil_sublist _) (fun s hs => hs)).toNews⟩

set_option maxRecDepth 100000 in
theorem c_vNew (rg : Rg) (res : List Rg) (A : Option Addr) (c : Nat) (hr : RgOk rg) (hrs : ∀ x ∈ res, RgOk x) (hl : res.length ≤ 1000000000000) (h0 : eC (rg :: res) = 0) : RC Try.prog 27 #[.agg (plC rg A res.length c).toArray] [Ch.rd A 4 eb res] (α := {v : Vp // v.rg = rg ∧ v.res = res ∧ v.room = eU rg res}) (fun o => .tuple #[.pointer (some ⟨o.1.b, 0, none⟩), .int .i64 0]) (fun o => [vmC o.1 [] [], Ch.ls o.1.A o.1.c 64 4 eb o.1.res, Ch.row o.1.b (vpC o.1) 113]) := by
 refine a6 (args := [.agg (plC rg A res.length c).toArray]) 24 Try.func27 rfl rfl rfl (fun w0 => ?_)
 refine ao ?_
 refine aa ?_
 refine bx rfl rfl rfl (fun b1 => ?_)
 refine ap (ah rfl) rfl rfl ?_
 refine ap (ah rfl) rfl rfl ?_
 refine ae ?_
 refine aj ?_
 refine ao ?_
 refine ao ?_
 refine aa ?_
 refine ap (aM 0 ty_67 rfl rfl rfl rfl) rfl rfl ?_
 refine bi rfl ent_37 rfl (c_vCheck rg res A c hr hrs hl) (fun w hw => (aN (cL 0 rfl hw) aY)) ?_
 refine ap (ah rfl) rfl rfl ?_
 refine ae ?_
 refine aj ?_
 refine ao ?_
 refine aa ?_
 refine ap (ak rfl) rfl rfl ?_
 refine ap (cQ rfl rfl) rfl rfl ?_
 refine wl_af (t := 8) rfl (fun h => h h0) ?_
 refine ae ?_
 refine aj ?_
 refine av rfl ?_
 refine aG ?_
 refine aj ?_
 refine ao ?_
 refine aa ?_
 refine ap (aB fJ rfl) rfl rfl ?_
 refine ap (aK 0 ty_65 rfl rfl rfl) rfl rfl ?_
 refine bF rfl ent_60 rfl (c_Clone_rg res A c hl) (fun w hw => (aN (cL 0 rfl hw) aY)) (fun ⟨A1, c1⟩ => ?_)
 refine ap (aB fJ rfl) rfl rfl ?_
 refine aH ty_65 rfl rfl rfl (.s (.z)) rfl rfl rfl rfl ?_
 refine ae ?_
 refine aj ?_
 refine ao ?_
 refine eM 12 rfl mixed ?_
 refine aI (i := 0) rfl ab (aM 1 ty_67 rfl rfl rfl rfl) ar ar rfl (ai aq) (by kernel_rfl) rfl ?_
 refine aI (i := 3) rfl ab (aB eQ rfl) ar ar rfl (ai aq) (by kernel_rfl) rfl ?_
 refine aI (i := 4) rfl ab (aM 1 cc rfl rfl rfl rfl) ar ar rfl (ai aq) (by kernel_rfl) rfl ?_
 refine aI (i := 5) rfl ab (aB fJ rfl) ar ar rfl (ai aq) (by kernel_rfl) rfl ?_
 refine aI (i := 6) rfl ab (aK 1 ty_65 rfl rfl rfl) ar ar rfl (ai aq) (by kernel_rfl) rfl ?_
 refine fe (js := [1, 2, 7]) (by kernel_rfl) rfl ?_
 refine bW (i := 1) rfl rfl rfl (fun _ _ _ => a8 (by kernel_rfl)) rfl ?_ ?_
 refine bV bB bM rfl (fun r2 => ?_)
 refine ae ?_
 refine bk (bU 1) ?_
 refine fe (js := [2, 7]) (by kernel_rfl) rfl ?_
 refine bW (i := 2) rfl rfl rfl (fun _ _ _ => a8 (by kernel_rfl)) rfl ?_ ?_
 refine bV dD bB rfl (fun r3 => ?_)
 refine ae ?_
 refine bk (bU 2) ?_
 refine cg (i := 7) rfl rfl rfl (bb rfl dR) (by kernel_rfl) rfl ?_
 refine bi rfl dR rfl (fo rg res A1 c1 hr hrs hl) (fun w hw => (aN (eT 2 rfl hw) aY)) ?_
 refine ae ?_
 refine bk (bU 2) ?_
 refine aI (i := 8) rfl ab (bl rfl (bP _ _ _ _ _ _ _ _ _ _)) (bU 2) ar rfl (ai aq) (by kernel_rfl) rfl ?_
 refine cg (i := 9) rfl rfl rfl (fun _ _ _ => a8 (by kernel_rfl)) (by kernel_rfl) rfl ?_
 refine bx rfl rfl rfl (fun b5 => ?_)
 refine ae ?_
 refine bk (bU 3) ?_
 refine aI (i := 10) rfl ab (ah rfl) (bU 3) ar rfl (ai aq) (by kernel_rfl) rfl ?_
 refine aI (i := 11) rfl ab (ah rfl) (bU 3) ar rfl (ai aq) (by kernel_rfl) rfl ?_
 refine cM (by kernel_rfl) ?_
 refine aj ?_
 refine aC ?_
 refine aJ (ts := [2, 3]) rfl rfl rfl (fun w hw => ?_)
 exact ⟨⟨⟨rg, res, A1, c1, (eU rg res : Nat), b5, r2, r3⟩, rfl, rfl, rfl⟩, rfl, hw.base, ((hw.weak (.cons_cons _ (.cons_cons _ (.cons_cons _ (.cons_cons _ (.cons _ .slnil))))) (fun s hs => hs)).f3.f2.f3).two.toNews⟩
 refine bW (i := 7) rfl rfl rfl (bb rfl dR) rfl ?_ ?_
 refine bi rfl dR rfl (fo rg res A1 c1 hr hrs hl) (fun w hw => (aN (eT 1 rfl hw) aY)) ?_
 refine ae ?_
 refine bk (bU 1) ?_
 refine cg (i := 2) rfl rfl rfl (fun _ _ _ => a8 (by kernel_rfl)) (by kernel_rfl) rfl ?_
 refine bV dD bB rfl (fun r5 => ?_)
 refine ae ?_
 refine bk (bU 2) ?_
 refine aI (i := 8) rfl ab (bl rfl (bP _ _ _ _ _ _ _ _ _ _)) (bU 2) ar rfl (ai aq) (by kernel_rfl) rfl ?_
 refine cg (i := 9) rfl rfl rfl (fun _ _ _ => a8 (by kernel_rfl)) (by kernel_rfl) rfl ?_
 refine bx rfl rfl rfl (fun b7 => ?_)
 refine ae ?_
 refine bk (bU 3) ?_
 refine aI (i := 10) rfl ab (ah rfl) (bU 3) ar rfl (ai aq) (by kernel_rfl) rfl ?_
 refine aI (i := 11) rfl ab (ah rfl) (bU 3) ar rfl (ai aq) (by kernel_rfl) rfl ?_
 refine cM (by kernel_rfl) ?_
 refine aj ?_
 refine aC ?_
 refine aJ (ts := [2, 3]) rfl rfl rfl (fun w hw => ?_)
 exact ⟨⟨⟨rg, res, A1, c1, (eU rg res : Nat), b7, r2, r5⟩, rfl, rfl, rfl⟩, rfl, hw.base, ((hw.weak (.cons_cons _ (.cons_cons _ (.cons_cons _ (.cons_cons _ (.cons _ .slnil))))) (fun s hs => hs)).f3.f2.f3).two.toNews⟩
 exact ef
 refine bW (i := 2) rfl rfl rfl (fun _ _ _ => a8 (by kernel_rfl)) rfl ?_ ?_
 refine bV dD bB rfl (fun r7 => ?_)
 refine ae ?_
 refine bk (bU 1) ?_
 refine fe (js := [1, 7]) (by kernel_rfl) rfl ?_
 refine bW (i := 1) rfl rfl rfl (fun _ _ _ => a8 (by kernel_rfl)) rfl ?_ ?_
 refine bV bB bM rfl (fun r8 => ?_)
 refine ae ?_
 refine bk (bU 2) ?_
 refine cg (i := 7) rfl rfl rfl (bb rfl dR) (by kernel_rfl) rfl ?_
 refine bi rfl dR rfl (fo rg res A1 c1 hr hrs hl) (fun w hw => (aN (eT 2 rfl hw) aY)) ?_
 refine ae ?_
 refine bk (bU 2) ?_
 refine aI (i := 8) rfl ab (bl rfl (bP _ _ _ _ _ _ _ _ _ _)) (bU 2) ar rfl (ai aq) (by kernel_rfl) rfl ?_
 refine cg (i := 9) rfl rfl rfl (fun _ _ _ => a8 (by kernel_rfl)) (by kernel_rfl) rfl ?_
 refine bx rfl rfl rfl (fun b10 => ?_)
 refine ae ?_
 refine bk (bU 3) ?_
 refine aI (i := 10) rfl ab (ah rfl) (bU 3) ar rfl (ai aq) (by kernel_rfl) rfl ?_
 refine aI (i := 11) rfl ab (ah rfl) (bU 3) ar rfl (ai aq) (by kernel_rfl) rfl ?_
 refine cM (by kernel_rfl) ?_
 refine aj ?_
 refine aC ?_
 refine aJ (ts := [2, 3]) rfl rfl rfl (fun w hw => ?_)
 exact ⟨⟨⟨rg, res, A1, c1, (eU rg res : Nat), b10, r8, r7⟩, rfl, rfl, rfl⟩, rfl, hw.base, ((hw.weak (.cons_cons _ (.cons_cons _ (.cons_cons _ (.cons_cons _ (.cons _ .slnil))))) (fun s hs => hs)).f3.f3.f3).two.toNews⟩
 refine bW (i := 7) rfl rfl rfl (bb rfl dR) rfl ?_ ?_
 refine bi rfl dR rfl (fo rg res A1 c1 hr hrs hl) (fun w hw => (aN (eT 1 rfl hw) aY)) ?_
 refine ae ?_
 refine bk (bU 1) ?_
 refine cg (i := 1) rfl rfl rfl (fun _ _ _ => a8 (by kernel_rfl)) (by kernel_rfl) rfl ?_
 refine bV bB bM rfl (fun r10 => ?_)
 refine ae ?_
 refine bk (bU 2) ?_
 refine aI (i := 8) rfl ab (bl rfl (bP _ _ _ _ _ _ _ _ _ _)) (bU 2) ar rfl (ai aq) (by kernel_rfl) rfl ?_
 refine cg (i := 9) rfl rfl rfl (fun _ _ _ => a8 (by kernel_rfl)) (by kernel_rfl) rfl ?_
 refine bx rfl rfl rfl (fun b12 => ?_)
 refine ae ?_
 refine bk (bU 3) ?_
 refine aI (i := 10) rfl ab (ah rfl) (bU 3) ar rfl (ai aq) (by kernel_rfl) rfl ?_
 refine aI (i := 11) rfl ab (ah rfl) (bU 3) ar rfl (ai aq) (by kernel_rfl) rfl ?_
 refine cM (by kernel_rfl) ?_
 refine aj ?_
 refine aC ?_
 refine aJ (ts := [2, 3]) rfl rfl rfl (fun w hw => ?_)
 exact ⟨⟨⟨rg, res, A1, c1, (eU rg res : Nat), b12, r10, r7⟩, rfl, rfl, rfl⟩, rfl, hw.base, ((hw.weak (.cons_cons _ (.cons_cons _ (.cons_cons _ (.cons_cons _ (.cons _ .slnil))))) (fun s hs => hs)).f3.f3.f3).two.toNews⟩
 exact ef
 refine bW (i := 7) rfl rfl rfl (bb rfl dR) rfl ?_ ?_
 refine bi rfl dR rfl (fo rg res A1 c1 hr hrs hl) (fun w hw => (aN (eT 0 rfl hw) aY)) ?_
 refine ae ?_
 refine bk ar ?_
 refine fe (js := [1, 2]) (by kernel_rfl) rfl ?_
 refine bW (i := 1) rfl rfl rfl (fun _ _ _ => a8 (by kernel_rfl)) rfl ?_ ?_
 refine bV bB bM rfl (fun r12 => ?_)
 refine ae ?_
 refine bk (bU 1) ?_
 refine cg (i := 2) rfl rfl rfl (fun _ _ _ => a8 (by kernel_rfl)) (by kernel_rfl) rfl ?_
 refine bV dD bB rfl (fun r13 => ?_)
 refine ae ?_
 refine bk (bU 2) ?_
 refine aI (i := 8) rfl ab (bl rfl (bP _ _ _ _ _ _ _ _ _ _)) (bU 2) ar rfl (ai aq) (by kernel_rfl) rfl ?_
 refine cg (i := 9) rfl rfl rfl (fun _ _ _ => a8 (by kernel_rfl)) (by kernel_rfl) rfl ?_
 refine bx rfl rfl rfl (fun b15 => ?_)
 refine ae ?_
 refine bk (bU 3) ?_
 refine aI (i := 10) rfl ab (ah rfl) (bU 3) ar rfl (ai aq) (by kernel_rfl) rfl ?_
 refine aI (i := 11) rfl ab (ah rfl) (bU 3) ar rfl (ai aq) (by kernel_rfl) rfl ?_
 refine cM (by kernel_rfl) ?_
 refine aj ?_
 refine aC ?_
 refine aJ (ts := [2, 3]) rfl rfl rfl (fun w hw => ?_)
 exact ⟨⟨⟨rg, res, A1, c1, (eU rg res : Nat), b15, r12, r13⟩, rfl, rfl, rfl⟩, rfl, hw.base, ((hw.weak (.cons_cons _ (.cons_cons _ (.cons_cons _ (.cons_cons _ (.cons _ .slnil))))) (fun s hs => hs)).f3.f2.f3).two.toNews⟩
 refine bW (i := 2) rfl rfl rfl (fun _ _ _ => a8 (by kernel_rfl)) rfl ?_ ?_
 refine bV dD bB rfl (fun r15 => ?_)
 refine ae ?_
 refine bk (bU 1) ?_
 refine cg (i := 1) rfl rfl rfl (fun _ _ _ => a8 (by kernel_rfl)) (by kernel_rfl) rfl ?_
 refine bV bB bM rfl (fun r16 => ?_)
 refine ae ?_
 refine bk (bU 2) ?_
 refine aI (i := 8) rfl ab (bl rfl (bP _ _ _ _ _ _ _ _ _ _)) (bU 2) ar rfl (ai aq) (by kernel_rfl) rfl ?_
 refine cg (i := 9) rfl rfl rfl (fun _ _ _ => a8 (by kernel_rfl)) (by kernel_rfl) rfl ?_
 refine bx rfl rfl rfl (fun b18 => ?_)
 refine ae ?_
 refine bk (bU 3) ?_
 refine aI (i := 10) rfl ab (ah rfl) (bU 3) ar rfl (ai aq) (by kernel_rfl) rfl ?_
 refine aI (i := 11) rfl ab (ah rfl) (bU 3) ar rfl (ai aq) (by kernel_rfl) rfl ?_
 refine cM (by kernel_rfl) ?_
 refine aj ?_
 refine aC ?_
 refine aJ (ts := [2, 3]) rfl rfl rfl (fun w hw => ?_)
 exact ⟨⟨⟨rg, res, A1, c1, (eU rg res : Nat), b18, r16, r15⟩, rfl, rfl, rfl⟩, rfl, hw.base, ((hw.weak (.cons_cons _ (.cons_cons _ (.cons_cons _ (.cons_cons _ (.cons _ .slnil))))) (fun s hs => hs)).f3.f3.f3).two.toNews⟩
 exact ef
 exact ef

theorem give_cong {v v' : Vp} (h : v.rg = v'.rg ∧ v.res = v'.res ∧ v.room = v'.room) (hm : Hm) (am : Am) (n : aL) : bw v hm am n = bw v' hm am n := by
  obtain ⟨rg, res, A, c, room, b, rh, ra⟩ := v
  obtain ⟨rg', res', A', c', room', b', rh', ra'⟩ := v'
  obtain ⟨h1, h2, h3⟩ := h
  dsimp only at h1 h2 h3
  subst h1 h2 h3
  rfl
def eR : Rg := ⟨⟨false, 0, 167772160⟩, 31⟩
def v14 : Vp := ⟨eR, [], none, 0, 2, 0, 0, 0⟩
theorem rg14_ok : RgOk eR := by unfold RgOk AdOk eR; decide
theorem ck14 : eC [eR] = 0 := by decide +kernel
theorem fr14 : eU eR [] = 2 := by decide +kernel
def s14a : Hm × Am := (bw v14 [] [] [1, 97]).2
def s14b : Hm × Am := (bw v14 s14a.1 s14a.2 [1, 98]).2
def s14f : Hm × Am := (bw v14 s14b.1 s14b.2 [1, 99]).2
def s14c : Hm × Am := (ct s14f.1 s14f.2 [1, 65]).2
theorem g14a : (bw v14 [] [] [1, 97]).1.2 = 0 := by decide +kernel
theorem g14b : (bw v14 s14a.1 s14a.2 [1, 98]).1.2 = 0 ∧ (bw v14 [] [] [1, 97]).1.1 ≠ (bw v14 s14a.1 s14a.2 [1, 98]).1.1 := by decide +kernel
theorem g14c : (bw v14 s14b.1 s14b.2 [1, 99]).1.2 = 10 := by decide +kernel
theorem g14d : (bw v14 s14c.1 s14c.2 [1, 99]).1.2 = 0 ∧ (bw v14 s14c.1 s14c.2 [1, 99]).1.1 = (bw v14 [] [] [1, 97]).1.1 := by decide +kernel
theorem ok14 {v : Vp} (h : v.rg = eR ∧ v.res = [] ∧ v.room = 2) : VOk v := ⟨h.1 ▸ rg14_ok, by rw [h.2.1]; exact nofun, by rw [h.2.1]; decide, by rw [h.2.2]; decide⟩
theorem c_g14 {v : Vp} (h : v.rg = eR ∧ v.res = [] ∧ v.room = 2) (hm : Hm) (am : Am) (n : aL) (hn : n.length ≤ 1000000000) (hml : hm.length ≤ 1000000) :
    UC Try.prog 31 #[.pointer (some ⟨v.b, 0, none⟩), .string (ba n)] [Ch.row v.b (vpC v) 113, Ch.rd v.A 4 eb v.res] (vmC v hm am) (fun _ : Unit => .tuple #[.agg (dC (bw v14 hm am n).1.1).toArray, .int .i64 (bw v14 hm am n).1.2]) (fun _ : Unit => vmC v (bw v14 hm am n).2.1 (bw v14 hm am n).2.2) := by
  rw [← give_cong (v := v) (v' := v14) h]; exact c_vGive v hm am n (ok14 h) hn hml

theorem c_two14  : RC Try.prog 28 #[] [] (α := Unit) (fun _ => .agg (plC eR none 0 0).toArray) (fun _ => []) := by
 refine a6 (args := []) 4 Try.func28 rfl rfl rfl (fun w0 => ?_)
 refine ao ?_
 refine aa ?_
 refine bc ty_67 rfl rfl (fun b1 => ?_)
 refine ae ?_
 refine aj ?_
 refine ao ?_
 refine aa ?_
 refine ap (bl rfl (bu_62_2 _)) rfl rfl ?_
 refine ap (bl rfl (bu_64_0_1 _ _ _ _)) rfl rfl ?_
 refine ap (bl rfl (bu_67_0 _ _ _ _)) rfl rfl ?_
 refine aH ty_67 rfl rfl rfl .z rfl rfl rfl rfl ?_
 refine ae ?_
 refine aj ?_
 refine aC ?_
 refine de (rs := [.cell 0 67]) rfl (bh 0 ty_67 rfl rfl rfl rfl bz) rfl (fun w hw => ?_)
 exact ⟨(), rfl, hw.base, (hw.weak (List.nil_sublist _) (fun s hs => hs)).toNews⟩

set_option maxRecDepth 100000 in
set_option maxHeartbeats 4000000 in
theorem c_lives14  : cI Try.prog 26 #[] (.bool true) := by
 intro w0
 refine aX (ok0 := no) (S := []) (args := []) 68 Try.func26 rfl rfl rfl (by simp) (by simp) ?_
 refine ao ?_
 refine aa ?_
 refine ap (ah rfl) rfl rfl ?_
 refine ae ?_
 refine aj ?_
 refine ao ?_
 refine aa ?_
 refine bi rfl ent_28 rfl c_two14 (fun w hw => aY) ?_
 refine o_callr3 rfl ent_27 rfl (c_vNew eR [] none 0 rg14_ok nofun (by decide) ck14) (fun w hw => (aN (rd_none) aY)) (fun ⟨v, hv⟩ => ?_)
 have hv14 : v.rg = eR ∧ v.res = [] ∧ v.room = 2 := ⟨hv.1, hv.2.1, hv.2.2.trans (by rw [fr14]; rfl)⟩
 refine bD (fun w h => h.f1.toRdV.f1.freeze) ?_
 refine ap (ak rfl) rfl rfl ?_
 refine ap (aw rfl rfl) rfl rfl ?_
 refine ap (aw rfl rfl) rfl rfl ?_
 refine ap (ah rfl) rfl rfl ?_
 refine ap (ah rfl) rfl rfl ?_
 refine ae ?_
 refine aj ?_
 refine ao ?_
 refine ao ?_
 refine aa ?_
 refine ap (ak rfl) rfl rfl ?_
 refine ap (cQ rfl rfl) rfl rfl ?_
 refine wl_af (t := 17) rfl (fun h => h rfl) ?_
 refine ap (ak rfl) rfl rfl ?_
 refine az rfl rfl ?_
 refine ap (ak rfl) rfl rfl ?_
 refine az rfl rfl ?_
 refine ap (eB Try.underlying57 rfl rfl) rfl rfl ?_
 refine bv (t := 20) (.bool false) rfl (congrArg Value.bool rfl) ?_
 refine ap (a2 rfl rfl) rfl rfl ?_
 refine ae ?_
 refine aj ?_
 refine av rfl ?_
 refine aG ?_
 refine aj ?_
 refine ao ?_
 refine aa ?_
 refine ap (ak rfl) rfl rfl ?_
 refine bI rfl ent_31 rfl (c_g14 hv14 [] [] [1, 97] (by decide) (by as_aux_lemma => decide +kernel)) (fun o => .z) (List.mem_of_getElem? (i := 0) rfl) (fun s hs => (List.mem_cons.1 hs).elim (fun e => e ▸ .head _) (fun h => (List.mem_singleton.1 h) ▸ .tail _ (.head _))) (fun o1 => ?_)
 refine ap (ak rfl) rfl rfl ?_
 refine ap (aw rfl rfl) rfl rfl ?_
 refine ap (aw rfl rfl) rfl rfl ?_
 refine bc aF rfl rfl (fun b3 => ?_)
 refine aH aF rfl rfl rfl .z rfl rfl rfl rfl ?_
 refine ap (ah rfl) rfl rfl ?_
 refine ae ?_
 refine aj ?_
 refine ao ?_
 refine aa ?_
 refine ap (ak rfl) rfl rfl ?_
 refine bI rfl ent_31 rfl (c_g14 hv14 s14a.1 s14a.2 [1, 98] (by decide) (by as_aux_lemma => decide +kernel)) (fun o => (.s (.z))) (List.mem_of_getElem? (i := 1) rfl) (fun s hs => (List.mem_cons.1 hs).elim (fun e => e ▸ .head _) (fun h => (List.mem_singleton.1 h) ▸ .tail _ (.head _))) (fun o3 => ?_)
 refine ap (ak rfl) rfl rfl ?_
 refine ap (aw rfl rfl) rfl rfl ?_
 refine ap (aw rfl rfl) rfl rfl ?_
 refine bc aF rfl rfl (fun b5 => ?_)
 refine aH aF rfl rfl rfl .z rfl rfl rfl rfl ?_
 refine ap (ah rfl) rfl rfl ?_
 refine ae ?_
 refine aj ?_
 refine ao ?_
 refine aa ?_
 refine ap (ak rfl) rfl rfl ?_
 refine bI rfl ent_31 rfl (c_g14 hv14 s14b.1 s14b.2 [1, 99] (by decide) (by as_aux_lemma => decide +kernel)) (fun o => (.s (.s (.z)))) (List.mem_of_getElem? (i := 2) rfl) (fun s hs => (List.mem_cons.1 hs).elim (fun e => e ▸ .head _) (fun h => (List.mem_singleton.1 h) ▸ .tail _ (.head _))) (fun o5 => ?_)
 refine ap (ak rfl) rfl rfl ?_
 refine ap (aw rfl rfl) rfl rfl ?_
 refine ap (aw rfl rfl) rfl rfl ?_
 refine bc aF rfl rfl (fun b7 => ?_)
 refine aH aF rfl rfl rfl .z rfl rfl rfl rfl ?_
 refine ap (ah rfl) rfl rfl ?_
 refine ae ?_
 refine aj ?_
 refine ao ?_
 refine aa ?_
 refine ap (ak rfl) rfl rfl ?_
 refine bI rfl ent_33 rfl (c_vDrop v s14f.1 s14f.2 [1, 65] (by decide)) (fun o => (.s (.s (.s (.z))))) (List.mem_of_getElem? (i := 3) rfl) (fun s hs => (List.mem_singleton.1 hs) ▸ .head _) (fun o7 => ?_)
 refine ae ?_
 refine aj ?_
 refine ao ?_
 refine aa ?_
 refine ap (ak rfl) rfl rfl ?_
 refine bI rfl ent_31 rfl (c_g14 hv14 s14c.1 s14c.2 [1, 99] (by decide) (by as_aux_lemma => decide +kernel)) (fun o => (.s (.s (.s (.z))))) (List.mem_of_getElem? (i := 3) rfl) (fun s hs => (List.mem_cons.1 hs).elim (fun e => e ▸ .head _) (fun h => (List.mem_singleton.1 h) ▸ .tail _ (.head _))) (fun o8 => ?_)
 refine ap (ak rfl) rfl rfl ?_
 refine ap (aw rfl rfl) rfl rfl ?_
 refine ap (aw rfl rfl) rfl rfl ?_
 refine bc aF rfl rfl (fun b10 => ?_)
 refine aH aF rfl rfl rfl .z rfl rfl rfl rfl ?_
 refine ap (ah rfl) rfl rfl ?_
 refine ae ?_
 refine aj ?_
 refine ao ?_
 refine aa ?_
 refine ap (ak rfl) rfl rfl ?_
 refine ap (cH rfl rfl) rfl rfl ?_
 refine c7 (t := 45) rfl g14a ?_
 refine ap (ak rfl) rfl rfl ?_
 refine az rfl rfl ?_
 refine ap (ak rfl) rfl rfl ?_
 refine az rfl rfl ?_
 refine ap (cH rfl rfl) rfl rfl ?_
 refine c7 (t := 48) rfl g14b.1 ?_
 refine ap (aQ rfl rfl) rfl rfl ?_
 refine ap (ak rfl) rfl rfl ?_
 refine az rfl rfl ?_
 refine ap (ak rfl) rfl rfl ?_
 refine az rfl rfl ?_
 refine ap (cH rfl rfl) rfl rfl ?_
 refine c7 (t := 52) rfl g14c ?_
 refine ap (aQ rfl rfl) rfl rfl ?_
 refine ap (ak rfl) rfl rfl ?_
 refine az rfl rfl ?_
 refine ap (ak rfl) rfl rfl ?_
 refine az rfl rfl ?_
 refine ap (cH rfl rfl) rfl rfl ?_
 refine c7 (t := 56) rfl g14d.1 ?_
 refine ap (aQ rfl rfl) rfl rfl ?_
 refine ap (ak rfl) rfl rfl ?_
 refine az rfl rfl ?_
 refine ap (aM 3 aF rfl rfl rfl rfl) rfl rfl ?_
 refine az rfl rfl ?_
 refine ap (aM 2 aF rfl rfl rfl rfl) rfl rfl ?_
 refine az rfl rfl ?_
 refine ap (y_nestd (by as_aux_lemma => kernel_rfl) rfl rfl (eqd_ad _ _) rfl) rfl rfl ?_
 refine c7 (t := 61) rfl g14b.2 ?_
 refine ap (aQ rfl rfl) rfl rfl ?_
 refine ap (ak rfl) rfl rfl ?_
 refine az rfl rfl ?_
 refine ap (aM 0 aF rfl rfl rfl rfl) rfl rfl ?_
 refine az rfl rfl ?_
 refine ap (aM 3 aF rfl rfl rfl rfl) rfl rfl ?_
 refine az rfl rfl ?_
 refine ap (y_eqst (by as_aux_lemma => kernel_rfl) rfl rfl (eqd_ad _ _) rfl) rfl rfl ?_
 refine c7 (t := 66) rfl g14d.2 ?_
 refine ap (aQ rfl rfl) rfl rfl ?_
 refine ap (ah rfl) rfl rfl ?_
 refine ae ?_
 refine aj ?_
 refine aC ?_
 refine aJ (ts := [0]) rfl rfl rfl (fun w hw => ?_)
 exact ⟨rfl, hw.base⟩

end Go.Proofs.Ytnpdgmoeoidppaa
