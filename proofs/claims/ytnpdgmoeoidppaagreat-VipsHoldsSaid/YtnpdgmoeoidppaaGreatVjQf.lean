import Derived.Test.YtnpdgmoeoidppaaGreatVgQf
import Derived.Test.YtnpdgmoeoidppaaGreatLzQf
import Derived.Test.YtnpdgmoeoidppaaGreatPaQf
/- vips: Keep -/
namespace Go.Proofs.YtnpdgmoeoidppaaGreat
open Go.RowKit Go.Shelf
set_option linter.unusedVariables false
set_option linter.unusedSimpArgs false

theorem ent_108 : Enters Tryz.prog 108 := enters_of Tryz.func108 (by kernel_rfl) rfl
theorem ent_109 : Enters Tryz.prog 109 := enters_of Tryz.func109 (by kernel_rfl) rfl
theorem ent_34 : Enters Tryz.prog 34 := enters_of Tryz.func34 (by kernel_rfl) rfl

theorem take_new {α : Type} {q : List α} (hq : q.Nodup) {j : Nat} (hj : j < q.length) (d : α) : q.getD j d ∉ q.take j := by
  have h1 := bV q d j hj
  have h2 : (q.take (j + 1)).Nodup := hq.sublist (List.take_sublist _ _)
  rw [h1, List.nodup_append] at h2
  exact fun h => h2.2.2 _ h _ (.head _) rfl

set_option maxRecDepth 100000 in
set_option maxHeartbeats 4000000 in
theorem c_vKeep (v : Vp) (hm : Hm) (hosts : List aU) (A : Option Addr) (c : Nat) (hv : VOk v) (hi0 : PInv hm) (hml : hm.length + hosts.length ≤ 1000000) (hhb : ∀ n ∈ hosts, n.length ≤ 1000000000) : UC Tryz.prog 41 #[.pointer (some ⟨v.b, 0, none⟩), .slice A hosts.length c] [Ch.row v.b (vpC v) 146, Ch.rd v.A 4 ea v.res, Ch.rd A 1 dV hosts] (vmC v hm (cg hm)) (α := Option Addr × Nat) (fun p => .tuple #[.slice p.1 (cU v hm hosts).1.1.length p.2, .int .i64 (cU v hm hosts).1.2]) (fun p => Ch.two (vmC v (cU v hm hosts).2 (cg (cU v hm hosts).2)) (Ch.ls p.1 p.2 26 1 dV (cU v hm hosts).1.1)) := by
 refine e8 (args := [.pointer (some ⟨v.b, 0, none⟩), .slice A hosts.length c]) 83 Tryz.func41 rfl rfl rfl (fun w0 => ?_)
 refine dp (fun w h => h.untwo) ?_
 refine ap ?_
 refine ab ?_
 refine aq (ai rfl) rfl rfl ?_
 refine aq (ai rfl) rfl rfl ?_
 refine ae ?_
 refine ak ?_
 refine ap ?_
 refine ap ?_
 refine ab ?_
 refine aq (aj rfl) rfl rfl ?_
 refine aq (gv Tryz.underlying68 rfl rfl) rfl rfl ?_
 refine bZ (t := 18) (.bool false) rfl (congrArg Value.bool rfl) ?_
 refine ae ?_
 refine ak ?_
 refine ay rfl ?_
 refine aH ?_
 refine ak ?_
 refine ap ?_
 refine ab ?_
 refine cM cB (fun b : Bool => .bool b) rfl (fun r0 => ?_)
 refine aq (ai rfl) rfl rfl ?_
 refine ae ?_
 refine ak ?_
 refine ap ?_
 refine ap ?_
 refine ab ?_
 refine aq (aj rfl) rfl rfl ?_
 refine aq (bK Tryz.underlying59 rfl) rfl rfl ?_
 refine aq (aj rfl) rfl rfl ?_
 refine ae ?_
 refine ak ?_
 refine aR ?_
 refine d5 (σ := Nat × List (aU × Bool)) [4, 5, 8, 22, 23, 24, 25, 26, 27, 28, 29, 30, 31, 32] (fun q => q.1 ≤ hosts.length ∧ q.2 = stayM (hosts.take q.1) ∧ ∀ n ∈ hosts.take q.1, bB n = true) (fun q => hosts.length - q.1) (fun q => [(22, .int .i64 q.1), (4, .slice none 0 0)]) (fun q => Ch.mp r0 cB (fun b : Bool => .bool b) q.2) ((0, [])) ?_ ⟨rfl, rfl, trivial⟩ rfl (fun q hI => ?_)
 exact ⟨Nat.zero_le _, rfl, nofun⟩
 obtain ⟨k, sm⟩ := q
 dsimp only at hI ⊢
 refine ap ?_
 refine ab ?_
 refine aq (bP rfl rfl) rfl rfl ?_
 refine aG (t := 23) rfl (fun h5_0 => ?_) (fun h5_0 => ?_)
 have hk : k < hosts.length := by omega
 have hnb := hhb _ (bc (d := ([] : aU)) hk)
 refine ae ?_
 refine ak ?_
 refine ap ?_
 refine aA rfl ?_
 refine aH ?_
 refine ak ?_
 refine ap ?_
 refine aR ?_
 refine ap ?_
 refine ab ?_
 refine aq (bq  Tryz.underlying59 bC rfl rfl (bH 2 rfl) rfl (by omega)) rfl rfl ?_
 refine aq (bu cO ([] : aU) bC rfl (bH 2 rfl) (by omega) rfl rfl) rfl rfl ?_
 refine aq (ai rfl) rfl rfl ?_
 refine ae ?_
 refine ak ?_
 refine ap ?_
 refine ap ?_
 refine ab ?_
 refine aq (aj rfl) rfl rfl ?_
 refine aV rfl ent_95 (c_vhost _) rfl ?_
 refine bi (t := 27) rfl (fun h7_1 => ?_) (fun h7_1 => ?_)
 refine aq (bF rfl) rfl rfl ?_
 refine ae ?_
 refine ak ?_
 refine ay rfl ?_
 refine aH ?_
 refine ak ?_
 refine ab ?_
 refine aq (aj rfl) rfl rfl ?_
 refine aq (aj rfl) rfl rfl ?_
 refine aV rfl fM (dx _ (by omega)) rfl ?_
 refine o_mapUpd (encK := cB) (encV := (fun b : Bool => .bool b)) (v := true) Tryz.underlying167 (cH Tryz.underlying26) rfl rfl rfl .z ?_
 refine ae ?_
 refine bo ?_
 refine ak ?_
 refine ab ?_
 refine aq (bd rfl rfl (by omega) (by omega)) rfl rfl ?_
 refine aq (aj rfl) rfl rfl ?_
 refine ae ?_
 refine bj ((k + 1, upd sm (aX (hosts.getD k [])) true)) ?_ ?_ ⟨rfl, rfl, trivial⟩ (by repeat (first | exact trivial | refine ⟨rfl, ?_⟩)) av
 exact ⟨by show k + 1 ≤ _; omega, by show upd sm _ true = _; rw [bV hosts [] k hk, stay_snoc, hI.2.1], fun n hn => by rw [bV hosts [] k hk] at hn; exact (List.mem_append.1 hn).elim (hI.2.2 n) (fun h => by rw [List.mem_singleton.1 h]; exact h7_1)⟩
 show hosts.length - (k + 1) < hosts.length - k
 omega
 refine aq (bF rfl) rfl rfl ?_
 refine ae ?_
 refine ak ?_
 refine aA rfl ?_
 refine ap ?_
 refine ab ?_
 refine aq (ai rfl) rfl rfl ?_
 refine aq (ai rfl) rfl rfl ?_
 refine ae ?_
 refine ak ?_
 refine aJ ?_
 refine aC ?_
 refine aT ?_
 refine aC ?_
 refine bw ?_
 refine aT ?_
 refine aC ?_
 refine aN (ts := [4, 5]) rfl rfl rfl (fun w hw => ?_)
 have hE : cU v hm hosts = (([], 2), hm) := if_pos (by rw [Bool.eq_false_iff]; intro h; have := List.all_eq_true.1 h _ (bc (d := ([] : aU)) hk); rw [h7_1] at this; cases this)
 obtain ⟨h1, h2, h3⟩ := ((hw.weak (.cons _ (.cons_cons _ (.cons_cons _ .slnil))) (fun s hs => hs)).f1.f1.two.nilsl 26 1).f1.two.uc
 exact ⟨(none, 0), by rw [hE]; rfl, h1, by rw [hE]; exact h2, by rw [hE]; exact h3⟩
 refine ae ?_
 refine ak ?_
 refine ap ?_
 refine ay rfl ?_
 refine bE ?_
 refine aZ ?_
 refine aY ?_
 refine a7 ?_
 refine ak ?_
 refine ap ?_
 refine ap ?_
 have hkl : k = hosts.length := by omega
 have hsm : sm = stayM hosts := by rw [hI.2.1, hkl, List.take_length]
 have hall : hosts.all bB = true := List.all_eq_true.2 (by have := hI.2.2; rw [hkl, List.take_length] at this; exact this)
 subst hsm
 have hbm : ∀ pre : List aU, (∃ rest, (pre ++ rest).Perm (hm.map (·.1))) → pre.length ≤ 1000000 := fun pre ⟨rest, h⟩ => by
   have := h.length_eq
   rw [List.length_append, List.length_map] at this
   omega
 refine ab ?_
 refine aq (aj rfl) rfl rfl ?_
 refine aq (bg rfl) rfl rfl ?_
 refine aq (aF dw rfl) rfl rfl ?_
 refine aq (bO 0 ek rfl rfl rfl) rfl rfl ?_
 refine cv rfl ent_109 rfl (c_MapKey v.rh) (fun w hw => a8) (fun p1 => ?_)
 refine cv rfl ent_108 rfl (c_Collect_nm 178 [.pointer (some ⟨p1, 0, none⟩)] _ _ _ (c_MapKey1 hm v.rh p1) (enters_of Tryz.func178 (by kernel_rfl) rfl) hbm) (fun w hw => (aP (eu 0 rfl hw) (aP (eu 2 rfl hw) a8))) (fun ⟨⟨q, Ax, cx⟩, hfx⟩ => ?_)
 refine bZ (t := 38) (.slice Ax q.length cx) rfl rfl ?_
 have hql : q.length = hm.length := by rw [hfx.length_eq, List.length_map]
 refine aq (bK Tryz.underlying59 rfl) rfl rfl ?_
 refine aq (aj rfl) rfl rfl ?_
 refine ae ?_
 refine ak ?_
 refine aR ?_
 refine dp (fun w h => h.f4.f4) ?_
 refine dp (fun w h => (by rw [List.take_zero, keepK_nil]; exact h : Hp _ _ (Ch.mp v.rh cB cT (dq hm hosts (q.take 0)) :: Ch.mp v.ra f8 cB (cg (dq hm hosts (q.take 0))) :: _) _ w)) ?_
 refine w_loop2 (σ := Nat) [10, 40, 41, 42, 43, 44, 45, 46, 47, 48, 49, 50, 51] (fun j => j ≤ q.length) (fun j => q.length - j) (fun j => [(40, .int .i64 j)]) (fun j => Ch.mp v.rh cB cT (dq hm hosts (q.take j))) (fun j => Ch.mp v.ra f8 cB (cg (dq hm hosts (q.take j)))) (0) ?_ ⟨rfl, trivial⟩ rfl rfl (fun j hI => ?_)
 exact Nat.zero_le _
 refine ap ?_
 refine ab ?_
 refine aq (bP rfl rfl) rfl rfl ?_
 refine aG (t := 41) rfl (fun h12_0 => ?_) (fun h12_0 => ?_)
 have hj : j < q.length := by omega
 refine ae ?_
 refine ak ?_
 refine ap ?_
 refine aA rfl ?_
 refine aH ?_
 refine ak ?_
 refine ap ?_
 refine aR ?_
 refine ap ?_
 refine ab ?_
 refine aq (bq  Tryz.underlying59 bC rfl rfl (cZ 2 rfl) rfl (by omega)) rfl rfl ?_
 refine aq (bu cO ([] : aU) bC rfl (cZ 2 rfl) (by omega) rfl rfl) rfl rfl ?_
 refine aq (ai rfl) rfl rfl ?_
 refine ae ?_
 refine ak ?_
 refine ap ?_
 refine ab ?_
 refine aq (aj rfl) rfl rfl ?_
 refine aq (aj rfl) rfl rfl ?_
 refine aq (il Tryz.underlying167 (cH Tryz.underlying26) gG rfl rfl (fun w hw => hw.own _ (List.mem_of_getElem? (i := 4) rfl))) rfl rfl ?_
 refine bZ (t := 46) (.bool (decide (q.getD j [] ∈ hosts.map aX))) rfl (look1_b.trans (congrArg Value.bool (stay_lkp _ _))) ?_
 refine bi (t := 46) rfl (fun h14_2 => ?_) (fun h14_2 => ?_)
 refine aq (bF rfl) rfl rfl ?_
 refine ae ?_
 refine ak ?_
 refine ay rfl ?_
 refine aH ?_
 refine bo ?_
 refine ak ?_
 refine ab ?_
 refine aq (bd rfl rfl (by omega) (by omega)) rfl rfl ?_
 refine aq (aj rfl) rfl rfl ?_
 refine ae ?_
 have hks : dq hm hosts (q.take (j + 1)) = dq hm hosts (q.take j) := by rw [bV q [] j hj]; exact keepK_stay (of_decide_eq_true h14_2)
 refine bj (j + 1) ?_ ?_ ⟨rfl, trivial⟩ (by repeat (first | exact trivial | refine ⟨rfl, ?_⟩)) (fun w h => by rw [hks]; exact h)
 omega
 omega
 refine aq (bF rfl) rfl rfl ?_
 refine ae ?_
 refine ak ?_
 refine aA rfl ?_
 have hns : q.getD j [] ∉ hosts.map aX := of_decide_eq_false h14_2
 have hdk := keepK_drop (pre := q.take j) hi0 hns (take_new (hfx.nodup_iff.2 hi0.keys) hj []) (hfx.mem_iff.1 (bc hj))
 rw [← bV q [] j hj] at hdk
 refine ab ?_
 refine aq (aj rfl) rfl rfl ?_
 refine aq (aj rfl) rfl rfl ?_
 refine di (fun w h => h.f1.f1.two) ?_
 refine c6 rfl ent_104 rfl (c_vdrop v (dq hm hosts (q.take j)) (cg (dq hm hosts (q.take j))) (q.getD j [])) (fun o => .z) (List.mem_of_getElem? (i := 0) rfl) (fun s hs => by obtain rfl := List.mem_singleton.1 hs; exact .head _) (fun o3 => ?_)
 refine di (fun w h => h.untwo) ?_
 refine di (fun w h => by rw [hdk] at h; exact h) ?_
 refine ae ?_
 refine bo ?_
 refine ak ?_
 refine ab ?_
 refine aq (bd rfl rfl (by omega) (by omega)) rfl rfl ?_
 refine aq (aj rfl) rfl rfl ?_
 refine ae ?_
 refine bj (j + 1) ?_ ?_ ⟨rfl, trivial⟩ (by repeat (first | exact trivial | refine ⟨rfl, ?_⟩)) av
 omega
 omega
 refine ae ?_
 refine ak ?_
 refine ap ?_
 refine ay rfl ?_
 refine bE ?_
 refine aZ ?_
 refine aY ?_
 refine a7 ?_
 refine ak ?_
 refine ap ?_
 have hjl : j = q.length := by omega
 have hst : dq hm hosts (q.take j) = ep hm hosts := by rw [hjl, List.take_length]; exact keepK_all fun p hp => hfx.mem_iff.2 (List.mem_map.2 ⟨p, hp, rfl⟩)
 refine dp (fun w h => by rw [hst] at h; exact h) ?_
 refine ab ?_
 refine cM cB (fun b : Bool => .bool b) rfl (fun r4 => ?_)
 refine aq (ai rfl) rfl rfl ?_
 refine ae ?_
 refine ak ?_
 refine ap ?_
 refine ap ?_
 refine ab ?_
 refine aq (aj rfl) rfl rfl ?_
 refine aq (bK Tryz.underlying59 rfl) rfl rfl ?_
 refine aq (aj rfl) rfl rfl ?_
 refine ae ?_
 refine ak ?_
 refine aR ?_
 refine dp (fun w h => (h.f2.f2.f2.nilsl 26 1)) ?_
 refine dp (fun w h => h.weak (.cons_cons _ (.cons_cons _ (.cons_cons _ (.cons_cons _ (List.nil_sublist _))))) (fun s hs => hs)) ?_
 refine w_loopL (σ := Nat × (Hm × List aU) × Option Addr × Nat) [4, 13, 14, 15, 16, 55, 56, 57, 58, 59, 60, 61, 62, 63, 64, 65, 66, 67, 68, 69, 70, 71, 72, 73, 74, 75, 76, 77, 78, 79, 80, 81] (fun z => z.1 ≤ hosts.length ∧ z.2.1 = eA v (ep hm hosts) (hosts.take z.1) ∧ PInv z.2.1.1 ∧ z.2.1.1.length ≤ hm.length + z.1 ∧ z.2.1.2.length ≤ z.1) (fun z => hosts.length - z.1) (fun z => [(55, .int .i64 z.1), (4, .slice z.2.2.1 z.2.1.2.length z.2.2.2)]) (fun z => [Ch.ls z.2.2.1 z.2.2.2 26 1 dV z.2.1.2, Ch.mp r4 cB (fun b : Bool => .bool b) (stayM z.2.1.2), Ch.mp v.rh cB cT z.2.1.1, Ch.mp v.ra f8 cB (cg z.2.1.1)]) ((0, (ep hm hosts, []), none, 0)) ?_ ⟨rfl, rfl, trivial⟩ rfl (fun z hI => ?_)
 exact ⟨Nat.zero_le _, rfl, hi0.filter _, List.length_filter_le _ _, Nat.zero_le _⟩
 obtain ⟨i, ⟨hc, lost⟩, Aq, cq⟩ := z
 dsimp only at hI ⊢
 refine ap ?_
 refine ab ?_
 refine aq (bP rfl rfl) rfl rfl ?_
 refine aG (t := 56) rfl (fun h19_0 => ?_) (fun h19_0 => ?_)
 have hi : i < hosts.length := by omega
 have hnb := hhb _ (bc (d := ([] : aU)) hi)
 have hll := hI.2.2.2.2
 refine ae ?_
 refine ak ?_
 refine ap ?_
 refine aA rfl ?_
 refine aH ?_
 refine ak ?_
 refine ap ?_
 refine aR ?_
 refine ap ?_
 refine ab ?_
 refine aq (bq  Tryz.underlying59 bC rfl rfl (bH 2 rfl) rfl (by omega)) rfl rfl ?_
 refine aq (bu cO ([] : aU) bC rfl (bH 2 rfl) (by omega) rfl rfl) rfl rfl ?_
 refine aq (ai rfl) rfl rfl ?_
 refine ae ?_
 refine ak ?_
 refine ap ?_
 refine ab ?_
 refine aq (aj rfl) rfl rfl ?_
 refine aV rfl fM (dx _ (by omega)) rfl ?_
 refine aq (ai rfl) rfl rfl ?_
 refine ae ?_
 refine ak ?_
 refine ap ?_
 have hgi := give_inv (v := v) hI.2.2.1 (hosts.getD i [])
 have hlc := hI.2.2.2.1
 refine ab ?_
 refine aq (aj rfl) rfl rfl ?_
 refine aq (aj rfl) rfl rfl ?_
 refine di (fun w h => h.f3.f3.two) ?_
 refine c6 rfl ent_34 rfl (c_vGive v hc (cg hc) (hosts.getD i []) hv (hhb _ (bc hi)) (by omega)) (fun o => .z) (List.mem_of_getElem? (i := 0) rfl) (fun s hs => (List.mem_cons.1 hs).elim (fun e => e ▸ .head _) (fun h => (List.mem_singleton.1 h) ▸ .tail _ (.head _))) (fun o5 => ?_)
 refine di (fun w h => h.untwo) ?_
 refine di (fun w h => by rw [hgi.1] at h; exact h) ?_
 refine aq (aj rfl) rfl rfl ?_
 refine aq (aI rfl rfl) rfl rfl ?_
 refine aq (aI rfl rfl) rfl rfl ?_
 refine br aO rfl rfl (fun b7 => ?_)
 refine aW aO rfl rfl rfl .z rfl rfl rfl rfl ?_
 refine aq (ai rfl) rfl rfl ?_
 refine ae ?_
 refine ak ?_
 refine ap ?_
 refine ab ?_
 refine aq (aj rfl) rfl rfl ?_
 refine aq (ct rfl rfl) rfl rfl ?_
 refine aG (t := 68) rfl (fun h23_1 => ?_) (fun h23_1 => ?_)
 refine aq (aj rfl) rfl rfl ?_
 refine aw rfl rfl ?_
 refine aq (aj rfl) rfl rfl ?_
 refine aw rfl rfl ?_
 refine aq (aj rfl) rfl rfl ?_
 refine aw rfl rfl ?_
 refine aq (il Tryz.underlying167 (cH Tryz.underlying26) gG rfl rfl (fun w hw => hw.own _ (List.mem_of_getElem? (i := 4) rfl))) rfl rfl ?_
 refine bZ (t := 72) (.bool (decide (aX (hosts.getD i []) ∈ lost.map aX))) rfl (look1_b.trans (congrArg Value.bool (stay_lkp _ _))) ?_
 refine bi (t := 72) rfl (fun h23_5 => ?_) (fun h23_5 => ?_)
 refine aw rfl rfl ?_
 refine aq (bF rfl) rfl rfl ?_
 refine aq (aS rfl rfl) rfl rfl ?_
 refine ae ?_
 refine ak ?_
 refine ay rfl ?_
 refine aH ?_
 refine bo ?_
 refine ak ?_
 refine ab ?_
 refine aq (bd rfl rfl (by omega) (by omega)) rfl rfl ?_
 refine aq (aj rfl) rfl rfl ?_
 refine ae ?_
 refine bj ((i + 1, ((bN v hc (cg hc) (hosts.getD i [])).2.1, lost), Aq, cq)) ?_ ?_ ⟨rfl, rfl, trivial⟩ (by repeat (first | exact trivial | refine ⟨rfl, ?_⟩)) (fun w h => by exact (h.weak (.cons _ (.cons_cons _ (.cons_cons _ (.cons_cons _ (.cons_cons _ .slnil))))) (fun s hs => hs)).f1.f1.f3.f3)
 refine ⟨by show i + 1 ≤ _; omega, ?_, hgi.2.1, by show (bN v hc (cg hc) (hosts.getD i [])).2.1.length ≤ _; have := hgi.2.2; have := hI.2.2.2.1; omega, by have := hI.2.2.2.2; show lost.length ≤ i + 1; omega⟩
 show (_, _) = eA v _ (hosts.take (i + 1))
 rw [bV hosts [] i hi, hB, ← hI.2.1, fZ]
 focus first
   | (rw [if_pos ⟨h23_1, of_decide_eq_false h23_5⟩]; done)
   | (rw [if_neg (fun h => h23_1 h.1)]; done)
   | (rw [if_neg (fun h => h.2 (of_decide_eq_true h23_5))]; done)
 show hosts.length - (i + 1) < hosts.length - i
 omega
 refine aw rfl rfl ?_
 refine aq (bF rfl) rfl rfl ?_
 refine aq (aS rfl rfl) rfl rfl ?_
 refine ae ?_
 refine ak ?_
 refine aA rfl ?_
 refine ap ?_
 refine ab ?_
 refine aq (aj rfl) rfl rfl ?_
 refine aq (aj rfl) rfl rfl ?_
 refine o_mapUpd (encK := cB) (encV := (fun b : Bool => .bool b)) (v := true) Tryz.underlying167 (cH Tryz.underlying26) rfl rfl rfl (.s (.s (.s (.s (.z))))) ?_
 refine ae ?_
 refine ak ?_
 refine ab ?_
 refine aq (aj rfl) rfl rfl ?_
 refine aq (aj rfl) rfl rfl ?_
 refine gb (vs := [_]) ([hosts.getD i []] : List (aU)) cO Tryz.underlying59 bC rfl rfl rfl rfl rfl rfl (fun As8 => ?_)
 refine fR (enc := dV) (sz := 1) [hosts.getD i []] Tryz.underlying59 bC rfl rfl rfl (fun A c => (.s (.s (.s (.s (.z)))))) (src_L 0 Tryz.underlying59 rfl) (by simp only [List.length_cons, List.length_nil, Nat.zero_add]; omega) (by simp only [List.length_cons, List.length_nil, Nat.zero_add]; omega) rfl (fun A8 c8 => ?_)
 refine aq (ai rfl) rfl rfl ?_
 refine ae ?_
 refine bo ?_
 refine ak ?_
 refine ab ?_
 refine aq (bd rfl rfl (by omega) (by omega)) rfl rfl ?_
 refine aq (aj rfl) rfl rfl ?_
 refine ae ?_
 refine bj ((i + 1, ((bN v hc (cg hc) (hosts.getD i [])).2.1, lost ++ [hosts.getD i []]), A8, c8)) ?_ ?_ ⟨rfl, rfl, trivial⟩ (by repeat (first | exact trivial | refine ⟨rfl, ?_⟩)) (fun w h => by rw [stay_snoc]; exact (h.weak (.cons _ (.cons _ (.cons_cons _ (.cons_cons _ (.cons_cons _ (.cons_cons _ .slnil)))))) (fun s hs => hs)).f1.f1.f3.f3)
 refine ⟨by show i + 1 ≤ _; omega, ?_, hgi.2.1, by show (bN v hc (cg hc) (hosts.getD i [])).2.1.length ≤ _; have := hgi.2.2; have := hI.2.2.2.1; omega, by have := hI.2.2.2.2; show (lost ++ [hosts.getD i []]).length ≤ i + 1; simp; omega⟩
 show (_, _) = eA v _ (hosts.take (i + 1))
 rw [bV hosts [] i hi, hB, ← hI.2.1, fZ]
 focus first
   | (rw [if_pos ⟨h23_1, of_decide_eq_false h23_5⟩]; done)
   | (rw [if_neg (fun h => h23_1 h.1)]; done)
   | (rw [if_neg (fun h => h.2 (of_decide_eq_true h23_5))]; done)
 show hosts.length - (i + 1) < hosts.length - i
 omega
 refine aq (aj rfl) rfl rfl ?_
 refine aK rfl rfl rfl rfl ?_
 refine aK rfl rfl rfl rfl ?_
 refine aK rfl rfl rfl rfl ?_
 refine aK rfl rfl rfl rfl ?_
 refine aq (aL rfl rfl) rfl rfl ?_
 refine ae ?_
 refine ak ?_
 refine ay rfl ?_
 refine aH ?_
 refine bo ?_
 refine ak ?_
 refine ab ?_
 refine aq (bd rfl rfl (by omega) (by omega)) rfl rfl ?_
 refine aq (aj rfl) rfl rfl ?_
 refine ae ?_
 refine bj ((i + 1, ((bN v hc (cg hc) (hosts.getD i [])).2.1, lost), Aq, cq)) ?_ ?_ ⟨rfl, rfl, trivial⟩ (by repeat (first | exact trivial | refine ⟨rfl, ?_⟩)) (fun w h => by exact (h.weak (.cons _ (.cons_cons _ (.cons_cons _ (.cons_cons _ (.cons_cons _ .slnil))))) (fun s hs => hs)).f1.f1.f3.f3)
 refine ⟨by show i + 1 ≤ _; omega, ?_, hgi.2.1, by show (bN v hc (cg hc) (hosts.getD i [])).2.1.length ≤ _; have := hgi.2.2; have := hI.2.2.2.1; omega, by have := hI.2.2.2.2; show lost.length ≤ i + 1; omega⟩
 show (_, _) = eA v _ (hosts.take (i + 1))
 rw [bV hosts [] i hi, hB, ← hI.2.1, fZ]
 focus first
   | (rw [if_pos ⟨h23_1, of_decide_eq_false h23_5⟩]; done)
   | (rw [if_neg (fun h => h23_1 h.1)]; done)
   | (rw [if_neg (fun h => h.2 (of_decide_eq_true h23_5))]; done)
 show hosts.length - (i + 1) < hosts.length - i
 omega
 refine ae ?_
 refine ak ?_
 refine ap ?_
 refine ay rfl ?_
 refine bE ?_
 refine aZ ?_
 refine aY ?_
 refine a7 ?_
 refine ak ?_
 refine ap ?_
 refine ab ?_
 refine aq (aj rfl) rfl rfl ?_
 refine aq (ai rfl) rfl rfl ?_
 refine aq (ai rfl) rfl rfl ?_
 refine ae ?_
 refine ak ?_
 refine aJ ?_
 refine aN (ts := [4, 5]) rfl rfl rfl (fun w hw => ?_)
 have hil : i = hosts.length := by omega
 have hG : eA v (ep hm hosts) hosts = (hc, lost) := by rw [hI.2.1, hil, List.take_length]
 have hE : cU v hm hosts = ((lost, 0), hc) := by rw [cU, if_neg (by rw [hall]; decide), hG]
 obtain ⟨h1, h2, h3⟩ := (hw.weak (.cons_cons _ (.cons _ (.cons_cons _ (.cons_cons _ .slnil)))) (fun s hs => hs)).f2.f2.two.two.uc
 exact ⟨(Aq, cq), by rw [hE]; rfl, h1, by rw [hE]; exact h2, by rw [hE]; exact h3⟩
end Go.Proofs.YtnpdgmoeoidppaaGreat

/- vips: a pool is cloned -/
namespace Go.Proofs.YtnpdgmoeoidppaaGreat
open Go.RowKit Go.Shelf
set_option linter.unusedVariables false
set_option linter.unusedSimpArgs false

theorem cW (x0 : Bool) (x1 : Int) (x2 : Int) (x3 : Int) (x4 : Option Addr) (x5 : Nat) (x6 : Nat) (x7 : Option Nat) (x8 : Option Nat) (x9 : Int) : Tryz.prog.built 146 [(0, .agg [.bool x0, .int .u64 x1, .int .u64 x2, .int .i64 x3, .slice x4 x5 x6].toArray), (1, .map x7), (2, .map x8), (3, .int .i64 x9)] = some [.bool x0, .int .u64 x1, .int .u64 x2, .int .i64 x3, .slice x4 x5 x6, .map x7, .map x8, .int .i64 x9].toArray := by kernel_rfl
theorem fG : TyI Tryz.prog 67 true 5 56 (.agg #[.bool false, .int .u64 0, .int .u64 0, .int .i64 0, .slice none 0 0]) := TyI.mk' (by kernel_rfl) (fun _ => by kernel_rfl)

end Go.Proofs.YtnpdgmoeoidppaaGreat

/- law 14: a pool is made; the examples; a pool that nobody made -/
namespace Go.Proofs.YtnpdgmoeoidppaaGreat
open Go.RowKit Go.Shelf
set_option linter.unusedVariables false
set_option linter.unusedSimpArgs false

theorem bu_29_2 (x0 : Int) : Tryz.prog.built 29 [(2, .int .u64 x0)] = some [.bool false, .int .u64 0, .int .u64 x0].toArray := by kernel_rfl
theorem bu_64_0_1 (x0 : Bool) (x1 : Int) (x2 : Int) (x3 : Int) : Tryz.prog.built 64 [(0, .agg [.bool x0, .int .u64 x1, .int .u64 x2].toArray), (1, .int .i64 x3)] = some [.bool x0, .int .u64 x1, .int .u64 x2, .int .i64 x3].toArray := by kernel_rfl
theorem bu_67_0 (x0 : Bool) (x1 : Int) (x2 : Int) (x3 : Int) : Tryz.prog.built 67 [(0, .agg [.bool x0, .int .u64 x1, .int .u64 x2, .int .i64 x3].toArray)] = some [.bool x0, .int .u64 x1, .int .u64 x2, .int .i64 x3, .slice none 0 0].toArray := by kernel_rfl
theorem ent_31 : Enters Tryz.prog 31 := enters_of Tryz.func31 (by kernel_rfl) rfl
theorem ent_38 : Enters Tryz.prog 38 := enters_of Tryz.func38 (by kernel_rfl) rfl
theorem ent_43 : Enters Tryz.prog 43 := enters_of Tryz.func43 (by kernel_rfl) rfl
theorem ent_89 : Enters Tryz.prog 89 := enters_of Tryz.func89 (by kernel_rfl) rfl
theorem ent_90 : Enters Tryz.prog 90 := enters_of Tryz.func90 (by kernel_rfl) rfl
theorem fh : Enters Tryz.prog 91 := enters_of Tryz.func91 (by kernel_rfl) rfl

set_option maxRecDepth 100000 in
theorem c_vNewbad (rg : Rg) (res : List Rg) (A : Option Addr) (c : Nat) (hr : RgOk rg) (hrs : ∀ x ∈ res, RgOk x) (hl : res.length ≤ 1000000000000) (h0 : f5 (rg :: res) ≠ 0) : RC Tryz.prog 31 #[.agg (plC rg A res.length c).toArray] [Ch.rd A 4 ea res] (α := Unit) (fun _ => .tuple #[.pointer none, .int .i64 (f5 (rg :: res))]) (fun _ => []) := by
 refine bp (args := [.agg (plC rg A res.length c).toArray]) 24 Tryz.func31 rfl rfl rfl (fun w0 => ?_)
 refine ap ?_
 refine ab ?_
 refine bI rfl rfl rfl (fun b1 => ?_)
 refine aq (ai rfl) rfl rfl ?_
 refine aq (ai rfl) rfl rfl ?_
 refine ae ?_
 refine ak ?_
 refine ap ?_
 refine ap ?_
 refine ab ?_
 refine aq (aM 0 fG rfl rfl rfl rfl) rfl rfl ?_
 refine bh rfl ent_43 rfl (c_vCheck rg res A c hr hrs hl) (fun w hw => (aP (ce 0 rfl hw) a8)) ?_
 refine aq (ai rfl) rfl rfl ?_
 refine ae ?_
 refine ak ?_
 refine ap ?_
 refine ab ?_
 refine aq (aj rfl) rfl rfl ?_
 refine aq (ct rfl rfl) rfl rfl ?_
 refine gK (t := 8) rfl h0 ?_
 refine ae ?_
 refine ak ?_
 refine aA rfl ?_
 refine ap ?_
 refine ab ?_
 refine aq (aj rfl) rfl rfl ?_
 refine aq (ai rfl) rfl rfl ?_
 refine aq (ai rfl) rfl rfl ?_
 refine ae ?_
 refine ak ?_
 refine aJ ?_
 refine aC ?_
 refine aN (ts := [2, 3]) rfl rfl rfl (fun w hw => ?_)
 exact ⟨(), rfl, hw.base, (hw.weak (List.nil_sublist _) (fun s hs => hs)).toNews⟩

set_option maxRecDepth 100000 in
theorem c_vNew (rg : Rg) (res : List Rg) (A : Option Addr) (c : Nat) (hr : RgOk rg) (hrs : ∀ x ∈ res, RgOk x) (hl : res.length ≤ 1000000000000) (h0 : f5 (rg :: res) = 0) : RC Tryz.prog 31 #[.agg (plC rg A res.length c).toArray] [Ch.rd A 4 ea res] (α := {v : Vp // v.rg = rg ∧ v.res = res ∧ v.room = du rg res}) (fun o => .tuple #[.pointer (some ⟨o.1.b, 0, none⟩), .int .i64 0]) (fun o => [vmC o.1 [] [], Ch.ls o.1.A o.1.c 64 4 ea o.1.res, Ch.row o.1.b (vpC o.1) 146]) := by
 refine bp (args := [.agg (plC rg A res.length c).toArray]) 24 Tryz.func31 rfl rfl rfl (fun w0 => ?_)
 refine ap ?_
 refine ab ?_
 refine bI rfl rfl rfl (fun b1 => ?_)
 refine aq (ai rfl) rfl rfl ?_
 refine aq (ai rfl) rfl rfl ?_
 refine ae ?_
 refine ak ?_
 refine ap ?_
 refine ap ?_
 refine ab ?_
 refine aq (aM 0 fG rfl rfl rfl rfl) rfl rfl ?_
 refine bh rfl ent_43 rfl (c_vCheck rg res A c hr hrs hl) (fun w hw => (aP (ce 0 rfl hw) a8)) ?_
 refine aq (ai rfl) rfl rfl ?_
 refine ae ?_
 refine ak ?_
 refine ap ?_
 refine ab ?_
 refine aq (aj rfl) rfl rfl ?_
 refine aq (ct rfl rfl) rfl rfl ?_
 refine ey (t := 8) rfl (fun h => h h0) ?_
 refine ae ?_
 refine ak ?_
 refine ay rfl ?_
 refine aH ?_
 refine ak ?_
 refine ap ?_
 refine ab ?_
 refine aq (aF eD rfl) rfl rfl ?_
 refine aq (aQ 0 gJ rfl rfl rfl) rfl rfl ?_
 refine cv rfl ent_90 rfl (c_Clone_rg res A c hl) (fun w hw => (aP (ce 0 rfl hw) a8)) (fun ⟨A1, c1⟩ => ?_)
 refine aq (aF eD rfl) rfl rfl ?_
 refine aW gJ rfl rfl rfl (.s (.z)) rfl rfl rfl rfl ?_
 refine ae ?_
 refine ak ?_
 refine ap ?_
 refine c5 12 rfl mixed ?_
 refine ax (i := 0) rfl ah (aM 1 fG rfl rfl rfl rfl) av av rfl (aa ar) (by kernel_rfl) rfl ?_
 refine ax (i := 3) rfl ah (aF eG rfl) av av rfl (aa ar) (by kernel_rfl) rfl ?_
 refine ax (i := 4) rfl ah (aM 1 ck rfl rfl rfl rfl) av av rfl (aa ar) (by kernel_rfl) rfl ?_
 refine ax (i := 5) rfl ah (aF eD rfl) av av rfl (aa ar) (by kernel_rfl) rfl ?_
 refine ax (i := 6) rfl ah (aQ 1 gJ rfl rfl rfl) av av rfl (aa ar) (by kernel_rfl) rfl ?_
 refine hJ (js := [1, 2, 7]) (by kernel_rfl) rfl ?_
 refine cN (i := 1) rfl rfl rfl (fun _ _ _ => bx (by kernel_rfl)) rfl ?_ ?_
 refine cM cB cT rfl (fun r2 => ?_)
 refine ae ?_
 refine bz (cr 1) ?_
 refine hJ (js := [2, 7]) (by kernel_rfl) rfl ?_
 refine cN (i := 2) rfl rfl rfl (fun _ _ _ => bx (by kernel_rfl)) rfl ?_ ?_
 refine cM f8 cB rfl (fun r3 => ?_)
 refine ae ?_
 refine bz (cr 2) ?_
 refine cu (i := 7) rfl rfl rfl (bf rfl fh) (by kernel_rfl) rfl ?_
 refine bh rfl fh rfl (iq rg res A1 c1 hr hrs hl) (fun w hw => (aP (d9 2 rfl hw) a8)) ?_
 refine ae ?_
 refine bz (cr 2) ?_
 refine ax (i := 8) rfl ah (cc rfl (cW _ _ _ _ _ _ _ _ _ _)) (cr 2) av rfl (aa ar) (by kernel_rfl) rfl ?_
 refine cu (i := 9) rfl rfl rfl (fun _ _ _ => bx (by kernel_rfl)) (by kernel_rfl) rfl ?_
 refine bI rfl rfl rfl (fun b5 => ?_)
 refine ae ?_
 refine bz (cr 3) ?_
 refine ax (i := 10) rfl ah (ai rfl) (cr 3) av rfl (aa ar) (by kernel_rfl) rfl ?_
 refine ax (i := 11) rfl ah (ai rfl) (cr 3) av rfl (aa ar) (by kernel_rfl) rfl ?_
 refine cm (by kernel_rfl) ?_
 refine ak ?_
 refine aJ ?_
 refine aN (ts := [2, 3]) rfl rfl rfl (fun w hw => ?_)
 exact ⟨⟨⟨rg, res, A1, c1, (du rg res : Nat), b5, r2, r3⟩, rfl, rfl, rfl⟩, rfl, hw.base, ((hw.weak (.cons_cons _ (.cons_cons _ (.cons_cons _ (.cons_cons _ (.cons _ .slnil))))) (fun s hs => hs)).f3.f2.f3).two.toNews⟩
 refine cN (i := 7) rfl rfl rfl (bf rfl fh) rfl ?_ ?_
 refine bh rfl fh rfl (iq rg res A1 c1 hr hrs hl) (fun w hw => (aP (d9 1 rfl hw) a8)) ?_
 refine ae ?_
 refine bz (cr 1) ?_
 refine cu (i := 2) rfl rfl rfl (fun _ _ _ => bx (by kernel_rfl)) (by kernel_rfl) rfl ?_
 refine cM f8 cB rfl (fun r5 => ?_)
 refine ae ?_
 refine bz (cr 2) ?_
 refine ax (i := 8) rfl ah (cc rfl (cW _ _ _ _ _ _ _ _ _ _)) (cr 2) av rfl (aa ar) (by kernel_rfl) rfl ?_
 refine cu (i := 9) rfl rfl rfl (fun _ _ _ => bx (by kernel_rfl)) (by kernel_rfl) rfl ?_
 refine bI rfl rfl rfl (fun b7 => ?_)
 refine ae ?_
 refine bz (cr 3) ?_
 refine ax (i := 10) rfl ah (ai rfl) (cr 3) av rfl (aa ar) (by kernel_rfl) rfl ?_
 refine ax (i := 11) rfl ah (ai rfl) (cr 3) av rfl (aa ar) (by kernel_rfl) rfl ?_
 refine cm (by kernel_rfl) ?_
 refine ak ?_
 refine aJ ?_
 refine aN (ts := [2, 3]) rfl rfl rfl (fun w hw => ?_)
 exact ⟨⟨⟨rg, res, A1, c1, (du rg res : Nat), b7, r2, r5⟩, rfl, rfl, rfl⟩, rfl, hw.base, ((hw.weak (.cons_cons _ (.cons_cons _ (.cons_cons _ (.cons_cons _ (.cons _ .slnil))))) (fun s hs => hs)).f3.f2.f3).two.toNews⟩
 exact fO
 refine cN (i := 2) rfl rfl rfl (fun _ _ _ => bx (by kernel_rfl)) rfl ?_ ?_
 refine cM f8 cB rfl (fun r7 => ?_)
 refine ae ?_
 refine bz (cr 1) ?_
 refine hJ (js := [1, 7]) (by kernel_rfl) rfl ?_
 refine cN (i := 1) rfl rfl rfl (fun _ _ _ => bx (by kernel_rfl)) rfl ?_ ?_
 refine cM cB cT rfl (fun r8 => ?_)
 refine ae ?_
 refine bz (cr 2) ?_
 refine cu (i := 7) rfl rfl rfl (bf rfl fh) (by kernel_rfl) rfl ?_
 refine bh rfl fh rfl (iq rg res A1 c1 hr hrs hl) (fun w hw => (aP (d9 2 rfl hw) a8)) ?_
 refine ae ?_
 refine bz (cr 2) ?_
 refine ax (i := 8) rfl ah (cc rfl (cW _ _ _ _ _ _ _ _ _ _)) (cr 2) av rfl (aa ar) (by kernel_rfl) rfl ?_
 refine cu (i := 9) rfl rfl rfl (fun _ _ _ => bx (by kernel_rfl)) (by kernel_rfl) rfl ?_
 refine bI rfl rfl rfl (fun b10 => ?_)
 refine ae ?_
 refine bz (cr 3) ?_
 refine ax (i := 10) rfl ah (ai rfl) (cr 3) av rfl (aa ar) (by kernel_rfl) rfl ?_
 refine ax (i := 11) rfl ah (ai rfl) (cr 3) av rfl (aa ar) (by kernel_rfl) rfl ?_
 refine cm (by kernel_rfl) ?_
 refine ak ?_
 refine aJ ?_
 refine aN (ts := [2, 3]) rfl rfl rfl (fun w hw => ?_)
 exact ⟨⟨⟨rg, res, A1, c1, (du rg res : Nat), b10, r8, r7⟩, rfl, rfl, rfl⟩, rfl, hw.base, ((hw.weak (.cons_cons _ (.cons_cons _ (.cons_cons _ (.cons_cons _ (.cons _ .slnil))))) (fun s hs => hs)).f3.f3.f3).two.toNews⟩
 refine cN (i := 7) rfl rfl rfl (bf rfl fh) rfl ?_ ?_
 refine bh rfl fh rfl (iq rg res A1 c1 hr hrs hl) (fun w hw => (aP (d9 1 rfl hw) a8)) ?_
 refine ae ?_
 refine bz (cr 1) ?_
 refine cu (i := 1) rfl rfl rfl (fun _ _ _ => bx (by kernel_rfl)) (by kernel_rfl) rfl ?_
 refine cM cB cT rfl (fun r10 => ?_)
 refine ae ?_
 refine bz (cr 2) ?_
 refine ax (i := 8) rfl ah (cc rfl (cW _ _ _ _ _ _ _ _ _ _)) (cr 2) av rfl (aa ar) (by kernel_rfl) rfl ?_
 refine cu (i := 9) rfl rfl rfl (fun _ _ _ => bx (by kernel_rfl)) (by kernel_rfl) rfl ?_
 refine bI rfl rfl rfl (fun b12 => ?_)
 refine ae ?_
 refine bz (cr 3) ?_
 refine ax (i := 10) rfl ah (ai rfl) (cr 3) av rfl (aa ar) (by kernel_rfl) rfl ?_
 refine ax (i := 11) rfl ah (ai rfl) (cr 3) av rfl (aa ar) (by kernel_rfl) rfl ?_
 refine cm (by kernel_rfl) ?_
 refine ak ?_
 refine aJ ?_
 refine aN (ts := [2, 3]) rfl rfl rfl (fun w hw => ?_)
 exact ⟨⟨⟨rg, res, A1, c1, (du rg res : Nat), b12, r10, r7⟩, rfl, rfl, rfl⟩, rfl, hw.base, ((hw.weak (.cons_cons _ (.cons_cons _ (.cons_cons _ (.cons_cons _ (.cons _ .slnil))))) (fun s hs => hs)).f3.f3.f3).two.toNews⟩
 exact fO
 refine cN (i := 7) rfl rfl rfl (bf rfl fh) rfl ?_ ?_
 refine bh rfl fh rfl (iq rg res A1 c1 hr hrs hl) (fun w hw => (aP (d9 0 rfl hw) a8)) ?_
 refine ae ?_
 refine bz av ?_
 refine hJ (js := [1, 2]) (by kernel_rfl) rfl ?_
 refine cN (i := 1) rfl rfl rfl (fun _ _ _ => bx (by kernel_rfl)) rfl ?_ ?_
 refine cM cB cT rfl (fun r12 => ?_)
 refine ae ?_
 refine bz (cr 1) ?_
 refine cu (i := 2) rfl rfl rfl (fun _ _ _ => bx (by kernel_rfl)) (by kernel_rfl) rfl ?_
 refine cM f8 cB rfl (fun r13 => ?_)
 refine ae ?_
 refine bz (cr 2) ?_
 refine ax (i := 8) rfl ah (cc rfl (cW _ _ _ _ _ _ _ _ _ _)) (cr 2) av rfl (aa ar) (by kernel_rfl) rfl ?_
 refine cu (i := 9) rfl rfl rfl (fun _ _ _ => bx (by kernel_rfl)) (by kernel_rfl) rfl ?_
 refine bI rfl rfl rfl (fun b15 => ?_)
 refine ae ?_
 refine bz (cr 3) ?_
 refine ax (i := 10) rfl ah (ai rfl) (cr 3) av rfl (aa ar) (by kernel_rfl) rfl ?_
 refine ax (i := 11) rfl ah (ai rfl) (cr 3) av rfl (aa ar) (by kernel_rfl) rfl ?_
 refine cm (by kernel_rfl) ?_
 refine ak ?_
 refine aJ ?_
 refine aN (ts := [2, 3]) rfl rfl rfl (fun w hw => ?_)
 exact ⟨⟨⟨rg, res, A1, c1, (du rg res : Nat), b15, r12, r13⟩, rfl, rfl, rfl⟩, rfl, hw.base, ((hw.weak (.cons_cons _ (.cons_cons _ (.cons_cons _ (.cons_cons _ (.cons _ .slnil))))) (fun s hs => hs)).f3.f2.f3).two.toNews⟩
 refine cN (i := 2) rfl rfl rfl (fun _ _ _ => bx (by kernel_rfl)) rfl ?_ ?_
 refine cM f8 cB rfl (fun r15 => ?_)
 refine ae ?_
 refine bz (cr 1) ?_
 refine cu (i := 1) rfl rfl rfl (fun _ _ _ => bx (by kernel_rfl)) (by kernel_rfl) rfl ?_
 refine cM cB cT rfl (fun r16 => ?_)
 refine ae ?_
 refine bz (cr 2) ?_
 refine ax (i := 8) rfl ah (cc rfl (cW _ _ _ _ _ _ _ _ _ _)) (cr 2) av rfl (aa ar) (by kernel_rfl) rfl ?_
 refine cu (i := 9) rfl rfl rfl (fun _ _ _ => bx (by kernel_rfl)) (by kernel_rfl) rfl ?_
 refine bI rfl rfl rfl (fun b18 => ?_)
 refine ae ?_
 refine bz (cr 3) ?_
 refine ax (i := 10) rfl ah (ai rfl) (cr 3) av rfl (aa ar) (by kernel_rfl) rfl ?_
 refine ax (i := 11) rfl ah (ai rfl) (cr 3) av rfl (aa ar) (by kernel_rfl) rfl ?_
 refine cm (by kernel_rfl) ?_
 refine ak ?_
 refine aJ ?_
 refine aN (ts := [2, 3]) rfl rfl rfl (fun w hw => ?_)
 exact ⟨⟨⟨rg, res, A1, c1, (du rg res : Nat), b18, r16, r15⟩, rfl, rfl, rfl⟩, rfl, hw.base, ((hw.weak (.cons_cons _ (.cons_cons _ (.cons_cons _ (.cons_cons _ (.cons _ .slnil))))) (fun s hs => hs)).f3.f3.f3).two.toNews⟩
 exact fO
 exact fO

theorem new_ok {rg : Rg} {res : List Rg} (hr : RgOk rg) (hrs : ∀ x ∈ res, RgOk x) (hl : res.length ≤ 1000000000000) {v : Vp} (h : v.rg = rg ∧ v.res = res ∧ v.room = du rg res) : VOk v :=
  ⟨h.1 ▸ hr, h.2.1 ▸ hrs, by rw [h.2.1]; exact hl, by rw [h.2.2]; have := free_le rg res; omega⟩
theorem give_cong {v v' : Vp} (h : v.rg = v'.rg ∧ v.res = v'.res ∧ v.room = v'.room) (hm : Hm) (am : Am) (n : aU) : bN v hm am n = bN v' hm am n := by
  obtain ⟨rg, res, A, c, room, b, rh, ra⟩ := v
  obtain ⟨rg', res', A', c', room', b', rh', ra'⟩ := v'
  obtain ⟨h1, h2, h3⟩ := h
  dsimp only at h1 h2 h3
  subst h1 h2 h3
  rfl
def rg14 : Rg := ⟨⟨false, 0, 167772160⟩, 31⟩
def v14 : Vp := ⟨rg14, [], none, 0, 2, 0, 0, 0⟩
theorem rg14_ok : RgOk rg14 := by unfold RgOk f7 rg14; decide
theorem ck14 : f5 [rg14] = 0 := by decide +kernel
theorem fr14 : du rg14 [] = 2 := by decide +kernel
def s14a : Hm × Am := (bN v14 [] [] [1, 97]).2
def s14b : Hm × Am := (bN v14 s14a.1 s14a.2 [1, 98]).2
def s14f : Hm × Am := (bN v14 s14b.1 s14b.2 [1, 99]).2
def s14c : Hm × Am := (dY s14f.1 s14f.2 [1, 65]).2
theorem g14a : (bN v14 [] [] [1, 97]).1.2 = 0 := by decide +kernel
theorem g14b : (bN v14 s14a.1 s14a.2 [1, 98]).1.2 = 0 ∧ (bN v14 [] [] [1, 97]).1.1 ≠ (bN v14 s14a.1 s14a.2 [1, 98]).1.1 := by decide +kernel
theorem g14c : (bN v14 s14b.1 s14b.2 [1, 99]).1.2 = 10 := by decide +kernel
theorem g14d : (bN v14 s14c.1 s14c.2 [1, 99]).1.2 = 0 ∧ (bN v14 s14c.1 s14c.2 [1, 99]).1.1 = (bN v14 [] [] [1, 97]).1.1 := by decide +kernel
theorem ok14 {v : Vp} (h : v.rg = rg14 ∧ v.res = [] ∧ v.room = 2) : VOk v := ⟨h.1 ▸ rg14_ok, by rw [h.2.1]; exact nofun, by rw [h.2.1]; decide, by rw [h.2.2]; decide⟩
theorem c_g14 {v : Vp} (h : v.rg = rg14 ∧ v.res = [] ∧ v.room = 2) (hm : Hm) (am : Am) (n : aU) (hn : n.length ≤ 1000000000) (hml : hm.length ≤ 1000000) :
    UC Tryz.prog 34 #[.pointer (some ⟨v.b, 0, none⟩), .string (ba n)] [Ch.row v.b (vpC v) 146, Ch.rd v.A 4 ea v.res] (vmC v hm am) (fun _ : Unit => .tuple #[.agg (dW (bN v14 hm am n).1.1).toArray, .int .i64 (bN v14 hm am n).1.2]) (fun _ : Unit => vmC v (bN v14 hm am n).2.1 (bN v14 hm am n).2.2) := by
  rw [← give_cong (v := v) (v' := v14) h]; exact c_vGive v hm am n (ok14 h) hn hml

theorem c_two14  : RC Tryz.prog 89 #[] [] (α := Unit) (fun _ => .agg (plC rg14 none 0 0).toArray) (fun _ => []) := by
 refine bp (args := []) 4 Tryz.func89 rfl rfl rfl (fun w0 => ?_)
 refine ap ?_
 refine ab ?_
 refine br fG rfl rfl (fun b1 => ?_)
 refine ae ?_
 refine ak ?_
 refine ap ?_
 refine ab ?_
 refine aq (cc rfl (bu_29_2 _)) rfl rfl ?_
 refine aq (cc rfl (bu_64_0_1 _ _ _ _)) rfl rfl ?_
 refine aq (cc rfl (bu_67_0 _ _ _ _)) rfl rfl ?_
 refine aW fG rfl rfl rfl .z rfl rfl rfl rfl ?_
 refine ae ?_
 refine ak ?_
 refine aJ ?_
 refine dT (rs := [.cell 0 67]) rfl (bG 0 fG rfl rfl rfl rfl bW) rfl (fun w hw => ?_)
 exact ⟨(), rfl, hw.base, (hw.weak (List.nil_sublist _) (fun s hs => hs)).toNews⟩

set_option maxRecDepth 100000 in
set_option maxHeartbeats 4000000 in
theorem c_lives14  : Pure Tryz.prog 30 #[] (.bool true) := by
 intro w0
 refine bb (ok0 := no) (S := []) (args := []) 68 Tryz.func30 rfl rfl rfl (by simp) (by simp) ?_
 refine ap ?_
 refine ab ?_
 refine aq (ai rfl) rfl rfl ?_
 refine ae ?_
 refine ak ?_
 refine ap ?_
 refine ab ?_
 refine bh rfl ent_89 rfl c_two14 (fun w hw => a8) ?_
 refine o_callr3 rfl ent_31 rfl (c_vNew rg14 [] none 0 rg14_ok nofun (by decide) ck14) (fun w hw => (aP (rd_none) a8)) (fun ⟨v, hv⟩ => ?_)
 have hv14 : v.rg = rg14 ∧ v.res = [] ∧ v.room = 2 := ⟨hv.1, hv.2.1, hv.2.2.trans (by rw [fr14]; rfl)⟩
 refine di (fun w h => h.f1.toRdV.f1.freeze) ?_
 refine aq (aj rfl) rfl rfl ?_
 refine aq (aI rfl rfl) rfl rfl ?_
 refine aq (aI rfl rfl) rfl rfl ?_
 refine aq (ai rfl) rfl rfl ?_
 refine aq (ai rfl) rfl rfl ?_
 refine ae ?_
 refine ak ?_
 refine ap ?_
 refine ap ?_
 refine ab ?_
 refine aq (aj rfl) rfl rfl ?_
 refine aq (ct rfl rfl) rfl rfl ?_
 refine ey (t := 17) rfl (fun h => h rfl) ?_
 refine aq (aj rfl) rfl rfl ?_
 refine aw rfl rfl ?_
 refine aq (aj rfl) rfl rfl ?_
 refine aw rfl rfl ?_
 refine aq (gv Tryz.underlying68 rfl rfl) rfl rfl ?_
 refine bZ (t := 20) (.bool false) rfl (congrArg Value.bool rfl) ?_
 refine aq (aL rfl rfl) rfl rfl ?_
 refine ae ?_
 refine ak ?_
 refine ay rfl ?_
 refine aH ?_
 refine ak ?_
 refine ap ?_
 refine ab ?_
 refine aq (aj rfl) rfl rfl ?_
 refine c6 rfl ent_34 rfl (c_g14 hv14 [] [] [1, 97] (by decide) (by as_aux_lemma => decide +kernel)) (fun o => .z) (List.mem_of_getElem? (i := 0) rfl) (fun s hs => (List.mem_cons.1 hs).elim (fun e => e ▸ .head _) (fun h => (List.mem_singleton.1 h) ▸ .tail _ (.head _))) (fun o1 => ?_)
 refine aq (aj rfl) rfl rfl ?_
 refine aq (aI rfl rfl) rfl rfl ?_
 refine aq (aI rfl rfl) rfl rfl ?_
 refine br aO rfl rfl (fun b3 => ?_)
 refine aW aO rfl rfl rfl .z rfl rfl rfl rfl ?_
 refine aq (ai rfl) rfl rfl ?_
 refine ae ?_
 refine ak ?_
 refine ap ?_
 refine ab ?_
 refine aq (aj rfl) rfl rfl ?_
 refine c6 rfl ent_34 rfl (c_g14 hv14 s14a.1 s14a.2 [1, 98] (by decide) (by as_aux_lemma => decide +kernel)) (fun o => (.s (.z))) (List.mem_of_getElem? (i := 1) rfl) (fun s hs => (List.mem_cons.1 hs).elim (fun e => e ▸ .head _) (fun h => (List.mem_singleton.1 h) ▸ .tail _ (.head _))) (fun o3 => ?_)
 refine aq (aj rfl) rfl rfl ?_
 refine aq (aI rfl rfl) rfl rfl ?_
 refine aq (aI rfl rfl) rfl rfl ?_
 refine br aO rfl rfl (fun b5 => ?_)
 refine aW aO rfl rfl rfl .z rfl rfl rfl rfl ?_
 refine aq (ai rfl) rfl rfl ?_
 refine ae ?_
 refine ak ?_
 refine ap ?_
 refine ab ?_
 refine aq (aj rfl) rfl rfl ?_
 refine c6 rfl ent_34 rfl (c_g14 hv14 s14b.1 s14b.2 [1, 99] (by decide) (by as_aux_lemma => decide +kernel)) (fun o => (.s (.s (.z)))) (List.mem_of_getElem? (i := 2) rfl) (fun s hs => (List.mem_cons.1 hs).elim (fun e => e ▸ .head _) (fun h => (List.mem_singleton.1 h) ▸ .tail _ (.head _))) (fun o5 => ?_)
 refine aq (aj rfl) rfl rfl ?_
 refine aq (aI rfl rfl) rfl rfl ?_
 refine aq (aI rfl rfl) rfl rfl ?_
 refine br aO rfl rfl (fun b7 => ?_)
 refine aW aO rfl rfl rfl .z rfl rfl rfl rfl ?_
 refine aq (ai rfl) rfl rfl ?_
 refine ae ?_
 refine ak ?_
 refine ap ?_
 refine ab ?_
 refine aq (aj rfl) rfl rfl ?_
 refine c6 rfl ent_38 rfl (c_vDrop v s14f.1 s14f.2 [1, 65] (by decide)) (fun o => (.s (.s (.s (.z))))) (List.mem_of_getElem? (i := 3) rfl) (fun s hs => (List.mem_singleton.1 hs) ▸ .head _) (fun o7 => ?_)
 refine ae ?_
 refine ak ?_
 refine ap ?_
 refine ab ?_
 refine aq (aj rfl) rfl rfl ?_
 refine c6 rfl ent_34 rfl (c_g14 hv14 s14c.1 s14c.2 [1, 99] (by decide) (by as_aux_lemma => decide +kernel)) (fun o => (.s (.s (.s (.z))))) (List.mem_of_getElem? (i := 3) rfl) (fun s hs => (List.mem_cons.1 hs).elim (fun e => e ▸ .head _) (fun h => (List.mem_singleton.1 h) ▸ .tail _ (.head _))) (fun o8 => ?_)
 refine aq (aj rfl) rfl rfl ?_
 refine aq (aI rfl rfl) rfl rfl ?_
 refine aq (aI rfl rfl) rfl rfl ?_
 refine br aO rfl rfl (fun b10 => ?_)
 refine aW aO rfl rfl rfl .z rfl rfl rfl rfl ?_
 refine aq (ai rfl) rfl rfl ?_
 refine ae ?_
 refine ak ?_
 refine ap ?_
 refine ab ?_
 refine aq (aj rfl) rfl rfl ?_
 refine aq (fc rfl rfl) rfl rfl ?_
 refine gK (t := 45) rfl g14a ?_
 refine aq (aj rfl) rfl rfl ?_
 refine aw rfl rfl ?_
 refine aq (aj rfl) rfl rfl ?_
 refine aw rfl rfl ?_
 refine aq (fc rfl rfl) rfl rfl ?_
 refine gK (t := 48) rfl g14b.1 ?_
 refine aq (aS rfl rfl) rfl rfl ?_
 refine aq (aj rfl) rfl rfl ?_
 refine aw rfl rfl ?_
 refine aq (aj rfl) rfl rfl ?_
 refine aw rfl rfl ?_
 refine aq (fc rfl rfl) rfl rfl ?_
 refine gK (t := 52) rfl g14c ?_
 refine aq (aS rfl rfl) rfl rfl ?_
 refine aq (aj rfl) rfl rfl ?_
 refine aw rfl rfl ?_
 refine aq (aj rfl) rfl rfl ?_
 refine aw rfl rfl ?_
 refine aq (fc rfl rfl) rfl rfl ?_
 refine gK (t := 56) rfl g14d.1 ?_
 refine aq (aS rfl rfl) rfl rfl ?_
 refine aq (aj rfl) rfl rfl ?_
 refine aw rfl rfl ?_
 refine aq (aM 3 aO rfl rfl rfl rfl) rfl rfl ?_
 refine aw rfl rfl ?_
 refine aq (aM 2 aO rfl rfl rfl rfl) rfl rfl ?_
 refine aw rfl rfl ?_
 refine aq (gw (by as_aux_lemma => kernel_rfl) rfl rfl (fW _ _) rfl) rfl rfl ?_
 refine gK (t := 61) rfl g14b.2 ?_
 refine aq (aS rfl rfl) rfl rfl ?_
 refine aq (aj rfl) rfl rfl ?_
 refine aw rfl rfl ?_
 refine aq (aM 0 aO rfl rfl rfl rfl) rfl rfl ?_
 refine aw rfl rfl ?_
 refine aq (aM 3 aO rfl rfl rfl rfl) rfl rfl ?_
 refine aw rfl rfl ?_
 refine aq (y_eqst (by as_aux_lemma => kernel_rfl) rfl rfl (fW _ _) rfl) rfl rfl ?_
 refine gK (t := 66) rfl g14d.2 ?_
 refine aq (aS rfl rfl) rfl rfl ?_
 refine aq (ai rfl) rfl rfl ?_
 refine ae ?_
 refine ak ?_
 refine aJ ?_
 refine aN (ts := [0]) rfl rfl rfl (fun w hw => ?_)
 exact ⟨rfl, hw.base⟩

end Go.Proofs.YtnpdgmoeoidppaaGreat

/- law 14: what the chapter tells -/
namespace Go.Proofs.YtnpdgmoeoidppaaGreat
open Go.RowKit Go.Shelf
set_option linter.unusedVariables false
set_option linter.unusedSimpArgs false

theorem sub1 {α : Type} {a s : α} {S : List α} (ha : a ∈ S) (h : s ∈ [a]) : s ∈ S := by rw [List.mem_singleton.1 h]; exact ha
theorem sub2 {α : Type} {a b s : α} {S : List α} (ha : a ∈ S) (hb : b ∈ S) (h : s ∈ [a, b]) : s ∈ S := (List.mem_cons.1 h).elim (fun e => by rw [e]; exact ha) (sub1 hb)
theorem sub3 {α : Type} {a b c s : α} {S : List α} (ha : a ∈ S) (hb : b ∈ S) (hc : c ∈ S) (h : s ∈ [a, b, c]) : s ∈ S := (List.mem_cons.1 h).elim (fun e => by rw [e]; exact ha) (sub2 hb hc)
theorem keep_cong {v v' : Vp} (h : v.rg = v'.rg ∧ v.res = v'.res ∧ v.room = v'.room) (hm : Hm) (hosts : List aU) : cU v hm hosts = cU v' hm hosts := by
  obtain ⟨rg, res, A, c, room, b, rh, ra⟩ := v
  obtain ⟨rg', res', A', c', room', b', rh', ra'⟩ := v'
  obtain ⟨h1, h2, h3⟩ := h
  dsimp only at h1 h2 h3
  subst h1 h2 h3
  rfl
end Go.Proofs.YtnpdgmoeoidppaaGreat
