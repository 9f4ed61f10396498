/- DiskKept: behind a crash the bytes are a beginning of those ahead of it, with all that was synced, and as many whole writes as it keeps. No condition. -/
import Derived.Test.YtkidofecahaajaaDskB
import Derived.Test.YtkidofecahaajaaWorth
namespace Go.Proofs.Ytkidofecahaajaa.lawDiskKept
open Go.ChangeShapes Go.WideShapes Go.ChangeAt Go.RowKit
set_option linter.unusedVariables false
set_option maxRecDepth 4000
theorem go_LDiskKept {A B : Prop} (h : Held B → A := by
  intro hEnd
  repeat (first | refine OW_neqF rfl rfl rfl ?_ | refine OW_moveV (.int _ _) rfl ?_ | refine OW_moveV (.slice _ _ _) rfl ?_ | refine OW_moveV (.bool _) rfl ?_ | refine OW_moveV (.pointer _) rfl ?_ | refine OW_moveV (.string _) rfl ?_ | refine OW_moveV (.agg _) rfl ?_ | refine OW_moveV (.tuple _) rfl ?_ | refine OW_nil ?_ | refine thenE_normal ?_ | refine CW_seq ?_ | refine CW_region (by kernel_rfl) ?_ | refine OW_assignV (.int _ _) rfl ?_ | refine OW_assignV (.slice _ _ _) rfl ?_ | refine OW_assignV (.bool _) rfl ?_ | refine OW_assignV (.pointer _) rfl ?_ | refine OW_assignV (.string _) rfl ?_ | refine OW_assignV (.agg _) rfl ?_ | refine OW_assignV (.tuple _) rfl ?_ | refine OW_addI rfl rfl (by omega) ?_ | refine OW_subI rfl rfl (by omega) ?_ | refine OW_mulI rfl rfl (by omega) ?_ | refine OW_lss rfl rfl ?_ | refine OW_extract rfl rfl ?_ | refine OW_gtr rfl rfl ?_ | refine OW_leq rfl rfl ?_ | refine OW_geq rfl rfl ?_ | refine OW_eql rfl rfl ?_ | refine OW_neq rfl rfl ?_ | refine OW_not rfl ?_ | refine OW_pickT rfl _ rfl ?_ | refine OW_pickF rfl (.bool _) rfl ?_ | refine OW_pickB rfl rfl rfl ?_ | refine OW_move ?_ | refine OW_assign ?_ | refine OW_pass rfl ?_ | refine OW_take rfl ?_ | refine OW_lenS (by first | with_reducible exact und_bytes | with_reducible exact und_bytess) rfl ?_ | refine OW_convInt (by first | with_reducible exact und_u8 | with_reducible exact und_u64 | with_reducible exact und_int | with_reducible exact und_u32) (by first | with_reducible exact und_u8 | with_reducible exact und_u64 | with_reducible exact und_int | with_reducible exact und_u32) rfl ?_ | refine OW_add rfl rfl ?_ | refine OW_sub rfl rfl ?_ | refine OW_mul rfl rfl ?_ | refine OW_min2 rfl rfl ?_ | refine OW_max2 rfl rfl ?_ | refine OW_neg rfl ?_ | refine CW_block ?_ | refine CW_condT rfl ?_ | refine CW_condF rfl ?_ | refine CW_exit ?_ | refine CW_ret ?_ | refine CW_skip ?_ | refine LW_seq ?_ | refine LW_regC ?_ | refine LW_condC ?_ | refine LW_regF ?_ | refine LW_condF ?_ | refine FW_seq ?_ | refine FW_region (by kernel_rfl) ?_ | refine FW_block ?_ | refine FW_condT rfl ?_ | refine FW_condF rfl ?_ | refine FW_exit ?_ | refine FW_ret ?_ | refine FW_skip ?_ | refine LW_ret ?_ | refine LW_skip ?_ | refine thenE_exit ?_ | refine thenE_ret ?_ | refine inBlockE_normal ?_ | refine inBlockE_same ?_ | refine inBlockE_ret ?_ | refine inBlockE_ne (by rfl) ?_ | refine OW_eqlB (by with_reducible exact und_bool) rfl rfl ?_ | refine OW_neqB (by with_reducible exact und_bool) rfl rfl ?_ | refine OW_idxS (by with_reducible exact und_bytes) one_u8 rfl rfl _ rfl (by omega) ?_ | refine OW_idxS (by with_reducible exact und_bytess) one_bytes rfl rfl _ rfl (by omega) ?_ | refine OW_load1 (by first | with_reducible exact one_u8 | with_reducible exact one_bytes) rfl _ (by assumption) ?_ | refine OW_lenS und_As rfl ?_ | refine OW_idxN und_As el_A rfl rfl _ rfl (by omega) ?_ | refine OW_idxS und_bytess one_bytes rfl rfl _ rfl (by omega) ?_ | refine OW_load1 one_bytes rfl _ (by assumption) ?_)
  exact hEnd.out) (k : B) : A := h ⟨k⟩
/-- How many bytes stay, and how many would be one write more. -/
theorem kept_facts (s : List UInt8) (vs : List BV) (k t : Nat) : ∃ n, n = (DS.all ⟨true, s, vs.map pay⟩ |>.take (crashN ⟨true, s, vs.map pay⟩ k t)).length ∧ s.length + (flatK vs (min k vs.length)).length ≤ n ∧
    (n < s.length + (flatK vs (min (k + 1) vs.length)).length ∨ (s.length + (flatK vs (min (k + 1) vs.length)).length = s.length + (flatK vs (min k vs.length)).length ∧ n = s.length + (flatK vs (min k vs.length)).length)) := by
  have hle := crashN_le ⟨true, s, vs.map pay⟩ k t
  refine ⟨_, rfl, ?_⟩
  rw [List.length_take, Nat.min_eq_left hle]
  have hfk : (((vs.map pay).take k).flatten) = flatK vs (min k vs.length) := by
    unfold flatK
    by_cases hk : k ≤ vs.length
    · rw [Nat.min_eq_left hk]
    · rw [Nat.min_eq_right (by omega), List.take_of_length_le (by simp; omega), List.take_of_length_le (by simp)]
  unfold crashN
  show s.length + _ ≤ s.length + (((vs.map pay).take k).flatten).length + _ ∧ _
  simp only
  rw [hfk]
  by_cases hk : k < vs.length
  · have h1 := flatK_succ hk
    rw [Nat.min_eq_left (by omega), Nat.min_eq_left (by omega), h1, List.length_append]
    have ht : tornN ⟨true, s, vs.map pay⟩ k t = min t ((vs[k]).2.2.length - 1) := by
      unfold tornN
      rw [dif_pos (by simpa using hk)]
      simp
    rw [ht]
    omega
  · have ht : tornN ⟨true, s, vs.map pay⟩ k t = 0 := by
      unfold tornN
      rw [dif_neg (by simpa using hk)]
    rw [ht, Nat.min_eq_right (by omega), Nat.min_eq_right (by omega)]
    omega
set_option maxHeartbeats 8000000 in
theorem walk (w : World) (v0 : Value) (l : List AD) (h0 : kActs.R w [v0] l) (v1 : Value) (ls : List (List UInt8)) (h1 : kBss.R w [v1] ls) (v2 : Value) (keep : Int) (h2 : kI.R w [v2] keep) (v3 : Value) (torn : Int) (h3 : kI.R w [v3] torn) : Calls Try.prog 5 #[v0, v1, v2, v3] w (RetV w (.bool true)) := by
  obtain ⟨A, c, hv0, hc, hcm, hA⟩ := h0
  have hA : ACs w A l := hA
  obtain ⟨B, cB, hv1, hcB, hcBm, hs⟩ := h1
  obtain ⟨hv2, hkI⟩ := h2
  obtain ⟨hv3, htI⟩ := h3
  injection hv0 with hv0
  injection hv1 with hv1
  injection hv2 with hv2
  injection hv3 with hv3
  subst hv0; subst hv1; subst hv2; subst hv3
  have hsm := slr_small hs
  obtain ⟨vs, rfl, hB⟩ := bvs_of hs
  clear hs
  rw [List.length_map] at hcB ⊢
  have hsv : ∀ v ∈ vs, v.2.2.length ≤ 140737488351232 := fun v hv => hsm _ (List.mem_map.2 ⟨v, hv, rfl⟩)
  clear hsm
  refine calls_of_CW Try.func5 rfl (by simp [Try.ntmps5]) ?_
  rw [Try.ntmps5]
  refine go_LDiskKept (k := ?_)
  refine OW_callV Try.func26 (by kernel_rfl) rfl (awake6_any w) rfl ?_
  intro w1 hx1
  refine go_LDiskKept (k := ?_)
  refine CW_loop (fun e' w' => ∃ k : Nat, k ≤ vs.length ∧ e' 0 = .slice A l.length c ∧ e' 1 = .slice B vs.length cB ∧ e' 2 = .int .i64 keep ∧ e' 3 = .int .i64 torn ∧ e' 9 = .int .i64 (worth 20 (vs.take k)) ∧ e' 10 = .int .i64 k ∧ worth 20 (vs.take k) ≤ 4000 ∧ w' = w1) (fun e' _ => vs.length - (intOf (e' 10)).toNat) ?_ ?_
  · exact ⟨0, by omega, rfl, rfl, rfl, rfl, rfl, rfl, by simp [worth], rfl⟩
  rintro e2 w2 ⟨k, hk, q0, q1, q2, q3, q9, q10, hle, rfl⟩
  rw [upd_self q0, upd_self q1, upd_self q2, upd_self q3, upd_self q9, upd_self q10]
  refine go_LDiskKept (k := ?_)
  refine CW_cond _ rfl (fun hh => ?_) (fun hh => ?_)
  · have hlt : k < vs.length := by simpa using hh
    clear hh
    obtain ⟨ad, rfl, hcA⟩ := (hB.ext hx1).cell hlt
    have hvA := hsv _ (List.getElem_mem hlt)
    have hs : worth 20 (vs.take (k + 1)) = worth 20 (vs.take k) + ((vs[k]).2.2.length + 20) := by rw [take_succ_get _ _ hlt, worth_snoc]
    generalize vs[k] = x at *
    obtain ⟨xA, xc, xl⟩ := x
    replace hcA : w2.cell? (ad.add k) = some (.slice xA xl.length xc) := hcA
    simp only at hvA hs
    refine go_LDiskKept (k := ?_)
    refine CW_cond _ rfl (fun h2 => ?_) (fun h2 => ?_)
    · refine go_LDiskKept (k := ?_)
      exact bodyE_ret1 rfl (.bool true) rfl ⟨rfl, hx1⟩
    · have hle2 : worth 20 (vs.take (k + 1)) ≤ 4000 := by have := of_decide_eq_false h2; omega
      refine go_LDiskKept (k := ?_)
      refine ⟨⟨k + 1, hlt, rfl, rfl, rfl, rfl, ?_, rfl, hle2, rfl⟩, ?_⟩
      · rw [hs]
        show Value.int _ _ = _
        congr 1
      · show vs.length - ((k : Int) + 1).toNat < vs.length - (k : Int).toNat
        omega
  have hge : k = vs.length := by simp at hh; omega
  subst hge
  rw [List.take_length] at hle ⊢
  clear hh
  have hvl := worth_len (n := 20) vs
  have hwe := fun v (hv : v ∈ vs) => worth_each (n := 20) hv
  refine go_LDiskKept (k := ?_)
  refine OW_callV Try.func13 (by kernel_rfl) rfl (great6_any w2 A c l (hA.ext hx1) (by omega)) rfl ?_
  intro w3 hx3
  have hx03 := hx1.trans' hx3
  refine go_LDiskKept (k := ?_)
  refine OW_split 39 _ rfl (fun h => ?_) (fun h => ?_)
  · refine go_LDiskKept (k := ?_)
    exact bodyE_ret1 rfl (.bool true) rfl ⟨rfl, hx03⟩
  have hgs : asum 20 l ≤ 4000 := by have := of_decide_eq_false h; omega
  clear h
  have hll := asum_len 20 l
  refine go_LDiskKept (k := ?_)
  refine OW_split 43 _ rfl (fun h => ?_) (fun h => ?_)
  · refine go_LDiskKept (k := ?_)
    exact bodyE_ret1 rfl (.bool true) rfl ⟨rfl, hx03⟩
  have hk0 : 0 ≤ keep := by simp at h; omega
  clear h
  refine go_LDiskKept (k := ?_)
  refine CW_cond _ rfl (fun h => ?_) (fun h => ?_)
  · refine go_LDiskKept (k := ?_)
    exact bodyE_ret1 rfl (.bool true) rfl ⟨rfl, hx03⟩
  have ht0 : 0 ≤ torn := by simp at h; omega
  clear h
  obtain ⟨kp, rfl⟩ : ∃ k : Nat, keep = k := ⟨keep.toNat, by omega⟩
  obtain ⟨tn, rfl⟩ : ∃ k : Nat, torn = k := ⟨torn.toNat, by omega⟩
  refine go_LDiskKept (k := ?_)
  refine OW_callC Try.func23 (by kernel_rfl) rfl (newDisk_any w3) rfl ?_
  rintro en w4 ⟨g, rfl, hg, hx4, hR4⟩
  refine ⟨_, rfl, ?_⟩
  have hlo4 : ∀ k, more (fun _ => False) w3 w4 k → w.heap.size ≤ k := fun k hk => by rcases hk with h | h; exact h.elim; have := hx03.size; omega
  generalize more (fun _ => False) w3 w4 = S4 at *
  have hx04 := hx03.trans' hx4
  refine go_LDiskKept (k := ?_)
  refine CW_meetB (fun e' w' => ∃ (S : Nat → Prop) (d : DS), e' 1 = .slice B vs.length cB ∧ e' 2 = .int .i64 kp ∧ e' 3 = .int .i64 tn ∧ e' 11 = .pointer (some ⟨g, 0, none⟩) ∧ DR w' g S d ∧ d.all.length ≤ 4000 ∧ d.ws.length ≤ 200 ∧ (∀ k, S k → w.heap.size ≤ k) ∧ Ext w w') ?_ ?_
  · refine CW_loop (fun e' w' => ∃ (i : Nat) (S : Nat → Prop) (d : DS), i ≤ l.length ∧ e' 0 = .slice A l.length c ∧ e' 1 = .slice B vs.length cB ∧ e' 2 = .int .i64 kp ∧ e' 3 = .int .i64 tn ∧ e' 11 = .pointer (some ⟨g, 0, none⟩) ∧ e' 12 = .int .i64 i ∧ DR w' g S d ∧ d.all.length ≤ asum 20 (l.take i) ∧ d.ws.length ≤ i ∧ (∀ k, S k → w.heap.size ≤ k) ∧ Ext w w') (fun e' _ => l.length - (intOf (e' 12)).toNat) ?_ ?_
    · exact ⟨0, S4, dNew, by omega, rfl, rfl, rfl, rfl, rfl, rfl, hR4, Nat.zero_le _, Nat.zero_le _, hlo4, hx04⟩
    clear hR4 hlo4
    rintro e5 w5 ⟨i, S, d, hi, q0, q1, q2, q3, q11, q12, hR, hal, hwl, hlo, hx5⟩
    rw [upd_self q0, upd_self q1, upd_self q2, upd_self q3, upd_self q11, upd_self q12]
    have hsl0 := asum_take_le 20 l i
    refine go_LDiskKept (k := ?_)
    refine CW_cond _ rfl (fun hh => ?_) (fun hh => ?_)
    · have hlt : i < l.length := by simpa using hh
      clear hh
      obtain ⟨ad, A', c', rfl, hat, hok⟩ := hA.get hlt
      have hs := asum_take_succ (k := 20) hlt
      have hsl := asum_take_le 20 l (i + 1)
      have hact := dAll_len_act d l[i]
      generalize l[i] = f at *
      refine go_LDiskKept (k := ?_)
      refine OW_loadX agg_A rfl (acells f (.slice A' f.B.length c')) rfl (hat.ext hx5) ?_
      refine go_LDiskKept (k := ?_)
      refine OW_callC Try.func27 (by kernel_rfl) rfl (do_any w5 g S d hR f A' c' (hok.ext hx5) (by omega) (by omega) (by omega)) rfl ?_
      rintro en w6 ⟨rfl, hR6, hK6⟩
      refine ⟨_, rfl, ?_⟩
      refine go_LDiskKept (k := ?_)
      refine ⟨⟨i + 1, _, (dAct d f).2, hlt, rfl, rfl, rfl, rfl, rfl, rfl, hR6, by omega, by omega, fun k hk => ?_, hK6.ext hx5 hlo⟩, ?_⟩
      · rcases hk with h | h
        · exact hlo k h
        · have := hx5.size; omega
      · show l.length - ((i : Int) + 1).toNat < l.length - (i : Int).toNat
        omega
    · refine go_LDiskKept (k := ?_)
      exact ⟨rfl, S, d, rfl, rfl, rfl, rfl, hR, by omega, by omega, hlo, hx5⟩
  clear hR4 hlo4
  rintro e5 w5 ⟨S5, d5, q1, q2, q3, q11, hR5, hal5, hwl5, hlo5, hx5⟩
  rw [upd_self q1, upd_self q2, upd_self q3, upd_self q11]
  obtain ⟨u, hu⟩ : ∃ u, d5.up = u := ⟨_, rfl⟩
  have hUp := dUp_any w5 g S5 d5 hR5
  rw [hu] at hUp
  refine go_LDiskKept (k := ?_)
  refine OW_callV Try.func22 (by kernel_rfl) rfl hUp rfl ?_
  intro w6 hx6
  have hR6 := hR5.ext hx6
  have hx06 := hx5.trans' hx6
  clear hUp hR5
  refine go_LDiskKept (k := ?_)
  refine CW_meet (fun e' w' => ∃ (S : Nat → Prop), e' 1 = .slice B vs.length cB ∧ e' 2 = .int .i64 kp ∧ e' 3 = .int .i64 tn ∧ e' 11 = .pointer (some ⟨g, 0, none⟩) ∧ DR w' g S ⟨true, d5.s, d5.ws⟩ ∧ (∀ k, S k → w.heap.size ≤ k) ∧ Ext w w') ?_ ?_
  · cases u with
    | true =>
      refine go_LDiskKept (k := ?_)
      refine ⟨rfl, S5, rfl, rfl, rfl, rfl, ?_, hlo5, hx06⟩
      rw [← hu]
      exact hR6
    | false =>
      have e1 : dStart d5 = (0, ⟨true, d5.s, d5.ws⟩) := by unfold dStart; rw [if_neg (by rw [hu]; decide)]
      have hSt := dStart_any w6 g S5 d5 hR6
      rw [e1] at hSt
      refine go_LDiskKept (k := ?_)
      refine OW_callC Try.func17 (by kernel_rfl) rfl hSt rfl ?_
      rintro en w7 ⟨rfl, hR7, hK7⟩
      refine ⟨_, rfl, ?_⟩
      refine go_LDiskKept (k := ?_)
      refine ⟨rfl, _, rfl, rfl, rfl, rfl, hR7, fun k hk => ?_, hK7.ext hx06 hlo5⟩
      rcases hk with h | h
      · exact hlo5 k h
      · have := hx06.size; omega
  have hall5 : DS.all ⟨true, d5.s, d5.ws⟩ = d5.all := rfl
  rintro e7 w7 ⟨S7, q1, q2, q3, q11, hR7, hlo7, hx7⟩
  rw [upd_self q1, upd_self q2, upd_self q3, upd_self q11]
  clear hR6 hlo5
  obtain ⟨s, hs⟩ : ∃ s, d5.all = s := ⟨_, rfl⟩
  rw [hs] at hall5 hal5
  have e2 : dSync ⟨true, d5.s, d5.ws⟩ = (0, ⟨true, s, []⟩) := by unfold dSync; rw [if_pos rfl, hall5]
  have hSy := dSync_any w7 g S7 _ hR7 (by rw [hall5]; omega) (by show d5.ws.length ≤ 1000000; omega)
  rw [e2] at hSy
  refine go_LDiskKept (k := ?_)
  refine OW_callC Try.func15 (by kernel_rfl) rfl hSy rfl ?_
  rintro en w8 ⟨rfl, hR8, hK8⟩
  refine ⟨_, rfl, ?_⟩
  have hx8 : Ext w w8 := hK8.ext hx7 hlo7
  have hlo8 : ∀ k, more S7 w7 w8 k → w.heap.size ≤ k := fun k hk => by
    rcases hk with h | h
    · exact hlo7 k h
    · have := hx7.size; omega
  generalize more S7 w7 w8 = S8 at *
  clear hR7 hSy hK8 hlo7 e2 hall5
  have ha8 : DS.all ⟨true, s, []⟩ = s := List.append_nil s
  have hBy := dBytes_any w8 g S8 _ hR8 (by rw [ha8]; omega) (Nat.zero_le _)
  rw [ha8] at hBy
  refine go_LDiskKept (k := ?_)
  refine OW_callC Try.func19 (by kernel_rfl) rfl hBy rfl ?_
  rintro en w9 ⟨A9, c9, rfl, hc9, hf9, hx9⟩
  refine ⟨_, rfl, ?_⟩
  have hR9 := hR8.ext hx9
  have hx09 := hx8.trans' hx9
  clear hBy hf9 hR8
  refine go_LDiskKept (k := ?_)
  refine CW_meetB (fun e' w' => ∃ (S : Nat → Prop), e' 1 = .slice B vs.length cB ∧ e' 2 = .int .i64 kp ∧ e' 3 = .int .i64 tn ∧ e' 11 = .pointer (some ⟨g, 0, none⟩) ∧ e' 13 = .int .i64 s.length ∧ e' 14 = .int .i64 ((s.length + (flatK vs (min kp vs.length)).length : Nat) : Int) ∧ e' 15 = .int .i64 ((s.length + (flatK vs (min (kp + 1) vs.length)).length : Nat) : Int) ∧ DR w' g S ⟨true, s, vs.map pay⟩ ∧ (∀ k, S k → w.heap.size ≤ k) ∧ Ext w w') ?_ ?_
  · refine CW_loop (fun e' w' => ∃ (i : Nat) (S : Nat → Prop), i ≤ vs.length ∧ e' 1 = .slice B vs.length cB ∧ e' 2 = .int .i64 kp ∧ e' 3 = .int .i64 tn ∧ e' 11 = .pointer (some ⟨g, 0, none⟩) ∧ e' 13 = .int .i64 s.length ∧ e' 14 = .int .i64 ((s.length + (flatK vs (min kp i)).length : Nat) : Int) ∧ e' 15 = .int .i64 ((s.length + (flatK vs (min (kp + 1) i)).length : Nat) : Int) ∧ e' 16 = .int .i64 i ∧ DR w' g S ⟨true, s, (vs.map pay).take i⟩ ∧ (∀ k, S k → w.heap.size ≤ k) ∧ Ext w w') (fun e' _ => vs.length - (intOf (e' 16)).toNat) ?_ ?_
    · exact ⟨0, S8, by omega, rfl, rfl, rfl, rfl, rfl, by simp [flatK_zero]; rfl, by simp [flatK_zero]; rfl, rfl, hR9, hlo8, hx09⟩
    clear hR9 hlo8
    rintro e10 w10 ⟨i, S, hi, q1, q2, q3, q11, q13, q14, q15, q16, hR, hlo, hx10⟩
    rw [upd_self q1, upd_self q2, upd_self q3, upd_self q11, upd_self q13, upd_self q14, upd_self q15, upd_self q16]
    refine go_LDiskKept (k := ?_)
    refine CW_cond _ rfl (fun hh => ?_) (fun hh => ?_)
    · have hlt : i < vs.length := by simpa using hh
      clear hh
      obtain ⟨ad, rfl, _⟩ := (hB.ext hx1).cell hlt
      have hcell : ∀ {v : World}, Ext w v → v.cell? (ad.add i) = some (.slice (vs[i]).1 (vs[i]).2.2.length (vs[i]).2.1) := fun {v} hv => by
        obtain ⟨ad', ha', hc'⟩ := (hB.ext hv).cell hlt
        cases ha'
        exact hc'
      have hbA := (hB.bs _ (List.getElem_mem hlt)).1
      have hwx := hwe _ (List.getElem_mem hlt)
      have hf := flatK_succ hlt
      have hfl1 := flatK_le 20 vs (min kp i)
      have hfl2 := flatK_le 20 vs (min (kp + 1) i)
      have hts : (vs.map pay).take (i + 1) = (vs.map pay).take i ++ [(vs[i]).2.2] := by rw [take_succ_get _ _ (by simpa using hlt), List.getElem_map]
      have hm1 : ∀ q : Nat, (flatK vs (min q (i + 1))).length = (flatK vs (min q i)).length + (if i < q then (vs[i]).2.2.length else 0) := fun q => by
        by_cases hq : i < q
        · rw [if_pos hq, Nat.min_eq_right (by omega), Nat.min_eq_right (by omega), hf, List.length_append]
        · rw [if_neg hq, Nat.min_eq_left (by omega), Nat.min_eq_left (by omega)]; rfl
      have hm2 := hm1 (kp + 1)
      have hm1 := hm1 kp
      generalize vs[i] = x at *
      obtain ⟨xA, xc, xl⟩ := x
      replace hcell : ∀ {v : World}, Ext w v → v.cell? (ad.add i) = some (.slice xA xl.length xc) := hcell
      simp only at hbA hwx hts hm1 hm2
      have hcA := hcell hx10
      have hWr := dWrite_any w10 g S _ hR (by show ((vs.map pay).take i).length ≤ 1000000; simp; omega) xA xc xl (hbA.ext hx10) (by omega)
      rw [show dWrite ⟨true, s, (vs.map pay).take i⟩ xl = (0, ⟨true, s, (vs.map pay).take (i + 1)⟩) by rw [hts]; rfl] at hWr
      refine go_LDiskKept (k := ?_)
      refine OW_callC Try.func14 (by kernel_rfl) rfl hWr rfl ?_
      rintro en w11 ⟨rfl, hR11, hK11⟩
      refine ⟨_, rfl, ?_⟩
      have hx11 : Ext w w11 := hK11.ext hx10 hlo
      have hcA11 := hcell hx11
      have hlo11 : ∀ k, more S w10 w11 k → w.heap.size ≤ k := fun k hk => by
        rcases hk with h | h
        · exact hlo k h
        · have := hx10.size; omega
      generalize more S w10 w11 = S11 at *
      clear hR hWr hK11 hlo
      refine go_LDiskKept (k := ?_)
      refine CW_meet (fun e' w' => e' 1 = .slice (some ad) vs.length cB ∧ e' 2 = .int .i64 kp ∧ e' 3 = .int .i64 tn ∧ e' 11 = .pointer (some ⟨g, 0, none⟩) ∧ e' 13 = .int .i64 s.length ∧ e' 14 = .int .i64 ((s.length + (flatK vs (min kp (i + 1))).length : Nat) : Int) ∧ e' 15 = .int .i64 ((s.length + (flatK vs (min (kp + 1) i)).length : Nat) : Int) ∧ e' 16 = .int .i64 i ∧ w' = w11) ?_ ?_
      · refine CW_cond _ rfl (fun h => ?_) (fun h => ?_)
        · have hq : i < kp := by simpa using h
          rw [if_pos hq] at hm1
          refine go_LDiskKept (k := ?_)
          refine ⟨rfl, rfl, rfl, rfl, rfl, rfl, ?_, rfl, rfl, rfl⟩
          show Value.int _ _ = _
          rw [hm1]
          congr 1 <;> omega
        · have hq : ¬ i < kp := by simpa using h
          rw [if_neg hq] at hm1
          refine go_LDiskKept (k := ?_)
          refine ⟨rfl, rfl, rfl, rfl, rfl, rfl, ?_, rfl, rfl, rfl⟩
          show Value.int _ _ = _
          rw [hm1]
          rfl
      rintro e12 w12 ⟨q1, q2, q3, q11, q13, q14, q15, q16, rfl⟩
      rw [upd_self q1, upd_self q2, upd_self q3, upd_self q11, upd_self q13, upd_self q14, upd_self q15, upd_self q16]
      refine go_LDiskKept (k := ?_)
      refine CW_meet (fun e' w' => e' 1 = .slice (some ad) vs.length cB ∧ e' 2 = .int .i64 kp ∧ e' 3 = .int .i64 tn ∧ e' 11 = .pointer (some ⟨g, 0, none⟩) ∧ e' 13 = .int .i64 s.length ∧ e' 14 = .int .i64 ((s.length + (flatK vs (min kp (i + 1))).length : Nat) : Int) ∧ e' 15 = .int .i64 ((s.length + (flatK vs (min (kp + 1) (i + 1))).length : Nat) : Int) ∧ e' 16 = .int .i64 i ∧ w' = w12) ?_ ?_
      · refine CW_cond _ rfl (fun h => ?_) (fun h => ?_)
        · have hq : i < kp + 1 := by have := of_decide_eq_true h; omega
          rw [if_pos hq] at hm2
          refine go_LDiskKept (k := ?_)
          refine ⟨rfl, rfl, rfl, rfl, rfl, rfl, rfl, ?_, rfl, rfl⟩
          show Value.int _ _ = _
          rw [hm2]
          congr 1 <;> omega
        · have hq : ¬ i < kp + 1 := by have := of_decide_eq_false h; omega
          rw [if_neg hq] at hm2
          refine go_LDiskKept (k := ?_)
          refine ⟨rfl, rfl, rfl, rfl, rfl, rfl, rfl, ?_, rfl, rfl⟩
          show Value.int _ _ = _
          rw [hm2]
          rfl
      rintro e13 w13 ⟨q1, q2, q3, q11, q13, q14, q15, q16, rfl⟩
      rw [upd_self q1, upd_self q2, upd_self q3, upd_self q11, upd_self q13, upd_self q14, upd_self q15, upd_self q16]
      refine go_LDiskKept (k := ?_)
      refine ⟨⟨i + 1, S11, hlt, rfl, rfl, rfl, rfl, rfl, rfl, rfl, rfl, hR11, hlo11, hx11⟩, ?_⟩
      show vs.length - ((i : Int) + 1).toNat < vs.length - (i : Int).toNat
      omega
    · have hge : i = vs.length := by simp at hh; omega
      subst hge
      rw [List.take_of_length_le (by simp)] at hR
      refine go_LDiskKept (k := ?_)
      exact ⟨rfl, S, rfl, rfl, rfl, rfl, rfl, rfl, rfl, hR, hlo, hx10⟩
  clear hR9 hlo8
  rintro e10 w10 ⟨S, q1, q2, q3, q11, q13, q14, q15, hR, hlo, hx10⟩
  rw [upd_self q1, upd_self q2, upd_self q3, upd_self q11, upd_self q13, upd_self q14, upd_self q15]
  have hal : (DS.all ⟨true, s, vs.map pay⟩).length ≤ 10000 := by
    have := flatK_le 20 vs vs.length
    rw [flatK_all] at this
    unfold DS.all
    rw [List.length_append]
    simp only
    omega
  obtain ⟨n, hn, hk1, hk2⟩ := kept_facts s vs kp tn
  have hcr : dCrash ⟨true, s, vs.map pay⟩ kp tn = (0, ⟨false, (DS.all ⟨true, s, vs.map pay⟩).take (crashN ⟨true, s, vs.map pay⟩ kp tn), []⟩) := by
    unfold dCrash
    rw [if_pos rfl, if_neg (by omega)]
    rfl
  have hpre : (DS.all ⟨true, s, vs.map pay⟩).take (crashN ⟨true, s, vs.map pay⟩ kp tn) <+: DS.all ⟨true, s, vs.map pay⟩ := List.take_prefix _ _
  have hBy := dBytes_any w10 g S _ hR (by omega) (by show (vs.map pay).length ≤ 1000000; simp; omega)
  have hwl : (DS.ws ⟨true, s, vs.map pay⟩).length ≤ 1000000 := by show (vs.map pay).length ≤ 1000000; simp; omega
  obtain ⟨f1, hf1⟩ : ∃ f : Nat, s.length + (flatK vs (min kp vs.length)).length = f := ⟨_, rfl⟩
  obtain ⟨f2, hf2⟩ : ∃ f : Nat, s.length + (flatK vs (min (kp + 1) vs.length)).length = f := ⟨_, rfl⟩
  rw [hf1] at hk1 hk2
  rw [hf2] at hk2
  rw [hf1, hf2]
  have hsn : s.length ≤ n := by omega
  clear hf1 hf2
  generalize (DS.all ⟨true, s, vs.map pay⟩).take (crashN ⟨true, s, vs.map pay⟩ kp tn) = L at *
  generalize hD : (⟨true, s, vs.map pay⟩ : DS) = D at *
  subst hn
  refine go_LDiskKept (k := ?_)
  refine OW_callC Try.func19 (by kernel_rfl) rfl hBy rfl ?_
  rintro en w11 ⟨A11, c11, rfl, hc11, hf11, hx11⟩
  refine ⟨_, rfl, ?_⟩
  have hR11 := hR.ext hx11
  have hO11 : Out w11 S A11 D.all := Out.fresh hR.bd hf11
  have hx011 := hx10.trans' hx11
  have hCr := dCrash_any w11 g S D hR11 (by omega) hwl kp tn hkI htI
  rw [hcr] at hCr
  clear hf11 hR hBy
  refine go_LDiskKept (k := ?_)
  refine OW_callC Try.func16 (by kernel_rfl) rfl hCr rfl ?_
  rintro en w12 ⟨rfl, hR12, hK12⟩
  refine ⟨_, rfl, ?_⟩
  have hx12 : Ext w w12 := hK12.ext hx011 hlo
  have hO12 := hO11.keep hK12
  have hLl := hpre.length_le
  have hLa : DS.all ⟨false, L, []⟩ = L := List.append_nil L
  clear hO11 hK12 hCr
  generalize more S w11 w12 = S12 at *
  refine go_LDiskKept (k := ?_)
  refine OW_callV Try.func22 (by kernel_rfl) rfl (dUp_any w12 g S12 _ hR12) rfl ?_
  intro w13 hx13
  have hR13 := hR12.ext hx13
  have hBy := dBytes_any w13 g S12 _ hR13 (by rw [hLa]; omega) (Nat.zero_le _)
  rw [hLa] at hBy
  refine go_LDiskKept (k := ?_)
  refine OW_callC Try.func19 (by kernel_rfl) rfl hBy rfl ?_
  rintro en w14 ⟨A14, c14, rfl, hc14, hf14, hx14⟩
  refine ⟨_, rfl, ?_⟩
  have hR14 := hR13.ext hx14
  have hO14 := (hO12.ext hx13).ext hx14
  have hbg := begin_pre hpre
  refine go_LDiskKept (k := ?_)
  refine OW_callV Try.func28 (by kernel_rfl) rfl (begins_any w14 A14 A11 c14 c11 L D.all hf14.bs hc14 hO14.bs hc11 (by omega) (by omega)) rfl ?_
  intro w15 hx15
  rw [hbg]
  refine go_LDiskKept (k := ?_)
  rw [show decide (((L.length : Nat) : Int) < ((f1 : Nat) : Int)) = false from decide_eq_false (by omega)]
  refine go_LDiskKept (k := ?_)
  rw [show decide (((L.length : Nat) : Int) < ((s.length : Nat) : Int)) = false from decide_eq_false (by omega)]
  refine go_LDiskKept (k := ?_)
  refine OW_callV Try.func20 (by kernel_rfl) rfl (dSynced_any w15 g S12 _ (hR14.ext hx15)) rfl ?_
  intro w16 hx16
  refine go_LDiskKept (k := ?_)
  refine OW_callV Try.func21 (by kernel_rfl) rfl (dWrites_any w16 g S12 _ ((hR14.ext hx15).ext hx16)) rfl ?_
  intro w17 hx17
  have hx017 := ((((hx12.trans' hx13).trans' hx14).trans' hx15).trans' hx16).trans' hx17
  refine go_LDiskKept (k := ?_)
  by_cases hfin : L.length < f2
  · rw [show decide (((L.length : Nat) : Int) < ((f2 : Nat) : Int)) = true from decide_eq_true (by omega)]
    refine go_LDiskKept (k := ?_)
    exact bodyE_ret1 rfl (.bool true) rfl ⟨rfl, hx017⟩
  · have hf : f2 = f1 ∧ L.length = f1 := by omega
    rw [show decide (((L.length : Nat) : Int) < ((f2 : Nat) : Int)) = false from decide_eq_false (by omega)]
    refine go_LDiskKept (k := ?_)
    rw [show (((f2 : Nat) : Int) == ((f1 : Nat) : Int)) = true by rw [beq_iff_eq]; omega]
    refine go_LDiskKept (k := ?_)
    rw [show (((L.length : Nat) : Int) == ((f1 : Nat) : Int)) = true by rw [beq_iff_eq]; omega]
    refine go_LDiskKept (k := ?_)
    exact bodyE_ret1 rfl (.bool true) rfl ⟨rfl, hx017⟩
set_option maxRecDepth 100000 in
theorem lifted (os : Os) (started : os.Started) (H : Type) (enc : TypeId × Value → H) :
    ReturnsInHanded {} Try.checked os 5 .any (Rows.diskKeptSpec.pre6 enc Try.prog Try.f5 Rows.diskKeptRow.domain false) (Rows.diskKeptSpec.post enc Try.prog Try.f5 false true false false) := by
  refine returnsInHanded_of_change_sized (C := Try.checked) ownP started (by kernel_rfl) Try.func5
    (ChangeSpec.witness6 (enc := enc) (C := Try.checked) false ⟨#[], #[.slice none 0 0, .slice none 0 0, .int .i64 0, .int .i64 0], []⟩ 8 (by kernel_rfl) (by kernel_rfl) (by kernel_rfl) (by kernel_rfl)) ?_
  intro W base args ds gs before hval0 hW hcnd hwt0 _
  have hval : ∀ (j : Nat) t v, Try.f5.params[j]? = some t → args[j]? = some v → Value.okWide Try.prog W .any base t v := hval0
  have hW' := hW
  obtain ⟨p, q, hA0, hV, rfl, hfz, hnd⟩ := hW
  have hA : DataW.TrodAll enc Try.prog W 0 (fun _ => true) true Try.f5.params.toList args.toList ds p := hA0
  have hwt : (DataW.weightsEach Try.prog (Try.f5.params.toList ++ []) (ds ++ gs)).all (· ≤ reachBytes) = true := hwt0
  rw [Try.params5] at hA hval hwt
  obtain ⟨v0, vs0, d0, ds0, p0, q0, hargs, rfl, rfl, h0, r0⟩ := trodAll_cons hA
  obtain ⟨v1, vs1, d1, ds1, p1, q1, rfl, rfl, rfl, h1, r1⟩ := trodAll_cons r0
  obtain ⟨v2, vs2, d2, ds2, p2, q2, rfl, rfl, rfl, h2, r2⟩ := trodAll_cons r1
  obtain ⟨v3, vs3, d3, ds3, p3, q3, rfl, rfl, rfl, h3, r3⟩ := trodAll_cons r2
  obtain ⟨rfl, rfl, rfl⟩ := trodAll_nil r3
  obtain rfl : args = #[v0, v1, v2, v3] := by cases args; simp_all
  obtain ⟨rfl, rfl⟩ := trodVars_none hV
  have k0 := h0
  have lt0 : ∀ x ∈ p0, x.block < W.heap.size := by obtain ⟨m, hm⟩ := k0; exact DataW.trod_lt m _ _ _ hm
  have wk0 : WOk Try.prog 26 d0 := wok_each hwt 0 rfl rfl
  obtain ⟨a0, b0⟩ := kd_slice kActs und_As (hval 0 26 v0 rfl rfl) h0 wk0
  have k1 := h1
  have lt1 : ∀ x ∈ p1, x.block < W.heap.size := by obtain ⟨m, hm⟩ := k1; exact DataW.trod_lt m _ _ _ hm
  have wk1 : WOk Try.prog 28 d1 := wok_each hwt 1 rfl rfl
  obtain ⟨a1, b1⟩ := kd_slice kBss und_bytess (hval 1 28 v1 rfl rfl) h1 wk1
  have k2 := h2
  have lt2 : ∀ x ∈ p2, x.block < W.heap.size := by obtain ⟨m, hm⟩ := k2; exact DataW.trod_lt m _ _ _ hm
  have wk2 : WOk Try.prog 3 d2 := wok_each hwt 2 rfl rfl
  obtain ⟨a2, b2⟩ := kd_int kI und_int (hval 2 3 v2 rfl rfl) h2 wk2
  have k3 := h3
  have lt3 : ∀ x ∈ p3, x.block < W.heap.size := by obtain ⟨m, hm⟩ := k3; exact DataW.trod_lt m _ _ _ hm
  have wk3 : WOk Try.prog 3 d3 := wok_each hwt 3 rfl rfl
  obtain ⟨a3, b3⟩ := kd_int kI und_int (hval 3 3 v3 rfl rfl) h3 wk3
  clear hA0 hval0 hwt0
  refine (walk W v0 a0 b0 v1 a1 b1 v2 a2 b2 v3 a3 b3).mono fun e W' ⟨he, bel⟩ => ?_
  subst he
  exact ⟨_, rfl, _, _, _, [], _, [], hW', trodAll_mk1 (shut_bool Try.underlying4 _), (trodAll_cons_mk (Below.trod laidP (by kernel_rfl) (of_decide_eq_true (by kernel_rfl)) k0 bel lt0) (trodAll_cons_mk (Below.trod laidP (by kernel_rfl) (of_decide_eq_true (by kernel_rfl)) k1 bel lt1) (trodAll_cons_mk (Below.trod laidP (by kernel_rfl) (of_decide_eq_true (by kernel_rfl)) k2 bel lt2) (trodAll_cons_mk (Below.trod laidP (by kernel_rfl) (of_decide_eq_true (by kernel_rfl)) k3 bel lt3) trodAll_mk0)))), rfl, bel.frame _, fun h => by cases h⟩
theorem over : Rows.diskKeptRow.holds Try.pinned (OpenSpec.ofChange Rows.diskKeptSpec) :=
  OpenClaim.holds_of_wide 5 Try.f5 rfl rfl rfl rfl rfl rfl rfl ⟨rfl, rfl, rfl, rfl, rfl⟩ rfl rfl rfl rfl rfl (by kernel_rfl) Try.func5 (by kernel_rfl)
    (of_decide_eq_true (by kernel_rfl)) (by unfold Func.isWrapper; first | (rw [if_pos (by decide +kernel)]; kernel_rfl) | (rw [if_neg (by decide +kernel)]; exact ⟨rfl, rfl⟩))
    (fun os started H enc _ => lifted os started H enc)
theorem proved : Rows.DiskKeptSaid := over
#print axioms proved
end Go.Proofs.Ytkidofecahaajaa.lawDiskKept
