/- WalBegins: behind a crash, a start and a Recover the records are a beginning of those ahead of the crash, with all that lasted, and with as many of the others as writes are kept. No condition. -/
import Derived.Test.YtnfeibbnjdegfaaGw3
import Derived.Test.YtnfeibbnjdegfaaGw22
namespace Go.Proofs.Ytnfeibbnjdegfaa.lawWalBegins
open Go.ChangeShapes Go.WideShapes Go.ChangeAt Go.RowKit
set_option linter.unusedVariables false
set_option maxRecDepth 4000
theorem go_LWalBegins {A B : Prop} (h : Held B → A := by
  intro hEnd
  repeat (first | refine OW_neqF rfl rfl (by first | rfl | omega) ?_ | refine OW_eqlTr rfl rfl (by first | rfl | omega) ?_ | refine OW_moveV (.int _ _) rfl ?_ | refine OW_moveV (.slice _ _ _) rfl ?_ | refine OW_moveV (.bool _) rfl ?_ | refine OW_moveV (.pointer _) rfl ?_ | refine OW_moveV (.string _) rfl ?_ | refine OW_moveV (.agg _) rfl ?_ | refine OW_moveV (.tuple _) rfl ?_ | refine OW_nil ?_ | refine thenE_normal ?_ | refine CW_seq ?_ | refine CW_region (by kernel_rfl) ?_ | refine OW_assignV (.int _ _) rfl ?_ | refine OW_assignV (.slice _ _ _) rfl ?_ | refine OW_assignV (.bool _) rfl ?_ | refine OW_assignV (.pointer _) rfl ?_ | refine OW_assignV (.string _) rfl ?_ | refine OW_assignV (.agg _) rfl ?_ | refine OW_assignV (.tuple _) rfl ?_ | refine OW_addI rfl rfl (by omega) ?_ | refine OW_subI rfl rfl (by omega) ?_ | refine OW_mulI rfl rfl (by omega) ?_ | refine OW_lss rfl rfl ?_ | refine OW_extract rfl rfl ?_ | refine OW_gtr rfl rfl ?_ | refine OW_leq rfl rfl ?_ | refine OW_geq rfl rfl ?_ | refine OW_eql rfl rfl ?_ | refine OW_neq rfl rfl ?_ | refine OW_not rfl ?_ | refine OW_pickT rfl _ rfl ?_ | refine OW_pickF rfl (.bool _) rfl ?_ | refine OW_pickB rfl rfl rfl ?_ | refine OW_move ?_ | refine OW_assign ?_ | refine OW_pass rfl ?_ | refine OW_take rfl ?_ | refine OW_lenS (by first | with_reducible exact und_bytes | with_reducible exact und_bytess) rfl ?_ | refine OW_convInt (by first | with_reducible exact und_u8 | with_reducible exact und_u64 | with_reducible exact und_int | with_reducible exact und_u32) (by first | with_reducible exact und_u8 | with_reducible exact und_u64 | with_reducible exact und_int | with_reducible exact und_u32) rfl ?_ | refine OW_add rfl rfl ?_ | refine OW_sub rfl rfl ?_ | refine OW_mul rfl rfl ?_ | refine OW_min2 rfl rfl ?_ | refine OW_max2 rfl rfl ?_ | refine OW_neg rfl ?_ | refine CW_block ?_ | refine CW_condT rfl ?_ | refine CW_condF rfl ?_ | refine CW_exit ?_ | refine CW_ret ?_ | refine CW_skip ?_ | refine LW_seq ?_ | refine LW_regC ?_ | refine LW_condC ?_ | refine LW_regF ?_ | refine LW_condF ?_ | refine FW_seq ?_ | refine FW_region (by kernel_rfl) ?_ | refine FW_block ?_ | refine FW_condT rfl ?_ | refine FW_condF rfl ?_ | refine FW_exit ?_ | refine FW_ret ?_ | refine FW_skip ?_ | refine LW_ret ?_ | refine LW_skip ?_ | refine thenE_exit ?_ | refine thenE_ret ?_ | refine inBlockE_normal ?_ | refine inBlockE_same ?_ | refine inBlockE_ret ?_ | refine inBlockE_ne (by rfl) ?_ | refine OW_eqlB (by with_reducible exact und_bool) rfl rfl ?_ | refine OW_neqB (by with_reducible exact und_bool) rfl rfl ?_ | refine OW_idxS (by with_reducible exact und_bytes) one_u8 rfl rfl _ rfl (by omega) ?_ | refine OW_idxS (by with_reducible exact und_bytess) one_bytes rfl rfl _ rfl (by omega) ?_ | refine OW_load1 (by first | with_reducible exact one_u8 | with_reducible exact one_bytes) rfl _ (by assumption) ?_ | refine OW_idxS und_bytess one_bytes rfl rfl _ rfl (by omega) ?_)
  exact hEnd.out) (k : B) : A := h ⟨k⟩
set_option maxHeartbeats 8000000 in
theorem walk (w : World) (v0 : Value) (la : List (List UInt8)) (h0 : kBss.R w [v0] la) (v1 : Value) (sy : Int) (h1 : kI.R w [v1] sy) (v2 : Value) (kp : Int) (h2 : kI.R w [v2] kp) (v3 : Value) (tn : Int) (h3 : kI.R w [v3] tn) (v4 : Value) (more : List UInt8) (h4 : kBs.R w [v4] more) :
    Calls Try.prog 12 #[v0, v1, v2, v3, v4] w (RetV w (.bool true)) := by
  obtain ⟨A, c, hv0, hc, hcm, hs⟩ := h0
  obtain ⟨hv1, hi1⟩ := h1
  obtain ⟨hv2, hi2⟩ := h2
  obtain ⟨hv3, hi3⟩ := h3
  obtain ⟨B, d, hv4, ⟨hd, hd2⟩, hB⟩ := h4
  injection hv0 with hv0
  injection hv1 with hv1
  injection hv2 with hv2
  injection hv3 with hv3
  injection hv4 with hv4
  subst hv0; subst hv1; subst hv2; subst hv3; subst hv4
  have hsm := slr_small hs
  obtain ⟨vs, rfl, hA⟩ := bvs_of hs
  clear hs
  rw [List.length_map] at hc ⊢
  have hsv : ∀ v ∈ vs, v.2.2.length ≤ 140737488351232 := fun v hv => hsm _ (List.mem_map.2 ⟨v, hv, rfl⟩)
  clear hsm
  refine calls_of_CW Try.func12 rfl (by simp [Try.ntmps12]) ?_
  rw [Try.ntmps12]
  refine go_LWalBegins (k := ?_)
  refine OW_callV Try.func13 (by kernel_rfl) rfl (awake7_any w) rfl ?_
  intro w1 hx1
  refine go_LWalBegins (k := ?_)
  refine OW_callV Try.func14 (by kernel_rfl) rfl (long7_any w1 A c vs (hA.ext hx1) (by omega) hsv) rfl ?_
  intro w2 hx2
  have hx02 := hx1.trans' hx2
  refine go_LWalBegins (k := ?_)
  refine OW_split 23 _ rfl (fun h => ?_) (fun h => ?_)
  · refine go_LWalBegins (k := ?_)
    exact bodyE_ret1 rfl (.bool true) rfl ⟨rfl, hx02⟩
  have hwa : worth 40 vs ≤ 2000 := by have := of_decide_eq_false h; omega
  clear h
  refine go_LWalBegins (k := ?_)
  refine OW_split 28 _ rfl (fun h => ?_) (fun h => ?_)
  · refine go_LWalBegins (k := ?_)
    exact bodyE_ret1 rfl (.bool true) rfl ⟨rfl, hx02⟩
  have hml : more.length ≤ 500 := by have := of_decide_eq_false h; omega
  clear h
  refine go_LWalBegins (k := ?_)
  refine OW_split 32 _ rfl (fun h => ?_) (fun h => ?_)
  · refine go_LWalBegins (k := ?_)
    exact bodyE_ret1 rfl (.bool true) rfl ⟨rfl, hx02⟩
  have hk0 := of_decide_eq_false h
  clear h
  refine go_LWalBegins (k := ?_)
  refine OW_split 36 _ rfl (fun h => ?_) (fun h => ?_)
  · refine go_LWalBegins (k := ?_)
    exact bodyE_ret1 rfl (.bool true) rfl ⟨rfl, hx02⟩
  have ht0 := of_decide_eq_false h
  clear h
  refine go_LWalBegins (k := ?_)
  refine OW_split 40 _ rfl (fun h => ?_) (fun h => ?_)
  · refine go_LWalBegins (k := ?_)
    exact bodyE_ret1 rfl (.bool true) rfl ⟨rfl, hx02⟩
  have hs0 := of_decide_eq_false h
  clear h
  refine go_LWalBegins (k := ?_)
  refine CW_cond _ rfl (fun h => ?_) (fun h => ?_)
  · refine go_LWalBegins (k := ?_)
    exact bodyE_ret1 rfl (.bool true) rfl ⟨rfl, hx02⟩
  have hs1 := of_decide_eq_false h
  clear h
  obtain ⟨sN, rfl⟩ : ∃ n : Nat, sy = n := ⟨sy.toNat, by omega⟩
  obtain ⟨kN, rfl⟩ : ∃ n : Nat, kp = n := ⟨kp.toNat, by omega⟩
  obtain ⟨tN, rfl⟩ : ∃ n : Nat, tn = n := ⟨tn.toNat, by omega⟩
  have hsn : sN ≤ vs.length := by omega
  have hla := worth_len (n := 40) vs
  have hfa := framesB_worth vs
  have hpa := pay_small hwa
  obtain ⟨ps, hps⟩ : ∃ ps, vs.map pay = ps := ⟨_, rfl⟩
  rw [hps] at hfa hpa
  have hpl : ps.length = vs.length := by rw [← hps]; simp
  have hfk : ∀ k, (framesB (ps.take k)).length ≤ 2000 := fun k => by
    have := congrArg List.length (framesB_take ps k)
    rw [List.length_append] at this
    omega
  refine go_LWalBegins (k := ?_)
  refine OW_callC Try.func15 (by kernel_rfl) rfl (newWal_ply w w2 hx02) rfl ?_
  rintro en w4 ⟨g, rfl, hx4, hR4⟩
  refine ⟨_, rfl, ?_⟩
  refine go_LWalBegins (k := ?_)
  refine OW_callC Try.func16 (by kernel_rfl) rfl hR4.wal rfl ?_
  rintro en w5 ⟨v, rfl, hx5, hR5⟩
  refine ⟨_, rfl, ?_⟩
  refine go_LWalBegins (k := ?_)
  refine CW_meetB (fun e' w' => e' 0 = .slice A vs.length c ∧ e' 1 = .int .i64 sN ∧ e' 2 = .int .i64 kN ∧ e' 3 = .int .i64 tN ∧ e' 4 = .slice B more.length d ∧ e' 11 = .pointer (some ⟨g, 0, none⟩) ∧ e' 12 = .pointer (some ⟨v, 0, none⟩) ∧ VPly w w' [v] g (dK ps sN vs.length) []) ?_ ?_
  · refine go_LWalBegins (k := ?_)
    refine CW_loop (fun e' w' => ∃ k : Nat, k ≤ vs.length ∧ e' 0 = .slice A vs.length c ∧ e' 1 = .int .i64 sN ∧ e' 2 = .int .i64 kN ∧ e' 3 = .int .i64 tN ∧ e' 4 = .slice B more.length d ∧ e' 11 = .pointer (some ⟨g, 0, none⟩) ∧ e' 12 = .pointer (some ⟨v, 0, none⟩) ∧ e' 13 = .int .i64 k ∧ VPly w w' [v] g (dK ps sN k) []) (fun e' _ => vs.length - (intOf (e' 13)).toNat) ⟨0, Nat.zero_le _, rfl, rfl, rfl, rfl, rfl, rfl, rfl, rfl, by unfold dK; rw [if_pos (Nat.zero_le _)]; exact hR5⟩ ?_
    rintro e' w6 ⟨k, hk, q0, q1, q2, q3, q4, q11, q12, q13, hR6⟩
    rw [upd_self q0, upd_self q1, upd_self q2, upd_self q3, upd_self q4, upd_self q11, upd_self q12, upd_self q13]
    refine go_LWalBegins (k := ?_)
    refine CW_cond _ rfl (fun hh => ?_) (fun hh => ?_)
    · have hlt : k < vs.length := by have := of_decide_eq_true hh; omega
      clear hh
      refine go_LWalBegins (k := ?_)
      refine CW_meet (fun e' w' => e' 0 = .slice A vs.length c ∧ e' 1 = .int .i64 sN ∧ e' 2 = .int .i64 kN ∧ e' 3 = .int .i64 tN ∧ e' 4 = .slice B more.length d ∧ e' 11 = .pointer (some ⟨g, 0, none⟩) ∧ e' 12 = .pointer (some ⟨v, 0, none⟩) ∧ e' 13 = .int .i64 k ∧ VPly w w' [v] g (dM ps sN k) []) ?_ ?_
      · refine CW_cond _ rfl (fun hh => ?_) (fun hh => ?_)
        · have hks : k = sN := by simp at hh; omega
          clear hh
          have hsy := hR6.sync (v := v) (by simp) (by rw [dK_all]; have := hfk k; omega) (by have := dK_ws ps sN k; omega)
          rw [dK_sync hks] at hsy
          refine go_LWalBegins (k := ?_)
          refine OW_callC Try.func20 (by kernel_rfl) rfl hsy rfl ?_
          rintro en w7 ⟨rfl, hR7⟩
          refine ⟨_, rfl, ?_⟩
          refine go_LWalBegins (k := ?_)
          exact ⟨rfl, rfl, rfl, rfl, rfl, rfl, rfl, rfl, rfl, hR7⟩
        · have hks : k ≠ sN := by simp at hh; omega
          clear hh
          rw [dK_same hks] at hR6
          refine go_LWalBegins (k := ?_)
          exact ⟨rfl, rfl, rfl, rfl, rfl, rfl, rfl, rfl, rfl, hR6⟩
      rintro e7 w7 ⟨q0, q1, q2, q3, q4, q11, q12, q13, hR7⟩
      rw [upd_self q0, upd_self q1, upd_self q2, upd_self q3, upd_self q4, upd_self q11, upd_self q12, upd_self q13]
      have hx7 := hR7.to
      obtain ⟨ad, rfl, hcA⟩ := (hA.ext hx7).cell hlt
      have hbx := (hA.bs _ (List.getElem_mem hlt)).1
      have hvx := worth_each (n := 40) (List.getElem_mem hlt)
      have hpk := pay_at hps hlt
      have hcnt := dM_ws ps sN k
      have hdm := dM_add (ps := ps) (sy := sN) (k := k) (by omega)
      rw [← hpk] at hdm
      generalize vs[k] = x at *
      obtain ⟨xA, xc, xl⟩ := x
      replace hcA : w7.cell? (ad.add k) = some (.slice xA xl.length xc) := hcA
      simp only at hbx hvx hdm
      have hadd := hR7.add0 (v := v) (by simp) (by omega) xA xc xl hbx (by omega)
      rw [hdm] at hadd
      refine go_LWalBegins (k := ?_)
      refine OW_callC Try.func17 (by kernel_rfl) rfl hadd rfl ?_
      rintro en w8 ⟨rfl, hR8⟩
      refine ⟨_, rfl, ?_⟩
      refine go_LWalBegins (k := ?_)
      refine ⟨⟨k + 1, by omega, rfl, rfl, rfl, rfl, rfl, rfl, rfl, rfl, hR8⟩, ?_⟩
      show vs.length - ((k : Int) + 1).toNat < vs.length - (k : Int).toNat
      omega
    · have hge : k = vs.length := by have := of_decide_eq_false hh; omega
      subst hge
      refine go_LWalBegins (k := ?_)
      exact ⟨rfl, rfl, rfl, rfl, rfl, rfl, rfl, rfl, hR6⟩
  rintro e6 w6 ⟨q0, q1, q2, q3, q4, q11, q12, hR6⟩
  rw [upd_self q0, upd_self q1, upd_self q2, upd_self q3, upd_self q4, upd_self q11, upd_self q12]
  obtain ⟨dE, hdE⟩ : ∃ dE, dF (framesB (ps.take sN)) (ps.drop sN) = dE := ⟨_, rfl⟩
  have hdMn : dM ps sN vs.length = dE := by
    unfold dM
    rw [if_neg (by omega), List.take_of_length_le (show ps.length ≤ vs.length by omega), hdE]
  refine go_LWalBegins (k := ?_)
  refine CW_meet (fun e' w' => e' 0 = .slice A vs.length c ∧ e' 1 = .int .i64 sN ∧ e' 2 = .int .i64 kN ∧ e' 3 = .int .i64 tN ∧ e' 4 = .slice B more.length d ∧ e' 11 = .pointer (some ⟨g, 0, none⟩) ∧ e' 12 = .pointer (some ⟨v, 0, none⟩) ∧ VPly w w' [v] g dE []) ?_ ?_
  · refine CW_cond _ rfl (fun hh => ?_) (fun hh => ?_)
    · have hks : vs.length = sN := by simp at hh; omega
      clear hh
      have hsy := hR6.sync (v := v) (by simp) (by rw [dK_all]; have := hfk vs.length; omega) (by have := dK_ws ps sN vs.length; omega)
      rw [dK_sync hks, hdMn] at hsy
      refine go_LWalBegins (k := ?_)
      refine OW_callC Try.func20 (by kernel_rfl) rfl hsy rfl ?_
      rintro en w7 ⟨rfl, hR7⟩
      refine ⟨_, rfl, ?_⟩
      refine go_LWalBegins (k := ?_)
      exact ⟨rfl, rfl, rfl, rfl, rfl, rfl, rfl, rfl, hR7⟩
    · have hks : vs.length ≠ sN := by simp at hh; omega
      clear hh
      rw [dK_same hks, hdMn] at hR6
      refine go_LWalBegins (k := ?_)
      exact ⟨rfl, rfl, rfl, rfl, rfl, rfl, rfl, rfl, hR6⟩
  clear hR4 hR5 hR6
  rintro e7 w7 ⟨q0, q1, q2, q3, q4, q11, q12, hR7⟩
  rw [upd_self q0, upd_self q1, upd_self q2, upd_self q3, upd_self q4, upd_self q11, upd_self q12]
  have hx7 := hR7.to
  obtain ⟨W, hW⟩ : ∃ W, min (sN + kN) ps.length = W := ⟨_, rfl⟩
  have hcb := crash_begins hpa (sy := sN) (by omega) kN tN
  rw [hdE, hW] at hcb
  have hEs : dE.s = framesB (ps.take sN) := by rw [← hdE]; rfl
  have hEu : dE.up = true := by rw [← hdE]; rfl
  have hEa : dE.all = framesB ps := by rw [← hdE, dF_all, ← framesB_append, List.take_append_drop]
  have hEw : dE.ws.length ≤ 50 := by rw [← hdE, dF_ws, List.length_drop]; omega
  have hI64 : sN + kN < 18446744073709551616 := by unfold I64 at hi2; omega
  have hIs : IsAll dE.s (ps.take sN) := all_of (fun p hp => hpa p (List.mem_of_mem_take hp)) hEs
  obtain ⟨z, hz⟩ : ∃ z, IntKind.i64.wrap ((sN : Int) + kN) = z := ⟨_, rfl⟩
  have hzc : z = sN + kN ∨ (z < 0 ∧ vs.length < sN + kN) := by
    rw [← hz]
    unfold I64 at hi2
    simp [IntKind.wrap, IntKind.signed, IntKind.bits]
    omega
  refine go_LWalBegins (k := ?_)
  rw [hz]
  refine OW_meet (fun e' w' => e' 0 = .slice A vs.length c ∧ e' 1 = .int .i64 sN ∧ e' 2 = .int .i64 kN ∧ e' 3 = .int .i64 tN ∧ e' 4 = .slice B more.length d ∧ e' 11 = .pointer (some ⟨g, 0, none⟩) ∧ e' 12 = .pointer (some ⟨v, 0, none⟩) ∧ e' 14 = .int .i64 z ∧ e' 84 = .bool (decide ((vs.length : Int) < z ∨ z < sN)) ∧ w' = w7) ?_ ?_
  · refine OW_split 80 _ rfl (fun h => ?_) (fun h => ?_)
    · have h := of_decide_eq_true h
      refine go_LWalBegins (k := ?_)
      exact ⟨rfl, rfl, rfl, rfl, rfl, rfl, rfl, rfl, rfl, by rw [decide_eq_true (show (vs.length : Int) < z ∨ z < (sN : Int) from .inl h)]; rfl, rfl⟩
    · have h := of_decide_eq_false h
      refine go_LWalBegins (k := ?_)
      refine ⟨rfl, rfl, rfl, rfl, rfl, rfl, rfl, rfl, rfl, ?_, rfl⟩
      show Value.bool _ = _
      by_cases h2 : z < sN
      · rw [decide_eq_true h2, decide_eq_true (show (vs.length : Int) < z ∨ z < (sN : Int) from .inr h2)]
      · rw [decide_eq_false h2, decide_eq_false (show ¬ ((vs.length : Int) < z ∨ z < (sN : Int)) by omega)]
  rintro e8 w8 ⟨q0, q1, q2, q3, q4, q11, q12, q14, q84, rfl⟩
  rw [upd_self q0, upd_self q1, upd_self q2, upd_self q3, upd_self q4, upd_self q11, upd_self q12, upd_self q14, upd_self q84]
  refine go_LWalBegins (k := ?_)
  refine CW_meet (fun e' w' => e' 0 = .slice A vs.length c ∧ e' 1 = .int .i64 sN ∧ e' 2 = .int .i64 kN ∧ e' 3 = .int .i64 tN ∧ e' 4 = .slice B more.length d ∧ e' 11 = .pointer (some ⟨g, 0, none⟩) ∧ e' 12 = .pointer (some ⟨v, 0, none⟩) ∧ e' 14 = .int .i64 W ∧ w' = w8) ?_ ?_
  · refine CW_cond _ rfl (fun h => ?_) (fun h => ?_)
    · have h := of_decide_eq_true h
      refine go_LWalBegins (k := ?_)
      refine ⟨rfl, rfl, rfl, rfl, rfl, rfl, rfl, rfl, ?_, rfl⟩
      show Value.int .i64 (vs.length : Int) = _
      congr 1
      omega
    · have h := of_decide_eq_false h
      refine go_LWalBegins (k := ?_)
      refine ⟨rfl, rfl, rfl, rfl, rfl, rfl, rfl, rfl, ?_, rfl⟩
      show Value.int .i64 z = _
      congr 1
      omega
  rintro e9 w9 ⟨q0, q1, q2, q3, q4, q11, q12, q14, rfl⟩
  rw [upd_self q0, upd_self q1, upd_self q2, upd_self q3, upd_self q4, upd_self q11, upd_self q12, upd_self q14]
  have hWl : W ≤ vs.length := by omega
  clear hzc hz hI64
  have hsyl : (ps.take sN).length = sN := by rw [List.length_take]; omega
  have htl : (ps.take W).length = W := by rw [List.length_take]; omega
  have hcr : dCrash dE kN tN = (0, ⟨false, (framesB ps).take (crashN dE kN tN), []⟩) := by
    unfold dCrash
    rw [if_pos hEu, if_neg (by omega), hEa]
    rfl
  obtain ⟨L, hL⟩ : ∃ L, (framesB ps).take (crashN dE kN tN) = L := ⟨_, rfl⟩
  rw [hL] at hcb hcr
  have hLl : L.length ≤ 2000 := by rw [← hL, List.length_take]; omega
  have hst : dStart ⟨false, L, []⟩ = (0, ⟨true, L, []⟩) := rfl
  have hLa : DS.all ⟨true, L, []⟩ = L := by simp [DS.all]
  have hLA : IsAll (DS.all ⟨true, L, []⟩) (ps.take W) := by rw [hLa]; exact hcb
  have hrc := rcv_bytes hcb
  obtain ⟨qs, hqs⟩ : ∃ qs, ps.take W = qs := ⟨_, rfl⟩
  have hqp : ∀ p ∈ qs, p.length ≤ 65536 := fun p hp => hpa p (List.mem_of_mem_take (by rw [hqs]; exact hp))
  have hqf := hfk W
  have hqg : ∀ (i : Nat) (hi : i < W), qs[i]'(by rw [← hqs, htl]; exact hi) = ps[i]'(by omega) := fun i hi => by subst hqs; rw [List.getElem_take]
  rw [hqs] at hLA hrc hqf htl
  have hmf := frameB_length more
  have hmall : (dF (framesB qs) [more]).all = framesB (qs ++ [more]) := by rw [dF_all, framesB_snoc]; simp [framesB]
  have hmI : IsAll (dF (framesB qs) [more]).all (qs ++ [more]) := all_of (fun p hp => by rcases List.mem_append.1 hp with h | h; exact hqp p h; rw [List.mem_singleton.1 h]; omega) hmall
  have hml2 : (dF (framesB qs) [more]).all.length ≤ 100000 := by rw [hmall, framesB_snoc, List.length_append]; omega
  refine go_LWalBegins (k := ?_)
  refine OW_callV Try.func21 (by kernel_rfl) rfl (hR7.lasting (v := v) (by simp) (ps.take sN) hIs (by rw [hEa]; omega) (by omega)) rfl ?_
  intro w10 hx10
  rw [hsyl]
  have hR10 := hR7.ext hx10
  refine go_LWalBegins (k := ?_)
  have hC := hR10.call _ fun S hD _ _ => dCrash_any w10 g S dE hD (by rw [hEa]; omega) (by omega) kN tN hi2 hi3
  rw [hcr] at hC
  refine OW_callC Try.func25 (by kernel_rfl) rfl hC rfl ?_
  rintro en w11 ⟨rfl, hR11⟩
  refine ⟨_, rfl, ?_⟩
  refine go_LWalBegins (k := ?_)
  have hSt := hR11.call _ fun S hD _ _ => dStart_any w11 g S _ hD
  rw [hst] at hSt
  refine OW_callC Try.func26 (by kernel_rfl) rfl hSt rfl ?_
  rintro en w12 ⟨rfl, hR12⟩
  refine ⟨_, rfl, ?_⟩
  replace hR12 : VPly w w12 [v] g ⟨true, L, []⟩ [] := hR12
  refine go_LWalBegins (k := ?_)
  have hRc := hR12.recover (v := v) (by simp) rfl qs hLA (by rw [hLa]; omega) (by simp)
  rw [hrc] at hRc
  refine OW_callC Try.func34 (by kernel_rfl) rfl hRc rfl ?_
  rintro en w13 ⟨X, xs, rfl, hxs, hR13⟩
  refine ⟨_, rfl, ?_⟩
  have hxl : xs.length = W := by rw [← htl, ← hxs]; simp
  have hxp : ∀ (i : Nat) (hi : i < xs.length), (xs[i]).2.2 = ps[i]'(by omega) := fun i hi => by rw [pay_at hxs hi, hqg i (by omega)]
  have hvp : ∀ (i : Nat) (hi : i < vs.length), (vs[i]).2.2 = ps[i]'(by omega) := fun i hi => pay_at hps hi
  have hxc : ∀ v ∈ xs, v.2.2.length ≤ 1000000 := fun v hv => by
    obtain ⟨i, hi, rfl⟩ := List.mem_iff_getElem.1 hv
    rw [hxp i hi]
    have := hpa _ (List.getElem_mem (show i < ps.length by omega))
    omega
  have hx013 := hR13.to
  clear hR11 hR12 hR10 hR7
  refine go_LWalBegins (k := ?_)
  refine OW_callV Try.func19 (by kernel_rfl) rfl (same7_any w13 X A xs.length c xs vs (hR13.arg (by simp)) (hA.ext hx013) (by omega) hxc (by omega) (fun i hi => by rw [hxp i hi, hvp i (by omega)])) rfl ?_
  intro w14 hx14
  have hR14 := hR13.ext hx14
  refine go_LWalBegins (k := ?_)
  have hadd := hR14.add0 (v := v) (by simp) (by simp [dF]) B d more hB (by omega)
  rw [dF_add] at hadd
  refine OW_callC Try.func17 (by kernel_rfl) rfl hadd rfl ?_
  rintro en w15 ⟨rfl, hR15⟩
  refine ⟨_, rfl, ?_⟩
  replace hR15 : VPly w w15 [v] g (dF (framesB qs) [more]) [(X, xs)] := hR15
  refine go_LWalBegins (k := ?_)
  refine OW_callC Try.func18 (by kernel_rfl) rfl (hR15.records (v := v) (by simp) (qs ++ [more]) hmI hml2 (by simp [dF])) rfl ?_
  rintro en w16 ⟨Y, cY, ys, rfl, hys, hR16, hrY, _⟩
  refine ⟨_, rfl, ?_⟩
  have hyl : ys.length = W + 1 := by
    have := congrArg List.length hys
    simpa [htl] using this
  have hyp : ∀ (i : Nat) (hi : i < W), (ys[i]'(by omega)).2.2 = ps[i]'(by omega) := fun i hi => by
    rw [pay_at hys (by omega), List.getElem_append_left (by omega), hqg i hi]
  have hyW : (ys[W]'(by omega)).2.2 = more := by
    rw [pay_at hys (by omega), List.getElem_append_right (by omega)]
    simp
  refine go_LWalBegins (k := ?_)
  refine OW_callV Try.func19 (by kernel_rfl) rfl (same7_any w16 X Y xs.length cY xs ys (hR16.arg (by simp)) (hR16.arg (by simp)) (by omega) hxc (by omega) (fun i hi => by rw [hxp i hi, hyp i (by omega)])) rfl ?_
  intro w17 hx17
  have hR17 := hR16.ext hx17
  have hx017 := hR17.to
  have hargY : ArgL w17 Y ys := hR17.arg (by simp)
  obtain ⟨ad, hY, hcY⟩ := hargY.cell (k := W) (by omega)
  obtain ⟨hbY, hcapY⟩ := hargY.bs _ (List.getElem_mem (show W < ys.length by omega))
  generalize ys[W] = y at *
  obtain ⟨yA, yc, yl⟩ := y
  simp only at hyW hbY hcapY
  subst hyW
  replace hcY : w17.cell? (ad.add W) = some (.slice yA yl.length yc) := hcY
  subst hY
  refine go_LWalBegins (k := ?_)
  refine OW_callV Try.func38 (by kernel_rfl) rfl (sameL_any w17 yA B yl yl yc d hbY (hB.ext hx017) hcapY (by omega)) rfl ?_
  intro w18 hx18
  rw [beq_self_eq_true]
  refine go_LWalBegins (k := ?_)
  exact bodyE_ret1 rfl (.bool true) rfl ⟨rfl, hx017.trans' hx18⟩
set_option maxRecDepth 100000 in
theorem lifted (os : Os) (started : os.Started) (H : Type) (enc : TypeId × Value → H) :
    ReturnsInHanded {} Try.checked os 12 .any (Rows.walBeginsSpec.pre6 enc Try.prog Try.f12 Rows.walBeginsRow.domain false) (Rows.walBeginsSpec.post enc Try.prog Try.f12 false true false false) := by
  refine returnsInHanded_of_change_sized (C := Try.checked) ownP started (by kernel_rfl) Try.func12
    (ChangeSpec.witness6 (enc := enc) (C := Try.checked) false ⟨#[], #[.slice none 0 0, .int .i64 0, .int .i64 0, .int .i64 0, .slice none 0 0], []⟩ 8 (by kernel_rfl) (by kernel_rfl) (by kernel_rfl) (by kernel_rfl)) ?_
  intro W base args ds gs before hval0 hW hcnd hwt0 _
  have hval : ∀ (j : Nat) t v, Try.f12.params[j]? = some t → args[j]? = some v → Value.okWide Try.prog W .any base t v := hval0
  have hW' := hW
  obtain ⟨p, q, hA0, hV, rfl, hfz, hnd⟩ := hW
  have hA : DataW.TrodAll enc Try.prog W 0 (fun _ => true) true Try.f12.params.toList args.toList ds p := hA0
  have hwt : (DataW.weightsEach Try.prog (Try.f12.params.toList ++ []) (ds ++ gs)).all (· ≤ reachBytes) = true := hwt0
  rw [Try.params12] at hA hval hwt
  obtain ⟨v0, vs0, d0, ds0, p0, q0, hargs, rfl, rfl, h0, r0⟩ := trodAll_cons hA
  obtain ⟨v1, vs1, d1, ds1, p1, q1, rfl, rfl, rfl, h1, r1⟩ := trodAll_cons r0
  obtain ⟨v2, vs2, d2, ds2, p2, q2, rfl, rfl, rfl, h2, r2⟩ := trodAll_cons r1
  obtain ⟨v3, vs3, d3, ds3, p3, q3, rfl, rfl, rfl, h3, r3⟩ := trodAll_cons r2
  obtain ⟨v4, vs4, d4, ds4, p4, q4, rfl, rfl, rfl, h4, r4⟩ := trodAll_cons r3
  obtain ⟨rfl, rfl, rfl⟩ := trodAll_nil r4
  obtain rfl : args = #[v0, v1, v2, v3, v4] := by cases args; simp_all
  obtain ⟨rfl, rfl⟩ := trodVars_none hV
  have k0 := h0
  have lt0 : ∀ x ∈ p0, x.block < W.heap.size := by obtain ⟨m, hm⟩ := k0; exact DataW.trod_lt m _ _ _ hm
  have wk0 : WOk Try.prog 22 d0 := wok_each hwt 0 rfl rfl
  obtain ⟨a0, b0⟩ := kd_slice kBss und_bytess (hval 0 22 v0 rfl rfl) h0 wk0
  have k1 := h1
  have lt1 : ∀ x ∈ p1, x.block < W.heap.size := by obtain ⟨m, hm⟩ := k1; exact DataW.trod_lt m _ _ _ hm
  have wk1 : WOk Try.prog 3 d1 := wok_each hwt 1 rfl rfl
  obtain ⟨a1, b1⟩ := kd_int kI und_int (hval 1 3 v1 rfl rfl) h1 wk1
  have k2 := h2
  have lt2 : ∀ x ∈ p2, x.block < W.heap.size := by obtain ⟨m, hm⟩ := k2; exact DataW.trod_lt m _ _ _ hm
  have wk2 : WOk Try.prog 3 d2 := wok_each hwt 2 rfl rfl
  obtain ⟨a2, b2⟩ := kd_int kI und_int (hval 2 3 v2 rfl rfl) h2 wk2
  have k3 := h3
  have lt3 : ∀ x ∈ p3, x.block < W.heap.size := by obtain ⟨m, hm⟩ := k3; exact DataW.trod_lt m _ _ _ hm
  have wk3 : WOk Try.prog 3 d3 := wok_each hwt 3 rfl rfl
  obtain ⟨a3, b3⟩ := kd_int kI und_int (hval 3 3 v3 rfl rfl) h3 wk3
  have k4 := h4
  have lt4 : ∀ x ∈ p4, x.block < W.heap.size := by obtain ⟨m, hm⟩ := k4; exact DataW.trod_lt m _ _ _ hm
  have wk4 : WOk Try.prog 31 d4 := wok_each hwt 4 rfl rfl
  obtain ⟨a4, b4⟩ := kd_slice kBs und_bytes (hval 4 31 v4 rfl rfl) h4 wk4
  clear hA0 hval0 hwt0
  refine (walk W v0 a0 b0 v1 a1 b1 v2 a2 b2 v3 a3 b3 v4 a4 b4).mono fun e W' ⟨he, bel⟩ => ?_
  subst he
  exact ⟨_, rfl, _, _, _, [], _, [], hW', trodAll_mk1 (shut_bool Try.underlying4 _), (trodAll_cons_mk (Below.trod laidP (by kernel_rfl) (of_decide_eq_true (by kernel_rfl)) k0 bel lt0) (trodAll_cons_mk (Below.trod laidP (by kernel_rfl) (of_decide_eq_true (by kernel_rfl)) k1 bel lt1) (trodAll_cons_mk (Below.trod laidP (by kernel_rfl) (of_decide_eq_true (by kernel_rfl)) k2 bel lt2) (trodAll_cons_mk (Below.trod laidP (by kernel_rfl) (of_decide_eq_true (by kernel_rfl)) k3 bel lt3) (trodAll_cons_mk (Below.trod laidP (by kernel_rfl) (of_decide_eq_true (by kernel_rfl)) k4 bel lt4) trodAll_mk0))))), rfl, bel.frame _, fun h => by cases h⟩
theorem over : Rows.walBeginsRow.holds Try.pinned (OpenSpec.ofChange Rows.walBeginsSpec) :=
  OpenClaim.holds_of_wide 12 Try.f12 rfl rfl rfl rfl rfl rfl rfl ⟨rfl, rfl, rfl, rfl, rfl⟩ rfl rfl rfl rfl rfl (by kernel_rfl) Try.func12 (by kernel_rfl)
    (of_decide_eq_true (by kernel_rfl)) (by unfold Func.isWrapper; first | (rw [if_pos (by decide +kernel)]; kernel_rfl) | (rw [if_neg (by decide +kernel)]; exact ⟨rfl, rfl⟩))
    (fun os started H enc _ => lifted os started H enc)
theorem proved : Rows.WalBeginsSaid := over
#print axioms proved
end Go.Proofs.Ytnfeibbnjdegfaa.lawWalBegins
