/- WalTorn: bytes at the end that are no frame are cut off by Recover, and nothing else is; a second one cuts nothing. No condition. -/
import Derived.Test.YtnfeibbnjdegfaaGw3
import Derived.Test.YtnfeibbnjdegfaaGw22
namespace Go.Proofs.Ytnfeibbnjdegfaa.lawWalTorn
open Go.ChangeShapes Go.WideShapes Go.ChangeAt Go.RowKit
set_option linter.unusedVariables false
set_option maxRecDepth 4000
theorem go_LWalTorn {A B : Prop} (h : Held B → A := by
  intro hEnd
  repeat (first | refine OW_neqF rfl rfl (by first | rfl | omega) ?_ | refine OW_eqlTr rfl rfl (by first | rfl | omega) ?_ | refine OW_moveV (.int _ _) rfl ?_ | refine OW_moveV (.slice _ _ _) rfl ?_ | refine OW_moveV (.bool _) rfl ?_ | refine OW_moveV (.pointer _) rfl ?_ | refine OW_moveV (.string _) rfl ?_ | refine OW_moveV (.agg _) rfl ?_ | refine OW_moveV (.tuple _) rfl ?_ | refine OW_nil ?_ | refine thenE_normal ?_ | refine CW_seq ?_ | refine CW_region (by kernel_rfl) ?_ | refine OW_assignV (.int _ _) rfl ?_ | refine OW_assignV (.slice _ _ _) rfl ?_ | refine OW_assignV (.bool _) rfl ?_ | refine OW_assignV (.pointer _) rfl ?_ | refine OW_assignV (.string _) rfl ?_ | refine OW_assignV (.agg _) rfl ?_ | refine OW_assignV (.tuple _) rfl ?_ | refine OW_addI rfl rfl (by omega) ?_ | refine OW_subI rfl rfl (by omega) ?_ | refine OW_mulI rfl rfl (by omega) ?_ | refine OW_lss rfl rfl ?_ | refine OW_extract rfl rfl ?_ | refine OW_gtr rfl rfl ?_ | refine OW_leq rfl rfl ?_ | refine OW_geq rfl rfl ?_ | refine OW_eql rfl rfl ?_ | refine OW_neq rfl rfl ?_ | refine OW_not rfl ?_ | refine OW_pickT rfl _ rfl ?_ | refine OW_pickF rfl (.bool _) rfl ?_ | refine OW_pickB rfl rfl rfl ?_ | refine OW_move ?_ | refine OW_assign ?_ | refine OW_pass rfl ?_ | refine OW_take rfl ?_ | refine OW_lenS (by first | with_reducible exact und_bytes | with_reducible exact und_bytess) rfl ?_ | refine OW_convInt (by first | with_reducible exact und_u8 | with_reducible exact und_u64 | with_reducible exact und_int | with_reducible exact und_u32) (by first | with_reducible exact und_u8 | with_reducible exact und_u64 | with_reducible exact und_int | with_reducible exact und_u32) rfl ?_ | refine OW_add rfl rfl ?_ | refine OW_sub rfl rfl ?_ | refine OW_mul rfl rfl ?_ | refine OW_min2 rfl rfl ?_ | refine OW_max2 rfl rfl ?_ | refine OW_neg rfl ?_ | refine CW_block ?_ | refine CW_condT rfl ?_ | refine CW_condF rfl ?_ | refine CW_exit ?_ | refine CW_ret ?_ | refine CW_skip ?_ | refine LW_seq ?_ | refine LW_regC ?_ | refine LW_condC ?_ | refine LW_regF ?_ | refine LW_condF ?_ | refine FW_seq ?_ | refine FW_region (by kernel_rfl) ?_ | refine FW_block ?_ | refine FW_condT rfl ?_ | refine FW_condF rfl ?_ | refine FW_exit ?_ | refine FW_ret ?_ | refine FW_skip ?_ | refine LW_ret ?_ | refine LW_skip ?_ | refine thenE_exit ?_ | refine thenE_ret ?_ | refine inBlockE_normal ?_ | refine inBlockE_same ?_ | refine inBlockE_ret ?_ | refine inBlockE_ne (by rfl) ?_ | refine OW_eqlB (by with_reducible exact und_bool) rfl rfl ?_ | refine OW_neqB (by with_reducible exact und_bool) rfl rfl ?_ | refine OW_idxS (by with_reducible exact und_bytes) one_u8 rfl rfl _ rfl (by omega) ?_ | refine OW_idxS (by with_reducible exact und_bytess) one_bytes rfl rfl _ rfl (by omega) ?_ | refine OW_load1 (by first | with_reducible exact one_u8 | with_reducible exact one_bytes) rfl _ (by assumption) ?_ | refine OW_idxS und_bytess one_bytes rfl rfl _ rfl (by omega) ?_)
  exact hEnd.out) (k : B) : A := h ⟨k⟩
/-- A rest too short for a frame is none. -/
theorem next_short {r : List UInt8} (h : r.length ≤ 11) : nextL r = none := by
  unfold nextL
  rw [if_neg]
  rintro ⟨h1, h2, h3, h4⟩
  omega
set_option maxHeartbeats 8000000 in
theorem walk (w : World) (v0 : Value) (la : List (List UInt8)) (h0 : kBss.R w [v0] la) (v1 : Value) (rest : List UInt8) (h1 : kBs.R w [v1] rest) : Calls Try.prog 6 #[v0, v1] w (RetV w (.bool true)) := by
  obtain ⟨A, c, hv0, hc, hcm, hs⟩ := h0
  obtain ⟨B, d, hv1, ⟨hd, hd2⟩, hB⟩ := h1
  injection hv0 with hv0
  injection hv1 with hv1
  subst hv0; subst hv1
  have hsm := slr_small hs
  obtain ⟨vs, rfl, hA⟩ := bvs_of hs
  clear hs
  rw [List.length_map] at hc ⊢
  have hsv : ∀ v ∈ vs, v.2.2.length ≤ 140737488351232 := fun v hv => hsm _ (List.mem_map.2 ⟨v, hv, rfl⟩)
  clear hsm
  refine calls_of_CW Try.func6 rfl (by simp [Try.ntmps6]) ?_
  rw [Try.ntmps6]
  refine go_LWalTorn (k := ?_)
  refine OW_callV Try.func13 (by kernel_rfl) rfl (awake7_any w) rfl ?_
  intro w1 hx1
  refine go_LWalTorn (k := ?_)
  refine OW_callV Try.func14 (by kernel_rfl) rfl (long7_any w1 A c vs (hA.ext hx1) (by omega) hsv) rfl ?_
  intro w2 hx2
  have hx02 := hx1.trans' hx2
  refine go_LWalTorn (k := ?_)
  refine OW_split 19 _ rfl (fun h => ?_) (fun h => ?_)
  · refine go_LWalTorn (k := ?_)
    exact bodyE_ret1 rfl (.bool true) rfl ⟨rfl, hx02⟩
  have hwa : worth 40 vs ≤ 2000 := by have := of_decide_eq_false h; omega
  clear h
  refine go_LWalTorn (k := ?_)
  refine CW_cond _ rfl (fun h => ?_) (fun h => ?_)
  · refine go_LWalTorn (k := ?_)
    exact bodyE_ret1 rfl (.bool true) rfl ⟨rfl, hx02⟩
  have hrl : rest.length ≤ 11 := by have := of_decide_eq_false h; omega
  clear h
  have hla := worth_len (n := 40) vs
  have hfa := framesB_worth vs
  have hpa := pay_small hwa
  refine go_LWalTorn (k := ?_)
  refine OW_callC Try.func15 (by kernel_rfl) rfl (newWal_ply w w2 hx02) rfl ?_
  rintro en w4 ⟨g, rfl, hx4, hR4⟩
  refine ⟨_, rfl, ?_⟩
  refine go_LWalTorn (k := ?_)
  refine OW_callC Try.func16 (by kernel_rfl) rfl hR4.wal rfl ?_
  rintro en w5 ⟨v, rfl, hx5, hR5⟩
  refine ⟨_, rfl, ?_⟩
  refine go_LWalTorn (k := ?_)
  refine CW_meetB (fun e' w' => e' 0 = .slice A vs.length c ∧ e' 1 = .slice B rest.length d ∧ e' 5 = .pointer (some ⟨g, 0, none⟩) ∧ e' 6 = .pointer (some ⟨v, 0, none⟩) ∧ VPly w w' [v] g (dF [] (vs.map pay)) []) ?_ ?_
  · refine go_LWalTorn (k := ?_)
    refine CW_loop (fun e' w' => ∃ k : Nat, k ≤ vs.length ∧ e' 0 = .slice A vs.length c ∧ e' 1 = .slice B rest.length d ∧ e' 5 = .pointer (some ⟨g, 0, none⟩) ∧ e' 6 = .pointer (some ⟨v, 0, none⟩) ∧ e' 7 = .int .i64 k ∧ VPly w w' [v] g (dF [] ((vs.map pay).take k)) []) (fun e' _ => vs.length - (intOf (e' 7)).toNat) ⟨0, Nat.zero_le _, rfl, rfl, rfl, rfl, rfl, hR5⟩ ?_
    rintro e' w6 ⟨k, hk, q0, q1, q5, q6, q7, hR6⟩
    rw [upd_self q0, upd_self q1, upd_self q5, upd_self q6, upd_self q7]
    refine go_LWalTorn (k := ?_)
    refine CW_cond _ rfl (fun hh => ?_) (fun hh => ?_)
    · have hlt : k < vs.length := by have := of_decide_eq_true hh; omega
      clear hh
      have hx6 := hR6.to
      obtain ⟨ad, rfl, hcA⟩ := (hA.ext hx6).cell hlt
      have hbx := (hA.bs _ (List.getElem_mem hlt)).1
      have hvx := worth_each (n := 40) (List.getElem_mem hlt)
      have htp := take_pay hlt
      have hcnt : (dF [] ((vs.map pay).take k)).ws.length ≤ 1000000 := by rw [dF_ws, List.length_take]; omega
      generalize vs[k] = x at *
      obtain ⟨xA, xc, xl⟩ := x
      replace hcA : w6.cell? (ad.add k) = some (.slice xA xl.length xc) := hcA
      simp only at hbx hvx htp
      have hadd := hR6.add0 (v := v) (by simp) hcnt xA xc xl hbx (by omega)
      rw [dF_add, ← htp] at hadd
      refine go_LWalTorn (k := ?_)
      refine OW_callC Try.func17 (by kernel_rfl) rfl hadd rfl ?_
      rintro en w7 ⟨rfl, hR7⟩
      refine ⟨_, rfl, ?_⟩
      refine go_LWalTorn (k := ?_)
      refine ⟨⟨k + 1, by omega, rfl, rfl, rfl, rfl, rfl, hR7⟩, ?_⟩
      show vs.length - ((k : Int) + 1).toNat < vs.length - (k : Int).toNat
      omega
    · have hge : k = vs.length := by have := of_decide_eq_false hh; omega
      subst hge
      rw [List.take_of_length_le (by simp)] at hR6
      refine go_LWalTorn (k := ?_)
      exact ⟨rfl, rfl, rfl, rfl, rfl, hR6⟩
  rintro e6 w6 ⟨q0, q1, q5, q6, hR6⟩
  rw [upd_self q0, upd_self q1, upd_self q5, upd_self q6]
  obtain ⟨ps, hps⟩ : ∃ ps, vs.map pay = ps := ⟨_, rfl⟩
  rw [hps] at hR6 hfa hpa
  have hpl : ps.length = vs.length := by rw [← hps]; simp
  have hall : (dF [] ps).all = framesB ps := by rw [dF_all]; rfl
  have hwn : (dF [] ps).ws.length ≤ 1000000 := by rw [dF_ws]; omega
  have hw1 : dWrite (dF [] ps) rest = (0, ⟨true, [], ps.map frameB ++ [rest]⟩) := rfl
  have hall1 : DS.all ⟨true, [], ps.map frameB ++ [rest]⟩ = framesB ps ++ rest := by simp [DS.all, framesB]
  have hI1 : IsAll (DS.all ⟨true, [], ps.map frameB ++ [rest]⟩) ps := by rw [hall1]; exact isAll_frames hpa (next_short hrl)
  have hl1 : (DS.all ⟨true, [], ps.map frameB ++ [rest]⟩).length = (framesB ps).length + rest.length := by rw [hall1, List.length_append]
  obtain ⟨d2, hd2⟩ : ∃ d2, rcvD ⟨true, [], ps.map frameB ++ [rest]⟩ ps = d2 := ⟨_, rfl⟩
  have hd2u : d2.up = true ∧ d2.all = framesB ps ∧ d2.ws.length ≤ 1000000 := by
    rw [← hd2]
    unfold rcvD
    rw [hl1]
    by_cases h0 : (framesB ps).length < (framesB ps).length + rest.length
    · rw [if_pos h0]
      unfold dCut
      rw [if_pos rfl, if_neg (by rw [hl1]; omega), hall1]
      simp [DS.all]
    · rw [if_neg h0]
      refine ⟨rfl, ?_, by simp; omega⟩
      rw [hall1, List.eq_nil_of_length_eq_zero (show rest.length = 0 by omega), List.append_nil]
  have hI2 : IsAll d2.all ps := all_of hpa hd2u.2.1
  have hd3 : rcvD d2 ps = d2 := by
    unfold rcvD
    rw [hd2u.2.1, if_neg (by omega)]
  refine go_LWalTorn (k := ?_)
  refine OW_callC Try.func28 (by kernel_rfl) rfl (hR6.use fun S hD _ => dBytes_any w6 g S _ hD (by rw [hall]; omega) hwn) rfl ?_
  rintro en w7 ⟨A7, c7, rfl, hc7, hf7, hx7⟩
  refine ⟨_, rfl, ?_⟩
  rw [hall]
  have hR7 := hR6.ext hx7
  have hx07 := hR7.to
  refine go_LWalTorn (k := ?_)
  have hW := hR7.call _ fun S hD _ hS => dWrite_any w7 g S _ hD hwn B d rest (hB.ext hx07) (by omega)
  rw [hw1] at hW
  refine OW_callC Try.func23 (by kernel_rfl) rfl hW rfl ?_
  rintro en w8 ⟨rfl, hR8⟩
  refine ⟨_, rfl, ?_⟩
  refine go_LWalTorn (k := ?_)
  replace hR8 : VPly w w8 [v] g ⟨true, [], ps.map frameB ++ [rest]⟩ [] := hR8
  have hRc := hR8.recover (v := v) (by simp) rfl ps hI1 (by omega) (by simp; omega)
  rw [hd2, hl1, show (((framesB ps).length + rest.length : Nat) : Int) - ((framesB ps).length : Int) = (rest.length : Int) by omega] at hRc
  refine OW_callC Try.func34 (by kernel_rfl) rfl hRc rfl ?_
  rintro en w9 ⟨X, xs, rfl, hxs, hR9⟩
  refine ⟨_, rfl, ?_⟩
  refine go_LWalTorn (k := ?_)
  have hRd := hR9.recover (v := v) (by simp) hd2u.1 ps hI2 (by rw [hd2u.2.1]; omega) hd2u.2.2
  rw [hd3, hd2u.2.1, Int.sub_self] at hRd
  refine OW_callC Try.func34 (by kernel_rfl) rfl hRd rfl ?_
  rintro en w10 ⟨Y, ys, rfl, hys, hR10⟩
  refine ⟨_, rfl, ?_⟩
  have hx010 := hR10.to
  have hxl : xs.length = vs.length := by rw [← hpl, ← hxs]; simp
  have hyl : ys.length = vs.length := by rw [← hpl, ← hys]; simp
  have hxp : ∀ (i : Nat) (hi : i < xs.length), (xs[i]).2.2 = ps[i]'(by omega) := fun i hi => pay_at hxs hi
  have hvp : ∀ (i : Nat) (hi : i < vs.length), (vs[i]).2.2 = ps[i]'(by omega) := fun i hi => pay_at hps hi
  have hxc : ∀ v ∈ xs, v.2.2.length ≤ 1000000 := fun v hv => by
    obtain ⟨i, hi, rfl⟩ := List.mem_iff_getElem.1 hv
    rw [hxp i hi]
    have := hpa _ (List.getElem_mem (show i < ps.length by omega))
    omega
  refine go_LWalTorn (k := ?_)
  refine OW_callV Try.func19 (by kernel_rfl) rfl (same7_any w10 X A xs.length c xs vs (hR10.arg (by simp)) (hA.ext hx010) (by omega) hxc (by omega) (fun i hi => by rw [hxp i hi, hvp i (by omega)])) rfl ?_
  intro w11 hx11
  have hR11 := hR10.ext hx11
  refine go_LWalTorn (k := ?_)
  refine OW_callC Try.func28 (by kernel_rfl) rfl (hR11.use fun S hD _ => dBytes_any w11 g S _ hD (by rw [hd2u.2.1]; omega) hd2u.2.2) rfl ?_
  rintro en w12 ⟨A12, c12, rfl, hc12, hf12, hx12⟩
  refine ⟨_, rfl, ?_⟩
  rw [hd2u.2.1]
  refine go_LWalTorn (k := ?_)
  exact bodyE_ret1 rfl (.bool true) rfl ⟨rfl, (hR11.ext hx12).to⟩
set_option maxRecDepth 100000 in
theorem lifted (os : Os) (started : os.Started) (H : Type) (enc : TypeId × Value → H) :
    ReturnsInHanded {} Try.checked os 6 .any (Rows.walTornSpec.pre6 enc Try.prog Try.f6 Rows.walTornRow.domain false) (Rows.walTornSpec.post enc Try.prog Try.f6 false true false false) := by
  refine returnsInHanded_of_change_sized (C := Try.checked) ownP started (by kernel_rfl) Try.func6
    (ChangeSpec.witness6 (enc := enc) (C := Try.checked) false ⟨#[], #[.slice none 0 0, .slice none 0 0], []⟩ 8 (by kernel_rfl) (by kernel_rfl) (by kernel_rfl) (by kernel_rfl)) ?_
  intro W base args ds gs before hval0 hW hcnd hwt0 _
  have hval : ∀ (j : Nat) t v, Try.f6.params[j]? = some t → args[j]? = some v → Value.okWide Try.prog W .any base t v := hval0
  have hW' := hW
  obtain ⟨p, q, hA0, hV, rfl, hfz, hnd⟩ := hW
  have hA : DataW.TrodAll enc Try.prog W 0 (fun _ => true) true Try.f6.params.toList args.toList ds p := hA0
  have hwt : (DataW.weightsEach Try.prog (Try.f6.params.toList ++ []) (ds ++ gs)).all (· ≤ reachBytes) = true := hwt0
  rw [Try.params6] at hA hval hwt
  obtain ⟨v0, vs0, d0, ds0, p0, q0, hargs, rfl, rfl, h0, r0⟩ := trodAll_cons hA
  obtain ⟨v1, vs1, d1, ds1, p1, q1, rfl, rfl, rfl, h1, r1⟩ := trodAll_cons r0
  obtain ⟨rfl, rfl, rfl⟩ := trodAll_nil r1
  obtain rfl : args = #[v0, v1] := by cases args; simp_all
  obtain ⟨rfl, rfl⟩ := trodVars_none hV
  have k0 := h0
  have lt0 : ∀ x ∈ p0, x.block < W.heap.size := by obtain ⟨m, hm⟩ := k0; exact DataW.trod_lt m _ _ _ hm
  have wk0 : WOk Try.prog 22 d0 := wok_each hwt 0 rfl rfl
  obtain ⟨a0, b0⟩ := kd_slice kBss und_bytess (hval 0 22 v0 rfl rfl) h0 wk0
  have k1 := h1
  have lt1 : ∀ x ∈ p1, x.block < W.heap.size := by obtain ⟨m, hm⟩ := k1; exact DataW.trod_lt m _ _ _ hm
  have wk1 : WOk Try.prog 31 d1 := wok_each hwt 1 rfl rfl
  obtain ⟨a1, b1⟩ := kd_slice kBs und_bytes (hval 1 31 v1 rfl rfl) h1 wk1
  clear hA0 hval0 hwt0
  refine (walk W v0 a0 b0 v1 a1 b1).mono fun e W' ⟨he, bel⟩ => ?_
  subst he
  exact ⟨_, rfl, _, _, _, [], _, [], hW', trodAll_mk1 (shut_bool Try.underlying4 _), (trodAll_cons_mk (Below.trod laidP (by kernel_rfl) (of_decide_eq_true (by kernel_rfl)) k0 bel lt0) (trodAll_cons_mk (Below.trod laidP (by kernel_rfl) (of_decide_eq_true (by kernel_rfl)) k1 bel lt1) trodAll_mk0)), rfl, bel.frame _, fun h => by cases h⟩
theorem over : Rows.walTornRow.holds Try.pinned (OpenSpec.ofChange Rows.walTornSpec) :=
  OpenClaim.holds_of_wide 6 Try.f6 rfl rfl rfl rfl rfl rfl rfl ⟨rfl, rfl, rfl, rfl, rfl⟩ rfl rfl rfl rfl rfl (by kernel_rfl) Try.func6 (by kernel_rfl)
    (of_decide_eq_true (by kernel_rfl)) (by unfold Func.isWrapper; first | (rw [if_pos (by decide +kernel)]; kernel_rfl) | (rw [if_neg (by decide +kernel)]; exact ⟨rfl, rfl⟩))
    (fun os started H enc _ => lifted os started H enc)
theorem proved : Rows.WalTornSaid := over
#print axioms proved
end Go.Proofs.Ytnfeibbnjdegfaa.lawWalTorn
