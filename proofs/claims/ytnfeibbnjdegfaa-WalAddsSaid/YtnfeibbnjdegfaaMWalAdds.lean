/- WalAdds: records are those that were there, and those that were added, in order; another wal on the same disk tells the same. No condition. -/
import Derived.Test.YtnfeibbnjdegfaaGw3
import Derived.Test.YtnfeibbnjdegfaaGw22
namespace Go.Proofs.Ytnfeibbnjdegfaa.lawWalAdds
open Go.ChangeShapes Go.WideShapes Go.ChangeAt Go.RowKit
set_option linter.unusedVariables false
set_option maxRecDepth 4000
theorem go_LWalAdds {A B : Prop} (h : Held B → A := by
  intro hEnd
  repeat (first | refine OW_neqF rfl rfl (by first | rfl | omega) ?_ | refine OW_eqlTr rfl rfl (by first | rfl | omega) ?_ | refine OW_moveV (.int _ _) rfl ?_ | refine OW_moveV (.slice _ _ _) rfl ?_ | refine OW_moveV (.bool _) rfl ?_ | refine OW_moveV (.pointer _) rfl ?_ | refine OW_moveV (.string _) rfl ?_ | refine OW_moveV (.agg _) rfl ?_ | refine OW_moveV (.tuple _) rfl ?_ | refine OW_nil ?_ | refine thenE_normal ?_ | refine CW_seq ?_ | refine CW_region (by kernel_rfl) ?_ | refine OW_assignV (.int _ _) rfl ?_ | refine OW_assignV (.slice _ _ _) rfl ?_ | refine OW_assignV (.bool _) rfl ?_ | refine OW_assignV (.pointer _) rfl ?_ | refine OW_assignV (.string _) rfl ?_ | refine OW_assignV (.agg _) rfl ?_ | refine OW_assignV (.tuple _) rfl ?_ | refine OW_addI rfl rfl (by omega) ?_ | refine OW_subI rfl rfl (by omega) ?_ | refine OW_mulI rfl rfl (by omega) ?_ | refine OW_lss rfl rfl ?_ | refine OW_extract rfl rfl ?_ | refine OW_gtr rfl rfl ?_ | refine OW_leq rfl rfl ?_ | refine OW_geq rfl rfl ?_ | refine OW_eql rfl rfl ?_ | refine OW_neq rfl rfl ?_ | refine OW_not rfl ?_ | refine OW_pickT rfl _ rfl ?_ | refine OW_pickF rfl (.bool _) rfl ?_ | refine OW_pickB rfl rfl rfl ?_ | refine OW_move ?_ | refine OW_assign ?_ | refine OW_pass rfl ?_ | refine OW_take rfl ?_ | refine OW_lenS (by first | with_reducible exact und_bytes | with_reducible exact und_bytess) rfl ?_ | refine OW_convInt (by first | with_reducible exact und_u8 | with_reducible exact und_u64 | with_reducible exact und_int | with_reducible exact und_u32) (by first | with_reducible exact und_u8 | with_reducible exact und_u64 | with_reducible exact und_int | with_reducible exact und_u32) rfl ?_ | refine OW_add rfl rfl ?_ | refine OW_sub rfl rfl ?_ | refine OW_mul rfl rfl ?_ | refine OW_min2 rfl rfl ?_ | refine OW_max2 rfl rfl ?_ | refine OW_neg rfl ?_ | refine CW_block ?_ | refine CW_condT rfl ?_ | refine CW_condF rfl ?_ | refine CW_exit ?_ | refine CW_ret ?_ | refine CW_skip ?_ | refine LW_seq ?_ | refine LW_regC ?_ | refine LW_condC ?_ | refine LW_regF ?_ | refine LW_condF ?_ | refine FW_seq ?_ | refine FW_region (by kernel_rfl) ?_ | refine FW_block ?_ | refine FW_condT rfl ?_ | refine FW_condF rfl ?_ | refine FW_exit ?_ | refine FW_ret ?_ | refine FW_skip ?_ | refine LW_ret ?_ | refine LW_skip ?_ | refine thenE_exit ?_ | refine thenE_ret ?_ | refine inBlockE_normal ?_ | refine inBlockE_same ?_ | refine inBlockE_ret ?_ | refine inBlockE_ne (by rfl) ?_ | refine OW_eqlB (by with_reducible exact und_bool) rfl rfl ?_ | refine OW_neqB (by with_reducible exact und_bool) rfl rfl ?_ | refine OW_idxS (by with_reducible exact und_bytes) one_u8 rfl rfl _ rfl (by omega) ?_ | refine OW_idxS (by with_reducible exact und_bytess) one_bytes rfl rfl _ rfl (by omega) ?_ | refine OW_load1 (by first | with_reducible exact one_u8 | with_reducible exact one_bytes) rfl _ (by assumption) ?_ | refine OW_idxS und_bytess one_bytes rfl rfl _ rfl (by omega) ?_)
  exact hEnd.out) (k : B) : A := h ⟨k⟩
set_option maxHeartbeats 8000000 in
theorem walk (w : World) (v0 : Value) (la : List (List UInt8)) (h0 : kBss.R w [v0] la) (v1 : Value) (lb : List (List UInt8)) (h1 : kBss.R w [v1] lb) : Calls Try.prog 3 #[v0, v1] w (RetV w (.bool true)) := by
  obtain ⟨A, c, hv0, hc, hcm, hs⟩ := h0
  obtain ⟨B, d, hv1, hd, hdm, ht⟩ := h1
  injection hv0 with hv0
  injection hv1 with hv1
  subst hv0; subst hv1
  have hsm := slr_small hs
  have htm := slr_small ht
  obtain ⟨vs, rfl, hA⟩ := bvs_of hs
  obtain ⟨us, rfl, hB⟩ := bvs_of ht
  clear hs ht
  rw [List.length_map] at hc hd ⊢
  rw [List.length_map]
  have hsv : ∀ v ∈ vs, v.2.2.length ≤ 140737488351232 := fun v hv => hsm _ (List.mem_map.2 ⟨v, hv, rfl⟩)
  have hsu : ∀ v ∈ us, v.2.2.length ≤ 140737488351232 := fun v hv => htm _ (List.mem_map.2 ⟨v, hv, rfl⟩)
  clear hsm htm
  refine calls_of_CW Try.func3 rfl (by simp [Try.ntmps3]) ?_
  rw [Try.ntmps3]
  refine go_LWalAdds (k := ?_)
  refine OW_callV Try.func13 (by kernel_rfl) rfl (awake7_any w) rfl ?_
  intro w1 hx1
  refine go_LWalAdds (k := ?_)
  refine OW_callV Try.func14 (by kernel_rfl) rfl (long7_any w1 A c vs (hA.ext hx1) (by omega) hsv) rfl ?_
  intro w2 hx2
  have hx02 := hx1.trans' hx2
  refine go_LWalAdds (k := ?_)
  refine OW_split 16 _ rfl (fun h => ?_) (fun h => ?_)
  · refine go_LWalAdds (k := ?_)
    exact bodyE_ret1 rfl (.bool true) rfl ⟨rfl, hx02⟩
  have hwa : worth 40 vs ≤ 2000 := by have := of_decide_eq_false h; omega
  clear h
  refine go_LWalAdds (k := ?_)
  refine OW_callV Try.func14 (by kernel_rfl) rfl (long7_any w2 B d us (hB.ext hx02) (by omega) hsu) rfl ?_
  intro w3 hx3
  have hx03 := hx02.trans' hx3
  refine go_LWalAdds (k := ?_)
  refine CW_cond _ rfl (fun h => ?_) (fun h => ?_)
  · refine go_LWalAdds (k := ?_)
    exact bodyE_ret1 rfl (.bool true) rfl ⟨rfl, hx03⟩
  have hwb : worth 40 us ≤ 2000 := by have := of_decide_eq_false h; omega
  clear h
  have hla := worth_len (n := 40) vs
  have hlb := worth_len (n := 40) us
  have hfa := framesB_worth vs
  have hfb := framesB_worth us
  have hpa := pay_small hwa
  have hpb := pay_small hwb
  refine go_LWalAdds (k := ?_)
  refine OW_callC Try.func15 (by kernel_rfl) rfl (newWal_ply w w3 hx03) rfl ?_
  rintro en w4 ⟨g, rfl, hx4, hR4⟩
  refine ⟨_, rfl, ?_⟩
  refine go_LWalAdds (k := ?_)
  refine OW_callC Try.func16 (by kernel_rfl) rfl hR4.wal rfl ?_
  rintro en w5 ⟨v, rfl, hx5, hR5⟩
  refine ⟨_, rfl, ?_⟩
  refine go_LWalAdds (k := ?_)
  refine CW_meetB (fun e' w' => e' 0 = .slice A vs.length c ∧ e' 1 = .slice B us.length d ∧ e' 5 = .pointer (some ⟨g, 0, none⟩) ∧ e' 6 = .pointer (some ⟨v, 0, none⟩) ∧ VPly w w' [v] g (dF [] (vs.map pay)) []) ?_ ?_
  · refine go_LWalAdds (k := ?_)
    refine CW_loop (fun e' w' => ∃ k : Nat, k ≤ vs.length ∧ e' 0 = .slice A vs.length c ∧ e' 1 = .slice B us.length d ∧ e' 5 = .pointer (some ⟨g, 0, none⟩) ∧ e' 6 = .pointer (some ⟨v, 0, none⟩) ∧ e' 7 = .int .i64 k ∧ VPly w w' [v] g (dF [] ((vs.map pay).take k)) []) (fun e' _ => vs.length - (intOf (e' 7)).toNat) ⟨0, Nat.zero_le _, rfl, rfl, rfl, rfl, rfl, hR5⟩ ?_
    rintro e' w6 ⟨k, hk, q0, q1, q5, q6, q7, hR6⟩
    rw [upd_self q0, upd_self q1, upd_self q5, upd_self q6, upd_self q7]
    refine go_LWalAdds (k := ?_)
    refine CW_cond _ rfl (fun hh => ?_) (fun hh => ?_)
    · have hlt : k < vs.length := by have := of_decide_eq_true hh; omega
      clear hh
      have hx6 := hR6.to
      obtain ⟨ad, rfl, hcA⟩ := (hA.ext hx6).cell hlt
      have hbx := (hA.bs _ (List.getElem_mem hlt)).1
      have hvx := worth_each (n := 40) (List.getElem_mem hlt)
      have htp := take_pay hlt
      have hcnt : (dF [] ((vs.map pay).take k)).ws.length ≤ 1000000 := by rw [dF_ws, List.length_take]; omega
      generalize vs[k] = x at *
      obtain ⟨xA, xc, xl⟩ := x
      replace hcA : w6.cell? (ad.add k) = some (.slice xA xl.length xc) := hcA
      simp only at hbx hvx htp
      have hadd := hR6.add0 (v := v) (by simp) hcnt xA xc xl hbx (by omega)
      rw [dF_add, ← htp] at hadd
      refine go_LWalAdds (k := ?_)
      refine OW_callC Try.func17 (by kernel_rfl) rfl hadd rfl ?_
      rintro en w7 ⟨rfl, hR7⟩
      refine ⟨_, rfl, ?_⟩
      refine go_LWalAdds (k := ?_)
      refine ⟨⟨k + 1, by omega, rfl, rfl, rfl, rfl, rfl, hR7⟩, ?_⟩
      show vs.length - ((k : Int) + 1).toNat < vs.length - (k : Int).toNat
      omega
    · have hge : k = vs.length := by have := of_decide_eq_false hh; omega
      subst hge
      rw [List.take_of_length_le (by simp)] at hR6
      refine go_LWalAdds (k := ?_)
      exact ⟨rfl, rfl, rfl, rfl, rfl, hR6⟩
  rintro e6 w6 ⟨q0, q1, q5, q6, hR6⟩
  rw [upd_self q0, upd_self q1, upd_self q5, upd_self q6]
  refine go_LWalAdds (k := ?_)
  refine OW_callC Try.func16 (by kernel_rfl) rfl hR6.wal rfl ?_
  rintro en w7 ⟨u, rfl, hx7, hR7⟩
  refine ⟨_, rfl, ?_⟩
  refine go_LWalAdds (k := ?_)
  refine CW_meetB (fun e' w' => e' 0 = .slice A vs.length c ∧ e' 1 = .slice B us.length d ∧ e' 6 = .pointer (some ⟨v, 0, none⟩) ∧ e' 8 = .pointer (some ⟨u, 0, none⟩) ∧ VPly w w' [u, v] g (dF [] (vs.map pay ++ us.map pay)) []) ?_ ?_
  · refine go_LWalAdds (k := ?_)
    refine CW_loop (fun e' w' => ∃ k : Nat, k ≤ us.length ∧ e' 0 = .slice A vs.length c ∧ e' 1 = .slice B us.length d ∧ e' 6 = .pointer (some ⟨v, 0, none⟩) ∧ e' 8 = .pointer (some ⟨u, 0, none⟩) ∧ e' 9 = .int .i64 k ∧ VPly w w' [u, v] g (dF [] (vs.map pay ++ (us.map pay).take k)) []) (fun e' _ => us.length - (intOf (e' 9)).toNat) ⟨0, Nat.zero_le _, rfl, rfl, rfl, rfl, rfl, by rw [List.take_zero, List.append_nil]; exact hR7⟩ ?_
    rintro e' w8 ⟨k, hk, q0, q1, q6, q8, q9, hR8⟩
    rw [upd_self q0, upd_self q1, upd_self q6, upd_self q8, upd_self q9]
    refine go_LWalAdds (k := ?_)
    refine CW_cond _ rfl (fun hh => ?_) (fun hh => ?_)
    · have hlt : k < us.length := by have := of_decide_eq_true hh; omega
      clear hh
      have hx8 := hR8.to
      obtain ⟨ad, rfl, hcB⟩ := (hB.ext hx8).cell hlt
      have hbx := (hB.bs _ (List.getElem_mem hlt)).1
      have hvx := worth_each (n := 40) (List.getElem_mem hlt)
      have htp := take_pay hlt
      have hcnt : (dF [] (vs.map pay ++ (us.map pay).take k)).ws.length ≤ 1000000 := by rw [dF_ws, List.length_append, List.length_take, List.length_map]; omega
      generalize us[k] = x at *
      obtain ⟨xA, xc, xl⟩ := x
      replace hcB : w8.cell? (ad.add k) = some (.slice xA xl.length xc) := hcB
      simp only at hbx hvx htp
      have hadd := hR8.add0 (v := u) (by simp) hcnt xA xc xl hbx (by omega)
      rw [dF_add, List.append_assoc, ← htp] at hadd
      refine go_LWalAdds (k := ?_)
      refine OW_callC Try.func17 (by kernel_rfl) rfl hadd rfl ?_
      rintro en w9 ⟨rfl, hR9⟩
      refine ⟨_, rfl, ?_⟩
      refine go_LWalAdds (k := ?_)
      refine ⟨⟨k + 1, by omega, rfl, rfl, rfl, rfl, rfl, hR9⟩, ?_⟩
      show us.length - ((k : Int) + 1).toNat < us.length - (k : Int).toNat
      omega
    · have hge : k = us.length := by have := of_decide_eq_false hh; omega
      subst hge
      rw [List.take_of_length_le (by simp)] at hR8
      refine go_LWalAdds (k := ?_)
      exact ⟨rfl, rfl, rfl, rfl, rfl, hR8⟩
  rintro e8 w8 ⟨q0, q1, q6, q8, hR8⟩
  rw [upd_self q0, upd_self q1, upd_self q6, upd_self q8]
  obtain ⟨ps, hps⟩ : ∃ ps, vs.map pay ++ us.map pay = ps := ⟨_, rfl⟩
  have hpl : ps.length = vs.length + us.length := by rw [← hps]; simp
  have hpp : ∀ p ∈ ps, p.length ≤ 65536 := fun p hp => by rw [← hps] at hp; rcases List.mem_append.1 hp with h | h; exact hpa p h; exact hpb p h
  have hpf : (framesB ps).length ≤ 4000 := by rw [← hps, framesB_append, List.length_append]; omega
  rw [hps] at hR8
  have hall : (dF [] ps).all = framesB ps := by rw [dF_all]; rfl
  have hIs : IsAll (dF [] ps).all ps := all_of hpp hall
  have hwn : (dF [] ps).ws.length ≤ 1000000 := by rw [dF_ws]; omega
  have hdl : (dF [] ps).all.length ≤ 100000 := by rw [hall]; omega
  have hsy : dSync (dF [] ps) = (0, dF (framesB ps) []) := by rw [dF_sync]; rfl
  have hlast : IsAll (dF (framesB ps) []).s ps := all_of hpp rfl
  have hall2 : (dF (framesB ps) []).all.length ≤ 100000 := by rw [dF_all]; simp [framesB] at hpf ⊢; omega
  refine go_LWalAdds (k := ?_)
  refine OW_callC Try.func18 (by kernel_rfl) rfl (hR8.records (v := v) (by simp) ps hIs hdl hwn) rfl ?_
  rintro en w9 ⟨X, cX, xs, rfl, hxs, hR9, hrX, _⟩
  refine ⟨_, rfl, ?_⟩
  refine go_LWalAdds (k := ?_)
  refine OW_callC Try.func18 (by kernel_rfl) rfl (hR9.records (v := u) (by simp) ps hIs hdl hwn) rfl ?_
  rintro en w10 ⟨Y, cY, ys, rfl, hys, hR10, hrY, hx10⟩
  refine ⟨_, rfl, ?_⟩
  have hxl : xs.length = vs.length + us.length := by rw [← hpl, ← hxs]; simp
  have hyl : ys.length = vs.length + us.length := by rw [← hpl, ← hys]; simp
  have hxp : ∀ (i : Nat) (hi : i < xs.length), (xs[i]).2.2 = ps[i]'(by omega) := fun i hi => pay_at hxs hi
  have hyp : ∀ (i : Nat) (hi : i < ys.length), (ys[i]).2.2 = ps[i]'(by omega) := fun i hi => pay_at hys hi
  have hvp : ∀ (i : Nat) (hi : i < vs.length), (vs[i]).2.2 = ps[i]'(by omega) := fun i hi => by subst hps; rw [List.getElem_append_left (by simpa using hi), List.getElem_map]
  have hup : ∀ (i : Nat) (hi : i < us.length), (us[i]).2.2 = ps[vs.length + i]'(by omega) := fun i hi => by subst hps; rw [List.getElem_append_right (by simp)]; simp
  have hxc : ∀ v ∈ xs, v.2.2.length ≤ 1000000 := fun v hv => by
    obtain ⟨i, hi, rfl⟩ := List.mem_iff_getElem.1 hv
    rw [hxp i hi]
    have := hpp _ (List.getElem_mem (show i < ps.length by omega))
    omega
  have hvc : ∀ v ∈ vs, v.2.2.length ≤ 1000000 := fun v hv => by have := worth_each (n := 40) hv; omega
  have huc : ∀ v ∈ us, v.2.2.length ≤ 1000000 := fun v hv => by have := worth_each (n := 40) hv; omega
  have hcX := (own_cap hrX.row).1
  refine go_LWalAdds (k := ?_)
  refine OW_callV Try.func19 (by kernel_rfl) rfl (same7_any w10 X Y cX cY xs ys (hR10.arg (by simp)) (hR10.arg (by simp)) (by omega) hxc (by omega) (fun i hi => by rw [hxp i hi, hyp i (by omega)])) rfl ?_
  intro w11 hx11
  have hR11 := hR10.ext hx11
  have hx011 := hR11.to
  refine go_LWalAdds (k := ?_)
  refine OW_callV Try.func19 (by kernel_rfl) rfl (same7_any w11 A X c cX vs xs (hA.ext hx011) (hR11.arg (by simp)) (by omega) hvc (by omega) (fun i hi => by rw [hvp i hi, hxp i (by omega)])) rfl ?_
  intro w12 hx12
  have hR12 := hR11.ext hx12
  have hx012 := hR12.to
  refine go_LWalAdds (k := ?_)
  refine OW_slice (lv := vs.length) (hv := xs.length) (mv := cX) und_bytess one_bytes rfl ⟨_, rfl⟩ rfl rfl (fun h => by cases h) (by omega) ?_
  rw [show ((vs.length : Nat) : Int).toNat = vs.length from rfl, show ((xs.length : Nat) : Int).toNat = xs.length from rfl, show ((cX : Nat) : Int).toNat = cX from rfl]
  have hdr : ArgL w12 (cutA X cX vs.length) (xs.drop vs.length) := (hR12.arg (by simp)).drop cX vs.length hcX
  have hdrl : (xs.drop vs.length).length = xs.length - vs.length := List.length_drop
  rw [← hdrl]
  refine go_LWalAdds (k := ?_)
  refine OW_callV Try.func19 (by kernel_rfl) rfl (same7_any w12 B (cutA X cX vs.length) d (cX - vs.length) us (xs.drop vs.length) (hB.ext hx012) hdr (by omega) huc (by omega) (fun i hi => by rw [hup i hi, List.getElem_drop, hxp _ (by omega)])) rfl ?_
  intro w13 hx13
  have hR13 := hR12.ext hx13
  refine go_LWalAdds (k := ?_)
  have hsc := hR13.sync (v := u) (by simp) (by omega) hwn
  rw [hsy] at hsc
  refine OW_callC Try.func20 (by kernel_rfl) rfl hsc rfl ?_
  rintro en w14 ⟨rfl, hR14⟩
  refine ⟨_, rfl, ?_⟩
  refine go_LWalAdds (k := ?_)
  refine OW_callV Try.func21 (by kernel_rfl) rfl (hR14.lasting (v := v) (by simp) ps hlast hall2 (by simp [dF])) rfl ?_
  intro w15 hx15
  refine go_LWalAdds (k := ?_)
  exact bodyE_ret1 rfl (.bool true) rfl ⟨rfl, (hR14.ext hx15).to⟩
set_option maxRecDepth 100000 in
theorem lifted (os : Os) (started : os.Started) (H : Type) (enc : TypeId × Value → H) :
    ReturnsInHanded {} Try.checked os 3 .any (Rows.walAddsSpec.pre6 enc Try.prog Try.f3 Rows.walAddsRow.domain false) (Rows.walAddsSpec.post enc Try.prog Try.f3 false true false false) := by
  refine returnsInHanded_of_change_sized (C := Try.checked) ownP started (by kernel_rfl) Try.func3
    (ChangeSpec.witness6 (enc := enc) (C := Try.checked) false ⟨#[], #[.slice none 0 0, .slice none 0 0], []⟩ 8 (by kernel_rfl) (by kernel_rfl) (by kernel_rfl) (by kernel_rfl)) ?_
  intro W base args ds gs before hval0 hW hcnd hwt0 _
  have hval : ∀ (j : Nat) t v, Try.f3.params[j]? = some t → args[j]? = some v → Value.okWide Try.prog W .any base t v := hval0
  have hW' := hW
  obtain ⟨p, q, hA0, hV, rfl, hfz, hnd⟩ := hW
  have hA : DataW.TrodAll enc Try.prog W 0 (fun _ => true) true Try.f3.params.toList args.toList ds p := hA0
  have hwt : (DataW.weightsEach Try.prog (Try.f3.params.toList ++ []) (ds ++ gs)).all (· ≤ reachBytes) = true := hwt0
  rw [Try.params3] at hA hval hwt
  obtain ⟨v0, vs0, d0, ds0, p0, q0, hargs, rfl, rfl, h0, r0⟩ := trodAll_cons hA
  obtain ⟨v1, vs1, d1, ds1, p1, q1, rfl, rfl, rfl, h1, r1⟩ := trodAll_cons r0
  obtain ⟨rfl, rfl, rfl⟩ := trodAll_nil r1
  obtain rfl : args = #[v0, v1] := by cases args; simp_all
  obtain ⟨rfl, rfl⟩ := trodVars_none hV
  have k0 := h0
  have lt0 : ∀ x ∈ p0, x.block < W.heap.size := by obtain ⟨m, hm⟩ := k0; exact DataW.trod_lt m _ _ _ hm
  have wk0 : WOk Try.prog 22 d0 := wok_each hwt 0 rfl rfl
  obtain ⟨a0, b0⟩ := kd_slice kBss und_bytess (hval 0 22 v0 rfl rfl) h0 wk0
  have k1 := h1
  have lt1 : ∀ x ∈ p1, x.block < W.heap.size := by obtain ⟨m, hm⟩ := k1; exact DataW.trod_lt m _ _ _ hm
  have wk1 : WOk Try.prog 22 d1 := wok_each hwt 1 rfl rfl
  obtain ⟨a1, b1⟩ := kd_slice kBss und_bytess (hval 1 22 v1 rfl rfl) h1 wk1
  clear hA0 hval0 hwt0
  refine (walk W v0 a0 b0 v1 a1 b1).mono fun e W' ⟨he, bel⟩ => ?_
  subst he
  exact ⟨_, rfl, _, _, _, [], _, [], hW', trodAll_mk1 (shut_bool Try.underlying4 _), (trodAll_cons_mk (Below.trod laidP (by kernel_rfl) (of_decide_eq_true (by kernel_rfl)) k0 bel lt0) (trodAll_cons_mk (Below.trod laidP (by kernel_rfl) (of_decide_eq_true (by kernel_rfl)) k1 bel lt1) trodAll_mk0)), rfl, bel.frame _, fun h => by cases h⟩
theorem over : Rows.walAddsRow.holds Try.pinned (OpenSpec.ofChange Rows.walAddsSpec) :=
  OpenClaim.holds_of_wide 3 Try.f3 rfl rfl rfl rfl rfl rfl rfl ⟨rfl, rfl, rfl, rfl, rfl⟩ rfl rfl rfl rfl rfl (by kernel_rfl) Try.func3 (by kernel_rfl)
    (of_decide_eq_true (by kernel_rfl)) (by unfold Func.isWrapper; first | (rw [if_pos (by decide +kernel)]; kernel_rfl) | (rw [if_neg (by decide +kernel)]; exact ⟨rfl, rfl⟩))
    (fun os started H enc _ => lifted os started H enc)
theorem proved : Rows.WalAddsSaid := over
#print axioms proved
end Go.Proofs.Ytnfeibbnjdegfaa.lawWalAdds
