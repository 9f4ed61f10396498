/- WireCount: a count is read just if it is from 0 to the most, and not more than the bytes left behind it. No condition. -/
import Derived.Test.YthhphmbhlddihaaWireY
import Derived.Test.YthhphmbhlddihaaWireP
import Derived.Test.YthhphmbhlddihaaFrame
namespace Go.Proofs.Ythhphmbhlddihaa.lawWireCount
open Go.ChangeShapes Go.WideShapes Go.ChangeAt Go.RowKit
set_option linter.unusedVariables false
set_option maxRecDepth 4000
theorem go_LWireCount {A B : Prop} (h : Held B → A := by
  intro hEnd
  repeat (first | refine OW_neqF rfl rfl rfl ?_ | refine OW_eqlTr rfl rfl rfl ?_ | refine OW_moveV (.int _ _) rfl ?_ | refine OW_moveV (.slice _ _ _) rfl ?_ | refine OW_moveV (.bool _) rfl ?_ | refine OW_moveV (.pointer _) rfl ?_ | refine OW_moveV (.string _) rfl ?_ | refine OW_moveV (.agg _) rfl ?_ | refine OW_moveV (.tuple _) rfl ?_ | refine OW_nil ?_ | refine thenE_normal ?_ | refine CW_seq ?_ | refine CW_region (by kernel_rfl) ?_ | refine OW_assignV (.int _ _) rfl ?_ | refine OW_assignV (.slice _ _ _) rfl ?_ | refine OW_assignV (.bool _) rfl ?_ | refine OW_assignV (.pointer _) rfl ?_ | refine OW_assignV (.string _) rfl ?_ | refine OW_assignV (.agg _) rfl ?_ | refine OW_assignV (.tuple _) rfl ?_ | refine OW_addI rfl rfl (by omega) ?_ | refine OW_subI rfl rfl (by omega) ?_ | refine OW_mulI rfl rfl (by omega) ?_ | refine OW_lss rfl rfl ?_ | refine OW_extract rfl rfl ?_ | refine OW_gtr rfl rfl ?_ | refine OW_leq rfl rfl ?_ | refine OW_geq rfl rfl ?_ | refine OW_eql rfl rfl ?_ | refine OW_neq rfl rfl ?_ | refine OW_not rfl ?_ | refine OW_pickT rfl _ rfl ?_ | refine OW_pickF rfl (.bool _) rfl ?_ | refine OW_pickB rfl rfl rfl ?_ | refine OW_move ?_ | refine OW_assign ?_ | refine OW_pass rfl ?_ | refine OW_take rfl ?_ | refine OW_lenS (by first | with_reducible exact und_bytes | with_reducible exact und_bytess) rfl ?_ | refine OW_convInt (by first | with_reducible exact und_u8 | with_reducible exact und_u64 | with_reducible exact und_int | with_reducible exact und_u32) (by first | with_reducible exact und_u8 | with_reducible exact und_u64 | with_reducible exact und_int | with_reducible exact und_u32) rfl ?_ | refine OW_add rfl rfl ?_ | refine OW_sub rfl rfl ?_ | refine OW_mul rfl rfl ?_ | refine OW_min2 rfl rfl ?_ | refine OW_max2 rfl rfl ?_ | refine OW_neg rfl ?_ | refine CW_block ?_ | refine CW_condT rfl ?_ | refine CW_condF rfl ?_ | refine CW_exit ?_ | refine CW_ret ?_ | refine CW_skip ?_ | refine LW_seq ?_ | refine LW_regC ?_ | refine LW_condC ?_ | refine LW_regF ?_ | refine LW_condF ?_ | refine FW_seq ?_ | refine FW_region (by kernel_rfl) ?_ | refine FW_block ?_ | refine FW_condT rfl ?_ | refine FW_condF rfl ?_ | refine FW_exit ?_ | refine FW_ret ?_ | refine FW_skip ?_ | refine LW_ret ?_ | refine LW_skip ?_ | refine thenE_exit ?_ | refine thenE_ret ?_ | refine inBlockE_normal ?_ | refine inBlockE_same ?_ | refine inBlockE_ret ?_ | refine inBlockE_ne (by rfl) ?_ | refine OW_eqlB (by with_reducible exact und_bool) rfl rfl ?_ | refine OW_neqB (by with_reducible exact und_bool) rfl rfl ?_ | refine OW_idxS (by with_reducible exact und_bytes) one_u8 rfl rfl _ rfl (by omega) ?_ | refine OW_idxS (by with_reducible exact und_bytess) one_bytes rfl rfl _ rfl (by omega) ?_ | refine OW_load1 (by first | with_reducible exact one_u8 | with_reducible exact one_bytes) rfl _ (by assumption) ?_)
  exact hEnd.out) (k : B) : A := h ⟨k⟩
theorem blk_zero {w : World} {g n : Nat} {T : TypeId} (h : Blk w g T (Array.replicate n (.int .u8 0))) : Bs w (some ⟨g, 0, none⟩) (List.replicate n 0) := bs_lit _ _ (by rw [List.toArray_replicate]; exact h) (by simp [bv])
theorem count_back {n most : Int} {N : Nat} (hn : I64 n) : countV (putL (u64N n) 8 ++ List.replicate N 0, 0) most = (if countOk n most N then n else 0) ∧ countS (putL (u64N n) 8 ++ List.replicate N 0, 0) most = (if countOk n most N then (List.replicate N 0, 0) else ([], 40)) := by
  have ht : (putL (u64N n) 8 ++ List.replicate N (0 : UInt8)).take 8 = putL (u64N n) 8 := by
    rw [List.take_append_of_le_length (by rw [putL_length]; exact Nat.le_refl _), List.take_of_length_le (by rw [putL_length]; exact Nat.le_refl _)]
  have hl : ((putL (u64N n) 8 ++ List.replicate N (0 : UInt8)).length : Int) - 8 = N := by simp [putL_length]; omega
  unfold countV countS
  simp only [ht, hl, i64_back hn]
  rw [fitsW_ok (l := putL (u64N n) 8) (n := 8) (by rw [putL_length]; rfl), Bool.true_and]
  refine ⟨rfl, ?_⟩
  cases countOk n most N with
  | true => exact stW_ok (l := putL (u64N n) 8) (n := 8) (by rw [putL_length]; rfl)
  | false =>
    unfold stepS
    rw [if_neg (by simp), if_neg (by simp [putL_length]; omega)]
    rfl
set_option maxHeartbeats 8000000 in
theorem walk (w : World) (v0 : Value) (n : Int) (h0 : kI.R w [v0] n) (v1 : Value) (most : Int) (h1 : kI.R w [v1] most) (v2 : Value) (left : Int) (h2 : kI.R w [v2] left) : Calls Try.prog 4 #[v0, v1, v2] w (RetV w (.bool true)) := by
  obtain ⟨hv0, hi0⟩ := h0
  obtain ⟨hv1, hi1⟩ := h1
  obtain ⟨hv2, hi2⟩ := h2
  injection hv0 with hv0
  injection hv1 with hv1
  injection hv2 with hv2
  subst hv0; subst hv1; subst hv2
  refine calls_of_CW Try.func4 rfl (by simp [Try.ntmps4]) ?_
  rw [Try.ntmps4]
  refine go_LWireCount (k := ?_)
  refine OW_callV Try.func29 (by kernel_rfl) rfl (awake4_any w) rfl ?_
  intro w1 hx1
  refine go_LWireCount (k := ?_)
  refine OW_split 15 _ rfl (fun h => ?_) (fun h => ?_)
  · refine go_LWireCount (k := ?_)
    exact bodyE_ret1 rfl (.bool true) rfl ⟨rfl, hx1⟩
  have hl0 : ¬ left < 0 := of_decide_eq_false h
  clear h
  refine go_LWireCount (k := ?_)
  refine CW_cond _ rfl (fun h => ?_) (fun h => ?_)
  · refine go_LWireCount (k := ?_)
    exact bodyE_ret1 rfl (.bool true) rfl ⟨rfl, hx1⟩
  have hl1 : ¬ 100 < left := by simpa using h
  clear h
  obtain ⟨N, hN⟩ : ∃ N : Nat, left = N := ⟨left.toNat, by omega⟩
  subst hN
  have hmk : 1 * N ≤ 281474976710656 ∧ N ≤ maxLen := by unfold maxLen; omega
  refine go_LWireCount (k := ?_)
  refine OW_callC Try.func30 (by kernel_rfl) rfl (newWriter_ply w w1 hx1) rfl ?_
  rintro en w2 ⟨g, rfl, hx2, hR2⟩
  refine ⟨_, rfl, ?_⟩
  refine go_LWireCount (k := ?_)
  have hadd : addAll (false, []) [putL (u64N n) 8] = (false, putL (u64N n) 8) := by simp [addAll, addStep, putL_length]
  refine OW_callC Try.func31 (by kernel_rfl) rfl (hR2.call (s' := (false, putL (u64N n) 8)) fun S hR => by have := wInt_any w2 g S _ hR n; rwa [hadd] at this) rfl ?_
  rintro en w3 ⟨rfl, hR3⟩
  refine ⟨_, rfl, ?_⟩
  refine go_LWireCount (k := ?_)
  refine OW_callC Try.func18 (by kernel_rfl) rfl (done_ply hR3) rfl ?_
  rintro en w4 ⟨A4, c4, rfl, hf4⟩
  refine ⟨_, rfl, ?_⟩
  have hb4 := hf4.bs
  have hx4 := hR3.to.trans' hf4.ext
  have hln : (putL (u64N n) 8).length = 8 := putL_length _ _
  have hcb := count_back (n := n) (most := most) (N := N) hi0
  generalize putL (u64N n) 8 = p at *
  refine go_LWireCount (k := ?_)
  refine OW_make (n := N) und_bytes info_u8 rfl rfl rfl rfl rfl hmk.1 hmk.2 ?_
  intro w5 g5 hb5 hg5 hx5
  have hb5 := blk_zero hb5
  refine go_LWireCount (k := ?_)
  refine OW_lit [sv (A4, c4, p), sv (some ⟨g5, 0, none⟩, N, List.replicate N 0)] (by with_reducible exact und_bytess) info_bytes (by simp [sv]; rfl) rfl (by simp [sv, Value.oneCell']) (by decide) ?_
  intro w6 g6 hb6 hg6 hx6
  refine go_LWireCount (k := ?_)
  have hfl : flat [(A4, c4, p), (some ⟨g5, 0, none⟩, N, List.replicate N 0)] = p ++ List.replicate N 0 := by simp [flat]
  have hct := cat_any w6 (some ⟨g6, 0, none⟩) 2 [(A4, c4, p), (some ⟨g5, 0, none⟩, N, List.replicate N 0)] (blk_rd _ hb6) (fun x hx => by
    rw [List.mem_cons, List.mem_singleton] at hx
    rcases hx with rfl | rfl
    · exact hb4.ext (hx5.trans' hx6)
    · exact hb5.ext hx6) (by simp) (by rw [hfl, List.length_append, List.length_replicate]; omega)
  rw [hfl] at hct
  refine OW_callBs Try.func33 (by kernel_rfl) rfl hct rfl ?_
  intro w7 A7 c7 hf7
  have hx7 := hx4.trans' (hx5.trans' (hx6.trans' hf7.ext))
  refine go_LWireCount (k := ?_)
  refine OW_callC Try.func32 (by kernel_rfl) rfl (newReader_ply w w7 hx7 A7 (p ++ List.replicate N 0) c7 hf7.bs (by rw [List.length_append, List.length_replicate]; omega)) rfl ?_
  rintro en w8 ⟨r, rfl, hx8, hP8⟩
  refine ⟨_, rfl, ?_⟩
  refine go_LWireCount (k := ?_)
  refine OW_callC Try.func25 (by kernel_rfl) rfl (hP8.call fun S hS => rCount_any w8 r S _ hS most) rfl ?_
  rintro en w9 ⟨rfl, hP9⟩
  refine ⟨_, rfl, ?_⟩
  rw [hcb.1]
  rw [hcb.2] at hP9
  clear hcb hP8 hf7 hb6 hb5 hb4 hf4 hadd
  have hx9 := hP9.to
  have hif : ∀ b : Bool, countOk n most N = b → (if countOk n most N = true then n else 0) = (if b = true then n else 0) := fun b h => by rw [h]
  have hif2 : ∀ b : Bool, countOk n most N = b → RPly w w9 r (if b = true then (List.replicate N 0, 0) else ([], 40)) := fun b h => by rw [← h]; exact hP9
  clear hP9
  have ENDB : True := trivial
  refine go_LWireCount (k := ?_)
  refine OW_split 39 _ rfl (fun h => ?_) (fun h => ?_)
  · have hok : countOk n most N = false := by have := of_decide_eq_true h; unfold countOk; rw [decide_eq_false (by omega)]; rfl
    have hP9 : RPly w w9 r ([], 40) := hif2 _ hok
    rw [hif _ hok, if_neg (by simp)]
    clear h hif hif2
    refine go_LWireCount (k := ?_)
    refine OW_callV Try.func27 (by kernel_rfl) rfl (hP9.use fun S hS => rErr_any w9 r S _ hS) rfl ?_
    intro w11 hx11
    refine go_LWireCount (k := ?_)
    exact bodyE_ret1 rfl (.bool true) rfl ⟨rfl, hx9.trans' hx11⟩
  have h1 := of_decide_eq_false h
  clear h
  refine go_LWireCount (k := ?_)
  refine OW_split 44 _ rfl (fun h => ?_) (fun h => ?_)
  · have hok : countOk n most N = false := by have := of_decide_eq_true h; unfold countOk; rw [decide_eq_false (show ¬ n ≤ most by omega)]; simp
    have hP9 : RPly w w9 r ([], 40) := hif2 _ hok
    rw [hif _ hok, if_neg (by simp)]
    clear h hif hif2
    refine go_LWireCount (k := ?_)
    refine OW_callV Try.func27 (by kernel_rfl) rfl (hP9.use fun S hS => rErr_any w9 r S _ hS) rfl ?_
    intro w11 hx11
    refine go_LWireCount (k := ?_)
    exact bodyE_ret1 rfl (.bool true) rfl ⟨rfl, hx9.trans' hx11⟩
  have h2 := of_decide_eq_false h
  clear h
  refine go_LWireCount (k := ?_)
  refine CW_cond _ rfl (fun h => ?_) (fun h => ?_)
  · have hok : countOk n most N = false := by have := of_decide_eq_true h; unfold countOk; rw [decide_eq_false (show ¬ n ≤ (N : Int) by omega)]; simp
    have hP9 : RPly w w9 r ([], 40) := hif2 _ hok
    rw [hif _ hok, if_neg (by simp)]
    clear h hif hif2
    refine go_LWireCount (k := ?_)
    refine OW_callV Try.func27 (by kernel_rfl) rfl (hP9.use fun S hS => rErr_any w9 r S _ hS) rfl ?_
    intro w11 hx11
    refine go_LWireCount (k := ?_)
    exact bodyE_ret1 rfl (.bool true) rfl ⟨rfl, hx9.trans' hx11⟩
  have h3 := of_decide_eq_false h
  clear h
  have hok : countOk n most N = true := by unfold countOk; rw [decide_eq_true (by omega), decide_eq_true (by omega), decide_eq_true (by omega)]; rfl
  have hP9 : RPly w w9 r (List.replicate N 0, 0) := hif2 _ hok
  rw [hif _ hok, if_pos rfl]
  clear hif hif2
  refine go_LWireCount (k := ?_)
  refine OW_callV Try.func27 (by kernel_rfl) rfl (hP9.use fun S hS => rErr_any w9 r S _ hS) rfl ?_
  intro w11 hx11
  refine go_LWireCount (k := ?_)
  refine OW_callV Try.func26 (by kernel_rfl) rfl ((hP9.ext hx11).use fun S hS => rLeft_any w11 r S _ hS) rfl ?_
  intro w12 hx12
  rw [show ((List.replicate N (0 : UInt8), (0 : Int)).1.length : Int) = (N : Int) by simp]
  refine go_LWireCount (k := ?_)
  exact bodyE_ret1 rfl (.bool true) rfl ⟨rfl, hx9.trans' (hx11.trans' hx12)⟩
set_option maxRecDepth 100000 in
theorem lifted (os : Os) (started : os.Started) (H : Type) (enc : TypeId × Value → H) :
    ReturnsInHanded {} Try.checked os 4 .any (Rows.wireCountSpec.pre6 enc Try.prog Try.f4 Rows.wireCountRow.domain false) (Rows.wireCountSpec.post enc Try.prog Try.f4 false true false false) := by
  refine returnsInHanded_of_change_sized (C := Try.checked) ownP started (by kernel_rfl) Try.func4
    (ChangeSpec.witness6 (enc := enc) (C := Try.checked) false ⟨#[], #[.int .i64 0, .int .i64 0, .int .i64 0], []⟩ 8 (by kernel_rfl) (by kernel_rfl) (by kernel_rfl) (by kernel_rfl)) ?_
  intro W base args ds gs before hval0 hW hcnd hwt0 _
  have hval : ∀ (j : Nat) t v, Try.f4.params[j]? = some t → args[j]? = some v → Value.okWide Try.prog W .any base t v := hval0
  have hW' := hW
  obtain ⟨p, q, hA0, hV, rfl, hfz, hnd⟩ := hW
  have hA : DataW.TrodAll enc Try.prog W 0 (fun _ => true) true Try.f4.params.toList args.toList ds p := hA0
  have hwt : (DataW.weightsEach Try.prog (Try.f4.params.toList ++ []) (ds ++ gs)).all (· ≤ reachBytes) = true := hwt0
  rw [Try.params4] at hA hval hwt
  obtain ⟨v0, vs0, d0, ds0, p0, q0, hargs, rfl, rfl, h0, r0⟩ := trodAll_cons hA
  obtain ⟨v1, vs1, d1, ds1, p1, q1, rfl, rfl, rfl, h1, r1⟩ := trodAll_cons r0
  obtain ⟨v2, vs2, d2, ds2, p2, q2, rfl, rfl, rfl, h2, r2⟩ := trodAll_cons r1
  obtain ⟨rfl, rfl, rfl⟩ := trodAll_nil r2
  obtain rfl : args = #[v0, v1, v2] := by cases args; simp_all
  obtain ⟨rfl, rfl⟩ := trodVars_none hV
  have k0 := h0
  have lt0 : ∀ x ∈ p0, x.block < W.heap.size := by obtain ⟨m, hm⟩ := k0; exact DataW.trod_lt m _ _ _ hm
  have wk0 : WOk Try.prog 3 d0 := wok_each hwt 0 rfl rfl
  obtain ⟨a0, b0⟩ := kd_int kI und_int (hval 0 3 v0 rfl rfl) h0 wk0
  have k1 := h1
  have lt1 : ∀ x ∈ p1, x.block < W.heap.size := by obtain ⟨m, hm⟩ := k1; exact DataW.trod_lt m _ _ _ hm
  have wk1 : WOk Try.prog 3 d1 := wok_each hwt 1 rfl rfl
  obtain ⟨a1, b1⟩ := kd_int kI und_int (hval 1 3 v1 rfl rfl) h1 wk1
  have k2 := h2
  have lt2 : ∀ x ∈ p2, x.block < W.heap.size := by obtain ⟨m, hm⟩ := k2; exact DataW.trod_lt m _ _ _ hm
  have wk2 : WOk Try.prog 3 d2 := wok_each hwt 2 rfl rfl
  obtain ⟨a2, b2⟩ := kd_int kI und_int (hval 2 3 v2 rfl rfl) h2 wk2
  clear hA0 hval0 hwt0
  refine (walk W v0 a0 b0 v1 a1 b1 v2 a2 b2).mono fun e W' ⟨he, bel⟩ => ?_
  subst he
  exact ⟨_, rfl, _, _, _, [], _, [], hW', trodAll_mk1 (shut_bool Try.underlying4 _), (trodAll_cons_mk (Below.trod laidP (by kernel_rfl) (of_decide_eq_true (by kernel_rfl)) k0 bel lt0) (trodAll_cons_mk (Below.trod laidP (by kernel_rfl) (of_decide_eq_true (by kernel_rfl)) k1 bel lt1) (trodAll_cons_mk (Below.trod laidP (by kernel_rfl) (of_decide_eq_true (by kernel_rfl)) k2 bel lt2) trodAll_mk0))), rfl, bel.frame _, fun h => by cases h⟩
theorem over : Rows.wireCountRow.holds Try.pinned (OpenSpec.ofChange Rows.wireCountSpec) :=
  OpenClaim.holds_of_wide 4 Try.f4 rfl rfl rfl rfl rfl rfl rfl ⟨rfl, rfl, rfl, rfl, rfl⟩ rfl rfl rfl rfl rfl (by kernel_rfl) Try.func4 (by kernel_rfl)
    (of_decide_eq_true (by kernel_rfl)) (by unfold Func.isWrapper; first | (rw [if_pos (by decide +kernel)]; kernel_rfl) | (rw [if_neg (by decide +kernel)]; exact ⟨rfl, rfl⟩))
    (fun os started H enc _ => lifted os started H enc)
theorem proved : Rows.WireCountSaid := over
#print axioms proved
end Go.Proofs.Ythhphmbhlddihaa.lawWireCount
