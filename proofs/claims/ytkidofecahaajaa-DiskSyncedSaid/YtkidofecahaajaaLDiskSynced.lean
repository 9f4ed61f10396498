/- DiskSynced: what is synced stays, whatever happens but a Cut; what is refused changes nothing. No condition. -/
import Derived.Test.YtkidofecahaajaaDskB
namespace Go.Proofs.Ytkidofecahaajaa.lawDiskSynced
open Go.ChangeShapes Go.WideShapes Go.ChangeAt Go.RowKit
set_option linter.unusedVariables false
set_option maxRecDepth 4000
theorem go_LDiskSynced {A B : Prop} (h : Held B → A := by
  intro hEnd
  repeat (first | refine OW_moveV (.int _ _) rfl ?_ | refine OW_moveV (.slice _ _ _) rfl ?_ | refine OW_moveV (.bool _) rfl ?_ | refine OW_moveV (.pointer _) rfl ?_ | refine OW_moveV (.string _) rfl ?_ | refine OW_moveV (.agg _) rfl ?_ | refine OW_moveV (.tuple _) rfl ?_ | refine OW_nil ?_ | refine thenE_normal ?_ | refine CW_seq ?_ | refine CW_region (by kernel_rfl) ?_ | refine OW_assignV (.int _ _) rfl ?_ | refine OW_assignV (.slice _ _ _) rfl ?_ | refine OW_assignV (.bool _) rfl ?_ | refine OW_assignV (.pointer _) rfl ?_ | refine OW_assignV (.string _) rfl ?_ | refine OW_assignV (.agg _) rfl ?_ | refine OW_assignV (.tuple _) rfl ?_ | refine OW_addI rfl rfl (by omega) ?_ | refine OW_subI rfl rfl (by omega) ?_ | refine OW_mulI rfl rfl (by omega) ?_ | refine OW_lss rfl rfl ?_ | refine OW_extract rfl rfl ?_ | refine OW_gtr rfl rfl ?_ | refine OW_leq rfl rfl ?_ | refine OW_geq rfl rfl ?_ | refine OW_eql rfl rfl ?_ | refine OW_neq rfl rfl ?_ | refine OW_not rfl ?_ | refine OW_pickT rfl _ rfl ?_ | refine OW_pickF rfl (.bool _) rfl ?_ | refine OW_pickB rfl rfl rfl ?_ | refine OW_move ?_ | refine OW_assign ?_ | refine OW_pass rfl ?_ | refine OW_take rfl ?_ | refine OW_lenS (by first | with_reducible exact und_bytes | with_reducible exact und_bytess) rfl ?_ | refine OW_convInt (by first | with_reducible exact und_u8 | with_reducible exact und_u64 | with_reducible exact und_int | with_reducible exact und_u32) (by first | with_reducible exact und_u8 | with_reducible exact und_u64 | with_reducible exact und_int | with_reducible exact und_u32) rfl ?_ | refine OW_add rfl rfl ?_ | refine OW_sub rfl rfl ?_ | refine OW_mul rfl rfl ?_ | refine OW_min2 rfl rfl ?_ | refine OW_max2 rfl rfl ?_ | refine OW_neg rfl ?_ | refine CW_block ?_ | refine CW_condT rfl ?_ | refine CW_condF rfl ?_ | refine CW_exit ?_ | refine CW_ret ?_ | refine CW_skip ?_ | refine LW_seq ?_ | refine LW_regC ?_ | refine LW_condC ?_ | refine LW_regF ?_ | refine LW_condF ?_ | refine FW_seq ?_ | refine FW_region (by kernel_rfl) ?_ | refine FW_block ?_ | refine FW_condT rfl ?_ | refine FW_condF rfl ?_ | refine FW_exit ?_ | refine FW_ret ?_ | refine FW_skip ?_ | refine LW_ret ?_ | refine LW_skip ?_ | refine thenE_exit ?_ | refine thenE_ret ?_ | refine inBlockE_normal ?_ | refine inBlockE_same ?_ | refine inBlockE_ret ?_ | refine inBlockE_ne (by rfl) ?_ | refine OW_eqlB (by with_reducible exact und_bool) rfl rfl ?_ | refine OW_neqB (by with_reducible exact und_bool) rfl rfl ?_ | refine OW_idxS (by with_reducible exact und_bytes) one_u8 rfl rfl _ rfl (by omega) ?_ | refine OW_idxS (by with_reducible exact und_bytess) one_bytes rfl rfl _ rfl (by omega) ?_ | refine OW_load1 (by first | with_reducible exact one_u8 | with_reducible exact one_bytes) rfl _ (by assumption) ?_ | refine OW_lenS und_As rfl ?_ | refine OW_idxN und_As el_A rfl rfl _ rfl (by omega) ?_ | refine OW_fieldO fldo_A0 rfl ?_ | refine OW_load1 s_int rfl _ (by assumption) ?_)
  exact hEnd.out) (k : B) : A := h ⟨k⟩
set_option maxHeartbeats 8000000 in
theorem walk (w : World) (v0 : Value) (l : List AD) (h0 : kActs.R w [v0] l) : Calls Try.prog 6 #[v0] w (RetV w (.bool true)) := by
  obtain ⟨A, c, hv0, hc, hcm, hA⟩ := h0
  have hA : ACs w A l := hA
  injection hv0 with hv0
  subst hv0
  refine calls_of_CW Try.func6 rfl (by simp [Try.ntmps6]) ?_
  rw [Try.ntmps6]
  refine go_LDiskSynced (k := ?_)
  refine OW_callV Try.func26 (by kernel_rfl) rfl (awake6_any w) rfl ?_
  intro w1 hx1
  refine go_LDiskSynced (k := ?_)
  refine OW_callV Try.func13 (by kernel_rfl) rfl (great6_any w1 A c l (hA.ext hx1) (by omega)) rfl ?_
  intro w2 hx2
  refine go_LDiskSynced (k := ?_)
  refine CW_cond _ rfl (fun h => ?_) (fun h => ?_)
  · refine go_LDiskSynced (k := ?_)
    exact bodyE_ret1 rfl (.bool true) rfl ⟨rfl, hx1.trans' hx2⟩
  have hgs : asum 20 l ≤ 4000 := by have := of_decide_eq_false h; omega
  clear h
  have hll := asum_len 20 l
  have hx02 := hx1.trans' hx2
  refine go_LDiskSynced (k := ?_)
  refine OW_callC Try.func23 (by kernel_rfl) rfl (newDisk_any w2) rfl ?_
  rintro en w3 ⟨g, rfl, hg, hx3, hR3⟩
  refine ⟨_, rfl, ?_⟩
  have hlo3 : ∀ k, more (fun _ => False) w2 w3 k → w.heap.size ≤ k := fun k hk => by rcases hk with h | h; exact h.elim; have := hx02.size; omega
  generalize more (fun _ => False) w2 w3 = S3 at *
  have hx03 := hx02.trans' hx3
  refine go_LDiskSynced (k := ?_)
  refine CW_loop (fun e' w' => ∃ (i : Nat) (S : Nat → Prop) (d : DS), i ≤ l.length ∧ e' 0 = .slice A l.length c ∧ e' 3 = .pointer (some ⟨g, 0, none⟩) ∧ e' 4 = .int .i64 i ∧ DR w' g S d ∧ d.all.length ≤ asum 20 (l.take i) ∧ d.ws.length ≤ i ∧ (∀ k, S k → w.heap.size ≤ k) ∧ Ext w w') (fun e' _ => l.length - (intOf (e' 4)).toNat) ?_ ?_
  · exact ⟨0, S3, dNew, by omega, rfl, rfl, rfl, hR3, Nat.zero_le _, Nat.zero_le _, hlo3, hx03⟩
  clear hR3 hlo3
  rintro e4 w4 ⟨i, S, d, hi, q0, q3, q4, hR, hal, hwl, hlo, hx4⟩
  rw [upd_self q0, upd_self q3, upd_self q4]
  refine go_LDiskSynced (k := ?_)
  refine CW_cond _ rfl (fun hh => ?_) (fun hh => ?_)
  · have hlt : i < l.length := by simpa using hh
    clear hh
    obtain ⟨ad, A', c', rfl, hat, hok⟩ := hA.get hlt
    have hs := asum_take_succ (k := 20) hlt
    have hsl := asum_take_le 20 l (i + 1)
    have hsl0 := asum_take_le 20 l i
    have hmem := asum_mem (k := 20) hlt
    have hact := dAll_len_act d l[i]
    have hsyn := dAct_synced d l[i]
    have hcut := dAct_cut d l[i]
    have href := dAct_refused d l[i]
    have hdown := dAct_down d l[i]
    generalize l[i] = f at *
    have hsn : d.s.length ≤ d.all.length := by unfold DS.all; rw [List.length_append]; omega
    have hst : d.all.take d.s.length = d.s := by unfold DS.all; rw [List.take_append_of_le_length (Nat.le_refl _), List.take_of_length_le (Nat.le_refl _)]
    refine go_LDiskSynced (k := ?_)
    refine OW_callC Try.func19 (by kernel_rfl) rfl (dBytes_any w4 g S d hR (by omega) (by omega)) rfl ?_
    rintro en w5 ⟨A5, c5, rfl, hc5, hf5, hx5⟩
    refine ⟨_, rfl, ?_⟩
    have hR5 := hR.ext hx5
    have hO5 : Out w5 S A5 d.all := Out.fresh hR.bd hf5
    refine go_LDiskSynced (k := ?_)
    refine OW_callV Try.func20 (by kernel_rfl) rfl (dSynced_any w5 g S d hR5) rfl ?_
    intro w6 hx6
    have hR6 := hR5.ext hx6
    refine go_LDiskSynced (k := ?_)
    refine OW_callV Try.func22 (by kernel_rfl) rfl (dUp_any w6 g S d hR6) rfl ?_
    intro w7 hx7
    have hR7 := hR6.ext hx7
    have hO7 := (hO5.ext hx6).ext hx7
    have hx07 : Ext w w7 := ((hx4.trans' hx5).trans' hx6).trans' hx7
    refine go_LDiskSynced (k := ?_)
    refine CW_cond _ rfl (fun hh => ?_) (fun hh => ?_)
    · exfalso
      have := of_decide_eq_true hh
      omega
    clear hh hR hR5 hR6 hO5
    refine go_LDiskSynced (k := ?_)
    refine OW_loadX agg_A rfl (acells f (.slice A' f.B.length c')) rfl (hat.ext hx07) ?_
    refine go_LDiskSynced (k := ?_)
    refine OW_callC Try.func27 (by kernel_rfl) rfl (do_any w7 g S d hR7 f A' c' (hok.ext hx07) (by omega) (by omega) (by omega)) rfl ?_
    rintro en w8 ⟨rfl, hR8, hK8⟩
    refine ⟨_, rfl, ?_⟩
    have hx08 : Ext w w8 := hK8.ext hx07 hlo
    have hO8 := hO7.keep hK8
    have hlo8 : ∀ k, more S w7 w8 k → w.heap.size ≤ k := fun k hk => by
      rcases hk with h | h
      · exact hlo k h
      · have := hx07.size; omega
    generalize more S w7 w8 = S8 at *
    obtain ⟨en8, hen8⟩ : ∃ z, (dAct d f).1 = z := ⟨_, rfl⟩
    obtain ⟨d8, hd8⟩ : ∃ z, (dAct d f).2 = z := ⟨_, rfl⟩
    rw [hd8] at hR8 hact hsyn hcut href
    rw [hen8] at href hdown ⊢
    refine go_LDiskSynced (k := ?_)
    refine OW_callC Try.func19 (by kernel_rfl) rfl (dBytes_any w8 g S8 d8 hR8 (by omega) (by omega)) rfl ?_
    rintro en w9 ⟨A9, c9, rfl, hc9, hf9, hx9⟩
    refine ⟨_, rfl, ?_⟩
    have hR9 := hR8.ext hx9
    have hO9 := hO8.ext hx9
    have hx09 := hx08.trans' hx9
    have hb9 := hf9.bs
    clear hf9 hR8 hR7 hO7 hO8 hK8
    have hk : ∀ {v : World}, Ext w v → v.cell? ((ad.add (i * 4)).add 0) = some (.int .i64 f.kind) := fun {v} hv => (hat.ext hv) 0 _ rfl
    have hk9 := hk hx09
    refine go_LDiskSynced (k := ?_)
    refine OW_meet (fun e' w' => e' 0 = .slice (some ad) l.length c ∧ e' 3 = .pointer (some ⟨g, 0, none⟩) ∧ e' 4 = .int .i64 i ∧ e' 5 = .slice A5 d.all.length c5 ∧ e' 6 = .int .i64 d.s.length ∧ e' 7 = .bool d.up ∧ e' 8 = .int .i64 en8 ∧ e' 9 = .slice A9 d8.all.length c9 ∧ e' 66 = .bool false ∧ Ext w9 w') ?_ ?_
    · refine OW_split 45 _ rfl (fun h => ?_) (fun h => ?_)
      · have hk7 : f.kind ≠ 7 := by simpa using h
        have hbg := begin_pre (hsyn hk7)
        have hkf : (f.kind == 7) = false := beq_eq_false_iff_ne.2 hk7
        clear h
        refine go_LDiskSynced (k := ?_)
        refine OW_sliceBs und_bytes one_u8 hO9.bs rfl hc5 rfl rfl ⟨_, rfl⟩ 0 d.s.length rfl rfl (by omega) ?_
        intro A10 hb10 hl10
        rw [show (d.all.drop 0).take (d.s.length - 0) = d.all.take d.s.length from rfl, hst] at hb10
        rw [show d.s.length - 0 = d.s.length from rfl]
        refine go_LDiskSynced (k := ?_)
        refine OW_callV Try.func28 (by kernel_rfl) rfl (begins_any w9 A10 A9 (c5 - 0) c9 d.s d8.all hb10 (by omega) hb9 hc9 (by omega) (by omega)) rfl ?_
        intro w10 hx10
        rw [hbg]
        have hk10 := hk (hx09.trans' hx10)
        refine go_LDiskSynced (k := ?_)
        rw [hkf]
        refine go_LDiskSynced (k := ?_)
        exact ⟨rfl, rfl, rfl, rfl, rfl, rfl, rfl, rfl, rfl, rfl, hx10⟩
      · have hk7 : f.kind = 7 := by simpa using h
        have hbg := begin_pre (hcut hk7)
        have hkf : (f.kind == 7) = true := beq_iff_eq.2 hk7
        clear h
        refine go_LDiskSynced (k := ?_)
        rw [hkf]
        refine go_LDiskSynced (k := ?_)
        refine OW_callV Try.func28 (by kernel_rfl) rfl (begins_any w9 A9 A5 c9 c5 d8.all d.all hb9 hc9 hO9.bs hc5 (by omega) (by omega)) rfl ?_
        intro w10 hx10
        rw [hbg]
        refine go_LDiskSynced (k := ?_)
        exact ⟨rfl, rfl, rfl, rfl, rfl, rfl, rfl, rfl, rfl, rfl, hx10⟩
    rintro e10 w10 ⟨q0, q3, q4, q5, q6, q7, q8, q9, q66, hx10⟩
    rw [upd_self q0, upd_self q3, upd_self q4, upd_self q5, upd_self q6, upd_self q7, upd_self q8, upd_self q9, upd_self q66]
    have hR10 := hR9.ext hx10
    have hO10 := hO9.ext hx10
    have hx010 := hx09.trans' hx10
    clear hk9
    refine go_LDiskSynced (k := ?_)
    refine OW_meet (fun e' w' => e' 0 = .slice (some ad) l.length c ∧ e' 3 = .pointer (some ⟨g, 0, none⟩) ∧ e' 4 = .int .i64 i ∧ e' 110 = .bool false ∧ Ext w10 w') ?_ ?_
    · refine OW_meet (fun e' w' => e' 0 = .slice (some ad) l.length c ∧ e' 3 = .pointer (some ⟨g, 0, none⟩) ∧ e' 4 = .int .i64 i ∧ e' 110 = .bool false ∧ Ext w10 w') ?_ (fun e w h => ⟨rfl, h⟩)
      have tail : ∀ (v : World), Ext w10 v → v.cell? ((ad.add (i * 4)).add 0) = some (.int .i64 f.kind) := fun v hv => hk (hx010.trans' hv)
      refine OW_split 69 _ rfl (fun h => ?_) (fun h => ?_)
      · have hne : en8 ≠ 0 := by simpa using h
        have hdd : d8 = d := href hne
        subst hdd
        clear h
        refine go_LDiskSynced (k := ?_)
        refine OW_callV Try.func29 (by kernel_rfl) rfl (same_any w10 A5 A9 d8.all d8.all c5 c9 hO10.bs (hb9.ext hx10) hc5 (by omega)) rfl ?_
        intro w11 hx11
        rw [show (d8.all == d8.all) = true from beq_self_eq_true _]
        refine go_LDiskSynced (k := ?_)
        refine OW_callV Try.func20 (by kernel_rfl) rfl (dSynced_any w11 g S8 d8 (hR10.ext hx11)) rfl ?_
        intro w12 hx12
        have hx112 := hx11.trans' hx12
        refine go_LDiskSynced (k := ?_)
        rw [show (((d8.s.length : Nat) : Int) != ((d8.s.length : Nat) : Int)) = false by simp]
        refine go_LDiskSynced (k := ?_)
        refine OW_callV Try.func22 (by kernel_rfl) rfl (dUp_any w12 g S8 d8 (hR10.ext hx112)) rfl ?_
        intro w13 hx13
        have hx113 := hx112.trans' hx13
        have hc13 := tail w13 hx113
        refine go_LDiskSynced (k := ?_)
        rw [show (!(d8.up == d8.up)) = false by simp]
        refine go_LDiskSynced (k := ?_)
        refine OW_split 90 _ rfl (fun h => ?_) (fun h => ?_)
        · have hdu : d8.up = false := by simpa using h
          clear h
          refine go_LDiskSynced (k := ?_)
          refine OW_split 98 _ rfl (fun h => ?_) (fun h => ?_)
          · have h4 : f.kind ≤ 4 := by simpa using h
            clear h
            refine go_LDiskSynced (k := ?_)
            refine OW_split 106 _ rfl (fun h => ?_) (fun h => ?_)
            · have h0 : 0 ≤ f.kind := by simpa using h
              have := hdown hdu ⟨h0, h4⟩
              subst this
              refine go_LDiskSynced (k := ?_)
              exact ⟨rfl, rfl, rfl, rfl, rfl, hx113⟩
            · refine go_LDiskSynced (k := ?_)
              exact ⟨rfl, rfl, rfl, rfl, rfl, hx113⟩
          · refine go_LDiskSynced (k := ?_)
            exact ⟨rfl, rfl, rfl, rfl, rfl, hx113⟩
        · refine go_LDiskSynced (k := ?_)
          exact ⟨rfl, rfl, rfl, rfl, rfl, hx113⟩
      · have hc10 := tail w10 (Ext.rfl' _)
        have he0 : en8 = 0 := by simpa using h
        refine go_LDiskSynced (k := ?_)
        refine OW_split 90 _ rfl (fun h => ?_) (fun h => ?_)
        · have hdu : d.up = false := by simpa using h
          clear h
          refine go_LDiskSynced (k := ?_)
          refine OW_split 98 _ rfl (fun h => ?_) (fun h => ?_)
          · have h4 : f.kind ≤ 4 := by simpa using h
            clear h
            refine go_LDiskSynced (k := ?_)
            refine OW_split 106 _ rfl (fun h => ?_) (fun h => ?_)
            · have h0 : 0 ≤ f.kind := by simpa using h
              have := hdown hdu ⟨h0, h4⟩
              omega
            · refine go_LDiskSynced (k := ?_)
              exact ⟨rfl, rfl, rfl, rfl, rfl, Ext.rfl' _⟩
          · refine go_LDiskSynced (k := ?_)
            exact ⟨rfl, rfl, rfl, rfl, rfl, Ext.rfl' _⟩
        · refine go_LDiskSynced (k := ?_)
          exact ⟨rfl, rfl, rfl, rfl, rfl, Ext.rfl' _⟩
    rintro e11 w11 ⟨q0, q3, q4, q110, hx11⟩
    rw [upd_self q0, upd_self q3, upd_self q4, upd_self q110]
    refine go_LDiskSynced (k := ?_)
    refine ⟨⟨i + 1, S8, d8, hlt, rfl, rfl, rfl, hR10.ext hx11, by omega, by omega, hlo8, hx010.trans' hx11⟩, ?_⟩
    show l.length - ((i : Int) + 1).toNat < l.length - (i : Int).toNat
    omega
  · refine go_LDiskSynced (k := ?_)
    exact bodyE_ret1 rfl (.bool true) rfl ⟨rfl, hx4⟩
set_option maxRecDepth 100000 in
theorem lifted (os : Os) (started : os.Started) (H : Type) (enc : TypeId × Value → H) :
    ReturnsInHanded {} Try.checked os 6 .any (Rows.diskSyncedSpec.pre6 enc Try.prog Try.f6 Rows.diskSyncedRow.domain false) (Rows.diskSyncedSpec.post enc Try.prog Try.f6 false true false false) := by
  refine returnsInHanded_of_change_sized (C := Try.checked) ownP started (by kernel_rfl) Try.func6
    (ChangeSpec.witness6 (enc := enc) (C := Try.checked) false ⟨#[], #[.slice none 0 0], []⟩ 8 (by kernel_rfl) (by kernel_rfl) (by kernel_rfl) (by kernel_rfl)) ?_
  intro W base args ds gs before hval0 hW hcnd hwt0 _
  have hval : ∀ (j : Nat) t v, Try.f6.params[j]? = some t → args[j]? = some v → Value.okWide Try.prog W .any base t v := hval0
  have hW' := hW
  obtain ⟨p, q, hA0, hV, rfl, hfz, hnd⟩ := hW
  have hA : DataW.TrodAll enc Try.prog W 0 (fun _ => true) true Try.f6.params.toList args.toList ds p := hA0
  have hwt : (DataW.weightsEach Try.prog (Try.f6.params.toList ++ []) (ds ++ gs)).all (· ≤ reachBytes) = true := hwt0
  rw [Try.params6] at hA hval hwt
  obtain ⟨v0, vs0, d0, ds0, p0, q0, hargs, rfl, rfl, h0, r0⟩ := trodAll_cons hA
  obtain ⟨rfl, rfl, rfl⟩ := trodAll_nil r0
  obtain rfl : args = #[v0] := by cases args; simp_all
  obtain ⟨rfl, rfl⟩ := trodVars_none hV
  have k0 := h0
  have lt0 : ∀ x ∈ p0, x.block < W.heap.size := by obtain ⟨m, hm⟩ := k0; exact DataW.trod_lt m _ _ _ hm
  have wk0 : WOk Try.prog 26 d0 := wok_each hwt 0 rfl rfl
  obtain ⟨a0, b0⟩ := kd_slice kActs und_As (hval 0 26 v0 rfl rfl) h0 wk0
  clear hA0 hval0 hwt0
  refine (walk W v0 a0 b0).mono fun e W' ⟨he, bel⟩ => ?_
  subst he
  exact ⟨_, rfl, _, _, _, [], _, [], hW', trodAll_mk1 (shut_bool Try.underlying4 _), (trodAll_cons_mk (Below.trod laidP (by kernel_rfl) (of_decide_eq_true (by kernel_rfl)) k0 bel lt0) trodAll_mk0), rfl, bel.frame _, fun h => by cases h⟩
theorem over : Rows.diskSyncedRow.holds Try.pinned (OpenSpec.ofChange Rows.diskSyncedSpec) :=
  OpenClaim.holds_of_wide 6 Try.f6 rfl rfl rfl rfl rfl rfl rfl ⟨rfl, rfl, rfl, rfl, rfl⟩ rfl rfl rfl rfl rfl (by kernel_rfl) Try.func6 (by kernel_rfl)
    (of_decide_eq_true (by kernel_rfl)) (by unfold Func.isWrapper; first | (rw [if_pos (by decide +kernel)]; kernel_rfl) | (rw [if_neg (by decide +kernel)]; exact ⟨rfl, rfl⟩))
    (fun os started H enc _ => lifted os started H enc)
theorem proved : Rows.DiskSyncedSaid := over
#print axioms proved
end Go.Proofs.Ytkidofecahaajaa.lawDiskSynced
