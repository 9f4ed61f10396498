/- DiskWrites: bytes are the writes, one behind the other, synced or not. No condition. -/
import Derived.Test.YtkidofecahaajaaDskB
import Derived.Test.YtkidofecahaajaaWorth
namespace Go.Proofs.Ytkidofecahaajaa.lawDiskWrites
open Go.ChangeShapes Go.WideShapes Go.ChangeAt Go.RowKit
set_option linter.unusedVariables false
set_option maxRecDepth 4000
theorem go_LDiskWrites {A B : Prop} (h : Held B → A := by
  intro hEnd
  repeat (first | refine OW_neqF rfl rfl rfl ?_ | refine OW_moveV (.int _ _) rfl ?_ | refine OW_moveV (.slice _ _ _) rfl ?_ | refine OW_moveV (.bool _) rfl ?_ | refine OW_moveV (.pointer _) rfl ?_ | refine OW_moveV (.string _) rfl ?_ | refine OW_moveV (.agg _) rfl ?_ | refine OW_moveV (.tuple _) rfl ?_ | refine OW_nil ?_ | refine thenE_normal ?_ | refine CW_seq ?_ | refine CW_region (by kernel_rfl) ?_ | refine OW_assignV (.int _ _) rfl ?_ | refine OW_assignV (.slice _ _ _) rfl ?_ | refine OW_assignV (.bool _) rfl ?_ | refine OW_assignV (.pointer _) rfl ?_ | refine OW_assignV (.string _) rfl ?_ | refine OW_assignV (.agg _) rfl ?_ | refine OW_assignV (.tuple _) rfl ?_ | refine OW_addI rfl rfl (by omega) ?_ | refine OW_subI rfl rfl (by omega) ?_ | refine OW_mulI rfl rfl (by omega) ?_ | refine OW_lss rfl rfl ?_ | refine OW_extract rfl rfl ?_ | refine OW_gtr rfl rfl ?_ | refine OW_leq rfl rfl ?_ | refine OW_geq rfl rfl ?_ | refine OW_eql rfl rfl ?_ | refine OW_neq rfl rfl ?_ | refine OW_not rfl ?_ | refine OW_pickT rfl _ rfl ?_ | refine OW_pickF rfl (.bool _) rfl ?_ | refine OW_pickB rfl rfl rfl ?_ | refine OW_move ?_ | refine OW_assign ?_ | refine OW_pass rfl ?_ | refine OW_take rfl ?_ | refine OW_lenS (by first | with_reducible exact und_bytes | with_reducible exact und_bytess) rfl ?_ | refine OW_convInt (by first | with_reducible exact und_u8 | with_reducible exact und_u64 | with_reducible exact und_int | with_reducible exact und_u32) (by first | with_reducible exact und_u8 | with_reducible exact und_u64 | with_reducible exact und_int | with_reducible exact und_u32) rfl ?_ | refine OW_add rfl rfl ?_ | refine OW_sub rfl rfl ?_ | refine OW_mul rfl rfl ?_ | refine OW_min2 rfl rfl ?_ | refine OW_max2 rfl rfl ?_ | refine OW_neg rfl ?_ | refine CW_block ?_ | refine CW_condT rfl ?_ | refine CW_condF rfl ?_ | refine CW_exit ?_ | refine CW_ret ?_ | refine CW_skip ?_ | refine LW_seq ?_ | refine LW_regC ?_ | refine LW_condC ?_ | refine LW_regF ?_ | refine LW_condF ?_ | refine FW_seq ?_ | refine FW_region (by kernel_rfl) ?_ | refine FW_block ?_ | refine FW_condT rfl ?_ | refine FW_condF rfl ?_ | refine FW_exit ?_ | refine FW_ret ?_ | refine FW_skip ?_ | refine LW_ret ?_ | refine LW_skip ?_ | refine thenE_exit ?_ | refine thenE_ret ?_ | refine inBlockE_normal ?_ | refine inBlockE_same ?_ | refine inBlockE_ret ?_ | refine inBlockE_ne (by rfl) ?_ | refine OW_eqlB (by with_reducible exact und_bool) rfl rfl ?_ | refine OW_neqB (by with_reducible exact und_bool) rfl rfl ?_ | refine OW_idxS (by with_reducible exact und_bytes) one_u8 rfl rfl _ rfl (by omega) ?_ | refine OW_idxS (by with_reducible exact und_bytess) one_bytes rfl rfl _ rfl (by omega) ?_ | refine OW_load1 (by first | with_reducible exact one_u8 | with_reducible exact one_bytes) rfl _ (by assumption) ?_ | refine OW_lenS und_bools rfl ?_ | refine OW_idxS und_bytess one_bytess rfl rfl _ rfl (by omega) ?_ | refine OW_idxS und_bytess one_bytes rfl rfl _ rfl (by omega) ?_ | refine OW_idxS und_bools s_bool rfl rfl _ rfl (by omega) ?_ | refine OW_load1 one_bytes rfl _ (by assumption) ?_ | refine OW_load1 s_bool rfl _ (by assumption) ?_)
  exact hEnd.out) (k : B) : A := h ⟨k⟩
set_option maxHeartbeats 8000000 in
theorem walk (w : World) (v0 : Value) (l : List (List UInt8)) (h0 : kBss.R w [v0] l) (v1 : Value) (bs : List Bool) (h1 : kBos.R w [v1] bs) : Calls Try.prog 7 #[v0, v1] w (RetV w (.bool true)) := by
  obtain ⟨A, c, hv0, hc, hcm, hs⟩ := h0
  obtain ⟨B, cB, hv1, hcB, hcBm, hsB⟩ := h1
  injection hv0 with hv0
  injection hv1 with hv1
  subst hv0; subst hv1
  have hsm := slr_small hs
  obtain ⟨vs, rfl, hA⟩ := bvs_of hs
  have hB : Rd w B (bs.map Value.bool) := slr_one (R := kBo.R) Value.bool (fun cs a h => h) hsB
  clear hs hsB
  rw [List.length_map] at hc ⊢
  have hsv : ∀ v ∈ vs, v.2.2.length ≤ 140737488351232 := fun v hv => hsm _ (List.mem_map.2 ⟨v, hv, rfl⟩)
  clear hsm
  refine calls_of_CW Try.func7 rfl (by simp [Try.ntmps7]) ?_
  rw [Try.ntmps7]
  refine go_LDiskWrites (k := ?_)
  refine OW_callV Try.func26 (by kernel_rfl) rfl (awake6_any w) rfl ?_
  intro w1 hx1
  refine go_LDiskWrites (k := ?_)
  refine OW_callC Try.func23 (by kernel_rfl) rfl (newDisk_any w1) rfl ?_
  rintro en w2 ⟨g, rfl, hg, hx2, hR2⟩
  refine ⟨_, rfl, ?_⟩
  have hlo2 : ∀ k, more (fun _ => False) w1 w2 k → w.heap.size ≤ k := fun k hk => by rcases hk with h | h; exact h.elim; have := hx1.size; omega
  generalize more (fun _ => False) w1 w2 = S2 at *
  have hx02 := hx1.trans' hx2
  refine go_LDiskWrites (k := ?_)
  refine CW_loop (fun e' w' => ∃ (i : Nat) (S : Nat → Prop) (d : DS) (A6 : Option Addr) (c6 : Nat), i ≤ vs.length ∧ e' 0 = .slice A vs.length c ∧ e' 1 = .slice B bs.length cB ∧ e' 5 = .pointer (some ⟨g, 0, none⟩) ∧ e' 6 = .slice A6 (flatK vs i).length c6 ∧ e' 7 = .int .i64 (worth 20 (vs.take i)) ∧ e' 8 = .int .i64 d.ws.length ∧ e' 9 = .int .i64 i ∧
      worth 20 (vs.take i) ≤ 3000 ∧ DR w' g S d ∧ (d.up = true ∧ d.all = flatK vs i ∧ d.ws.length ≤ i) ∧ (∀ k, S k → w.heap.size ≤ k) ∧ (w'.ownsRow w.heap.size 5 1 (.slice A6 (flatK vs i).length c6) (flatK vs i).length ((flatK vs i).map bv) ∧ ∀ ad, A6 = some ad → ¬ S ad.block) ∧ Ext w w') (fun e' _ => vs.length - (intOf (e' 9)).toNat) ?_ ?_
  · exact ⟨0, S2, dNew, none, 0, by omega, rfl, rfl, rfl, by rw [flatK_zero]; rfl, rfl, rfl, rfl, by simp [worth], hR2, ⟨rfl, by rw [flatK_zero]; rfl, by simp [dNew]⟩, hlo2, ⟨by rw [flatK_zero]; exact World.ownsRow_nil _ _ _ _, fun ad h => by cases h⟩, hx02⟩
  clear hR2 hlo2
  rintro e3 w3 ⟨i, S, d, A6, c6, hi, q0, q1, q5, q6, q7, q8, q9, hw, hR, ⟨hu, hall, hwl⟩, hlo, ⟨ho, hoS⟩, hx⟩
  rw [upd_self q0, upd_self q1, upd_self q5, upd_self q6, upd_self q7, upd_self q8, upd_self q9]
  refine go_LDiskWrites (k := ?_)
  refine CW_cond _ rfl (fun hh => ?_) (fun hh => ?_)
  · have hlt : i < vs.length := by simpa using hh
    clear hh
    obtain ⟨ad, rfl, hcA⟩ := (hA.ext hx).cell hlt
    have hbA := (hA.bs _ (List.getElem_mem hlt)).1
    have hvA := hsv _ (List.getElem_mem hlt)
    have hs := worth_snoc 20 (vs.take i) vs[i]
    rw [← take_succ_get _ _ hlt] at hs
    have hf := flatK_succ hlt
    have hfw := flatK_worth 20 vs i
    have hiw := worth_len (n := 20) (vs.take i)
    rw [List.length_take, Nat.min_eq_left (by omega)] at hiw
    have hcell : ∀ {v : World}, Ext w v → v.cell? (ad.add i) = some (.slice (vs[i]).1 (vs[i]).2.2.length (vs[i]).2.1) := fun {v} hv => by
      obtain ⟨ad', ha', hc'⟩ := (hA.ext hv).cell hlt
      cases ha'
      exact hc'
    generalize vs[i] = x at *
    obtain ⟨xA, xc, xl⟩ := x
    replace hcA : w3.cell? (ad.add i) = some (.slice xA xl.length xc) := hcA
    replace hcell : ∀ {v : World}, Ext w v → v.cell? (ad.add i) = some (.slice xA xl.length xc) := hcell
    simp only at hbA hvA hs hf
    generalize flatK vs i = X at *
    generalize hXX : flatK vs (i + 1) = X' at *
    subst hf
    refine go_LDiskWrites (k := ?_)
    refine CW_cond _ rfl (fun h2 => ?_) (fun h2 => ?_)
    · refine go_LDiskWrites (k := ?_)
      exact bodyE_ret1 rfl (.bool true) rfl ⟨rfl, hx⟩
    have hle : worth 20 (vs.take (i + 1)) ≤ 3000 := by have := of_decide_eq_false h2; omega
    clear h2
    have e1 : dWrite d xl = (0, ⟨true, d.s, d.ws ++ [xl]⟩) := by unfold dWrite; rw [if_pos hu]
    have hW := dWrite_any w3 g S d hR (by omega) xA xc xl (hbA.ext hx) (by omega)
    rw [e1] at hW
    refine go_LDiskWrites (k := ?_)
    refine OW_callC Try.func14 (by kernel_rfl) rfl hW rfl ?_
    rintro en w4 ⟨rfl, hR4, hK4⟩
    refine ⟨_, rfl, ?_⟩
    have hx4 : Ext w w4 := hK4.ext hx hlo
    have ho4 := own_keeps ho hK4 hoS
    have hb6 := own_block ho
    have hoS4 : ∀ ad, A6 = some ad → ¬ more S w3 w4 ad.block := fun ad ha hh => by
      rcases hh with h | h
      · exact hoS ad ha h
      · have := (hb6 ad ha).2; omega
    have hlo4 : ∀ k, more S w3 w4 k → w.heap.size ≤ k := fun k hk => by
      rcases hk with h | h
      · exact hlo k h
      · have := hx.size; omega
    have hall4 : DS.all ⟨true, d.s, d.ws ++ [xl]⟩ = X ++ xl := by
      have := dAll_write d.up d.s d.ws xl
      rw [show (⟨d.up, d.s, d.ws⟩ : DS) = d from rfl, hall, hu] at this
      exact this
    have hwl4 : (⟨true, d.s, d.ws ++ [xl]⟩ : DS).ws.length = d.ws.length + 1 := by simp
    generalize more S w3 w4 = S4 at *
    generalize hd4 : (⟨true, d.s, d.ws ++ [xl]⟩ : DS) = d4 at *
    have hu4 : d4.up = true := by rw [← hd4]
    have hcA4 := hcell hx4
    clear hd4 hW e1
    refine go_LDiskWrites (k := ?_)
    refine OW_appendK und_bytes info_u8 rfl rfl rfl ho4 (hbA.ext hx4) (by simp) (bv_one _) (by unfold maxLen; omega) (by omega) hx4.size ?_
    intro w5 A7 c7 ho5 hg5 hw5
    have hx5 : Ext w w5 := grown_ext hx4 ho4 hg5
    have hK5 : Keeps w4 w5 (fun k => ∃ ad, A6 = some ad ∧ ad.block = k) := Keeps.of_grown hg5 (fun g hg => by
      cases A6 with
      | none => cases hg
      | some ad => cases hg; exact ⟨ad, rfl, rfl⟩)
    have hR5 := hR4.keeps hK5 (fun k hk ⟨ad, ha, hh⟩ => hoS4 ad ha (hh ▸ hk))
    have hoS5 : ∀ ad, A7 = some ad → ¬ S4 ad.block := fun ad ha hh => by
      rcases hw5 with h | h
      · rw [ha] at h
        cases A6 with
        | none => cases h
        | some a0 =>
          have : ad.block = a0.block := by simpa [Value.ownBlock] using h
          exact hoS4 a0 rfl (this ▸ hh)
      · rw [ha] at h
        have : ad.block = w4.heap.size := by simpa [Value.ownBlock] using h
        have := hR4.bd _ hh; omega
    rw [← List.map_append, ← List.length_append] at ho5
    generalize hX : X ++ xl = Y at *
    have hYl : Y.length ≤ 3000 := by rw [← hX, List.length_append]; omega
    rw [show X.length + xl.length = Y.length by rw [← hX, List.length_append]]
    have hi4 : d4.ws.length ≤ i + 1 := by omega
    clear hR hR4 ho4 ho hK4 hK5 hg5 hw5 hoS hoS4 hb6
    refine go_LDiskWrites (k := ?_)
    refine OW_meet (fun e' w' => e' 0 = .slice (some ad) vs.length c ∧ e' 1 = .slice B bs.length cB ∧ e' 5 = .pointer (some ⟨g, 0, none⟩) ∧ e' 6 = .slice A7 Y.length c7 ∧ e' 7 = .int .i64 (worth 20 (vs.take (i + 1))) ∧ e' 8 = .int .i64 d4.ws.length ∧ e' 9 = .int .i64 i ∧ (∃ b : Bool, e' 53 = .bool b) ∧ w' = w5) ?_ ?_
    · have z7 : (((worth 20 (vs.take i) : Nat) : Int) + (xl.length : Int) + 20) = ((worth 20 (vs.take (i + 1)) : Nat) : Int) := by omega
      have z8 : (((d.ws.length : Nat) : Int) + 1) = ((d4.ws.length : Nat) : Int) := by omega
      rw [z7, z8]
      refine OW_split 48 _ rfl (fun h => ?_) (fun h => ?_)
      · have hib : i < bs.length := by simpa using h
        clear h
        obtain ⟨bd, rfl, hcB'⟩ := (hB.ext hx5).at_ (j := i) (by simpa using hib)
        rw [List.getElem_map] at hcB'
        refine go_LDiskWrites (k := ?_)
        exact ⟨rfl, rfl, rfl, rfl, rfl, rfl, rfl, rfl, ⟨_, rfl⟩, rfl⟩
      · refine go_LDiskWrites (k := ?_)
        exact ⟨rfl, rfl, rfl, rfl, rfl, rfl, rfl, rfl, ⟨_, rfl⟩, rfl⟩
    rintro e6 w6 ⟨q0, q1, q5, q6, q7, q8, q9, ⟨b, q53⟩, rfl⟩
    rw [upd_self q0, upd_self q1, upd_self q5, upd_self q6, upd_self q7, upd_self q8, upd_self q9, upd_self q53]
    refine go_LDiskWrites (k := ?_)
    refine CW_meet (fun e' w' => ∃ (S : Nat → Prop) (d : DS), e' 0 = .slice (some ad) vs.length c ∧ e' 1 = .slice B bs.length cB ∧ e' 5 = .pointer (some ⟨g, 0, none⟩) ∧ e' 6 = .slice A7 Y.length c7 ∧ e' 7 = .int .i64 (worth 20 (vs.take (i + 1))) ∧ e' 8 = .int .i64 d.ws.length ∧ e' 9 = .int .i64 i ∧
      DR w' g S d ∧ (d.up = true ∧ d.all = Y ∧ d.ws.length ≤ i + 1) ∧ (∀ k, S k → w.heap.size ≤ k) ∧ (w'.ownsRow w.heap.size 5 1 (.slice A7 Y.length c7) Y.length (Y.map bv) ∧ ∀ ad, A7 = some ad → ¬ S ad.block) ∧ Ext w w') ?_ ?_
    · refine CW_cond _ rfl (fun h => ?_) (fun h => ?_)
      · have e2 : dSync d4 = (0, ⟨true, Y, []⟩) := by unfold dSync; rw [if_pos hu4, hall4]
        have hSy := dSync_any w6 g S4 d4 hR5 (by rw [hall4]; omega) (by omega)
        rw [e2] at hSy
        refine go_LDiskWrites (k := ?_)
        refine OW_callC Try.func15 (by kernel_rfl) rfl hSy rfl ?_
        rintro en w7 ⟨rfl, hR7, hK7⟩
        refine ⟨_, rfl, ?_⟩
        have hx7 : Ext w w7 := hK7.ext hx5 hlo4
        have hb7 := own_block ho5
        refine go_LDiskWrites (k := ?_)
        refine OW_callV Try.func20 (by kernel_rfl) rfl (dSynced_any w7 g _ _ hR7) rfl ?_
        intro w8 hx8
        refine go_LDiskWrites (k := ?_)
        refine ⟨rfl, _, _, rfl, rfl, rfl, rfl, rfl, rfl, rfl, hR7.ext hx8, ⟨rfl, List.append_nil _, Nat.zero_le _⟩, fun k hk => ?_, ⟨own_ext (own_keeps ho5 hK7 hoS5) hx8, fun ad ha hh => ?_⟩, hx7.trans' hx8⟩
        · rcases hk with h | h
          · exact hlo4 k h
          · have := hx5.size; omega
        · rcases hh with h | h
          · exact hoS5 ad ha h
          · have := (hb7 ad ha).2; omega
      · refine go_LDiskWrites (k := ?_)
        exact ⟨rfl, S4, d4, rfl, rfl, rfl, rfl, rfl, rfl, rfl, hR5, ⟨hu4, hall4, hi4⟩, hlo4, ⟨ho5, hoS5⟩, hx5⟩
    rintro e7 w7 ⟨S7, d7, q0, q1, q5, q6, q7, q8, q9, hR7, ⟨hu7, hall7, hi7⟩, hlo7, ⟨ho7, hoS7⟩, hx7⟩
    rw [upd_self q0, upd_self q1, upd_self q5, upd_self q6, upd_self q7, upd_self q8, upd_self q9]
    clear hR5 ho5 hoS5 hlo4 hall4 hi4 hwl4
    refine go_LDiskWrites (k := ?_)
    have hBy := dBytes_any w7 g S7 d7 hR7 (by rw [hall7]; omega) (by omega)
    rw [hall7] at hBy
    refine OW_callC Try.func19 (by kernel_rfl) rfl hBy rfl ?_
    rintro en w8 ⟨A8, c8, rfl, hc8, hf8, hx8⟩
    refine ⟨_, rfl, ?_⟩
    have hR8 := hR7.ext hx8
    have ho8 := own_ext ho7 hx8
    refine go_LDiskWrites (k := ?_)
    refine OW_callV Try.func29 (by kernel_rfl) rfl (same_any w8 A8 A7 Y Y c8 c7 hf8.bs (own_rd ho8) hc8 (by omega)) rfl ?_
    intro w9 hx9
    rw [show (Y == Y) = true from beq_self_eq_true Y]
    have hR9 := hR8.ext hx9
    refine go_LDiskWrites (k := ?_)
    refine OW_callV Try.func21 (by kernel_rfl) rfl (dWrites_any w9 g S7 d7 hR9) rfl ?_
    intro w10 hx10
    have hR10 := hR9.ext hx10
    refine go_LDiskWrites (k := ?_)
    refine OW_callV Try.func22 (by kernel_rfl) rfl (dUp_any w10 g S7 d7 hR10) rfl ?_
    intro w11 hx11
    rw [hu7]
    have hx711 := ((hx8.trans' hx9).trans' hx10).trans' hx11
    refine go_LDiskWrites (k := ?_)
    refine ⟨⟨i + 1, S7, d7, A7, c7, ?_⟩, ?_⟩
    · rw [hXX]
      exact ⟨hlt, rfl, rfl, rfl, rfl, rfl, rfl, rfl, hle, hR10.ext hx11, ⟨hu7, hall7, hi7⟩, hlo7, ⟨own_ext ho7 hx711, hoS7⟩, hx7.trans' hx711⟩
    show vs.length - ((i : Int) + 1).toNat < vs.length - (i : Int).toNat
    omega
  · refine go_LDiskWrites (k := ?_)
    exact bodyE_ret1 rfl (.bool true) rfl ⟨rfl, hx⟩
set_option maxRecDepth 100000 in
theorem lifted (os : Os) (started : os.Started) (H : Type) (enc : TypeId × Value → H) :
    ReturnsInHanded {} Try.checked os 7 .any (Rows.diskWritesSpec.pre6 enc Try.prog Try.f7 Rows.diskWritesRow.domain false) (Rows.diskWritesSpec.post enc Try.prog Try.f7 false true false false) := by
  refine returnsInHanded_of_change_sized (C := Try.checked) ownP started (by kernel_rfl) Try.func7
    (ChangeSpec.witness6 (enc := enc) (C := Try.checked) false ⟨#[], #[.slice none 0 0, .slice none 0 0], []⟩ 8 (by kernel_rfl) (by kernel_rfl) (by kernel_rfl) (by kernel_rfl)) ?_
  intro W base args ds gs before hval0 hW hcnd hwt0 _
  have hval : ∀ (j : Nat) t v, Try.f7.params[j]? = some t → args[j]? = some v → Value.okWide Try.prog W .any base t v := hval0
  have hW' := hW
  obtain ⟨p, q, hA0, hV, rfl, hfz, hnd⟩ := hW
  have hA : DataW.TrodAll enc Try.prog W 0 (fun _ => true) true Try.f7.params.toList args.toList ds p := hA0
  have hwt : (DataW.weightsEach Try.prog (Try.f7.params.toList ++ []) (ds ++ gs)).all (· ≤ reachBytes) = true := hwt0
  rw [Try.params7] at hA hval hwt
  obtain ⟨v0, vs0, d0, ds0, p0, q0, hargs, rfl, rfl, h0, r0⟩ := trodAll_cons hA
  obtain ⟨v1, vs1, d1, ds1, p1, q1, rfl, rfl, rfl, h1, r1⟩ := trodAll_cons r0
  obtain ⟨rfl, rfl, rfl⟩ := trodAll_nil r1
  obtain rfl : args = #[v0, v1] := by cases args; simp_all
  obtain ⟨rfl, rfl⟩ := trodVars_none hV
  have k0 := h0
  have lt0 : ∀ x ∈ p0, x.block < W.heap.size := by obtain ⟨m, hm⟩ := k0; exact DataW.trod_lt m _ _ _ hm
  have wk0 : WOk Try.prog 28 d0 := wok_each hwt 0 rfl rfl
  obtain ⟨a0, b0⟩ := kd_slice kBss und_bytess (hval 0 28 v0 rfl rfl) h0 wk0
  have k1 := h1
  have lt1 : ∀ x ∈ p1, x.block < W.heap.size := by obtain ⟨m, hm⟩ := k1; exact DataW.trod_lt m _ _ _ hm
  have wk1 : WOk Try.prog 50 d1 := wok_each hwt 1 rfl rfl
  obtain ⟨a1, b1⟩ := kd_slice kBos und_bools (hval 1 50 v1 rfl rfl) h1 wk1
  clear hA0 hval0 hwt0
  refine (walk W v0 a0 b0 v1 a1 b1).mono fun e W' ⟨he, bel⟩ => ?_
  subst he
  exact ⟨_, rfl, _, _, _, [], _, [], hW', trodAll_mk1 (shut_bool Try.underlying4 _), (trodAll_cons_mk (Below.trod laidP (by kernel_rfl) (of_decide_eq_true (by kernel_rfl)) k0 bel lt0) (trodAll_cons_mk (Below.trod laidP (by kernel_rfl) (of_decide_eq_true (by kernel_rfl)) k1 bel lt1) trodAll_mk0)), rfl, bel.frame _, fun h => by cases h⟩
theorem over : Rows.diskWritesRow.holds Try.pinned (OpenSpec.ofChange Rows.diskWritesSpec) :=
  OpenClaim.holds_of_wide 7 Try.f7 rfl rfl rfl rfl rfl rfl rfl ⟨rfl, rfl, rfl, rfl, rfl⟩ rfl rfl rfl rfl rfl (by kernel_rfl) Try.func7 (by kernel_rfl)
    (of_decide_eq_true (by kernel_rfl)) (by unfold Func.isWrapper; first | (rw [if_pos (by decide +kernel)]; kernel_rfl) | (rw [if_neg (by decide +kernel)]; exact ⟨rfl, rfl⟩))
    (fun os started H enc _ => lifted os started H enc)
theorem proved : Rows.DiskWritesSaid := over
#print axioms proved
end Go.Proofs.Ytkidofecahaajaa.lawDiskWrites
