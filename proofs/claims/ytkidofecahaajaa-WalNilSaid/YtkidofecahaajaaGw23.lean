/- Several texts in one, as they stand in wip/src. -/
import Derived.Test.YtkidofecahaajaaGw15
import Derived.Test.YtkidofecahaajaaGw21
/- Walks: a wal that nobody made, or of a disk that is none. -/
namespace Go.Proofs.Ytkidofecahaajaa
open Go Go.RowKit
set_option linter.unusedVariables false
set_option maxRecDepth 4000
theorem go_WalN {A B : Prop} (h : Held B → A := by
  intro hEnd
  repeat (first | refine OW_nilCheck rfl ?_ | refine OW_fieldB fldo_V0 rfl ?_ | refine OW_eqlNil und_pV rfl ?_ | refine OW_eqlNil und_pD rfl ?_ | refine OW_moveV (.int _ _) rfl ?_ | refine OW_moveV (.slice _ _ _) rfl ?_ | refine OW_moveV (.bool _) rfl ?_ | refine OW_moveV (.pointer _) rfl ?_ | refine OW_moveV (.string _) rfl ?_ | refine OW_moveV (.agg _) rfl ?_ | refine OW_moveV (.tuple _) rfl ?_ | refine OW_nil ?_ | refine thenE_normal ?_ | refine CW_seq ?_ | refine CW_region (by kernel_rfl) ?_ | refine OW_assignV (.int _ _) rfl ?_ | refine OW_assignV (.slice _ _ _) rfl ?_ | refine OW_assignV (.bool _) rfl ?_ | refine OW_assignV (.pointer _) rfl ?_ | refine OW_assignV (.string _) rfl ?_ | refine OW_assignV (.agg _) rfl ?_ | refine OW_assignV (.tuple _) rfl ?_ | refine OW_addI rfl rfl (by omega) ?_ | refine OW_subI rfl rfl (by omega) ?_ | refine OW_mulI rfl rfl (by omega) ?_ | refine OW_lss rfl rfl ?_ | refine OW_extract rfl rfl ?_ | refine OW_gtr rfl rfl ?_ | refine OW_leq rfl rfl ?_ | refine OW_geq rfl rfl ?_ | refine OW_eql rfl rfl ?_ | refine OW_neq rfl rfl ?_ | refine OW_not rfl ?_ | refine OW_pickT rfl _ rfl ?_ | refine OW_pickF rfl (.bool _) rfl ?_ | refine OW_pickB rfl rfl rfl ?_ | refine OW_move ?_ | refine OW_assign ?_ | refine OW_pass rfl ?_ | refine OW_take rfl ?_ | refine OW_lenS (by first | with_reducible exact und_bytes | with_reducible exact und_bytess) rfl ?_ | refine OW_convInt (by first | with_reducible exact und_u8 | with_reducible exact und_u64 | with_reducible exact und_int | with_reducible exact und_u32) (by first | with_reducible exact und_u8 | with_reducible exact und_u64 | with_reducible exact und_int | with_reducible exact und_u32) rfl ?_ | refine OW_add rfl rfl ?_ | refine OW_sub rfl rfl ?_ | refine OW_mul rfl rfl ?_ | refine OW_min2 rfl rfl ?_ | refine OW_max2 rfl rfl ?_ | refine OW_neg rfl ?_ | refine CW_block ?_ | refine CW_condT rfl ?_ | refine CW_condF rfl ?_ | refine CW_exit ?_ | refine CW_ret ?_ | refine CW_skip ?_ | refine LW_seq ?_ | refine LW_regC ?_ | refine LW_condC ?_ | refine LW_regF ?_ | refine LW_condF ?_ | refine FW_seq ?_ | refine FW_region (by kernel_rfl) ?_ | refine FW_block ?_ | refine FW_condT rfl ?_ | refine FW_condF rfl ?_ | refine FW_exit ?_ | refine FW_ret ?_ | refine FW_skip ?_ | refine LW_ret ?_ | refine LW_skip ?_ | refine thenE_exit ?_ | refine thenE_ret ?_ | refine inBlockE_normal ?_ | refine inBlockE_same ?_ | refine inBlockE_ret ?_ | refine inBlockE_ne (by rfl) ?_ | refine OW_eqlB (by with_reducible exact und_bool) rfl rfl ?_ | refine OW_neqB (by with_reducible exact und_bool) rfl rfl ?_ | refine OW_idxS (by with_reducible exact und_bytes) one_u8 rfl rfl _ rfl (by omega) ?_ | refine OW_idxS (by with_reducible exact und_bytess) one_bytes rfl rfl _ rfl (by omega) ?_ | refine OW_load1 (by first | with_reducible exact one_u8 | with_reducible exact one_bytes) rfl _ (by assumption) ?_)
  exact hEnd.out) (k : B) : A := h ⟨k⟩
/-- A place where no wal is, or one of a disk that is none. -/
def NoV (w : World) (A : Option Addr) : Prop := A = none ∨ ∃ v P, A = some ⟨v, 0, none⟩ ∧ Blk w v 61 #[.pointer P] ∧ NoD w P
theorem NoV.ext {w w' : World} {A : Option Addr} (h : NoV w A) (hx : Ext w w') : NoV w' A := by
  rcases h with h | ⟨v, P, h1, h2, h3⟩
  · exact .inl h
  · exact .inr ⟨v, P, h1, h2.ext hx, h3.ext hx⟩
set_option maxHeartbeats 8000000 in
theorem readyN_any (w : World) (A : Option Addr) (h : NoV w A) : Calls Try.prog 61 #[.pointer A] w (RetV w (.int .i64 1)) := by
  refine calls_of_CW Try.func61 rfl (by simp [Try.ntmps61]) ?_
  rw [Try.ntmps61]
  refine go_WalN (k := ?_)
  rcases h with rfl | ⟨v, P, rfl, hb, hd⟩
  · rw [show (none : Option Addr).isNone = true from rfl]
    refine go_WalN (k := ?_)
    exact bodyE_ret1 rfl (.int .i64 1) rfl ⟨rfl, Ext.rfl' w⟩
  · rw [show (some (⟨v, 0, none⟩ : Addr)).isNone = false from rfl]
    refine go_WalN (k := ?_)
    refine OW_isLoad ?_
    refine OW_loadBk d_ptr rfl hb (.pointer P) rfl ?_
    refine go_WalN (k := ?_)
    cases hP : P with
    | none =>
      subst hP
      rw [show (none : Option Addr).isNone = true from rfl]
      refine go_WalN (k := ?_)
      exact bodyE_ret1 rfl (.int .i64 1) rfl ⟨rfl, Ext.rfl' w⟩
    | some ad =>
      rw [← hP]
      rw [show P.isNone = false by rw [hP]; rfl]
      refine go_WalN (k := ?_)
      refine OW_isLoad ?_
      refine OW_loadBk d_ptr rfl hb (.pointer P) rfl ?_
      refine go_WalN (k := ?_)
      refine OW_callV Try.func22 (by kernel_rfl) rfl (dUpN_any w P hd) rfl ?_
      intro w1 hx1
      refine go_WalN (k := ?_)
      refine OW_isLoad ?_
      refine OW_loadBk d_ptr rfl (hb.ext hx1) (.pointer P) rfl ?_
      refine go_WalN (k := ?_)
      refine OW_callV Try.func14 (by kernel_rfl) rfl (dWriteN_any w1 P (hd.ext hx1) none 0 0) rfl ?_
      intro w2 hx2
      refine go_WalN (k := ?_)
      exact bodyE_ret1 rfl (.int .i64 1) rfl ⟨rfl, hx1.trans' hx2⟩
set_option maxHeartbeats 8000000 in
theorem vAddN_any (w : World) (A : Option Addr) (h : NoV w A) (v : Value) : Calls Try.prog 33 #[.pointer A, v] w (RetV w (.int .i64 1)) := by
  refine calls_of_CW Try.func33 rfl (by simp [Try.ntmps33]) ?_
  rw [Try.ntmps33]
  refine go_WalN (k := ?_)
  refine OW_callV Try.func61 (by kernel_rfl) rfl (readyN_any w A h) rfl ?_
  intro w1 hx1
  refine go_WalN (k := ?_)
  exact bodyE_ret1 rfl (.int .i64 1) rfl ⟨rfl, hx1⟩
set_option maxHeartbeats 8000000 in
theorem vSyncN_any (w : World) (A : Option Addr) (h : NoV w A) : Calls Try.prog 36 #[.pointer A] w (RetV w (.int .i64 1)) := by
  refine calls_of_CW Try.func36 rfl (by simp [Try.ntmps36]) ?_
  rw [Try.ntmps36]
  refine go_WalN (k := ?_)
  refine OW_callV Try.func61 (by kernel_rfl) rfl (readyN_any w A h) rfl ?_
  intro w1 hx1
  refine go_WalN (k := ?_)
  exact bodyE_ret1 rfl (.int .i64 1) rfl ⟨rfl, hx1⟩
set_option maxHeartbeats 8000000 in
theorem vRecoverN_any (w : World) (A : Option Addr) (h : NoV w A) : Calls Try.prog 38 #[.pointer A] w (RetV w (.tuple #[.slice none 0 0, .int .i64 0, .int .i64 1])) := by
  refine calls_of_LW Try.func38 rfl (by simp [Try.ntmps38]) ?_
  refine go_WalN (k := ?_)
  refine OW_alloc1 (.slice none 0 0) (fun w => by kernel_rfl) ?_
  intro w1 g2 hb2 hg2 hl2 hx1
  refine go_WalN (k := ?_)
  refine OW_callV Try.func61 (by kernel_rfl) rfl (readyN_any w1 A (h.ext hx1)) rfl ?_
  intro w2 hx2
  have hb2' : Blk w2 g2 28 #[.slice none 0 0] := hb2.ext hx2
  refine go_WalN (k := ?_)
  refine OW_storeB one_bytess rfl (.slice none 0 0) rfl rfl hb2' Nat.one_pos ?_
  intro w3 hb3 hg3
  have hb3 : Blk w3 g2 28 #[.slice none 0 0] := hb3
  have hx3 := (Keeps.of_only (S := (· = g2)) hg3 rfl).ext (hx1.trans' hx2) (fun k hk => by have hk : k = g2 := hk; omega)
  refine go_WalN (k := ?_)
  exact leave_of (bodyE_retc1tt rfl one_bytess rfl (hb3.cell 0) rfl rfl ⟨rfl, hx3⟩)
def preN (A : Option Addr) (gB : Nat) (W : World) : Prop := Blk W gB 53 #[.pointer A] ∧ NoV W A
theorem recordsN_iter (A : Option Addr) (gB : Nat) :
    Iter3 Try.prog 73 [.pointer (some ⟨gB, 0, none⟩)] (fun x : FV => [.int .i64 x.1, sv x.2]) (fun _ _ _ _ => False) (fun x => bvB x.2) (fun _ => False) (preN A gB) (fun xs => xs = []) (fun _ => True) where
  ok := fun S pre x W W' D st h hl hk => h
  okS := fun S S' pre x W hs h => h
  okG := fun S pre x W k h hk => h.elim
  run := by
    intro l J Jx S0 W hP hU hJb hJ hJx hy hJ0
    obtain ⟨hB0, hno⟩ := hP
    refine calls_of_LW Try.func73 rfl (by simp [Try.ntmps73]) ?_
    refine go_WalN (k := ?_)
    refine OW_isLoad ?_
    refine OW_loadBk v_ptr rfl hB0 (.pointer A) rfl ?_
    refine go_WalN (k := ?_)
    rcases hno with rfl | ⟨v, P, rfl, hb, hd⟩
    · rw [show (none : Option Addr).isNone = true from rfl]
      refine go_WalN (k := ?_)
      exact leave_of (bodyE_ret0 rfl ⟨_, rfl, S0, .inl ⟨[], rfl, hJ0⟩⟩)
    · rw [show (some (⟨v, 0, none⟩ : Addr)).isNone = false from rfl]
      refine go_WalN (k := ?_)
      refine OW_isLoad ?_
      refine OW_loadBk v_ptr rfl hB0 (.pointer (some ⟨v, 0, none⟩)) rfl ?_
      refine go_WalN (k := ?_)
      refine OW_isLoad ?_
      refine OW_loadBk d_ptr rfl hb (.pointer P) rfl ?_
      refine go_WalN (k := ?_)
      cases hP : P with
      | none =>
        subst hP
        rw [show (none : Option Addr).isNone = true from rfl]
        refine go_WalN (k := ?_)
        exact leave_of (bodyE_ret0 rfl ⟨_, rfl, S0, .inl ⟨[], rfl, hJ0⟩⟩)
      | some ad =>
        rw [← hP]
        rw [show P.isNone = false by rw [hP]; rfl]
        refine go_WalN (k := ?_)
        refine OW_isLoad ?_
        refine OW_loadBk v_ptr rfl hB0 (.pointer (some ⟨v, 0, none⟩)) rfl ?_
        refine go_WalN (k := ?_)
        refine OW_isLoad ?_
        refine OW_loadBk d_ptr rfl hb (.pointer P) rfl ?_
        refine go_WalN (k := ?_)
        refine OW_callV Try.func19 (by kernel_rfl) rfl (dBytesN_any W P hd) rfl ?_
        intro W1 hx1
        refine go_WalN (k := ?_)
        refine LW_codeF (FW_block ?_)
        refine FW_loop (fun e w => e 0 = .func (.yield l) #[] #[] ∧ e 3 = .slice none 0 0 ∧ e 4 = .int .i64 0 ∧ J S0 [] w) (fun e _ => 0) ⟨rfl, rfl, rfl, hJ S0 [] _ _ hJ0 hx1⟩ ?_
        rintro e w ⟨e0, e3, e4, hj⟩
        rw [upd_self e0, upd_self e3, upd_self e4]
        refine FW_block (FW_seq (FW_hide (fun K hK => ?_)))
        refine FW_region (by kernel_rfl) ?_
        refine go_WalN (k := ?_)
        refine OW_sliceBs (l := []) und_bytes one_u8 (Bs.nil w none) rfl (Nat.le_refl _) rfl ⟨_, rfl⟩ rfl 0 0 rfl rfl (by omega) ?_
        intro A3 hb3 hl3
        refine go_WalN (k := ?_)
        have hnx : nextL [] = none := by unfold nextL; rw [if_neg (by simp)]
        refine OW_callC Try.func74 (by kernel_rfl) rfl (frameNext_any w A3 (0 - 0) [] (Bs.nil _ _) (Nat.zero_le _) (by simp)) rfl ?_
        rintro en w2 (⟨hn, rfl, hx2⟩ | ⟨p, A4, c4, hn, rfl, hf4⟩)
        · refine ⟨_, rfl, ?_⟩
          refine go_WalN (k := ?_)
          rw [hK]
          refine FW_seq (FW_hide (fun K2 hK2 => ?_))
          refine go_WalN (k := ?_)
          rw [hK2]
          refine FW_seq ?_
          refine FW_regionF (by kernel_rfl) ?_
          refine OWF_take 9 ?_
          simp only [List.take_succ_cons, List.take_zero, List.drop_succ_cons, List.drop_zero]
          refine go_WalN (k := ?_)
          refine OWF_nil ?_
          refine go_WalN (k := ?_)
          exact leave_of (bodyE_ret0 rfl ⟨_, rfl, S0, .inl ⟨[], rfl, hJ S0 [] _ _ hj hx2⟩⟩)
        · rw [hnx] at hn; cases hn
set_option maxHeartbeats 8000000 in
theorem vRecordsN_any (w : World) (A : Option Addr) (h : NoV w A) : Calls Try.prog 34 #[.pointer A] w (RetV w (.slice none 0 0)) := by
  refine calls_of_LW Try.func34 rfl (by simp [Try.ntmps34]) ?_
  refine go_WalN (k := ?_)
  refine OW_alloc1 (.slice none 0 0) (fun w => by kernel_rfl) ?_
  intro w1 g2 hb2 hg2 hl2 hx1
  refine go_WalN (k := ?_)
  refine OW_callC Try.func63 (by kernel_rfl) rfl (records_any w1 (.pointer A) rfl) rfl ?_
  rintro en w3 ⟨gB, rfl, hbB, hgB, hx3⟩
  refine ⟨_, rfl, ?_⟩
  have hx03 := hx1.trans' hx3
  have hb23 : Blk w3 g2 28 #[.slice none 0 0] := hb2.ext hx3
  refine go_WalN (k := ?_)
  refine LW_forget [3, 7] ?_
  intro e5 h5
  have q3 : e5 3 = .pointer (some ⟨g2, 0, none⟩) := h5 3 (by decide)
  have q7 : e5 7 = .func (.func 73) #[] #[.pointer (some ⟨gB, 0, none⟩)] := h5 7 (by decide)
  clear h5
  rw [upd_self q3, upd_self q7]
  have s1 := hx1.size
  have s3 := hx3.size
  refine LW_range3 (ps := [8, 9]) (recordsN_iter A gB) Try.func73 (by kernel_rfl) rfl rfl (fun x => rfl) (by decide) (fun k => k = g2) (fun k hk => hk.elim) (fun k hk => by omega) (fun W hW => ⟨hbB.ext hW, (h.ext hx03).ext hW⟩)
    (fun S xs W => xs = [] ∧ Blk W g2 28 #[.slice none 0 0] ∧ S g2 ∧ (∀ k, S k → k < W.heap.size) ∧ Ext w W) (fun _ _ _ _ => False) (fun S s W h => h.2.2.2.1) ?_ (fun _ _ _ _ _ h _ _ => h) ?_
    (fun x => upd (upd (upd (upd (upd e5 7 (.func (.func 73) #[] #[.pointer (some ⟨gB, 0, none⟩)])) 3 (.pointer (some ⟨g2, 0, none⟩))) 8 (.int .i64 x.1)) 9 (sv x.2)) 5 (sv x.2)) ?_ ?_ ?_ (fun c S pre W _ h _ _ => h.elim)
  · rintro S xs W W' ⟨h1, h2, h3, h4, h5⟩ hn hk
    exact ⟨h1, h2.keeps hk (by have := hn g2 h3; omega), h3, fun k hk2 => Nat.lt_of_lt_of_le (h4 k hk2) hk.size, hk.ext h5 (fun k hk2 => by omega)⟩
  · exact ⟨rfl, hb23, rfl, fun k hk => by have hk : k = g2 := hk; omega, hx03⟩
  · intro x l2 W
    unfold binds binds binds
    refine go_WalN (k := ?_)
    exact ⟨rfl, rfl, rfl⟩
  · intro l2 S pre x W hW h1 hn h2 hG
    exact h2.elim
  · rintro S xs W hS ⟨h1, h2, h3, h4, h5⟩ hn hD
    refine go_WalN (k := ?_)
    refine OW_isLoad ?_
    refine OW_loadBk one_bytess rfl h2 (.slice none 0 0) rfl ?_
    refine go_WalN (k := ?_)
    have hkD : Keeps W (W.putObj w3.heap.size (.deferred none)) (· = w3.heap.size) := Keeps.put _ _ _
    exact leaveM_of hD (bodyE_ret1 rfl (.slice none 0 0) rfl ⟨rfl, hkD.ext h5 (fun k hk => by omega)⟩)
set_option maxHeartbeats 8000000 in
theorem vLastingN_any (w : World) (A : Option Addr) (h : NoV w A) : Calls Try.prog 37 #[.pointer A] w (RetV w (.int .i64 0)) := by
  refine calls_of_LW Try.func37 rfl (by simp [Try.ntmps37]) ?_
  refine go_WalN (k := ?_)
  refine OW_box _ rfl ?_
  intro w1 g1 hb1 hg1 hl1 hx1
  have hb1 : Blk w1 g1 53 #[.pointer A] := hb1
  refine go_WalN (k := ?_)
  refine OW_alloc1 (.int .i64 0) (fun w => by kernel_rfl) ?_
  intro w2 g3 hb3 hg3 hl3 hx2
  refine go_WalN (k := ?_)
  refine OW_storeB s_int rfl (.int .i64 0) rfl rfl hb3 Nat.one_pos ?_
  intro w2' hb3' hg3'
  have hb3' : Blk w2' g3 3 #[.int .i64 0] := hb3'
  have hx02' : Ext w w2' := (Keeps.of_only (S := (· = g3)) hg3' rfl).ext (hx1.trans' hx2) (fun k hk => by have hk : k = g3 := hk; have := hx1.size; omega)
  have hb1' := (hb1.ext hx2).keeps (Keeps.of_only (S := (· = g3)) hg3' rfl) (by omega)
  refine go_WalN (k := ?_)
  refine OW_isLoad ?_
  refine OW_loadBk v_ptr rfl hb1' (.pointer A) rfl ?_
  refine go_WalN (k := ?_)
  refine OW_callC Try.func63 (by kernel_rfl) rfl (records_any w2' (.pointer A) rfl) rfl ?_
  rintro en w3 ⟨gB, rfl, hbB, hgB, hx3⟩
  refine ⟨_, rfl, ?_⟩
  have hx03 := hx02'.trans' hx3
  have hb33 := hb3'.ext hx3
  have s1 := hx1.size
  have s2 := hx2.size
  have s2' := hg3'.size
  have s3 := hx3.size
  clear hb1 hb3 hb1' hb3'
  refine go_WalN (k := ?_)
  refine LW_forget [1, 3, 6] ?_
  intro e5 h5
  have q1 : e5 1 = .pointer (some ⟨g1, 0, none⟩) := h5 1 (by decide)
  have q3 : e5 3 = .pointer (some ⟨g3, 0, none⟩) := h5 3 (by decide)
  have q6 : e5 6 = .func (.func 73) #[] #[.pointer (some ⟨gB, 0, none⟩)] := h5 6 (by decide)
  clear h5
  rw [upd_self q1, upd_self q3, upd_self q6]
  refine LW_range3 (ps := [7, 8]) (recordsN_iter A gB) Try.func73 (by kernel_rfl) rfl rfl (fun x => rfl) (by decide) (fun k => k = g3) (fun k hk => hk.elim) (fun k hk => by omega) (fun W hW => ⟨hbB.ext hW, (h.ext hx03).ext hW⟩)
    (fun S xs W => xs = [] ∧ Blk W g3 3 #[.int .i64 0] ∧ S g3 ∧ (∀ k, S k → k < W.heap.size) ∧ Ext w W) (fun _ _ _ _ => False) (fun S s W h => h.2.2.2.1) ?_ (fun _ _ _ _ _ h _ _ => h) ?_
    (fun x => upd (upd (upd (upd (upd (upd e5 6 (.func (.func 73) #[] #[.pointer (some ⟨gB, 0, none⟩)])) 3 (.pointer (some ⟨g3, 0, none⟩))) 1 (.pointer (some ⟨g1, 0, none⟩))) 7 (.int .i64 x.1)) 8 (sv x.2)) 4 (.int .i64 x.1)) ?_ ?_ ?_ (fun c S pre W _ h _ _ => h.elim)
  · rintro S xs W W' ⟨h1, h2, h3, h4, h5⟩ hn hk
    exact ⟨h1, h2.keeps hk (by have := hn g3 h3; omega), h3, fun k hk2 => Nat.lt_of_lt_of_le (h4 k hk2) hk.size, hk.ext h5 (fun k hk2 => by omega)⟩
  · exact ⟨rfl, hb33, rfl, fun k hk => by have hk : k = g3 := hk; omega, hx03⟩
  · intro x l2 W
    unfold binds binds binds
    refine go_WalN (k := ?_)
    exact ⟨rfl, rfl, rfl⟩
  · intro l2 S pre x W hW h1 hn h2 hG
    exact h2.elim
  · rintro S xs W hS ⟨h1, h2, h3, h4, h5⟩ hn hD
    refine go_WalN (k := ?_)
    refine OW_isLoad ?_
    refine OW_loadBk s_int rfl h2 (.int .i64 0) rfl ?_
    refine go_WalN (k := ?_)
    have hkD : Keeps W (W.putObj w3.heap.size (.deferred none)) (· = w3.heap.size) := Keeps.put _ _ _
    exact leaveM_of hD (bodyE_ret1 rfl (.int .i64 0) rfl ⟨rfl, hkD.ext h5 (fun k hk => by omega)⟩)
end Go.Proofs.Ytkidofecahaajaa
