/- Walks: wire's Reader: its state, fine, bad, Err, Left, End, NewReader. -/
import Derived.Test.YthhphmbhlddihaaWireW2
namespace Go.Proofs.Ythhphmbhlddihaa
open Go Go.RowKit
set_option linter.unusedVariables false
set_option maxRecDepth 2000

theorem go_WireR {A B : Prop} (h : Held B → A := by
  intro hEnd
  repeat (first | refine OW_moveV (.int _ _) rfl ?_ | refine OW_moveV (.slice _ _ _) rfl ?_ | refine OW_moveV (.bool _) rfl ?_ | refine OW_moveV (.pointer _) rfl ?_ | refine OW_moveV (.string _) rfl ?_ | refine OW_moveV (.agg _) rfl ?_ | refine OW_moveV (.tuple _) rfl ?_ | refine OW_nil ?_ | refine thenE_normal ?_ | refine CW_seq ?_ | refine CW_region (by kernel_rfl) ?_ | refine OW_assignV (.int _ _) rfl ?_ | refine OW_assignV (.slice _ _ _) rfl ?_ | refine OW_assignV (.bool _) rfl ?_ | refine OW_assignV (.pointer _) rfl ?_ | refine OW_assignV (.string _) rfl ?_ | refine OW_assignV (.agg _) rfl ?_ | refine OW_assignV (.tuple _) rfl ?_ | refine OW_addI rfl rfl (by omega) ?_ | refine OW_subI rfl rfl (by omega) ?_ | refine OW_mulI rfl rfl (by omega) ?_ | refine OW_lss rfl rfl ?_ | refine OW_extract rfl rfl ?_ | refine OW_gtr rfl rfl ?_ | refine OW_leq rfl rfl ?_ | refine OW_geq rfl rfl ?_ | refine OW_eql rfl rfl ?_ | refine OW_neq rfl rfl ?_ | refine OW_not rfl ?_ | refine OW_pickT rfl _ rfl ?_ | refine OW_pickF rfl (.bool _) rfl ?_ | refine OW_pickB rfl rfl rfl ?_ | refine OW_move ?_ | refine OW_assign ?_ | refine OW_pass rfl ?_ | refine OW_take rfl ?_ | refine OW_lenS (by first | with_reducible exact und_bytes | with_reducible exact und_bytess) rfl ?_ | refine OW_convInt (by first | with_reducible exact und_u8 | with_reducible exact und_u64 | with_reducible exact und_int | with_reducible exact und_u32) (by first | with_reducible exact und_u8 | with_reducible exact und_u64 | with_reducible exact und_int | with_reducible exact und_u32) rfl ?_ | refine OW_add rfl rfl ?_ | refine OW_sub rfl rfl ?_ | refine OW_mul rfl rfl ?_ | refine OW_min2 rfl rfl ?_ | refine OW_max2 rfl rfl ?_ | refine OW_neg rfl ?_ | refine CW_block ?_ | refine CW_condT rfl ?_ | refine CW_condF rfl ?_ | refine CW_exit ?_ | refine CW_ret ?_ | refine CW_skip ?_ | refine LW_seq ?_ | refine LW_regC ?_ | refine LW_condC ?_ | refine LW_regF ?_ | refine LW_condF ?_ | refine FW_seq ?_ | refine FW_region (by kernel_rfl) ?_ | refine FW_block ?_ | refine FW_condT rfl ?_ | refine FW_condF rfl ?_ | refine FW_exit ?_ | refine FW_ret ?_ | refine FW_skip ?_ | refine LW_ret ?_ | refine LW_skip ?_ | refine thenE_exit ?_ | refine thenE_ret ?_ | refine inBlockE_normal ?_ | refine inBlockE_same ?_ | refine inBlockE_ret ?_ | refine inBlockE_ne (by rfl) ?_ | refine OW_eqlB (by with_reducible exact und_bool) rfl rfl ?_ | refine OW_neqB (by with_reducible exact und_bool) rfl rfl ?_ | refine OW_idxS (by with_reducible exact und_bytes) one_u8 rfl rfl _ rfl (by omega) ?_ | refine OW_idxS (by with_reducible exact und_bytess) one_bytes rfl rfl _ rfl (by omega) ?_ | refine OW_load1 (by first | with_reducible exact one_u8 | with_reducible exact one_bytes) rfl _ (by assumption) ?_ | refine OW_nilCheck rfl ?_ | refine OW_fieldF fld_R0 rfl ?_ | refine OW_fieldF fld_R1 rfl ?_ | refine OW_fieldF fld_R2 rfl ?_ | refine OW_eqlNil und_pr rfl ?_ | refine OW_neqNil und_pr rfl ?_ | refine OW_load1 (by first | with_reducible exact one_bool | with_reducible exact one_errno) rfl _ (by assumption) ?_)
  exact hEnd.out) (k : B) : A := h ⟨k⟩
theorem cutA_block {A : Option Addr} {m l : Nat} {ad : Addr} (h : cutA A m l = some ad) : ∃ ad0, A = some ad0 ∧ ad.block = ad0.block := by
  unfold cutA at h
  split at h
  · exact ⟨ad, h, rfl⟩
  · cases A with
    | none => cases h
    | some a0 => cases h; exact ⟨a0, rfl, addr_add_block _ _⟩
/-- A reader that was made, at block g: what is left, why it is bad. Its blocks lie in S. -/
structure RR (w : World) (g : Nat) (S : Nat → Prop) (s : List UInt8 × Int) : Prop where
  in_ : S g
  at_ : ∃ A c, Blk w g 36 #[.bool true, .slice A s.1.length c, .int .i64 s.2] ∧ Bs w A s.1 ∧ s.1.length ≤ c ∧ (∀ ad, A = some ad → S ad.block ∧ ad.block ≠ g)
  len : s.1.length ≤ 65536
  bad : s.2 ≠ 0 → s.1 = []
  bd : ∀ k, S k → k < w.heap.size
theorem RR.keeps {w w' : World} {g : Nat} {S X : Nat → Prop} {s : List UInt8 × Int} (h : RR w g S s) (hk : Keeps w w' X) (hn : ∀ k, S k → ¬ X k) : RR w' g S s := by
  obtain ⟨A, c, h1, h2, h3, h4⟩ := h.at_
  exact ⟨h.in_, ⟨A, c, h1.keeps hk (hn g h.in_), h2.keeps hk (fun ad ha => hn _ (h4 ad ha).1), h3, h4⟩, h.len, h.bad, fun k hk2 => Nat.lt_of_lt_of_le (h.bd k hk2) hk.size⟩
theorem RR.ext {w w' : World} {g : Nat} {S : Nat → Prop} {s : List UInt8 × Int} (h : RR w g S s) (hk : Ext w w') : RR w' g S s := by
  obtain ⟨A, c, h1, h2, h3, h4⟩ := h.at_
  exact ⟨h.in_, ⟨A, c, h1.ext hk, h2.ext hk, h3, h4⟩, h.len, h.bad, fun k hk2 => Nat.lt_of_lt_of_le (h.bd k hk2) hk.size⟩

set_option maxHeartbeats 8000000 in
theorem fine_any (w : World) (g : Nat) (S : Nat → Prop) (s : List UInt8 × Int) (h : RR w g S s) : Calls Try.prog 73 #[.pointer (some ⟨g, 0, none⟩)] w (RetV w (.bool (decide (s.2 = 0)))) := by
  obtain ⟨A, c, hB, hb, hc, hS⟩ := h.at_
  have m0 : w.cell? ⟨g, 0, none⟩ = some (.bool true) := hB.cell 0
  have m2 : w.cell? ⟨g, 2, none⟩ = some (.int .i64 s.2) := hB.cell 2
  refine calls_of_CW Try.func73 rfl (by simp [Try.ntmps73]) ?_
  rw [Try.ntmps73]
  refine go_WireR (k := ?_)
  exact bodyE_ret1 rfl (.bool (decide (s.2 = 0))) rfl ⟨rfl, Ext.rfl' w⟩

set_option maxHeartbeats 8000000 in
theorem rErr_any (w : World) (g : Nat) (S : Nat → Prop) (s : List UInt8 × Int) (h : RR w g S s) : Calls Try.prog 27 #[.pointer (some ⟨g, 0, none⟩)] w (RetV w (.int .i64 s.2)) := by
  obtain ⟨A, c, hB, hb, hc, hS⟩ := h.at_
  have m0 : w.cell? ⟨g, 0, none⟩ = some (.bool true) := hB.cell 0
  have m2 : w.cell? ⟨g, 2, none⟩ = some (.int .i64 s.2) := hB.cell 2
  refine calls_of_CW Try.func27 rfl (by simp [Try.ntmps27]) ?_
  rw [Try.ntmps27]
  refine go_WireR (k := ?_)
  exact bodyE_ret1 rfl (.int .i64 s.2) rfl ⟨rfl, Ext.rfl' w⟩

set_option maxHeartbeats 8000000 in
theorem rLeft_any (w : World) (g : Nat) (S : Nat → Prop) (s : List UInt8 × Int) (h : RR w g S s) : Calls Try.prog 26 #[.pointer (some ⟨g, 0, none⟩)] w (RetV w (.int .i64 s.1.length)) := by
  refine calls_of_CW Try.func26 rfl (by simp [Try.ntmps26]) ?_
  rw [Try.ntmps26]
  refine go_WireR (k := ?_)
  refine OW_callV Try.func73 (by kernel_rfl) rfl (fine_any w g S s h) rfl ?_
  intro w1 hx
  obtain ⟨A, c, hB, hb, hc, hS⟩ := (h.ext hx).at_
  have m1 : w1.cell? ⟨g, 1, none⟩ = some (.slice A s.1.length c) := hB.cell 1
  by_cases hs : s.2 = 0
  · rw [decide_eq_true hs]
    refine go_WireR (k := ?_)
    exact bodyE_ret1 rfl (.int .i64 s.1.length) rfl ⟨rfl, hx⟩
  · rw [decide_eq_false hs, h.bad hs]
    refine go_WireR (k := ?_)
    exact bodyE_ret1 rfl (.int .i64 0) rfl ⟨rfl, hx⟩

def endE (s : List UInt8 × Int) : Int := if s.2 ≠ 0 then s.2 else if s.1.length = 0 then 0 else 40
set_option maxHeartbeats 8000000 in
theorem rEnd_any (w : World) (g : Nat) (S : Nat → Prop) (s : List UInt8 × Int) (h : RR w g S s) : Calls Try.prog 28 #[.pointer (some ⟨g, 0, none⟩)] w (RetV w (.int .i64 (endE s))) := by
  refine calls_of_CW Try.func28 rfl (by simp [Try.ntmps28]) ?_
  rw [Try.ntmps28]
  refine go_WireR (k := ?_)
  refine OW_callV Try.func27 (by kernel_rfl) rfl (rErr_any w g S s h) rfl ?_
  intro w1 hx
  obtain ⟨A, c, hB, hb, hc, hS⟩ := (h.ext hx).at_
  have m1 : w1.cell? ⟨g, 1, none⟩ = some (.slice A s.1.length c) := hB.cell 1
  refine go_WireR (k := ?_)
  refine CW_cond _ rfl (fun hh => ?_) (fun hh => ?_)
  · have hs : s.2 ≠ 0 := by simpa using hh
    refine go_WireR (k := ?_)
    exact bodyE_ret1 rfl (.int .i64 s.2) rfl ⟨by simp [endE, hs], hx⟩
  · have hs : s.2 = 0 := by simpa using hh
    refine go_WireR (k := ?_)
    refine CW_cond _ rfl (fun h2 => ?_) (fun h2 => ?_)
    · have hl : ¬ s.1.length = 0 := by simp at h2; omega
      refine go_WireR (k := ?_)
      exact bodyE_ret1 rfl (.int .i64 40) rfl ⟨by unfold endE; rw [if_neg (by simpa using hs), if_neg hl], hx⟩
    · have hl : s.1.length = 0 := by simp at h2; simpa using h2
      refine go_WireR (k := ?_)
      exact bodyE_ret1 rfl (.int .i64 0) rfl ⟨by unfold endE; rw [if_neg (by simpa using hs), if_pos hl], hx⟩

set_option maxHeartbeats 8000000 in
theorem rBad_any (w : World) (g : Nat) (S : Nat → Prop) (s : List UInt8 × Int) (h : RR w g S s) : Calls Try.prog 93 #[.pointer (some ⟨g, 0, none⟩)] w (fun en w' => en = .returned (.tuple #[]) ∧ RR w' g S ([], 40) ∧ Keeps w w' (· = g)) := by
  obtain ⟨A, c, hB, hb, hc, hS⟩ := h.at_
  refine calls_of_CW Try.func93 rfl (by simp [Try.ntmps93]) ?_
  rw [Try.ntmps93]
  refine go_WireR (k := ?_)
  refine OW_storeB one_errno rfl (.int .i64 40) rfl rfl hB (by simp) ?_
  intro w2 hB2 hg2
  have hB2 : Blk w2 g 36 #[.bool true, .slice A s.1.length c, .int .i64 40] := hB2
  refine go_WireR (k := ?_)
  refine OW_storeB one_bytes rfl (.slice none 0 0) rfl rfl hB2 (by simp) ?_
  intro w3 hB3 hg3
  have hB3 : Blk w3 g 36 #[.bool true, .slice none 0 0, .int .i64 40] := hB3
  refine go_WireR (k := ?_)
  refine bodyE_end (bodyE_ret0 rfl ?_)
  refine ⟨rfl, ⟨h.in_, ⟨none, 0, hB3, fun j u hu => by simp at hu, Nat.le_refl _, fun ad ha => by cases ha⟩, Nat.zero_le _, fun _ => rfl, fun k hk => Nat.lt_of_lt_of_le (h.bd k hk) (Nat.le_trans hg2.size hg3.size)⟩, ?_⟩
  exact Keeps.trans' (S := (· = g)) (Keeps.of_only hg2 rfl) (Keeps.of_only hg3 rfl)

set_option maxHeartbeats 8000000 in
theorem newReader_any (w : World) (A : Option Addr) (b : List UInt8) (c : Nat) (hb : Bs w A b) (hl : b.length ≤ 1000000) : Calls Try.prog 32 #[.slice A b.length c] w (fun en w' => ∃ g, en = .returned (.pointer (some ⟨g, 0, none⟩)) ∧ w.heap.size ≤ g ∧ Ext w w' ∧ RR w' g (more (fun _ => False) w w') (if 65536 < b.length then ([], 3) else (b, 0))) := by
  refine calls_of_CW Try.func32 rfl (by simp [Try.ntmps32]) ?_
  rw [Try.ntmps32]
  refine go_WireR (k := ?_)
  refine CW_cond _ rfl (fun hh => ?_) (fun hh => ?_)
  · have hl2 : 65536 < b.length := by have h2 := of_decide_eq_true hh; omega
    refine go_WireR (k := ?_)
    refine OW_build _ _ bld_Rlong rfl ?_
    refine go_WireR (k := ?_)
    refine OW_box _ rfl ?_
    intro w1 g hb hg hlt hx
    refine go_WireR (k := ?_)
    refine bodyE_ret1 rfl (.pointer (some ⟨g, 0, none⟩)) rfl ⟨g, rfl, hg, hx, ?_⟩
    rw [if_pos hl2]
    exact ⟨.inr ⟨hg, hlt⟩, ⟨none, 0, hb, fun j u hu => by simp at hu, Nat.le_refl _, fun ad h => by cases h⟩, Nat.zero_le _, fun _ => rfl, fun k hk => by rcases hk with h | h; exact h.elim; exact h.2⟩
  · have hl2 : ¬ 65536 < b.length := by have h2 := of_decide_eq_false hh; omega
    refine go_WireR (k := ?_)
    refine OW_lit [sv (A, c, b)] (by with_reducible exact und_bytess) info_bytes rfl rfl (by simp [sv, Value.oneCell']) (by decide) ?_
    intro w2 g2 hb2 hg2 hx2
    refine go_WireR (k := ?_)
    refine OW_callBs Try.func33 (by kernel_rfl) rfl (cat_any w2 (some ⟨g2, 0, none⟩) 1 [(A, c, b)] (blk_rd _ hb2) (fun x hx => by
      rw [List.mem_singleton] at hx
      subst hx
      exact hb.ext hx2) (by simp) (by simp [flat]; omega)) rfl ?_
    intro w3 A3 c3 hf3
    have hfl : flat [(A, c, b)] = b := by simp [flat]
    rw [hfl] at hf3 ⊢
    refine go_WireR (k := ?_)
    refine OW_build _ _ (fun w => bld_R w A3 b.length c3) rfl ?_
    refine go_WireR (k := ?_)
    refine OW_box _ rfl ?_
    intro w4 g hb4 hg hlt hx4
    have hx := hx2.trans' (hf3.ext.trans' hx4)
    have hs23 := hx2.size
    refine go_WireR (k := ?_)
    refine bodyE_ret1 rfl (.pointer (some ⟨g, 0, none⟩)) rfl ⟨g, rfl, by have := hf3.ext.size; omega, hx, ?_⟩
    rw [if_neg hl2]
    refine ⟨.inr ⟨by have := hf3.ext.size; omega, hlt⟩, ⟨A3, c3, hb4, hf3.bs.ext hx4, hf3.cap, fun ad h => ?_⟩, by show b.length ≤ 65536; omega, fun h => absurd rfl h, fun k hk => by rcases hk with h | h; exact h.elim; exact h.2⟩
    have h1 := own_block hf3.own ad h
    have h2 := hx4.size
    exact ⟨.inr ⟨by omega, by omega⟩, by omega⟩
end Go.Proofs.Ythhphmbhlddihaa
