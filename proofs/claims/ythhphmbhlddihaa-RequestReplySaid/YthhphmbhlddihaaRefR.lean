/- Walks: the reference's reader, by the same states as wire's. -/
import Derived.Test.YthhphmbhlddihaaWireR4
import Derived.Test.YthhphmbhlddihaaOrd
namespace Go.Proofs.Ythhphmbhlddihaa
open Go Go.RowKit
set_option linter.unusedVariables false
set_option maxRecDepth 4000
theorem go_RefR {A B : Prop} (h : Held B → A := by
  intro hEnd
  repeat (first | refine OW_moveV (.int _ _) rfl ?_ | refine OW_moveV (.slice _ _ _) rfl ?_ | refine OW_moveV (.bool _) rfl ?_ | refine OW_moveV (.pointer _) rfl ?_ | refine OW_moveV (.string _) rfl ?_ | refine OW_moveV (.agg _) rfl ?_ | refine OW_moveV (.tuple _) rfl ?_ | refine OW_nil ?_ | refine thenE_normal ?_ | refine CW_seq ?_ | refine CW_region (by kernel_rfl) ?_ | refine OW_assignV (.int _ _) rfl ?_ | refine OW_assignV (.slice _ _ _) rfl ?_ | refine OW_assignV (.bool _) rfl ?_ | refine OW_assignV (.pointer _) rfl ?_ | refine OW_assignV (.string _) rfl ?_ | refine OW_assignV (.agg _) rfl ?_ | refine OW_assignV (.tuple _) rfl ?_ | refine OW_addI rfl rfl (by omega) ?_ | refine OW_subI rfl rfl (by omega) ?_ | refine OW_mulI rfl rfl (by omega) ?_ | refine OW_lss rfl rfl ?_ | refine OW_extract rfl rfl ?_ | refine OW_gtr rfl rfl ?_ | refine OW_leq rfl rfl ?_ | refine OW_geq rfl rfl ?_ | refine OW_eql rfl rfl ?_ | refine OW_neq rfl rfl ?_ | refine OW_not rfl ?_ | refine OW_pickT rfl _ rfl ?_ | refine OW_pickF rfl (.bool _) rfl ?_ | refine OW_pickB rfl rfl rfl ?_ | refine OW_move ?_ | refine OW_assign ?_ | refine OW_pass rfl ?_ | refine OW_take rfl ?_ | refine OW_lenS (by first | with_reducible exact und_bytes | with_reducible exact und_bytess) rfl ?_ | refine OW_convInt (by first | with_reducible exact und_u8 | with_reducible exact und_u64 | with_reducible exact und_int | with_reducible exact und_u32) (by first | with_reducible exact und_u8 | with_reducible exact und_u64 | with_reducible exact und_int | with_reducible exact und_u32) rfl ?_ | refine OW_add rfl rfl ?_ | refine OW_sub rfl rfl ?_ | refine OW_mul rfl rfl ?_ | refine OW_min2 rfl rfl ?_ | refine OW_max2 rfl rfl ?_ | refine OW_neg rfl ?_ | refine CW_block ?_ | refine CW_condT rfl ?_ | refine CW_condF rfl ?_ | refine CW_exit ?_ | refine CW_ret ?_ | refine CW_skip ?_ | refine LW_seq ?_ | refine LW_regC ?_ | refine LW_condC ?_ | refine LW_regF ?_ | refine LW_condF ?_ | refine FW_seq ?_ | refine FW_region (by kernel_rfl) ?_ | refine FW_block ?_ | refine FW_condT rfl ?_ | refine FW_condF rfl ?_ | refine FW_exit ?_ | refine FW_ret ?_ | refine FW_skip ?_ | refine LW_ret ?_ | refine LW_skip ?_ | refine thenE_exit ?_ | refine thenE_ret ?_ | refine inBlockE_normal ?_ | refine inBlockE_same ?_ | refine inBlockE_ret ?_ | refine inBlockE_ne (by rfl) ?_ | refine OW_eqlB (by with_reducible exact und_bool) rfl rfl ?_ | refine OW_neqB (by with_reducible exact und_bool) rfl rfl ?_ | refine OW_idxS (by with_reducible exact und_bytes) one_u8 rfl rfl _ rfl (by omega) ?_ | refine OW_idxS (by with_reducible exact und_bytess) one_bytes rfl rfl _ rfl (by omega) ?_ | refine OW_load1 (by first | with_reducible exact one_u8 | with_reducible exact one_bytes) rfl _ (by assumption) ?_ | refine OW_nilCheck rfl ?_ | refine OW_fieldF fld_V0 rfl ?_ | refine OW_fieldF fld_V1 rfl ?_ | refine OW_fieldF fld_V2 rfl ?_ | refine OW_load1 (by first | with_reducible exact one_bool | with_reducible exact one_int) rfl _ (by assumption) ?_)
  exact hEnd.out) (k : B) : A := h ⟨k⟩
theorem ox_RefR {A B : Prop} (h : Held B → A := by
  intro hEnd
  repeat (first
    | refine OX_done ?_
    | refine OX_a (act_of rfl ?_)
    | refine OX_a (act_pass rfl rfl ?_)
    | refine OX_a (act_take rfl rfl ?_)
    | (apply OX_q _ rfl
       · intro wd hwd
         (first | refine OW_moveV (.int _ _) rfl ?_ | refine OW_moveV (.slice _ _ _) rfl ?_ | refine OW_moveV (.bool _) rfl ?_ | refine OW_moveV (.pointer _) rfl ?_ | refine OW_moveV (.string _) rfl ?_ | refine OW_moveV (.agg _) rfl ?_ | refine OW_moveV (.tuple _) rfl ?_ | refine OW_nil ?_ | refine thenE_normal ?_ | refine CW_seq ?_ | refine CW_region (by kernel_rfl) ?_ | refine OW_assignV (.int _ _) rfl ?_ | refine OW_assignV (.slice _ _ _) rfl ?_ | refine OW_assignV (.bool _) rfl ?_ | refine OW_assignV (.pointer _) rfl ?_ | refine OW_assignV (.string _) rfl ?_ | refine OW_assignV (.agg _) rfl ?_ | refine OW_assignV (.tuple _) rfl ?_ | refine OW_addI rfl rfl (by omega) ?_ | refine OW_subI rfl rfl (by omega) ?_ | refine OW_mulI rfl rfl (by omega) ?_ | refine OW_lss rfl rfl ?_ | refine OW_extract rfl rfl ?_ | refine OW_gtr rfl rfl ?_ | refine OW_leq rfl rfl ?_ | refine OW_geq rfl rfl ?_ | refine OW_eql rfl rfl ?_ | refine OW_neq rfl rfl ?_ | refine OW_not rfl ?_ | refine OW_pickT rfl _ rfl ?_ | refine OW_pickF rfl (.bool _) rfl ?_ | refine OW_pickB rfl rfl rfl ?_ | refine OW_move ?_ | refine OW_assign ?_ | refine OW_pass rfl ?_ | refine OW_take rfl ?_ | refine OW_lenS (by first | with_reducible exact und_bytes | with_reducible exact und_bytess) rfl ?_ | refine OW_convInt (by first | with_reducible exact und_u8 | with_reducible exact und_u64 | with_reducible exact und_int | with_reducible exact und_u32) (by first | with_reducible exact und_u8 | with_reducible exact und_u64 | with_reducible exact und_int | with_reducible exact und_u32) rfl ?_ | refine OW_add rfl rfl ?_ | refine OW_sub rfl rfl ?_ | refine OW_mul rfl rfl ?_ | refine OW_min2 rfl rfl ?_ | refine OW_max2 rfl rfl ?_ | refine OW_neg rfl ?_ | refine CW_block ?_ | refine CW_condT rfl ?_ | refine CW_condF rfl ?_ | refine CW_exit ?_ | refine CW_ret ?_ | refine CW_skip ?_ | refine LW_seq ?_ | refine LW_regC ?_ | refine LW_condC ?_ | refine LW_regF ?_ | refine LW_condF ?_ | refine FW_seq ?_ | refine FW_region (by kernel_rfl) ?_ | refine FW_block ?_ | refine FW_condT rfl ?_ | refine FW_condF rfl ?_ | refine FW_exit ?_ | refine FW_ret ?_ | refine FW_skip ?_ | refine LW_ret ?_ | refine LW_skip ?_ | refine thenE_exit ?_ | refine thenE_ret ?_ | refine inBlockE_normal ?_ | refine inBlockE_same ?_ | refine inBlockE_ret ?_ | refine inBlockE_ne (by rfl) ?_ | refine OW_eqlB (by with_reducible exact und_bool) rfl rfl ?_ | refine OW_neqB (by with_reducible exact und_bool) rfl rfl ?_ | refine OW_idxS (by with_reducible exact und_bytes) one_u8 rfl rfl _ rfl (by omega) ?_ | refine OW_idxS (by with_reducible exact und_bytess) one_bytes rfl rfl _ rfl (by omega) ?_ | refine OW_load1 (by first | with_reducible exact one_u8 | with_reducible exact one_bytes) rfl _ (by assumption) ?_ | refine OW_nilCheck rfl ?_ | refine OW_fieldF fld_V0 rfl ?_ | refine OW_fieldF fld_V1 rfl ?_ | refine OW_fieldF fld_V2 rfl ?_ | refine OW_load1 (by first | with_reducible exact one_bool | with_reducible exact one_int) rfl _ (by assumption) ?_ | refine OW_load1 (by first | with_reducible exact one_u8 | with_reducible exact one_bytes | with_reducible exact one_bool | with_reducible exact one_int | with_reducible exact one_errno | with_reducible exact one_u32 | with_reducible exact one_u64 | with_reducible exact one_string) rfl _ (by apply_assumption; assumption) ?_)
         refine OW_nil ?_
         exact stay_mk _ _ _ _)
    | refine OX_qpass rfl rfl ?_
    | (apply OX_qtake _ rfl rfl
       · intro wd hwd
         (first | refine OW_moveV (.int _ _) rfl ?_ | refine OW_moveV (.slice _ _ _) rfl ?_ | refine OW_moveV (.bool _) rfl ?_ | refine OW_moveV (.pointer _) rfl ?_ | refine OW_moveV (.string _) rfl ?_ | refine OW_moveV (.agg _) rfl ?_ | refine OW_moveV (.tuple _) rfl ?_ | refine OW_nil ?_ | refine thenE_normal ?_ | refine CW_seq ?_ | refine CW_region (by kernel_rfl) ?_ | refine OW_assignV (.int _ _) rfl ?_ | refine OW_assignV (.slice _ _ _) rfl ?_ | refine OW_assignV (.bool _) rfl ?_ | refine OW_assignV (.pointer _) rfl ?_ | refine OW_assignV (.string _) rfl ?_ | refine OW_assignV (.agg _) rfl ?_ | refine OW_assignV (.tuple _) rfl ?_ | refine OW_addI rfl rfl (by omega) ?_ | refine OW_subI rfl rfl (by omega) ?_ | refine OW_mulI rfl rfl (by omega) ?_ | refine OW_lss rfl rfl ?_ | refine OW_extract rfl rfl ?_ | refine OW_gtr rfl rfl ?_ | refine OW_leq rfl rfl ?_ | refine OW_geq rfl rfl ?_ | refine OW_eql rfl rfl ?_ | refine OW_neq rfl rfl ?_ | refine OW_not rfl ?_ | refine OW_pickT rfl _ rfl ?_ | refine OW_pickF rfl (.bool _) rfl ?_ | refine OW_pickB rfl rfl rfl ?_ | refine OW_move ?_ | refine OW_assign ?_ | refine OW_pass rfl ?_ | refine OW_take rfl ?_ | refine OW_lenS (by first | with_reducible exact und_bytes | with_reducible exact und_bytess) rfl ?_ | refine OW_convInt (by first | with_reducible exact und_u8 | with_reducible exact und_u64 | with_reducible exact und_int | with_reducible exact und_u32) (by first | with_reducible exact und_u8 | with_reducible exact und_u64 | with_reducible exact und_int | with_reducible exact und_u32) rfl ?_ | refine OW_add rfl rfl ?_ | refine OW_sub rfl rfl ?_ | refine OW_mul rfl rfl ?_ | refine OW_min2 rfl rfl ?_ | refine OW_max2 rfl rfl ?_ | refine OW_neg rfl ?_ | refine CW_block ?_ | refine CW_condT rfl ?_ | refine CW_condF rfl ?_ | refine CW_exit ?_ | refine CW_ret ?_ | refine CW_skip ?_ | refine LW_seq ?_ | refine LW_regC ?_ | refine LW_condC ?_ | refine LW_regF ?_ | refine LW_condF ?_ | refine FW_seq ?_ | refine FW_region (by kernel_rfl) ?_ | refine FW_block ?_ | refine FW_condT rfl ?_ | refine FW_condF rfl ?_ | refine FW_exit ?_ | refine FW_ret ?_ | refine FW_skip ?_ | refine LW_ret ?_ | refine LW_skip ?_ | refine thenE_exit ?_ | refine thenE_ret ?_ | refine inBlockE_normal ?_ | refine inBlockE_same ?_ | refine inBlockE_ret ?_ | refine inBlockE_ne (by rfl) ?_ | refine OW_eqlB (by with_reducible exact und_bool) rfl rfl ?_ | refine OW_neqB (by with_reducible exact und_bool) rfl rfl ?_ | refine OW_idxS (by with_reducible exact und_bytes) one_u8 rfl rfl _ rfl (by omega) ?_ | refine OW_idxS (by with_reducible exact und_bytess) one_bytes rfl rfl _ rfl (by omega) ?_ | refine OW_load1 (by first | with_reducible exact one_u8 | with_reducible exact one_bytes) rfl _ (by assumption) ?_ | refine OW_nilCheck rfl ?_ | refine OW_fieldF fld_V0 rfl ?_ | refine OW_fieldF fld_V1 rfl ?_ | refine OW_fieldF fld_V2 rfl ?_ | refine OW_load1 (by first | with_reducible exact one_bool | with_reducible exact one_int) rfl _ (by assumption) ?_ | refine OW_load1 (by first | with_reducible exact one_u8 | with_reducible exact one_bytes | with_reducible exact one_bool | with_reducible exact one_int | with_reducible exact one_errno | with_reducible exact one_u32 | with_reducible exact one_u64 | with_reducible exact one_string) rfl _ (by apply_assumption; assumption) ?_)
         refine OW_nil ?_
         exact stay_mk _ _ _ _))
  exact hEnd.out) (k : B) : A := h ⟨k⟩
theorem fld_V0 : Fld Try.prog 139 0 := ⟨fun w g => by kernel_rfl⟩
theorem fld_V1 : Fld Try.prog 139 1 := ⟨fun w g => by kernel_rfl⟩
theorem fld_V2 : Fld Try.prog 139 2 := ⟨fun w g => by kernel_rfl⟩
theorem bld_V3 : ∀ w, (Instr.build 139 [(2, .int .i64 3)].toArray).run Try.prog w = .ok (.agg #[.slice none 0 0, .int .i64 0, .int .i64 3]) w := fun w => by kernel_rfl
theorem bld_V : ∀ w A n c, (Instr.build 139 [(0, .slice A n c)].toArray).run Try.prog w = .ok (.agg #[.slice A n c, .int .i64 0, .int .i64 0]) w := fun w A n c => by kernel_rfl

/-- The reference's reader, at block g; what is left, why it is bad. -/
structure VR (w : World) (g : Nat) (S : Nat → Prop) (s : List UInt8 × Int) : Prop where
  in_ : S g
  at_ : ∃ (A : Option Addr) (c : Nat) (B : List UInt8) (at_ : Nat), Blk w g 139 #[.slice A B.length c, .int .i64 at_, .int .i64 s.2] ∧ Bs w A B ∧ B.length ≤ c ∧ (∀ ad, A = some ad → B ≠ [] → S ad.block ∧ ad.block ≠ g) ∧ at_ ≤ B.length ∧ B.length ≤ 65536 ∧ s.1 = if s.2 = 0 then B.drop at_ else []
  bd : ∀ k, S k → k < w.heap.size
theorem VR.keeps {w w' : World} {g : Nat} {S X : Nat → Prop} {s : List UInt8 × Int} (h : VR w g S s) (hk : Keeps w w' X) (hn : ∀ k, S k → ¬ X k) : VR w' g S s := by
  obtain ⟨A, c, B, a, h1, h2, h3, h4, h5⟩ := h.at_
  exact ⟨h.in_, ⟨A, c, B, a, h1.keeps hk (hn g h.in_), h2.keepsN hk (fun ad ha hne => hn _ (h4 ad ha hne).1), h3, h4, h5⟩, fun k hk2 => Nat.lt_of_lt_of_le (h.bd k hk2) hk.size⟩
theorem VR.ext {w w' : World} {g : Nat} {S : Nat → Prop} {s : List UInt8 × Int} (h : VR w g S s) (hk : Ext w w') : VR w' g S s := by
  obtain ⟨A, c, B, a, h1, h2, h3, h4, h5⟩ := h.at_
  exact ⟨h.in_, ⟨A, c, B, a, h1.ext hk, h2.ext hk, h3, h4, h5⟩, fun k hk2 => Nat.lt_of_lt_of_le (h.bd k hk2) hk.size⟩
def VPost (w : World) (g : Nat) (S : Nat → Prop) (v : Value) (s : List UInt8 × Int) : Ending → World → Prop := fun en w' => en = .returned v ∧ VR w' g S s ∧ Keeps w w' (· = g)

set_option maxHeartbeats 8000000 in
theorem vNew_any (w : World) (A : Option Addr) (b : List UInt8) (c : Nat) (hb : Bs w A b) (hc : b.length ≤ c) (hl : b.length ≤ 1000000) : Calls Try.prog 86 #[.slice A b.length c] w (fun en w' => ∃ g, en = .returned (.pointer (some ⟨g, 0, none⟩)) ∧ w.heap.size ≤ g ∧ Ext w w' ∧ VR w' g (fun k => k = g ∨ ∃ ad, A = some ad ∧ b ≠ [] ∧ ad.block = k) (if 65536 < b.length then ([], 3) else (b, 0))) := by
  have hblt : ∀ ad, A = some ad → b ≠ [] → ad.block < w.heap.size := fun ad ha hne => Rd.lt hb (by simpa using hne) ad ha
  refine calls_of_CW Try.func86 rfl (by simp [Try.ntmps86]) ?_
  rw [Try.ntmps86]
  refine go_RefR (k := ?_)
  refine CW_cond _ rfl (fun hh => ?_) (fun hh => ?_)
  · have hl2 : 65536 < b.length := by have h2 := of_decide_eq_true hh; omega
    refine go_RefR (k := ?_)
    refine OW_build _ _ bld_V3 rfl ?_
    refine go_RefR (k := ?_)
    refine OW_box _ rfl ?_
    intro w1 g hb1 hg hlt hx
    refine go_RefR (k := ?_)
    refine bodyE_ret1 rfl (.pointer (some ⟨g, 0, none⟩)) rfl ⟨g, rfl, hg, hx, ?_⟩
    rw [if_pos hl2]
    refine ⟨.inl rfl, ⟨none, 0, [], 0, hb1, Bs.nil _ _, Nat.le_refl _, (fun ad h => by cases h), Nat.zero_le _, Nat.zero_le _, rfl⟩, fun k hk => ?_⟩
    rcases hk with rfl | ⟨ad, ha, hne, rfl⟩
    · exact hlt
    · have := hblt ad ha hne; have := hx.size; omega
  · have hl2 : ¬ 65536 < b.length := by have h2 := of_decide_eq_false hh; omega
    refine go_RefR (k := ?_)
    refine OW_build _ _ (fun w => bld_V w A b.length c) rfl ?_
    refine go_RefR (k := ?_)
    refine OW_box _ rfl ?_
    intro w1 g hb1 hg hlt hx
    refine go_RefR (k := ?_)
    refine bodyE_ret1 rfl (.pointer (some ⟨g, 0, none⟩)) rfl ⟨g, rfl, hg, hx, ?_⟩
    rw [if_neg hl2]
    refine ⟨.inl rfl, ⟨A, c, b, 0, hb1, hb.ext hx, hc, fun ad ha hne => ⟨.inr ⟨ad, ha, hne, rfl⟩, by have := hblt ad ha hne; omega⟩, Nat.zero_le _, by omega, rfl⟩, fun k hk => ?_⟩
    rcases hk with rfl | ⟨ad, ha, hne, rfl⟩
    · exact hlt
    · have := hblt ad ha hne; have := hx.size; omega

set_option maxHeartbeats 8000000 in
theorem vEnd_any (w : World) (g : Nat) (S : Nat → Prop) (s : List UInt8 × Int) (h : VR w g S s) : Calls Try.prog 92 #[.pointer (some ⟨g, 0, none⟩)] w (RetV w (.int .i64 (endE s))) := by
  obtain ⟨A, c, B, a, hB, hb, hc, hS, ha, hl, hs⟩ := h.at_
  have q0 : ∀ wd, Ext w wd → wd.cell? ⟨g, 0, none⟩ = some (.slice A B.length c) := fun wd h => h.cell' (hB.cell 0)
  have q1 : ∀ wd, Ext w wd → wd.cell? ⟨g, 1, none⟩ = some (.int .i64 a) := fun wd h => h.cell' (hB.cell 1)
  have q2 : ∀ wd, Ext w wd → wd.cell? ⟨g, 2, none⟩ = some (.int .i64 s.2) := fun wd h => h.cell' (hB.cell 2)
  refine calls_of_CW Try.func92 rfl (by simp [Try.ntmps92]) ?_
  rw [Try.ntmps92]
  refine go_RefR (k := ?_)
  refine CW_tree (.q 0 (.q 1 (.q 2 (.q 3 (.q 4 (.q 5 (.q 6 (.q 7 (.q 8 (.q 9 (.q 10 (.q 11 (.q 12 (.q 13 (.q 14 (.q 15 (.q 16 .done))))))))))))))))) (fun w' => Ext w w') (by kernel_rfl) (by kernel_rfl) (by kernel_rfl) ?_ ?_
  · exact fun _ h => h
  intro w1 hx1 _
  have m2 := q2 w1 hx1
  by_cases hz : s.2 = 0
  · rw [if_pos hz] at hs
    rw [hz] at q2 m2
    refine ox_RefR (k := ?_)
    refine go_RefR (k := ?_)
    refine CW_cond _ rfl (fun hh => ?_) (fun hh => ?_)
    · have h2 := of_decide_eq_true hh
      refine go_RefR (k := ?_)
      refine bodyE_ret1 rfl (.int .i64 (endE s)) ?_ ⟨rfl, hx1⟩
      unfold endE
      rw [if_neg (by simpa using hz), if_neg (by rw [hs, List.length_drop]; omega)]
      rfl
    · have h2 := of_decide_eq_false hh
      refine go_RefR (k := ?_)
      refine bodyE_ret1 rfl (.int .i64 (endE s)) ?_ ⟨rfl, hx1⟩
      unfold endE
      rw [if_neg (by simpa using hz), if_pos (by rw [hs, List.length_drop]; omega)]
      rfl
  · have hzb : (s.2 == 0) = false := by simpa using hz
    refine ox_RefR (k := ?_)
    rw [hzb]
    refine ox_RefR (k := ?_)
    refine go_RefR (k := ?_)
    refine bodyE_ret1 rfl (.int .i64 (endE s)) ?_ ⟨rfl, hx1⟩
    unfold endE
    rw [if_pos hz]
    rfl

def someV (s : List UInt8 × Int) (n : Int) : List UInt8 := if fits s n then s.1.take n.toNat else []
/-- What 'some' comes to. -/
def VSome (w : World) (g : Nat) (S : Nat → Prop) (s : List UInt8 × Int) (n : Int) : Ending → World → Prop := fun en w' => ∃ A c, en = .returned (.tuple #[.slice A (someV s n).length c, .bool (fits s n)]) ∧ w'.ownsRow w.heap.size 5 1 (.slice A (someV s n).length c) (someV s n).length ((someV s n).map bv) ∧ VR w' g S (stepS s n true) ∧ Keeps w w' (· = g)
set_option maxHeartbeats 8000000 in
theorem vSome_any (w : World) (g : Nat) (S : Nat → Prop) (s : List UInt8 × Int) (h : VR w g S s) (n : Nat) (hn : n ≤ 70000) : Calls Try.prog 119 #[.pointer (some ⟨g, 0, none⟩), .int .i64 n] w (VSome w g S s n) := by
  obtain ⟨A, c, B, a, hB, hb, hc, hS, ha, hl, hs⟩ := h.at_
  have hg : g < w.heap.size := h.bd _ h.in_
  have m2 : w.cell? ⟨g, 2, none⟩ = some (.int .i64 s.2) := hB.cell 2
  refine calls_of_CW Try.func119 rfl (by simp [Try.ntmps119]) ?_
  rw [Try.ntmps119]
  refine go_RefR (k := ?_)
  by_cases hz : s.2 = 0
  · rw [if_pos hz] at hs
    obtain ⟨l, z⟩ := s
    have hz : z = 0 := hz
    subst hz
    have hs : l = B.drop a := hs
    subst hs
    have q0 : ∀ wd, Ext w wd → wd.cell? ⟨g, 0, none⟩ = some (.slice A B.length c) := fun wd h => h.cell' (hB.cell 0)
    have q1 : ∀ wd, Ext w wd → wd.cell? ⟨g, 1, none⟩ = some (.int .i64 a) := fun wd h => h.cell' (hB.cell 1)
    refine go_RefR (k := ?_)
    refine CW_tree (.q 0 (.q 1 (.q 2 (.q 3 (.q 4 (.q 5 (.q 6 (.q 7 (.q 8 (.q 9 (.q 10 (.q 11 .done)))))))))))) (fun w' => Ext w w') (by kernel_rfl) (by kernel_rfl) (by kernel_rfl) ?_ ?_
    · exact fun _ h => h
    intro w1 hx1 _
    refine ox_RefR (k := ?_)
    refine go_RefR (k := ?_)
    refine CW_cond _ rfl (fun hh => ?_) (fun hh => ?_)
    · have h2 := of_decide_eq_true hh
      have hf : fits (B.drop a, 0) n = false := decide_eq_false (fun hx => by have h3 := hx.2.2; simp only [List.length_drop] at h3; omega)
      have hst : stepS (B.drop a, 0) n true = ([], 40) := by unfold stepS; rw [if_neg (by simp), if_pos (by right; simp only [List.length_drop]; omega)]
      clear hh h2
      have hB1 := hB.ext hx1
      refine go_RefR (k := ?_)
      refine OW_storeB one_int rfl (.int .i64 40) rfl rfl hB1 (by simp) ?_
      intro w2 hB2 hg2
      have hB2 : Blk w2 g 139 #[.slice A B.length c, .int .i64 a, .int .i64 40] := hB2
      have hK : Keeps w w2 (· = g) := (Keeps.of_ext hx1 _).trans' (Keeps.of_only hg2 rfl)
      refine go_RefR (k := ?_)
      refine bodyE_ret2 rfl (.slice none 0 0) (.bool false) rfl rfl ?_
      unfold VSome someV
      rw [hf, hst]
      refine ⟨none, 0, rfl, World.ownsRow_nil _ _ _ _, ⟨h.in_, ⟨A, c, B, a, hB2, hb.keepsN hK (fun ad ha hne => (hS ad ha hne).2), hc, hS, ha, hl, rfl⟩, fun k hk => Nat.lt_of_lt_of_le (h.bd k hk) hK.size⟩, hK⟩
    · have h2 := of_decide_eq_false hh
      have hfit : a + n ≤ B.length := by omega
      have hf : fits (B.drop a, 0) n = true := decide_eq_true ⟨rfl, by omega, by simp only [List.length_drop]; omega⟩
      have hst : stepS (B.drop a, 0) n true = (B.drop (a + n), 0) := by unfold stepS; rw [if_neg (by simp), if_neg (by simp only [List.length_drop]; omega), if_pos rfl]; simp
      clear hh h2
      have hB1 := hB.ext hx1
      have m1 := q1 w1 hx1
      refine go_RefR (k := ?_)
      refine OW_storeB one_int rfl (.int .i64 ((a : Int) + n)) rfl rfl hB1 (by simp) ?_
      intro w2 hB2 hg2
      have hB2 : Blk w2 g 139 #[.slice A B.length c, .int .i64 ((a : Int) + n), .int .i64 0] := hB2
      have hK : Keeps w w2 (· = g) := (Keeps.of_ext hx1 _).trans' (Keeps.of_only hg2 rfl)
      have hb2 : Bs w2 A B := hb.keepsN hK (fun ad ha hne => (hS ad ha hne).2)
      have p0 : ∀ wd, Ext w2 wd → wd.cell? ⟨g, 0, none⟩ = some (.slice A B.length c) := fun wd h => h.cell' (hB2.cell 0)
      have p1 : ∀ wd, Ext w2 wd → wd.cell? ⟨g, 1, none⟩ = some (.int .i64 ((a : Int) + n)) := fun wd h => h.cell' (hB2.cell 1)
      clear q0 q1 m1
      refine go_RefR (k := ?_)
      refine CW_tree (.q 0 (.q 1 (.q 2 (.q 3 (.q 4 (.q 5 (.q 6 (.q 7 (.q 8 (.q 9 (.q 10 (.q 11 (.q 12 (.q 13 (.q 14 (.a 15 (.q 16 (.q 17 .done)))))))))))))))))) (fun w' => Ext w2 w') (by kernel_rfl) (by kernel_rfl) (by kernel_rfl) ?_ ?_
      · exact fun _ h => h
      intro w3 hx3 _
      refine ox_RefR (k := ?_)
      apply OX_q _ rfl
      · intro wd hwd
        refine OW_slice (lv := (a : Int)) (hv := (a : Int) + n) (mv := c) (by with_reducible exact und_bytes) one_u8 rfl ⟨_, by show Value.int _ ((a : Int) + n - n) = _; rw [show (a : Int) + n - n = a by omega]⟩ ⟨_, rfl⟩ rfl (fun h => by cases h) (by omega) ?_
        refine OW_nil ?_
        exact stay_mk _ _ _ _
      rw [show ((a : Int) + n).toNat - (a : Int).toNat = n by omega]
      have hlen : ((B.drop a).take n).length = n := by rw [List.length_take, List.length_drop]; omega
      have hcut : Bs w3 (cutA A c a) ((B.drop a).take n) := (hb2.ext hx3).cut c a n (by omega)
      have hcp := refCopy_any w3 (cutA A c a) ((B.drop a).take n) (c - a) hcut (by omega)
      rw [hlen] at hcp
      refine ox_RefR (k := ?_)
      refine OW_callBs Try.func47 (by kernel_rfl) rfl hcp rfl ?_
      intro w4 A4 c4 hf4
      refine OW_nil (goOn_mk (hx3.trans' hf4.ext) ?_)
      refine ox_RefR (k := ?_)
      refine go_RefR (k := ?_)
      have hx24 := hx3.trans' hf4.ext
      refine bodyE_ret2 rfl (.slice A4 _ c4) (.bool true) rfl rfl ?_
      unfold VSome someV
      rw [hf, hst]
      have hsz : w.heap.size ≤ w3.heap.size := Nat.le_trans hK.size hx3.size
      refine ⟨A4, c4, rfl, own_mono hf4.own hsz, ⟨h.in_, ⟨A, c, B, a + n, hB2.ext hx24, hb2.ext hx24, hc, hS, hfit, hl, rfl⟩, fun k hk => Nat.lt_of_lt_of_le (h.bd k hk) (Nat.le_trans hK.size hx24.size)⟩, hK.trans' (Keeps.of_ext hx24 _)⟩
  · refine CW_condT (by show Value.bool (s.2 != 0) = _; rw [bne_iff_ne.2 hz]) ?_
    refine go_RefR (k := ?_)
    have hf : fits s n = false := decide_eq_false (fun hx => hz hx.1)
    have hst : stepS s n true = s := by unfold stepS; rw [if_pos hz]
    refine bodyE_ret2 rfl (.slice none 0 0) (.bool false) rfl rfl ?_
    unfold VSome someV
    rw [hf, hst]
    exact ⟨none, 0, rfl, World.ownsRow_nil _ _ _ _, h, Keeps.rfl' _ _⟩

theorem stepS_nf {s : List UInt8 × Int} {n : Int} (h : fits s n = false) (ok ok' : Bool) : stepS s n ok = stepS s n ok' := by
  unfold stepS
  by_cases h1 : s.2 ≠ 0
  · rw [if_pos h1, if_pos h1]
  · rw [if_neg h1, if_neg h1]
    have h2 : n < 0 ∨ (s.1.length : Int) < n := by
      have := of_decide_eq_false h
      simp only [ne_eq, Decidable.not_not] at h1
      omega
    rw [if_pos h2, if_pos h2]
theorem stepS_ok {s : List UInt8 × Int} {n : Int} (h : fits s n = true) (ok : Bool) : stepS s n ok = if ok then (s.1.drop n.toNat, 0) else ([], 40) := by
  obtain ⟨h1, h2, h3⟩ := of_decide_eq_true h
  unfold stepS
  rw [if_neg (by simpa using h1), if_neg (by omega)]
theorem stepS_bad {s : List UInt8 × Int} {n : Int} (h : fits s n = false) (ok : Bool) : (stepS s n ok).2 ≠ 0 := by
  unfold stepS
  by_cases h1 : s.2 ≠ 0
  · rw [if_pos h1]; exact h1
  · rw [if_neg h1]
    have h2 : n < 0 ∨ (s.1.length : Int) < n := by
      have := of_decide_eq_false h
      simp only [ne_eq, Decidable.not_not] at h1
      omega
    rw [if_pos h2]
    decide
theorem fits_len {s : List UInt8 × Int} {n : Nat} (h : fits s n = true) : (s.1.take n).length = n := by
  obtain ⟨h1, h2, h3⟩ := of_decide_eq_true h
  rw [List.length_take]; omega
set_option maxHeartbeats 8000000 in
theorem vByte_any (w : World) (g : Nat) (S : Nat → Prop) (s : List UInt8 × Int) (h : VR w g S s) : Calls Try.prog 90 #[.pointer (some ⟨g, 0, none⟩)] w (VPost w g S (bv (if fits s 1 then s.1.headD 0 else 0)) (stepS s 1 true)) := by
  refine calls_of_CW Try.func90 rfl (by simp [Try.ntmps90]) ?_
  rw [Try.ntmps90]
  refine go_RefR (k := ?_)
  refine OW_callC Try.func119 (by kernel_rfl) rfl (vSome_any w g S s h 1 (by omega)) rfl ?_
  rintro en w1 ⟨A, c, rfl, ho, hv, hk⟩
  refine ⟨_, rfl, ?_⟩
  by_cases hf : fits s 1 = true
  · have hlen := fits_len (n := 1) hf
    have hl : someV s (1 : Nat) = [s.1.headD 0] := by
      unfold someV
      rw [show fits s ((1 : Nat) : Int) = true from hf, if_pos rfl, show ((1 : Nat) : Int).toNat = 1 from rfl, one_of (l := s.1.take 1) hlen]
      cases s.1 <;> rfl
    rw [hl] at ho ⊢
    rw [show fits s ((1 : Nat) : Int) = true from hf]
    obtain ⟨ad, hA, hc⟩ := own_rd ho 0 (bv (s.1.headD 0)) rfl
    subst hA
    rw [hf]
    refine go_RefR (k := ?_)
    refine OW_idxL 0 (by with_reducible exact und_bytes) one_u8 rfl rfl (by simp) ?_
    refine go_RefR (k := ?_)
    exact bodyE_ret1 rfl (bv (s.1.headD 0)) rfl ⟨rfl, hv, hk⟩
  · have hf : fits s 1 = false := by simpa using hf
    rw [show fits s ((1 : Nat) : Int) = false from hf, hf]
    refine go_RefR (k := ?_)
    exact bodyE_ret1 rfl (bv 0) rfl ⟨rfl, hv, hk⟩

set_option maxHeartbeats 8000000 in
theorem vInt_any (w : World) (g : Nat) (S : Nat → Prop) (s : List UInt8 × Int) (h : VR w g S s) : Calls Try.prog 87 #[.pointer (some ⟨g, 0, none⟩)] w (VPost w g S (.int .i64 (if fits s 8 then i64L (s.1.take 8) else 0)) (stepS s 8 true)) := by
  have hg := h.bd _ h.in_
  refine calls_of_CW Try.func87 rfl (by simp [Try.ntmps87]) ?_
  rw [Try.ntmps87]
  refine go_RefR (k := ?_)
  refine OW_callC Try.func119 (by kernel_rfl) rfl (vSome_any w g S s h 8 (by omega)) rfl ?_
  rintro en w1 ⟨A, c, rfl, ho, hv, hk⟩
  refine ⟨_, rfl, ?_⟩
  by_cases hf : fits s 8 = true
  · have hlen := fits_len (n := 8) hf
    have hl : someV s (8 : Nat) = s.1.take 8 := by
      unfold someV
      rw [show fits s ((8 : Nat) : Int) = true from hf, if_pos rfl]; rfl
    rw [hl] at ho ⊢
    rw [show fits s ((8 : Nat) : Int) = true from hf]
    rw [hf]
    refine go_RefR (k := ?_)
    have T := refLoad_any w1 A (s.1.take 8) c 0 8 8 rfl (by decide) (own_rd ho) (by omega) (by omega)
    rw [ldV_all _ 8 hlen] at T
    refine OW_callV Try.func120 (by kernel_rfl) rfl T rfl ?_
    intro w2 hx2
    refine go_RefR (k := ?_)
    exact bodyE_ret1 rfl (.int .i64 (i64L (s.1.take 8))) rfl ⟨rfl, hv.ext hx2, hk.trans' (Keeps.of_ext hx2 _)⟩
  · have hf : fits s 8 = false := by simpa using hf
    rw [show fits s ((8 : Nat) : Int) = false from hf, hf]
    refine go_RefR (k := ?_)
    exact bodyE_ret1 rfl (.int .i64 0) rfl ⟨rfl, hv, hk⟩

/-- A reader is made bad. -/
theorem VR.toBad {w w2 : World} {g : Nat} {S : Nat → Prop} {s : List UInt8 × Int} {A : Option Addr} {c a : Nat} {B : List UInt8} (h : VR w g S s) (hb : Bs w A B) (hc : B.length ≤ c) (hS : ∀ ad, A = some ad → B ≠ [] → S ad.block ∧ ad.block ≠ g) (ha : a ≤ B.length) (hl : B.length ≤ 65536)
    (hB2 : Blk w2 g 139 #[.slice A B.length c, .int .i64 a, .int .i64 40]) (hK : Keeps w w2 (· = g)) : VR w2 g S ([], 40) :=
  ⟨h.in_, ⟨A, c, B, a, hB2, hb.keepsN hK (fun ad ha hne => (hS ad ha hne).2), hc, hS, ha, hl, rfl⟩, fun k hk => Nat.lt_of_lt_of_le (h.bd k hk) hK.size⟩

theorem bytesV_nf {s : List UInt8 × Int} (h : fits s 4 = false) : bytesV s = [] ∧ bytesS s = stepS s 4 true := by
  have hb := stepS_bad h (lenOk s)
  have hn : fits (stepS s 4 (lenOk s)) (lenN s) = false := decide_eq_false (fun hx => hb hx.1)
  refine ⟨by unfold bytesV; rw [hn]; rfl, ?_⟩
  unfold bytesS
  rw [stepS, if_pos hb, stepS_nf h _ true]
theorem bytesV_long {s : List UInt8 × Int} (h : fits s 4 = true) (hl : ¬ loadL (s.1.take 4) ≤ 65536) : bytesV s = [] ∧ bytesS s = ([], 40) := by
  have hk : lenOk s = false := decide_eq_false (by omega)
  have hs : stepS s 4 (lenOk s) = ([], 40) := by rw [hk, stepS_ok h]; rfl
  have hn : lenN s = 0 := by unfold lenN; rw [hk, Bool.and_false]; rfl
  unfold bytesV bytesS
  rw [hs, hn]
  exact ⟨by rw [show fits ([], 40) 0 = false from rfl]; rfl, rfl⟩
theorem bytesV_ok {s : List UInt8 × Int} (h : fits s 4 = true) (hl : loadL (s.1.take 4) ≤ 65536) : bytesV s = someV (s.1.drop 4, 0) (loadL (s.1.take 4)) ∧ bytesS s = stepS (s.1.drop 4, 0) (loadL (s.1.take 4)) true := by
  have hk : lenOk s = true := decide_eq_true (by omega)
  have hs : stepS s 4 (lenOk s) = (s.1.drop 4, 0) := by rw [hk, stepS_ok h]; rfl
  have hn : lenN s = loadL (s.1.take 4) := by unfold lenN; rw [hk, h]; rfl
  unfold bytesV bytesS someV
  rw [hs, hn]
  exact ⟨rfl, rfl⟩
def VBytes (w : World) (g : Nat) (S : Nat → Prop) (l : List UInt8) (s : List UInt8 × Int) : Ending → World → Prop := fun en w' => ∃ A c, en = .returned (.slice A l.length c) ∧ w'.ownsRow w.heap.size 5 1 (.slice A l.length c) l.length (l.map bv) ∧ VR w' g S s ∧ Keeps w w' (· = g)
set_option maxHeartbeats 8000000 in
theorem vBytes_any (w : World) (g : Nat) (S : Nat → Prop) (s : List UInt8 × Int) (h : VR w g S s) : Calls Try.prog 88 #[.pointer (some ⟨g, 0, none⟩)] w (VBytes w g S (bytesV s) (bytesS s)) := by
  have hg := h.bd _ h.in_
  refine calls_of_CW Try.func88 rfl (by simp [Try.ntmps88]) ?_
  rw [Try.ntmps88]
  refine go_RefR (k := ?_)
  refine OW_callC Try.func119 (by kernel_rfl) rfl (vSome_any w g S s h 4 (by omega)) rfl ?_
  rintro en w1 ⟨A, c, rfl, ho, hv, hk⟩
  refine ⟨_, rfl, ?_⟩
  by_cases hf : fits s 4 = true
  · have hlen := fits_len (n := 4) hf
    have hl : someV s (4 : Nat) = s.1.take 4 := by
      unfold someV
      rw [show fits s ((4 : Nat) : Int) = true from hf, if_pos rfl]; rfl
    rw [hl] at ho ⊢
    rw [show fits s ((4 : Nat) : Int) = true from hf]
    have hst := stepS_ok hf true
    rw [if_pos rfl] at hst
    rw [show stepS s ((4 : Nat) : Int) true = (s.1.drop 4, 0) from hst] at hv
    have hlt : loadL (s.1.take 4) < 256 ^ 4 := by have := loadL_lt (s.1.take 4); rwa [hlen] at this
    refine go_RefR (k := ?_)
    have T := refLoad_any w1 A (s.1.take 4) c 0 4 4 rfl (by decide) (own_rd ho) (by omega) (by omega)
    rw [ldV_all _ 4 hlen] at T
    refine OW_callV Try.func120 (by kernel_rfl) rfl T rfl ?_
    intro w2 hx2
    have hv2 := hv.ext hx2
    have hk2 := hk.trans' (Keeps.of_ext hx2 _)
    refine go_RefR (k := ?_)
    refine CW_cond _ rfl (fun hh => ?_) (fun hh => ?_)
    · have h2 := of_decide_eq_true hh
      clear hh
      obtain ⟨e1, e2⟩ := bytesV_long hf (by omega)
      rw [e1, e2]
      obtain ⟨A3, c3, B, a, hB, hb, hc, hS, ha, hl3, hs⟩ := hv2.at_
      refine go_RefR (k := ?_)
      refine OW_storeB one_int rfl (.int .i64 40) rfl rfl hB (by simp) ?_
      intro w3 hB3 hg3
      refine go_RefR (k := ?_)
      exact bodyE_ret1 rfl (.slice none 0 0) rfl ⟨none, 0, rfl, World.ownsRow_nil _ _ _ _, hv2.toBad hb hc hS ha hl3 hB3 (Keeps.of_only hg3 rfl), hk2.trans' (Keeps.of_only hg3 rfl)⟩
    · have h2 := of_decide_eq_false hh
      clear hh
      have hle : loadL (s.1.take 4) ≤ 65536 := by omega
      obtain ⟨e1, e2⟩ := bytesV_ok hf hle
      rw [e1, e2]
      refine go_RefR (k := ?_)
      rw [wrap_i64_of _ (by omega)]
      refine OW_callC Try.func119 (by kernel_rfl) rfl (vSome_any w2 g S _ hv2 (loadL (s.1.take 4)) (by omega)) rfl ?_
      rintro en w3 ⟨A3, c3, rfl, ho3, hv3, hk3⟩
      refine ⟨_, rfl, ?_⟩
      refine go_RefR (k := ?_)
      exact bodyE_ret1 rfl (.slice A3 _ c3) rfl ⟨A3, c3, rfl, own_mono ho3 hk2.size, hv3, hk2.trans' hk3⟩
  · have hf : fits s 4 = false := by simpa using hf
    obtain ⟨e1, e2⟩ := bytesV_nf hf
    rw [show fits s ((4 : Nat) : Int) = false from hf, e1, e2]
    refine go_RefR (k := ?_)
    exact bodyE_ret1 rfl (.slice none 0 0) rfl ⟨none, 0, rfl, World.ownsRow_nil _ _ _ _, hv, hk⟩

theorem countS_nf {s : List UInt8 × Int} (h : fits s 8 = false) (most : Int) : countV s most = 0 ∧ countS s most = stepS s 8 true := by
  unfold countV countS
  rw [h]
  exact ⟨rfl, stepS_nf h _ _⟩
set_option maxHeartbeats 8000000 in
theorem vCount_any (w : World) (g : Nat) (S : Nat → Prop) (s : List UInt8 × Int) (h : VR w g S s) (most : Int) : Calls Try.prog 89 #[.pointer (some ⟨g, 0, none⟩), .int .i64 most] w (VPost w g S (.int .i64 (countV s most)) (countS s most)) := by
  refine calls_of_CW Try.func89 rfl (by simp [Try.ntmps89]) ?_
  rw [Try.ntmps89]
  refine go_RefR (k := ?_)
  refine OW_callC Try.func87 (by kernel_rfl) rfl (vInt_any w g S s h) rfl ?_
  rintro en w1 ⟨rfl, hv, hk⟩
  refine ⟨_, rfl, ?_⟩
  obtain ⟨A, c, B, a, hB, hb, hc, hS, ha, hl, hs⟩ := hv.at_
  have q0 : ∀ wd, Ext w1 wd → wd.cell? ⟨g, 0, none⟩ = some (.slice A B.length c) := fun wd h => h.cell' (hB.cell 0)
  have q1 : ∀ wd, Ext w1 wd → wd.cell? ⟨g, 1, none⟩ = some (.int .i64 a) := fun wd h => h.cell' (hB.cell 1)
  have q2 : ∀ wd, Ext w1 wd → wd.cell? ⟨g, 2, none⟩ = some (.int .i64 (stepS s 8 true).2) := fun wd h => h.cell' (hB.cell 2)
  by_cases hf : fits s 8 = true
  · have hst := stepS_ok hf true
    rw [if_pos rfl] at hst
    rw [hst] at q2 hB hv hs
    rw [if_pos (show (s.1.drop (8 : Int).toNat, (0 : Int)).2 = 0 from rfl)] at hs
    have hs : s.1.drop 8 = B.drop a := hs
    have hleft : (s.1.length : Int) - 8 = (B.length : Int) - a := by
      have h3 := congrArg List.length hs
      obtain ⟨_, _, h8⟩ := of_decide_eq_true hf
      rw [List.length_drop, List.length_drop] at h3
      omega
    rw [hf, if_pos rfl]
    generalize hx : i64L (s.1.take 8) = x at *
    have hcv : countV s most = if countOk x most ((B.length : Int) - a) then x else 0 := by unfold countV; rw [hf, hx, hleft, Bool.true_and]
    have hcs : countS s most = if countOk x most ((B.length : Int) - a) then (s.1.drop 8, 0) else ([], 40) := by unfold countS; rw [hx, hleft, stepS_ok hf]; rfl
    refine go_RefR (k := ?_)
    refine CW_tree (.q 0 (.q 1 (.q 2 (.q 3 (.q 4 (.q 5 (.q 6 (.q 7 (.q 8 (.q 9 (.q 10 (.q 11 (.q 12 (.q 13 (.q 14 (.q 15 (.q 16 (.q 17 (.q 18 (.q 19 (.q 20 (.q 21 (.q 22 (.q 23 (.q 24 (.q 25 (.q 26 (.q 27 .done)))))))))))))))))))))))))))) (fun w' => Ext w1 w') (by kernel_rfl) (by kernel_rfl) (by kernel_rfl) ?_ ?_
    · exact fun _ h => h
    intro w2 hx2 _
    have hB2 := hB.ext hx2
    have hv2 := hv.ext hx2
    have hk2 := hk.trans' (Keeps.of_ext hx2 _)
    have m2 := q2 w2 hx2
    by_cases c1 : x < 0
    · have hok : countOk x most ((B.length : Int) - a) = false := by unfold countOk; rw [decide_eq_false (by omega)]; rfl
      rw [hok] at hcv hcs
      rw [hcv, hcs]
      refine ox_RefR (k := ?_)
      rw [decide_eq_true c1]
      refine ox_RefR (k := ?_)
      refine go_RefR (k := ?_)
      refine OW_storeB one_int rfl (.int .i64 40) rfl rfl hB2 (by simp) ?_
      intro w3 hB3 hg3
      have m3 : w3.cell? ⟨g, 2, none⟩ = some (.int .i64 40) := hB3.cell 2
      clear m2
      refine go_RefR (k := ?_)
      exact bodyE_ret1 rfl (.int .i64 0) rfl ⟨rfl, hv2.toBad (hb.ext hx2) hc hS ha hl hB3 (Keeps.of_only hg3 rfl), hk2.trans' (Keeps.of_only hg3 rfl)⟩
    by_cases c2 : most < x
    · have hok : countOk x most ((B.length : Int) - a) = false := by unfold countOk; rw [decide_eq_false (show ¬ x ≤ most by omega), Bool.and_false]; rfl
      rw [hok] at hcv hcs
      rw [hcv, hcs]
      refine ox_RefR (k := ?_)
      rw [decide_eq_false c1]
      refine ox_RefR (k := ?_)
      rw [decide_eq_true c2]
      refine ox_RefR (k := ?_)
      refine go_RefR (k := ?_)
      refine OW_storeB one_int rfl (.int .i64 40) rfl rfl hB2 (by simp) ?_
      intro w3 hB3 hg3
      have m3 : w3.cell? ⟨g, 2, none⟩ = some (.int .i64 40) := hB3.cell 2
      clear m2
      refine go_RefR (k := ?_)
      exact bodyE_ret1 rfl (.int .i64 0) rfl ⟨rfl, hv2.toBad (hb.ext hx2) hc hS ha hl hB3 (Keeps.of_only hg3 rfl), hk2.trans' (Keeps.of_only hg3 rfl)⟩
    by_cases c3 : (B.length : Int) - a < x
    · have hok : countOk x most ((B.length : Int) - a) = false := by unfold countOk; rw [decide_eq_false (show ¬ x ≤ (B.length : Int) - a by omega), Bool.and_false]
      rw [hok] at hcv hcs
      rw [hcv, hcs]
      refine ox_RefR (k := ?_)
      rw [decide_eq_false c1]
      refine ox_RefR (k := ?_)
      rw [decide_eq_false c2]
      refine ox_RefR (k := ?_)
      rw [decide_eq_true c3]
      refine go_RefR (k := ?_)
      refine OW_storeB one_int rfl (.int .i64 40) rfl rfl hB2 (by simp) ?_
      intro w3 hB3 hg3
      have m3 : w3.cell? ⟨g, 2, none⟩ = some (.int .i64 40) := hB3.cell 2
      clear m2
      refine go_RefR (k := ?_)
      exact bodyE_ret1 rfl (.int .i64 0) rfl ⟨rfl, hv2.toBad (hb.ext hx2) hc hS ha hl hB3 (Keeps.of_only hg3 rfl), hk2.trans' (Keeps.of_only hg3 rfl)⟩
    · have hok : countOk x most ((B.length : Int) - a) = true := by unfold countOk; rw [decide_eq_true (show 0 ≤ x by omega), decide_eq_true (show x ≤ most by omega), decide_eq_true (show x ≤ (B.length : Int) - a by omega)]; rfl
      rw [hok] at hcv hcs
      rw [hcv, hcs]
      refine ox_RefR (k := ?_)
      rw [decide_eq_false c1]
      refine ox_RefR (k := ?_)
      rw [decide_eq_false c2]
      refine ox_RefR (k := ?_)
      rw [decide_eq_false c3]
      refine go_RefR (k := ?_)
      exact bodyE_ret1 rfl (.int .i64 x) rfl ⟨rfl, hv2, hk2⟩
  · have hf : fits s 8 = false := by simpa using hf
    obtain ⟨e1, e2⟩ := countS_nf hf most
    have hz := stepS_bad hf true
    have hzb : ((stepS s 8 true).2 == 0) = false := by simpa using hz
    rw [hf, e1, e2]
    refine go_RefR (k := ?_)
    refine CW_tree (.q 0 (.q 1 (.q 2 (.q 3 (.q 4 (.q 5 (.q 6 (.q 7 (.q 8 (.q 9 (.q 10 (.q 11 (.q 12 (.q 13 (.q 14 (.q 15 (.q 16 (.q 17 (.q 18 (.q 19 (.q 20 (.q 21 (.q 22 (.q 23 (.q 24 (.q 25 (.q 26 (.q 27 .done)))))))))))))))))))))))))))) (fun w' => Ext w1 w') (by kernel_rfl) (by kernel_rfl) (by kernel_rfl) ?_ ?_
    · exact fun _ h => h
    intro w2 hx2 _
    have m2 := q2 w2 hx2
    refine ox_RefR (k := ?_)
    rw [hzb]
    refine ox_RefR (k := ?_)
    refine go_RefR (k := ?_)
    refine CW_condT (by show Value.bool ((stepS s 8 true).2 != 0) = _; rw [bne_iff_ne.2 hz]) ?_
    refine go_RefR (k := ?_)
    exact bodyE_ret1 rfl (.int .i64 0) rfl ⟨rfl, hv.ext hx2, hk.trans' (Keeps.of_ext hx2 _)⟩
end Go.Proofs.Ythhphmbhlddihaa
