/- Walks: the Writer's own methods, each by what it adds. -/
import Derived.Test.YthhphmbhlddihaaWireW
import Derived.Test.YthhphmbhlddihaaNum
namespace Go.Proofs.Ythhphmbhlddihaa
open Go Go.RowKit
set_option linter.unusedVariables false
set_option maxRecDepth 2000

theorem go_WireW2 {A B : Prop} (h : Held B → A := by
  intro hEnd
  repeat (first | refine OW_moveV (.int _ _) rfl ?_ | refine OW_moveV (.slice _ _ _) rfl ?_ | refine OW_moveV (.bool _) rfl ?_ | refine OW_moveV (.pointer _) rfl ?_ | refine OW_moveV (.string _) rfl ?_ | refine OW_moveV (.agg _) rfl ?_ | refine OW_moveV (.tuple _) rfl ?_ | refine OW_nil ?_ | refine thenE_normal ?_ | refine CW_seq ?_ | refine CW_region (by kernel_rfl) ?_ | refine OW_assignV (.int _ _) rfl ?_ | refine OW_assignV (.slice _ _ _) rfl ?_ | refine OW_assignV (.bool _) rfl ?_ | refine OW_assignV (.pointer _) rfl ?_ | refine OW_assignV (.string _) rfl ?_ | refine OW_assignV (.agg _) rfl ?_ | refine OW_assignV (.tuple _) rfl ?_ | refine OW_addI rfl rfl (by omega) ?_ | refine OW_subI rfl rfl (by omega) ?_ | refine OW_mulI rfl rfl (by omega) ?_ | refine OW_lss rfl rfl ?_ | refine OW_extract rfl rfl ?_ | refine OW_gtr rfl rfl ?_ | refine OW_leq rfl rfl ?_ | refine OW_geq rfl rfl ?_ | refine OW_eql rfl rfl ?_ | refine OW_neq rfl rfl ?_ | refine OW_not rfl ?_ | refine OW_pickT rfl _ rfl ?_ | refine OW_pickF rfl (.bool _) rfl ?_ | refine OW_pickB rfl rfl rfl ?_ | refine OW_move ?_ | refine OW_assign ?_ | refine OW_pass rfl ?_ | refine OW_take rfl ?_ | refine OW_lenS (by first | with_reducible exact und_bytes | with_reducible exact und_bytess) rfl ?_ | refine OW_convInt (by first | with_reducible exact und_u8 | with_reducible exact und_u64 | with_reducible exact und_int | with_reducible exact und_u32) (by first | with_reducible exact und_u8 | with_reducible exact und_u64 | with_reducible exact und_int | with_reducible exact und_u32) rfl ?_ | refine OW_add rfl rfl ?_ | refine OW_sub rfl rfl ?_ | refine OW_mul rfl rfl ?_ | refine OW_min2 rfl rfl ?_ | refine OW_max2 rfl rfl ?_ | refine OW_neg rfl ?_ | refine CW_block ?_ | refine CW_condT rfl ?_ | refine CW_condF rfl ?_ | refine CW_exit ?_ | refine CW_ret ?_ | refine CW_skip ?_ | refine LW_seq ?_ | refine LW_regC ?_ | refine LW_condC ?_ | refine LW_regF ?_ | refine LW_condF ?_ | refine FW_seq ?_ | refine FW_region (by kernel_rfl) ?_ | refine FW_block ?_ | refine FW_condT rfl ?_ | refine FW_condF rfl ?_ | refine FW_exit ?_ | refine FW_ret ?_ | refine FW_skip ?_ | refine LW_ret ?_ | refine LW_skip ?_ | refine thenE_exit ?_ | refine thenE_ret ?_ | refine inBlockE_normal ?_ | refine inBlockE_same ?_ | refine inBlockE_ret ?_ | refine inBlockE_ne (by rfl) ?_ | refine OW_eqlB (by with_reducible exact und_bool) rfl rfl ?_ | refine OW_neqB (by with_reducible exact und_bool) rfl rfl ?_ | refine OW_idxS (by with_reducible exact und_bytes) one_u8 rfl rfl _ rfl (by omega) ?_ | refine OW_idxS (by with_reducible exact und_bytess) one_bytes rfl rfl _ rfl (by omega) ?_ | refine OW_load1 (by first | with_reducible exact one_u8 | with_reducible exact one_bytes) rfl _ (by assumption) ?_ | refine OW_nilCheck rfl ?_ | refine OW_fieldF fld_W0 rfl ?_ | refine OW_fieldF fld_W1 rfl ?_ | refine OW_fieldF fld_W2 rfl ?_ | refine OW_eqlNil und_pw rfl ?_ | refine OW_load1 (by with_reducible exact one_bool) rfl _ (by assumption) ?_)
  exact hEnd.out) (k : B) : A := h ⟨k⟩
theorem WPost.of {w w1 : World} {g : Nat} {S : Nat → Prop} {s : Bool × List UInt8} {en : Ending} {w' : World} (h : WPost w1 g S s en w') (hx : Ext w w1) (hb : ∀ k, S k → k < w.heap.size) : WPost w g S s en w' := by
  obtain ⟨h1, h2, h3⟩ := h
  refine ⟨h1, h2.mono (fun k hk => ?_) (fun k hk => ?_), (Keeps.of_ext hx S).trans' h3⟩
  · rcases hk with h | h
    · exact .inl h
    · exact .inr ⟨Nat.le_trans hx.size h.1, h.2⟩
  · rcases hk with h | h
    · exact Nat.lt_of_lt_of_le (hb k h) (Nat.le_trans hx.size h3.size)
    · exact h.2
theorem blk_bs {w : World} {g : Nat} {T : TypeId} (l : List UInt8) (h : Blk w g T (l.map bv).toArray) : Bs w (some ⟨g, 0, none⟩) l := by
  intro j u hu
  refine ⟨_, rfl, ?_⟩
  rw [show ((⟨g, 0, none⟩ : Addr).add j) = ⟨g, j, none⟩ by unfold Addr.add; split <;> simp_all]
  rw [h.cell]
  simpa using hu
theorem blk_rd {w : World} {g : Nat} {T : TypeId} (l : List Value) (h : Blk w g T l.toArray) : Rd w (some ⟨g, 0, none⟩) l := by
  intro j u hu
  refine ⟨_, rfl, ?_⟩
  rw [show ((⟨g, 0, none⟩ : Addr).add j) = ⟨g, j, none⟩ by unfold Addr.add; split <;> simp_all]
  rw [h.cell]
  simpa using hu

set_option maxHeartbeats 8000000 in
theorem wByte_any (w : World) (g : Nat) (S : Nat → Prop) (s : Bool × List UInt8) (h : WR w g S s) (b : UInt8) :
    Calls Try.prog 35 #[.pointer (some ⟨g, 0, none⟩), bv b] w (WPost w g S (addAll s [[b]])) := by
  have hbv : bv b = .int .u8 (b.toNat : Int) := rfl
  rw [hbv]
  refine calls_of_CW Try.func35 rfl (by simp [Try.ntmps35]) ?_
  rw [Try.ntmps35]
  refine go_WireW2 (k := ?_)
  refine OW_lit [bv b] (by with_reducible exact und_bytes) info_u8 rfl rfl (by simp [bv, Value.oneCell']) (by decide) ?_
  intro w1 g1 hb1 hg1 hx1
  refine go_WireW2 (k := ?_)
  refine OW_lit [sv (some ⟨g1, 0, none⟩, 1, [b])] (by with_reducible exact und_bytess) info_bytes rfl rfl (by simp [sv, Value.oneCell']) (by decide) ?_
  intro w2 g2 hb2 hg2 hx2
  have hx := hx1.trans' hx2
  refine go_WireW2 (k := ?_)
  refine OW_callC Try.func74 (by kernel_rfl) rfl (add_any w2 g S s (h.ext hx) (some ⟨g2, 0, none⟩) 1 [(some ⟨g1, 0, none⟩, 1, [b])] (blk_rd _ hb2) (fun ad ha => by cases ha; intro hh; have h1 := h.bd _ hh; have h2 := hx1.size; exact absurd h1 (by simp only; omega))
    (fun x hx => by
      rw [List.mem_singleton] at hx
      subst hx
      exact ⟨(blk_bs [b] hb1).ext hx2, fun ad ha _ => by cases ha; intro hh; have h1 := h.bd _ hh; exact absurd h1 (by simp only; omega), by simp⟩) (by simp)) rfl ?_
  rintro en w3 ⟨rfl, hw, hk⟩
  refine ⟨_, rfl, ?_⟩
  refine go_WireW2 (k := ?_)
  exact bodyE_ret1 rfl (.pointer (some ⟨g, 0, none⟩)) rfl (WPost.of ⟨rfl, hw, hk⟩ hx h.bd)

set_option maxHeartbeats 8000000 in
theorem wInt_any (w : World) (g : Nat) (S : Nat → Prop) (s : Bool × List UInt8) (h : WR w g S s) (n : Int) :
    Calls Try.prog 31 #[.pointer (some ⟨g, 0, none⟩), .int .i64 n] w (WPost w g S (addAll s [putL (u64N n) 8])) := by
  refine calls_of_CW Try.func31 rfl (by simp [Try.ntmps31]) ?_
  rw [Try.ntmps31]
  refine go_WireW2 (k := ?_)
  rw [wrap_u64I]
  refine OW_callBs Try.func75 (by kernel_rfl) rfl (put64_any w (u64N n) (u64N_lt n)) rfl ?_
  intro w1 A1 c1 hf1
  refine go_WireW2 (k := ?_)
  refine OW_lit [sv (A1, c1, putL (u64N n) 8)] (by with_reducible exact und_bytess) info_bytes rfl rfl (by simp [sv, Value.oneCell']) (by decide) ?_
  intro w2 g2 hb2 hg2 hx2
  have hx := hf1.ext.trans' hx2
  refine go_WireW2 (k := ?_)
  refine OW_callC Try.func74 (by kernel_rfl) rfl (add_any w2 g S s (h.ext hx) (some ⟨g2, 0, none⟩) 1 [(A1, c1, putL (u64N n) 8)] (blk_rd _ hb2) (fun ad ha => by cases ha; intro hh; have h1 := h.bd _ hh; have h2 := hf1.ext.size; exact absurd h1 (by simp only; omega))
    (fun x hx => by
      rw [List.mem_singleton] at hx
      subst hx
      exact ⟨hf1.bs.ext hx2, fun ad ha _ hh => by have h1 := h.bd _ hh; have h2 := (own_block hf1.own ad ha).1; omega, by simp [putL_length]⟩) (by simp)) rfl ?_
  rintro en w3 ⟨rfl, hw, hk⟩
  refine ⟨_, rfl, ?_⟩
  refine go_WireW2 (k := ?_)
  exact bodyE_ret1 rfl (.pointer (some ⟨g, 0, none⟩)) rfl (WPost.of ⟨rfl, hw, hk⟩ hx h.bd)

set_option maxHeartbeats 8000000 in
theorem wFlag_any (w : World) (g : Nat) (S : Nat → Prop) (s : Bool × List UInt8) (h : WR w g S s) (is : Bool) :
    Calls Try.prog 36 #[.pointer (some ⟨g, 0, none⟩), .bool is] w (WPost w g S (addAll s [[if is then 1 else 0]])) := by
  refine calls_of_CW Try.func36 rfl (by simp [Try.ntmps36]) ?_
  rw [Try.ntmps36]
  cases is
  · refine go_WireW2 (k := ?_)
    refine OW_callC Try.func35 (by kernel_rfl) rfl (wByte_any w g S s h 0) rfl ?_
    rintro en w3 ⟨rfl, hw, hk⟩
    refine ⟨_, rfl, ?_⟩
    refine go_WireW2 (k := ?_)
    exact bodyE_ret1 rfl (.pointer (some ⟨g, 0, none⟩)) rfl ⟨rfl, hw, hk⟩
  · refine go_WireW2 (k := ?_)
    refine OW_callC Try.func35 (by kernel_rfl) rfl (wByte_any w g S s h 1) rfl ?_
    rintro en w3 ⟨rfl, hw, hk⟩
    refine ⟨_, rfl, ?_⟩
    refine go_WireW2 (k := ?_)
    exact bodyE_ret1 rfl (.pointer (some ⟨g, 0, none⟩)) rfl ⟨rfl, hw, hk⟩

set_option maxHeartbeats 8000000 in
theorem wBytes_any (w : World) (g : Nat) (S : Nat → Prop) (s : Bool × List UInt8) (h : WR w g S s) (A : Option Addr) (b : List UInt8) (c : Nat) (hb : Bs w A b) (hA : ∀ ad, A = some ad → b ≠ [] → ¬ S ad.block) (hl : b.length ≤ 1000000) :
    Calls Try.prog 37 #[.pointer (some ⟨g, 0, none⟩), .slice A b.length c] w (WPost w g S (addAll s [putL b.length 4, b])) := by
  refine calls_of_CW Try.func37 rfl (by simp [Try.ntmps37]) ?_
  rw [Try.ntmps37]
  refine go_WireW2 (k := ?_)
  rw [wrap_u32_lt _ (by omega)]
  refine OW_callBs Try.func76 (by kernel_rfl) rfl (put32_any w b.length (by omega)) rfl ?_
  intro w1 A1 c1 hf1
  refine go_WireW2 (k := ?_)
  refine OW_lit [sv (A1, c1, putL b.length 4), sv (A, c, b)] (by with_reducible exact und_bytess) info_bytes rfl rfl (by simp [sv, Value.oneCell']) (by decide) ?_
  intro w2 g2 hb2 hg2 hx2
  have hx := hf1.ext.trans' hx2
  refine go_WireW2 (k := ?_)
  refine OW_callC Try.func74 (by kernel_rfl) rfl (add_any w2 g S s (h.ext hx) (some ⟨g2, 0, none⟩) 2 [(A1, c1, putL b.length 4), (A, c, b)] (blk_rd _ hb2) (fun ad ha => by cases ha; intro hh; have h1 := h.bd _ hh; have h2 := hf1.ext.size; exact absurd h1 (by simp only; omega))
    (fun x hx' => by
      rw [List.mem_cons, List.mem_singleton] at hx'
      rcases hx' with hx' | hx'
      · subst hx'
        exact ⟨hf1.bs.ext hx2, fun ad ha _ hh => by have h1 := h.bd _ hh; have h2 := (own_block hf1.own ad ha).1; omega, by simp [putL_length]⟩
      · subst hx'
        exact ⟨hb.ext hx, hA, hl⟩) (by simp)) rfl ?_
  rintro en w3 ⟨rfl, hw, hk⟩
  refine ⟨_, rfl, ?_⟩
  refine go_WireW2 (k := ?_)
  exact bodyE_ret1 rfl (.pointer (some ⟨g, 0, none⟩)) rfl (WPost.of ⟨rfl, hw, hk⟩ hx h.bd)

set_option maxHeartbeats 8000000 in
theorem wText_any (w : World) (g : Nat) (S : Nat → Prop) (s : Bool × List UInt8) (h : WR w g S s) (t : ByteArray) (hl : t.data.toList.length ≤ 1000000) :
    Calls Try.prog 38 #[.pointer (some ⟨g, 0, none⟩), .string t] w (WPost w g S (addAll s [putL t.data.toList.length 4, t.data.toList])) := by
  refine calls_of_CW Try.func38 rfl (by simp [Try.ntmps38]) ?_
  rw [Try.ntmps38]
  refine go_WireW2 (k := ?_)
  refine OW_bytesOf t und_string (by with_reducible exact und_bytes) und_u8 rfl ?_
  intro w1 A c hb hA hx
  refine go_WireW2 (k := ?_)
  refine OW_callC Try.func37 (by kernel_rfl) rfl (wBytes_any w1 g S s (h.ext hx) A t.data.toList c hb (fun ad ha _ hh => by have h1 := h.bd _ hh; have h2 := hA ad ha; omega) hl) rfl ?_
  rintro en w3 ⟨rfl, hw, hk⟩
  refine ⟨_, rfl, ?_⟩
  refine go_WireW2 (k := ?_)
  exact bodyE_ret1 rfl (.pointer (some ⟨g, 0, none⟩)) rfl (WPost.of ⟨rfl, hw, hk⟩ hx h.bd)

set_option maxHeartbeats 8000000 in
theorem wTag_any (w : World) (g : Nat) (S : Nat → Prop) (s : Bool × List UInt8) (h : WR w g S s) (t : List UInt8) (hl : t.length = 32) :
    Calls Try.prog 39 #[.pointer (some ⟨g, 0, none⟩), .agg (t.map bv).toArray] w (WPost w g S (addAll s [t])) := by
  refine calls_of_CW Try.func39 rfl (by simp [Try.ntmps39]) ?_
  rw [Try.ntmps39]
  refine go_WireW2 (k := ?_)
  refine OW_box _ rfl ?_
  intro w1 g1 hb1 hg1 hlt1 hx1
  have hb1 : Blk w1 g1 24 (t.map bv).toArray := hb1
  refine go_WireW2 (k := ?_)
  refine OW_sliceP slp_Tag rfl ?_
  refine go_WireW2 (k := ?_)
  rw [← hl]
  refine OW_lit [sv (some ⟨g1, 0, none⟩, t.length, t)] (by with_reducible exact und_bytess) info_bytes rfl rfl (by simp [sv, Value.oneCell']) (by decide) ?_
  intro w2 g2 hb2 hg2 hx2
  have hx := hx1.trans' hx2
  refine go_WireW2 (k := ?_)
  refine OW_callC Try.func74 (by kernel_rfl) rfl (add_any w2 g S s (h.ext hx) (some ⟨g2, 0, none⟩) 1 [(some ⟨g1, 0, none⟩, t.length, t)] (blk_rd _ hb2) (fun ad ha => by cases ha; intro hh; have h1 := h.bd _ hh; have h2 := hx1.size; exact absurd h1 (by simp only; omega))
    (fun x hx => by
      rw [List.mem_singleton] at hx
      subst hx
      exact ⟨(blk_bs t hb1).ext hx2, fun ad ha _ => by cases ha; intro hh; have h1 := h.bd _ hh; exact absurd h1 (by simp only; omega), by simp [hl]⟩) (by simp)) rfl ?_
  rintro en w3 ⟨rfl, hw, hk⟩
  refine ⟨_, rfl, ?_⟩
  refine go_WireW2 (k := ?_)
  exact bodyE_ret1 rfl (.pointer (some ⟨g, 0, none⟩)) rfl (WPost.of ⟨rfl, hw, hk⟩ hx h.bd)

/-- What Done tells. -/
def DoneP (w : World) (s : Bool × List UInt8) : Ending → World → Prop := fun en w' => Ext w w' ∧ ((s.1 = true ∧ en = .returned (.tuple #[.slice none 0 0, .int .i64 3]) ∧ w' = w) ∨ (s.1 = false ∧ ∃ A c, en = .returned (.tuple #[.slice A s.2.length c, .int .i64 0]) ∧ Fresh 5 w w' A c s.2))
set_option maxHeartbeats 8000000 in
theorem wDone_any (w : World) (g : Nat) (S : Nat → Prop) (s : Bool × List UInt8) (h : WR w g S s) :
    Calls Try.prog 18 #[.pointer (some ⟨g, 0, none⟩)] w (DoneP w s) := by
  obtain ⟨A0, c0, hB0, ho0, hS0⟩ := h.at_
  have hll := h.len
  obtain ⟨lg, l⟩ := s
  have m0 : w.cell? ⟨g, 0, none⟩ = some (.bool true) := hB0.cell 0
  have m1 : w.cell? ⟨g, 1, none⟩ = some (.bool lg) := hB0.cell 1
  have m2 : w.cell? ⟨g, 2, none⟩ = some (.slice A0 l.length c0) := hB0.cell 2
  refine calls_of_CW Try.func18 rfl (by simp [Try.ntmps18]) ?_
  rw [Try.ntmps18]
  cases lg
  · refine go_WireW2 (k := ?_)
    refine OW_lit [sv (A0, c0, l)] (by with_reducible exact und_bytess) info_bytes rfl rfl (by simp [sv, Value.oneCell']) (by decide) ?_
    intro w2 g2 hb2 hg2 hx2
    refine go_WireW2 (k := ?_)
    refine OW_callBs Try.func33 (by kernel_rfl) rfl (cat_any w2 (some ⟨g2, 0, none⟩) 1 [(A0, c0, l)] (blk_rd _ hb2) (fun x hx => by
      rw [List.mem_singleton] at hx
      subst hx
      exact (own_rd ho0).ext hx2) (by simp) (by have h9 : l.length ≤ 65536 := hll; simp [flat]; omega)) rfl ?_
    intro w3 A3 c3 hf3
    have hfl : flat [(A0, c0, l)] = l := by simp [flat]
    rw [hfl] at hf3 ⊢
    refine go_WireW2 (k := ?_)
    exact bodyE_ret2 rfl (.slice A3 l.length c3) (.int .i64 0) rfl rfl ⟨hx2.trans' hf3.ext, .inr ⟨rfl, A3, c3, rfl, hf3.back hx2⟩⟩
  · refine go_WireW2 (k := ?_)
    exact bodyE_ret2 rfl (.slice none 0 0) (.int .i64 3) rfl rfl ⟨Ext.rfl' w, .inl ⟨rfl, rfl, rfl⟩⟩
end Go.Proofs.Ythhphmbhlddihaa
