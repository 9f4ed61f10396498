/- Walks: wire's Writer. -/
import Derived.Test.YthhphmbhlddihaaWireT
import Derived.Test.YthhphmbhlddihaaWords5
namespace Go.Proofs.Ythhphmbhlddihaa
open Go Go.RowKit
set_option linter.unusedVariables false
set_option maxRecDepth 2000

theorem go_WireW {A B : Prop} (h : Held B → A := by
  intro hEnd
  repeat (first | refine OW_moveV (.int _ _) rfl ?_ | refine OW_moveV (.slice _ _ _) rfl ?_ | refine OW_moveV (.bool _) rfl ?_ | refine OW_moveV (.pointer _) rfl ?_ | refine OW_moveV (.string _) rfl ?_ | refine OW_moveV (.agg _) rfl ?_ | refine OW_moveV (.tuple _) rfl ?_ | refine OW_nil ?_ | refine thenE_normal ?_ | refine CW_seq ?_ | refine CW_region (by kernel_rfl) ?_ | refine OW_assignV (.int _ _) rfl ?_ | refine OW_assignV (.slice _ _ _) rfl ?_ | refine OW_assignV (.bool _) rfl ?_ | refine OW_assignV (.pointer _) rfl ?_ | refine OW_assignV (.string _) rfl ?_ | refine OW_assignV (.agg _) rfl ?_ | refine OW_assignV (.tuple _) rfl ?_ | refine OW_addI rfl rfl (by omega) ?_ | refine OW_subI rfl rfl (by omega) ?_ | refine OW_mulI rfl rfl (by omega) ?_ | refine OW_lss rfl rfl ?_ | refine OW_extract rfl rfl ?_ | refine OW_gtr rfl rfl ?_ | refine OW_leq rfl rfl ?_ | refine OW_geq rfl rfl ?_ | refine OW_eql rfl rfl ?_ | refine OW_neq rfl rfl ?_ | refine OW_not rfl ?_ | refine OW_pickT rfl _ rfl ?_ | refine OW_pickF rfl (.bool _) rfl ?_ | refine OW_pickB rfl rfl rfl ?_ | refine OW_move ?_ | refine OW_assign ?_ | refine OW_pass rfl ?_ | refine OW_take rfl ?_ | refine OW_lenS (by first | with_reducible exact und_bytes | with_reducible exact und_bytess) rfl ?_ | refine OW_convInt (by first | with_reducible exact und_u8 | with_reducible exact und_u64 | with_reducible exact und_int | with_reducible exact und_u32) (by first | with_reducible exact und_u8 | with_reducible exact und_u64 | with_reducible exact und_int | with_reducible exact und_u32) rfl ?_ | refine OW_add rfl rfl ?_ | refine OW_sub rfl rfl ?_ | refine OW_mul rfl rfl ?_ | refine OW_min2 rfl rfl ?_ | refine OW_max2 rfl rfl ?_ | refine OW_neg rfl ?_ | refine CW_block ?_ | refine CW_condT rfl ?_ | refine CW_condF rfl ?_ | refine CW_exit ?_ | refine CW_ret ?_ | refine CW_skip ?_ | refine LW_seq ?_ | refine LW_regC ?_ | refine LW_condC ?_ | refine LW_regF ?_ | refine LW_condF ?_ | refine FW_seq ?_ | refine FW_region (by kernel_rfl) ?_ | refine FW_block ?_ | refine FW_condT rfl ?_ | refine FW_condF rfl ?_ | refine FW_exit ?_ | refine FW_ret ?_ | refine FW_skip ?_ | refine LW_ret ?_ | refine LW_skip ?_ | refine thenE_exit ?_ | refine thenE_ret ?_ | refine inBlockE_normal ?_ | refine inBlockE_same ?_ | refine inBlockE_ret ?_ | refine inBlockE_ne (by rfl) ?_ | refine OW_eqlB (by with_reducible exact und_bool) rfl rfl ?_ | refine OW_neqB (by with_reducible exact und_bool) rfl rfl ?_ | refine OW_idxS (by with_reducible exact und_bytes) one_u8 rfl rfl _ rfl (by omega) ?_ | refine OW_idxS (by with_reducible exact und_bytess) one_bytes rfl rfl _ rfl (by omega) ?_ | refine OW_load1 (by first | with_reducible exact one_u8 | with_reducible exact one_bytes) rfl _ (by assumption) ?_ | refine OW_nilCheck rfl ?_ | refine OW_fieldF fld_W0 rfl ?_ | refine OW_fieldF fld_W1 rfl ?_ | refine OW_fieldF fld_W2 rfl ?_ | refine OW_eqlNil und_pw rfl ?_ | refine OW_load1 (by with_reducible exact one_bool) rfl _ (by assumption) ?_)
  exact hEnd.out) (k : B) : A := h ⟨k⟩
/-- One list of bytes more: whether the form is too long; its bytes. -/
def addStep (s : Bool × List UInt8) (b : List UInt8) : Bool × List UInt8 :=
  if s.1 || decide (65536 - (s.2.length : Int) < (b.length : Int)) then (true, s.2) else (false, s.2 ++ b)
def addAll (s : Bool × List UInt8) (bs : List (List UInt8)) : Bool × List UInt8 := bs.foldl addStep s
theorem addAll_take_succ {s : Bool × List UInt8} {bs : List (List UInt8)} {k : Nat} (h : k < bs.length) : addAll s (bs.take (k + 1)) = addStep (addAll s (bs.take k)) bs[k] := by
  unfold addAll; rw [take_succ_get _ _ h, List.foldl_append]; rfl
theorem addStep_len {s : Bool × List UInt8} (b : List UInt8) (h : s.2.length ≤ 65536) : (addStep s b).2.length ≤ 65536 := by
  unfold addStep
  split
  · exact h
  · rename_i hc
    simp only [Bool.or_eq_true, decide_eq_true_eq, not_or] at hc
    simp only [List.length_append]
    omega
theorem addAll_len (bs : List (List UInt8)) : ∀ s : Bool × List UInt8, s.2.length ≤ 65536 → (addAll s bs).2.length ≤ 65536 := by
  induction bs with
  | nil => intro s h; exact h
  | cons b bs ih => intro s h; exact ih _ (addStep_len b h)

/-- A writer that was made, at block g; its blocks lie in S. -/
structure WR (w : World) (g : Nat) (S : Nat → Prop) (s : Bool × List UInt8) : Prop where
  in_ : S g
  at_ : ∃ A c, Blk w g 32 #[.bool true, .bool s.1, .slice A s.2.length c] ∧ w.ownsRow 0 5 1 (.slice A s.2.length c) s.2.length (s.2.map bv) ∧ (∀ ad, A = some ad → S ad.block)
  len : s.2.length ≤ 65536
  bd : ∀ k, S k → k < w.heap.size
theorem WR.keeps {w w' : World} {g : Nat} {S X : Nat → Prop} {s : Bool × List UInt8} (h : WR w g S s) (hk : Keeps w w' X) (hn : ∀ k, S k → ¬ X k) : WR w' g S s := by
  obtain ⟨A, c, h1, h2, h3⟩ := h.at_
  exact ⟨h.in_, ⟨A, c, h1.keeps hk (hn g h.in_), own_keeps h2 hk (fun ad ha => hn _ (h3 ad ha)), h3⟩, h.len, fun k hk2 => Nat.lt_of_lt_of_le (h.bd k hk2) hk.size⟩
theorem WR.ext {w w' : World} {g : Nat} {S : Nat → Prop} {s : Bool × List UInt8} (h : WR w g S s) (hk : Ext w w') : WR w' g S s := by
  obtain ⟨A, c, h1, h2, h3⟩ := h.at_
  exact ⟨h.in_, ⟨A, c, h1.ext hk, own_ext h2 hk, h3⟩, h.len, fun k hk2 => Nat.lt_of_lt_of_le (h.bd k hk2) hk.size⟩
theorem WR.mono {w : World} {g : Nat} {S S' : Nat → Prop} {s : Bool × List UInt8} (h : WR w g S s) (hs : ∀ k, S k → S' k) (hb : ∀ k, S' k → k < w.heap.size) : WR w g S' s := by
  obtain ⟨A, c, h1, h2, h3⟩ := h.at_
  exact ⟨hs g h.in_, ⟨A, c, h1, h2, fun ad ha => hs _ (h3 ad ha)⟩, h.len, hb⟩

set_option maxHeartbeats 8000000 in
theorem newWriter_any (w : World) : Calls Try.prog 30 #[] w (fun en w' => ∃ g, en = .returned (.pointer (some ⟨g, 0, none⟩)) ∧ w.heap.size ≤ g ∧ Ext w w' ∧ WR w' g (more (fun _ => False) w w') (false, [])) := by
  refine calls_of_CW Try.func30 rfl (by simp [Try.ntmps30]) ?_
  rw [Try.ntmps30]
  refine go_WireW (k := ?_)
  refine OW_build _ _ bld_W rfl ?_
  refine go_WireW (k := ?_)
  refine OW_box _ rfl ?_
  intro w1 g hb hg hlt hx
  refine go_WireW (k := ?_)
  exact bodyE_ret1 rfl (.pointer (some ⟨g, 0, none⟩)) rfl ⟨g, rfl, hg, hx, .inr ⟨hg, hlt⟩, ⟨none, 0, hb, World.ownsRow_nil _ _ _ _, fun ad h => by cases h⟩, Nat.zero_le _, fun k hk => by rcases hk with h | h; exact h.elim; exact h.2⟩

/-- What a writer's call comes to. -/
def WPost (w : World) (g : Nat) (S : Nat → Prop) (s : Bool × List UInt8) : Ending → World → Prop := fun en w' => en = .returned (.pointer (some ⟨g, 0, none⟩)) ∧ WR w' g (more S w w') s ∧ Keeps w w' S
set_option maxHeartbeats 8000000 in
theorem add_any (w : World) (g : Nat) (S : Nat → Prop) (s : Bool × List UInt8) (h : WR w g S s) (A : Option Addr) (c : Nat) (vs : List BV) (hv : Rd w A (vs.map sv)) (hA : ∀ ad, A = some ad → ¬ S ad.block)
    (hb : ∀ x ∈ vs, Bs w x.1 x.2.2 ∧ (∀ ad, x.1 = some ad → x.2.2 ≠ [] → ¬ S ad.block) ∧ x.2.2.length ≤ 1000000) (hn : vs.length ≤ 1000) :
    Calls Try.prog 74 #[.pointer (some ⟨g, 0, none⟩), .slice A vs.length c] w (WPost w g S (addAll s (vs.map (·.2.2)))) := by
  obtain ⟨A0, c0, hB0, ho0, hS0⟩ := h.at_
  have m0 : w.cell? ⟨g, 0, none⟩ = some (.bool true) := hB0.cell 0
  refine calls_of_CW Try.func74 rfl (by simp [Try.ntmps74]) ?_
  rw [Try.ntmps74]
  refine go_WireW (k := ?_)
  refine CW_loop (fun e' w' => ∃ (k : Nat) (lg : Bool) (l : List UInt8) (A2 : Option Addr) (c2 : Nat), k ≤ vs.length ∧ addAll s ((vs.map (·.2.2)).take k) = (lg, l) ∧ e' 0 = .pointer (some ⟨g, 0, none⟩) ∧ e' 17 = .slice A vs.length c ∧ e' 18 = .int .i64 vs.length ∧ e' 19 = .int .i64 k ∧
      Blk w' g 32 #[.bool true, .bool lg, .slice A2 l.length c2] ∧ w'.ownsRow 0 5 1 (.slice A2 l.length c2) l.length (l.map bv) ∧ (∀ ad, A2 = some ad → more S w w' ad.block) ∧ Keeps w w' S) (fun e' _ => vs.length - (intOf (e' 19)).toNat) ?_ ?_
  · exact ⟨0, s.1, s.2, A0, c0, Nat.zero_le _, rfl, rfl, rfl, rfl, rfl, hB0, ho0, fun ad ha => .inl (hS0 ad ha), Keeps.rfl' w S⟩
  rintro e' w' ⟨k, lg, l, A2, c2, hk, hal, e0, e17, e18, e19, hB, ho, hS, hK⟩
  rw [upd_self e0, upd_self e17, upd_self e18, upd_self e19]
  have hll : l.length ≤ 65536 := by have := addAll_len ((vs.map (·.2.2)).take k) s h.len; rw [hal] at this; exact this
  refine go_WireW (k := ?_)
  refine CW_cond _ rfl (fun hh => ?_) (fun hh => ?_)
  · have hlt : k < vs.length := by simpa using hh
    clear hh
    obtain ⟨ad, hA1, hcA⟩ := (hv.keeps hK hA).at_ (j := k) (by simpa using hlt)
    obtain ⟨hbk, hbn, hbl⟩ := hb vs[k] (List.getElem_mem hlt)
    have hbk := hbk.keepsN hK hbn
    have hcA : w'.cell? (ad.add k) = some (.slice (vs[k]).1 (vs[k]).2.2.length (vs[k]).2.1) := by rw [hcA]; simp [sv]
    have hsucc := addAll_take_succ (s := s) (bs := vs.map (·.2.2)) (k := k) (by simpa using hlt)
    rw [hal, List.getElem_map] at hsucc
    subst hA1
    generalize hx : vs[k] = x at *
    have c1 : w'.cell? ⟨g, 1, none⟩ = some (.bool lg) := hB.cell 1
    have c2' : w'.cell? ⟨g, 2, none⟩ = some (.slice A2 l.length c2) := hB.cell 2
    have next : ∀ (lg2 : Bool), (lg || decide (65536 - (l.length : Int) < (x.2.2.length : Int))) = lg2 → ∀ w2, Blk w2 g 32 #[.bool true, .bool lg2, .slice A2 l.length c2] → w'.grownBy w2 (some g) → True := fun _ _ _ _ _ => trivial
    clear next
    cases lg with
    | true =>
      have hst : addStep (true, l) x.2.2 = (true, l) := by simp [addStep]
      rw [hst] at hsucc
      refine go_WireW (k := ?_)
      refine OW_storeB one_bool rfl (.bool true) rfl rfl hB (by simp) ?_
      intro w2 hB2 hg2
      have d1 : w2.cell? ⟨g, 1, none⟩ = some (.bool true) := hB2.cell 1
      have hK2 := hK.trans' (Keeps.of_only hg2 h.in_)
      have hne := own_ne_blk ho hB (by decide)
      refine go_WireW (k := ?_)
      refine ⟨⟨k + 1, true, l, A2, c2, by omega, hsucc, rfl, rfl, rfl, rfl, by simpa using hB2, own_keeps ho (Keeps.of_only (S := (· = g)) hg2 rfl) hne, fun ad ha => ?_, hK2⟩, ?_⟩
      · rcases hS ad ha with h1 | h1
        · exact .inl h1
        · exact .inr ⟨h1.1, Nat.lt_of_lt_of_le h1.2 hg2.size⟩
      · show vs.length - ((k : Int) + 1).toNat < vs.length - (k : Int).toNat
        omega
    | false =>
      refine go_WireW (k := ?_)
      refine OW_storeB one_bool rfl (.bool (decide (65536 - (l.length : Int) < (x.2.2.length : Int)))) rfl rfl hB (by simp) ?_
      intro w2 hB2 hg2
      have hB2 : Blk w2 g 32 #[.bool true, .bool (decide (65536 - (l.length : Int) < (x.2.2.length : Int))), .slice A2 l.length c2] := hB2
      have hK2 := hK.trans' (Keeps.of_only hg2 h.in_)
      have hne := own_ne_blk ho hB (by decide)
      have ho2 := own_keeps ho (Keeps.of_only (S := (· = g)) hg2 rfl) hne
      by_cases hfit : 65536 - (l.length : Int) < (x.2.2.length : Int)
      · rw [show addStep (false, l) x.2.2 = (true, l) by simp [addStep, hfit]] at hsucc
        rw [decide_eq_true hfit] at hB2
        have d1 : w2.cell? ⟨g, 1, none⟩ = some (.bool true) := hB2.cell 1
        refine go_WireW (k := ?_)
        refine ⟨⟨k + 1, true, l, A2, c2, by omega, hsucc, rfl, rfl, rfl, rfl, hB2, ho2, fun ad ha => ?_, hK2⟩, ?_⟩
        · rcases hS ad ha with h1 | h1
          · exact .inl h1
          · exact .inr ⟨h1.1, Nat.lt_of_lt_of_le h1.2 hg2.size⟩
        · show vs.length - ((k : Int) + 1).toNat < vs.length - (k : Int).toNat
          omega
      · rw [show addStep (false, l) x.2.2 = (false, l ++ x.2.2) by simp [addStep, hfit]] at hsucc
        rw [decide_eq_false hfit] at hB2
        have d1 : w2.cell? ⟨g, 1, none⟩ = some (.bool false) := hB2.cell 1
        have d2 : w2.cell? ⟨g, 2, none⟩ = some (.slice A2 l.length c2) := hB2.cell 2
        have hbk2 := hbk.keepsN (Keeps.of_only (S := S) hg2 h.in_) hbn
        have hS2 : ∀ ad, A2 = some ad → more S w w2 ad.block := fun ad ha => by
          rcases hS ad ha with h1 | h1
          · exact .inl h1
          · exact .inr ⟨h1.1, Nat.lt_of_lt_of_le h1.2 hg2.size⟩
        refine go_WireW (k := ?_)
        refine OW_appendK (by with_reducible exact und_bytes) info_u8 rfl rfl rfl ho2 hbk2 (by simp) (by intro u hu; obtain ⟨b, _, rfl⟩ := List.mem_map.1 hu; rfl) (by simp only [maxLen]; omega) (by omega) (Nat.zero_le _) ?_
        intro w3 A3 c3 ho3 hg3 hw3
        have hg3' : Keeps w2 w3 (more S w w2) := Keeps.of_grown hg3 (fun b hb => by
          cases A2 with
          | none => cases hb
          | some ad => cases hb; exact hS2 ad rfl)
        have hB3 : Blk w3 g 32 #[.bool true, .bool false, .slice A2 l.length c2] := hB2.keeps (Keeps.of_grown (S := fun b => ∃ ad, A2 = some ad ∧ ad.block = b) hg3 (fun b hb => by
          cases A2 with
          | none => cases hb
          | some ad => cases hb; exact ⟨ad, rfl, rfl⟩)) (fun ⟨ad, ha, hb⟩ => hne ad ha hb)
        have hK3 := hK2.trans_more hg3'
        refine go_WireW (k := ?_)
        refine OW_storeB one_bytes rfl (.slice A3 (l.length + x.2.2.length) c3) rfl rfl hB3 (by simp) ?_
        intro w4 hB4 hg4
        have hB4 : Blk w4 g 32 #[.bool true, .bool false, .slice A3 (l.length + x.2.2.length) c3] := hB4
        rw [← List.length_append] at hB4 ho3
        rw [← List.map_append] at ho3
        have ho4 := own_keeps ho3 (Keeps.of_only (S := (· = g)) hg4 rfl) (own_ne_blk ho3 hB3 (by decide))
        have hK4 := hK3.trans' (Keeps.of_only hg4 h.in_)
        refine go_WireW (k := ?_)
        refine ⟨⟨k + 1, false, l ++ x.2.2, A3, c3, by omega, hsucc, rfl, rfl, rfl, rfl, hB4, ho4, fun ad ha => ?_, hK4⟩, ?_⟩
        · subst ha
          rcases hw3 with h1 | h1
          · cases A2 with
            | none => cases h1
            | some ad2 =>
              injection h1 with h1
              have := hS2 ad2 rfl
              rw [← h1] at this
              rcases this with h2 | h2
              · exact .inl h2
              · exact .inr ⟨h2.1, Nat.lt_of_lt_of_le h2.2 (Nat.le_trans hg3.size hg4.size)⟩
          · injection h1 with h1
            exact .inr ⟨by rw [h1]; exact hK2.size, Nat.lt_of_lt_of_le (own_block ho3 ad rfl).2 hg4.size⟩
        · show vs.length - ((k : Int) + 1).toNat < vs.length - (k : Int).toNat
          omega
  · have hge : k = vs.length := by simp at hh; omega
    subst hge
    rw [List.take_of_length_le (by simp)] at hal
    rw [hal]
    refine go_WireW (k := ?_)
    exact bodyE_ret1 rfl (.pointer (some ⟨g, 0, none⟩)) rfl ⟨rfl, ⟨.inl h.in_, ⟨A2, c2, hB, ho, hS⟩, hll, fun k hk2 => by rcases hk2 with h1 | h1; exact Nat.lt_of_lt_of_le (h.bd k h1) hK.size; exact h1.2⟩, hK⟩
end Go.Proofs.Ythhphmbhlddihaa
