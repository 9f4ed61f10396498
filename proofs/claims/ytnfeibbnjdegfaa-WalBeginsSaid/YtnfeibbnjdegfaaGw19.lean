/- Several texts in one, as they stand in wip/src. -/
import Derived.Test.YtnfeibbnjdegfaaGw1
import Derived.Test.YtnfeibbnjdegfaaGw11
import Derived.Test.YtnfeibbnjdegfaaGw13
import Derived.Test.YtnfeibbnjdegfaaGw17
import Derived.Test.YtnfeibbnjdegfaaGw18
/- Two disks side by side, the program's and the reference's; the statements' 'one'. -/
namespace Go.Proofs.Ytnfeibbnjdegfaa
open Go Go.RowKit
set_option linter.unusedVariables false
set_option maxRecDepth 4000
theorem go_DskC {A B : Prop} (h : Held B → A := by
  intro hEnd
  repeat (first | refine OW_fieldB fldo_A0 rfl ?_ | refine OW_fieldB fldo_A1 rfl ?_ | refine OW_fieldB fldo_A2 rfl ?_ | refine OW_fieldB fldo_A3 rfl ?_ | refine OW_eqlTr rfl rfl rfl ?_ | refine OW_moveV (.int _ _) rfl ?_ | refine OW_moveV (.slice _ _ _) rfl ?_ | refine OW_moveV (.bool _) rfl ?_ | refine OW_moveV (.pointer _) rfl ?_ | refine OW_moveV (.string _) rfl ?_ | refine OW_moveV (.agg _) rfl ?_ | refine OW_moveV (.tuple _) rfl ?_ | refine OW_nil ?_ | refine thenE_normal ?_ | refine CW_seq ?_ | refine CW_region (by kernel_rfl) ?_ | refine OW_assignV (.int _ _) rfl ?_ | refine OW_assignV (.slice _ _ _) rfl ?_ | refine OW_assignV (.bool _) rfl ?_ | refine OW_assignV (.pointer _) rfl ?_ | refine OW_assignV (.string _) rfl ?_ | refine OW_assignV (.agg _) rfl ?_ | refine OW_assignV (.tuple _) rfl ?_ | refine OW_addI rfl rfl (by omega) ?_ | refine OW_subI rfl rfl (by omega) ?_ | refine OW_mulI rfl rfl (by omega) ?_ | refine OW_lss rfl rfl ?_ | refine OW_extract rfl rfl ?_ | refine OW_gtr rfl rfl ?_ | refine OW_leq rfl rfl ?_ | refine OW_geq rfl rfl ?_ | refine OW_eql rfl rfl ?_ | refine OW_neq rfl rfl ?_ | refine OW_not rfl ?_ | refine OW_pickT rfl _ rfl ?_ | refine OW_pickF rfl (.bool _) rfl ?_ | refine OW_pickB rfl rfl rfl ?_ | refine OW_move ?_ | refine OW_assign ?_ | refine OW_pass rfl ?_ | refine OW_take rfl ?_ | refine OW_lenS (by first | with_reducible exact und_bytes | with_reducible exact und_bytess) rfl ?_ | refine OW_convInt (by first | with_reducible exact und_u8 | with_reducible exact und_u64 | with_reducible exact und_int | with_reducible exact und_u32) (by first | with_reducible exact und_u8 | with_reducible exact und_u64 | with_reducible exact und_int | with_reducible exact und_u32) rfl ?_ | refine OW_add rfl rfl ?_ | refine OW_sub rfl rfl ?_ | refine OW_mul rfl rfl ?_ | refine OW_min2 rfl rfl ?_ | refine OW_max2 rfl rfl ?_ | refine OW_neg rfl ?_ | refine CW_block ?_ | refine CW_condT rfl ?_ | refine CW_condF rfl ?_ | refine CW_exit ?_ | refine CW_ret ?_ | refine CW_skip ?_ | refine LW_seq ?_ | refine LW_regC ?_ | refine LW_condC ?_ | refine LW_regF ?_ | refine LW_condF ?_ | refine FW_seq ?_ | refine FW_region (by kernel_rfl) ?_ | refine FW_block ?_ | refine FW_condT rfl ?_ | refine FW_condF rfl ?_ | refine FW_exit ?_ | refine FW_ret ?_ | refine FW_skip ?_ | refine LW_ret ?_ | refine LW_skip ?_ | refine thenE_exit ?_ | refine thenE_ret ?_ | refine inBlockE_normal ?_ | refine inBlockE_same ?_ | refine inBlockE_ret ?_ | refine inBlockE_ne (by rfl) ?_ | refine OW_eqlB (by with_reducible exact und_bool) rfl rfl ?_ | refine OW_neqB (by with_reducible exact und_bool) rfl rfl ?_ | refine OW_idxS (by with_reducible exact und_bytes) one_u8 rfl rfl _ rfl (by omega) ?_ | refine OW_idxS (by with_reducible exact und_bytess) one_bytes rfl rfl _ rfl (by omega) ?_ | refine OW_load1 (by first | with_reducible exact one_u8 | with_reducible exact one_bytes) rfl _ (by assumption) ?_ | refine OW_load1 s_int rfl _ (by assumption) ?_ | refine OW_load1 one_bytes rfl _ (by assumption) ?_)
  exact hEnd.out) (k : B) : A := h ⟨k⟩
theorem FreB.put {w : World} {base : Nat} {A : Option Addr} {l : List UInt8} (h : FreB w base A l) {k : Nat} (hk : k < l.length) (x : UInt8) : ∃ g, A = some ⟨g, 0, none⟩ ∧ base ≤ g ∧ w.cell? ⟨g, k, none⟩ = some (bv l[k]) ∧ w.frozen? ⟨g, k, none⟩ = false ∧ FreB (w.setCell ⟨g, k, none⟩ (bv x)) base A (l.set k x) ∧ w.grownBy (w.setCell ⟨g, k, none⟩ (bv x)) (some g) := by
  obtain ⟨ad, rfl, hc⟩ := h.bs.at_ hk
  have hl : l ≠ [] := fun hh => by rw [hh] at hk; simp at hk
  obtain ⟨g, rfl, hb, hlt⟩ := h.at_ ad rfl hl
  have hf := h.frz _ rfl k hk
  rw [add0] at hc hf
  refine ⟨g, rfl, hb, hc, hf, ⟨fun j u hu => ?_, fun ad ha _ => ?_, fun ad ha i hi => ?_⟩, only_set w g k (bv x)⟩
  · refine ⟨_, rfl, ?_⟩
    rw [add0]
    have hj : j < l.length := by have := (List.getElem?_eq_some_iff.1 hu).1; simpa using this
    by_cases hjk : j = k
    · subst hjk
      rw [World.cell?_setCell_same w _ _ hc, ← hu, List.getElem?_map, List.getElem?_set_self hj]
      rfl
    · rw [World.cell?_setCell_other w _ _ _ (by intro hh; injection hh with _ hh; exact hjk hh.symm)]
      obtain ⟨ad, ha, hcj⟩ := h.bs.at_ hj
      cases ha
      rw [add0] at hcj
      rw [hcj, ← hu, List.getElem?_map, List.getElem?_set_ne (Ne.symm hjk), List.getElem?_eq_getElem hj]
      rfl
  · cases ha
    exact ⟨g, rfl, hb, by rw [World.size_setCell]; exact hlt⟩
  · rw [World.frozen?_setCell]
    exact h.frz ad ha i (by rw [List.length_set] at hi; exact hi)
/-- Two disks in play. -/
def TwoD (w0 w : World) (g g2 : Nat) (d e : DS) : Prop := ∃ S S2, DR w g S d ∧ ER w g2 S2 e ∧ (∀ k, S k → ¬ S2 k) ∧ (∀ k, S k → w0.heap.size ≤ k) ∧ (∀ k, S2 k → w0.heap.size ≤ k) ∧ Ext w0 w
section
variable {w0 w w' : World} {g g2 : Nat} {d e : DS} {f : FuncId} {args : Array Value}
theorem TwoD.ext (h : TwoD w0 w g g2 d e) (hx : Ext w w') : TwoD w0 w' g g2 d e := by
  obtain ⟨S, S2, h1, h2, h3, h4, h5, h6⟩ := h
  exact ⟨S, S2, h1.ext hx, h2.ext hx, h3, h4, h5, h6.trans' hx⟩
theorem TwoD.to (h : TwoD w0 w g g2 d e) : Ext w0 w := by obtain ⟨S, S2, h1, h2, h3, h4, h5, h6⟩ := h; exact h6
theorem TwoD.mp {S S2 : Nat → Prop} {x : Int × DS} {en : Ending} (h1 : DR w g S d) (h2 : ER w g2 S2 e) (h3 : ∀ k, S k → ¬ S2 k) (h4 : ∀ k, S k → w0.heap.size ≤ k) (h5 : ∀ k, S2 k → w0.heap.size ≤ k) (h6 : Ext w0 w) (hm : MP w g S x en w') :
    ER w' g2 S2 e ∧ (∀ k, more S w w' k → ¬ S2 k) ∧ (∀ k, more S w w' k → w0.heap.size ≤ k) ∧ Ext w0 w' := by
  refine ⟨h2.keeps hm.2.2 (fun k hk hs => h3 k hs hk), fun k hk hk2 => ?_, fun k hk => ?_, hm.2.2.ext h6 h4⟩
  · rcases hk with hk | hk
    · exact h3 k hk hk2
    · have := h2.bd k hk2; omega
  · rcases hk with hk | hk
    · exact h4 k hk
    · have := h6.size; omega
theorem TwoD.ep {S S2 : Nat → Prop} {x : Int × DS} {en : Ending} (h1 : DR w g S d) (h2 : ER w g2 S2 e) (h3 : ∀ k, S k → ¬ S2 k) (h4 : ∀ k, S k → w0.heap.size ≤ k) (h5 : ∀ k, S2 k → w0.heap.size ≤ k) (h6 : Ext w0 w) (hm : EP w g2 S2 x en w') :
    DR w' g S d ∧ (∀ k, S k → ¬ more S2 w w' k) ∧ (∀ k, more S2 w w' k → w0.heap.size ≤ k) ∧ Ext w0 w' := by
  refine ⟨h1.keeps hm.2.2 h3, fun k hk hk2 => ?_, fun k hk => ?_, hm.2.2.ext h6 h5⟩
  · rcases hk2 with hk2 | hk2
    · exact h3 k hk hk2
    · have := h1.bd k hk; omega
  · rcases hk with hk | hk
    · exact h5 k hk
    · have := h6.size; omega
theorem TwoD.prog (x : Int × DS) (h : TwoD w0 w g g2 d e) (hc : ∀ S, DR w g S d → Calls Try.prog f args w (MP w g S x)) : Calls Try.prog f args w (fun en w' => en = .returned (.int .i64 x.1) ∧ TwoD w0 w' g g2 x.2 e) := by
  obtain ⟨S, S2, h1, h2, h3, h4, h5, h6⟩ := h
  refine (hc S h1).mono ?_
  intro en w' hm
  obtain ⟨q1, q2, q3, q4⟩ := TwoD.mp h1 h2 h3 h4 h5 h6 hm
  exact ⟨hm.1, more S w w', S2, hm.2.1, q1, q2, q3, h5, q4⟩
theorem TwoD.ref (x : Int × DS) (h : TwoD w0 w g g2 d e) (hc : ∀ S, ER w g2 S e → Calls Try.prog f args w (EP w g2 S x)) : Calls Try.prog f args w (fun en w' => en = .returned (.int .i64 x.1) ∧ TwoD w0 w' g g2 d x.2) := by
  obtain ⟨S, S2, h1, h2, h3, h4, h5, h6⟩ := h
  refine (hc S2 h2).mono ?_
  intro en w' hm
  obtain ⟨q1, q2, q3, q4⟩ := TwoD.ep h1 h2 h3 h4 h5 h6 hm
  exact ⟨hm.1, S, more S2 w w', q1, hm.2.1, q2, h4, q3, q4⟩
theorem TwoD.useD {R : Ending → World → Prop} (h : TwoD w0 w g g2 d e) (hc : ∀ S, DR w g S d → Calls Try.prog f args w R) : Calls Try.prog f args w R := by
  obtain ⟨S, S2, h1, _⟩ := h
  exact hc S h1
theorem TwoD.cellE (h : TwoD w0 w g g2 d e) : ∃ A c E cE, Blk w g2 50 #[.slice A e.all.length c, .int .i64 e.s.length, .slice E e.ws.length cE, .bool (!e.up)] ∧ Bs w A e.all ∧ e.all.length ≤ c := by
  obtain ⟨S, S2, h1, h2, _⟩ := h
  obtain ⟨A, c, E, cE, q1, ⟨q2, q3, _⟩, _⟩ := h2.at_
  exact ⟨A, c, E, cE, q1, q2, q3⟩
/-- Nothing but other blocks turned. -/
theorem TwoD.keeps {X : Nat → Prop} (h : TwoD w0 w g g2 d e) (hk : Keeps w w' X) (hX : ∀ S S2, DR w g S d → ER w g2 S2 e → ∀ k, S k ∨ S2 k → ¬ X k) (hx : Ext w0 w') : TwoD w0 w' g g2 d e := by
  obtain ⟨S, S2, h1, h2, h3, h4, h5, h6⟩ := h
  exact ⟨S, S2, h1.keeps hk (fun k hs => hX S S2 h1 h2 k (.inl hs)), h2.keeps hk (fun k hs => hX S S2 h1 h2 k (.inr hs)), h3, h4, h5, hx⟩
end
section
variable {P : Program} {ops : Array Oper} {Q : Exit → (Nat → Value) → World → Prop} {rest : List Oper} {e : Nat → Value} {w : World} {d : Tmp} {ty : TypeId} {pos : String} {aft : Array Edge}
theorem OW_eqlTr {x y : Operand} {t t' : TypeId} {k : IntKind} {a b : Int} (hx : ev e x = .int k a) (hy : ev e y = .int k b) (hab : a = b) (h : OW P ops Q rest (upd e d (.bool true)) w) : OW P ops Q (⟨some d, .binOp .eql t x y t', ty, pos, aft, none⟩ :: rest) e w := by
  refine OW_eql hx hy ?_
  rw [show (a == b) = true by simp [hab]]
  exact h
end
/-- What 'one' comes to. -/
def One6 (w0 : World) (g g2 : Nat) (d : DS) : Ending → World → Prop := fun en w' => en = .returned (.bool true) ∧ TwoD w0 w' g g2 d d
/-- Between the program's call and the reference's. -/
structure Mid6 (w0 w : World) (g g2 g3 : Nat) (S2 : Nat → Prop) (cs : Array Value) (d e : DS) : Prop where
  at_ : ∃ S, DR w g S d ∧ ER w g2 S2 e ∧ (∀ k, S k → ¬ S2 k) ∧ (∀ k, S k → w0.heap.size ≤ k)
  lo2 : ∀ k, S2 k → w0.heap.size ≤ k
  ext : Ext w0 w
  blk : Blk w g3 37 cs
  n3 : ¬ S2 g3
theorem Mid6.fin {w0 w w' : World} {g g2 g3 : Nat} {S2 : Nat → Prop} {cs : Array Value} {d e : DS} {x : Int × DS} {en : Ending} (h : Mid6 w0 w g g2 g3 S2 cs d e) (hm : EP w g2 S2 x en w') : TwoD w0 w' g g2 d x.2 := by
  obtain ⟨S, h1, h2, h3, h4⟩ := h.at_
  obtain ⟨q1, q2, q3, q4⟩ := TwoD.ep h1 h2 h3 h4 h.lo2 h.ext hm
  exact ⟨S, more S2 w w', q1, hm.2.1, q2, h4, q3, q4⟩
set_option maxHeartbeats 8000000 in
theorem one6_any (w0 w : World) (g g2 : Nat) (d : DS) (h : TwoD w0 w g g2 d d) (f : AD) (A : Option Addr) (c : Nat) (hok : AOk w0 f A c) (hl : d.all.length + f.B.length ≤ 100000) (hn : d.ws.length ≤ 100000) :
    Calls Try.prog 33 #[.pointer (some ⟨g, 0, none⟩), .pointer (some ⟨g2, 0, none⟩), .agg (acells f (.slice A f.B.length c)).toArray] w (One6 w0 g g2 (dAct d f).2) := by
  obtain ⟨S, S2, h1, h2, h3, h4, h5, h6⟩ := h
  have bd1 := h1.bd
  have bd2 := h2.bd
  refine calls_of_CW Try.func33 rfl (by simp [Try.ntmps33]) ?_
  rw [Try.ntmps33]
  refine go_DskC (k := ?_)
  refine OW_box _ rfl ?_
  intro w1 g3 hb1 hg3 hl3 hx
  have hb1 : Blk w1 g3 37 (acells f (.slice A f.B.length c)).toArray := hb1
  have hx01 := h6.trans' hx
  have hR1 := h1.ext hx
  have hE1 := h2.ext hx
  have n1 : ¬ S g3 := fun hh => by have := bd1 _ hh; omega
  have n2 : ¬ S2 g3 := fun hh => by have := bd2 _ hh; omega
  have mid : ∀ {w2 w3 : World} {x : Int × DS} {en : Ending}, Ext w1 w2 → MP w2 g S x en w3 → Mid6 w0 w3 g g2 g3 S2 (acells f (.slice A f.B.length c)).toArray x.2 d := fun {w2 w3 x en} hx2 hm => by
    obtain ⟨q1, q2, q3, q4⟩ := TwoD.mp (hR1.ext hx2) (hE1.ext hx2) h3 h4 h5 (hx01.trans' hx2) hm
    exact ⟨⟨_, hm.2.1, q1, q2, q3⟩, h5, q4, (hb1.ext hx2).keeps hm.2.2 n1, n2⟩
  have two1 : TwoD w0 w1 g g2 d d := ⟨S, S2, hR1, hE1, h3, h4, h5, hx01⟩
  have m0 : w1.cell? ⟨g3, 0, none⟩ = some (.int .i64 f.kind) := hb1.cell 0
  have m1 : w1.cell? ⟨g3, 1, none⟩ = some (.int .i64 f.n) := hb1.cell 1
  have m2 : w1.cell? ⟨g3, 2, none⟩ = some (.int .i64 f.m) := hb1.cell 2
  have m3 : w1.cell? ⟨g3, 3, none⟩ = some (.slice A f.B.length c) := hb1.cell 3
  clear h1 h2
  refine go_DskC (k := ?_)
  refine CW_meet (fun e' w' => e' 0 = .pointer (some ⟨g, 0, none⟩) ∧ e' 1 = .pointer (some ⟨g2, 0, none⟩) ∧ e' 5 = .pointer (some ⟨g3, 0, none⟩) ∧ e' 16 = .int .i64 f.kind ∧ e' 17 = .bool (decide (f.kind = 0 ∨ f.kind = 1 ∨ f.kind = 2)) ∧ w' = w1) ?_ ?_
  · refine CW_cond _ rfl (fun hh => ?_) (fun hh => ?_)
    · have h0 : f.kind = 0 := by simpa using hh
      rw [hh]
      refine go_DskC (k := ?_)
      exact ⟨rfl, rfl, rfl, rfl, rfl, by rw [decide_eq_true (show f.kind = 0 ∨ f.kind = 1 ∨ f.kind = 2 from .inl h0)]; rfl, rfl⟩
    have h0 : ¬ f.kind = 0 := by simpa using hh
    refine go_DskC (k := ?_)
    refine CW_cond _ rfl (fun hh => ?_) (fun hh => ?_)
    · have h1 : f.kind = 1 := by simpa using hh
      rw [hh]
      refine go_DskC (k := ?_)
      exact ⟨rfl, rfl, rfl, rfl, rfl, by rw [decide_eq_true (show f.kind = 0 ∨ f.kind = 1 ∨ f.kind = 2 from .inr (.inl h1))]; rfl, rfl⟩
    have h1 : ¬ f.kind = 1 := by simpa using hh
    refine go_DskC (k := ?_)
    refine ⟨rfl, rfl, rfl, rfl, rfl, ?_, rfl⟩
    show Value.bool _ = _
    by_cases h2 : f.kind = 2 <;> simp [h0, h1, h2]
  rintro e2 w2 ⟨q0, q1, q5, q16, q17, rfl⟩
  rw [upd_self q0, upd_self q1, upd_self q5, upd_self q16, upd_self q17]
  refine go_DskC (k := ?_)
  refine CW_cond _ rfl (fun hh => ?_) (fun hh => ?_)
  · have hk : f.kind = 0 ∨ f.kind = 1 ∨ f.kind = 2 := of_decide_eq_true hh
    rw [show dAct d f = dWrite d f.B by unfold dAct; rw [if_pos hk]]
    clear hh
    refine go_DskC (k := ?_)
    refine OW_callBs Try.func57 (by kernel_rfl) rfl (refCopy_any _ A f.B c (hok.bs.ext hx01) (by omega)) rfl ?_
    intro w3 X cX hX
    have hbX := own_block hX.own
    have hs1 := hx.size
    have oX : ∀ ad, X = some ad → ¬ S ad.block ∧ ¬ S2 ad.block := fun ad ha => ⟨fun hh => by have := bd1 _ hh; have := (hbX ad ha).1; omega, fun hh => by have := bd2 _ hh; have := (hbX ad ha).1; omega⟩
    refine go_DskC (k := ?_)
    refine OW_callC Try.func23 (by kernel_rfl) rfl (dWrite_any w3 g S d (hR1.ext hX.ext) (by omega) X cX f.B hX.bs (by omega)) rfl ?_
    intro en w4 hm
    obtain ⟨p1, p2, p3, p4⟩ := TwoD.mp (hR1.ext hX.ext) (hE1.ext hX.ext) h3 h4 h5 (hx01.trans' hX.ext) hm
    have hR4 := hm.2.1
    have oX4 := own_keeps hX.own hm.2.2 (fun ad ha => (oX ad ha).1)
    have hb4 := (hb1.ext hX.ext).keeps hm.2.2 n1
    have oS4 : ∀ ad, X = some ad → ¬ more S w3 w4 ad.block := fun ad ha hh => by
      rcases hh with hh | hh
      · exact (oX ad ha).1 hh
      · have := (hbX ad ha).2; omega
    have s34 := hm.2.2.size
    refine ⟨_, hm.1, ?_⟩
    have m34 : w4.cell? ⟨g3, 3, none⟩ = some (.slice A f.B.length c) := hb4.cell 3
    generalize more S w3 w4 = Sa at *
    clear hm
    refine go_DskC (k := ?_)
    refine OW_callC Try.func58 (by kernel_rfl) rfl (eWrite_any w4 g2 S2 d p1 A c f.B (hok.bs.ext p4) (by omega) (by omega)) rfl ?_
    intro en w5 hm
    obtain ⟨r1, r2, r3, r4⟩ := TwoD.ep hR4 p1 p2 p3 h5 p4 hm
    have hE5 := hm.2.1
    have oX5 := own_keeps oX4 hm.2.2 (fun ad ha => (oX ad ha).2)
    have hb5 := hb4.keeps hm.2.2 n2
    have oS5 : ∀ ad, X = some ad → ¬ more S2 w4 w5 ad.block := fun ad ha hh => by
      rcases hh with hh | hh
      · exact (oX ad ha).2 hh
      · have := (hbX ad ha).2; omega
    have m35 : w5.cell? ⟨g3, 3, none⟩ = some (.slice A f.B.length c) := hb5.cell 3
    refine ⟨_, hm.1, ?_⟩
    generalize more S2 w4 w5 = Sb at *
    clear hm hb4 p1 hR4 m34 hb5
    refine go_DskC (k := ?_)
    refine OW_callV Try.func32 (by kernel_rfl) rfl (refSame_any w5 X A f.B f.B cX c (own_rd oX5) (hok.bs.ext r4) (by omega)) rfl ?_
    intro w6 hx6
    rw [beq_self_eq_true]
    have oX6 := own_ext oX5 hx6
    have hx06 := r4.trans' hx6
    have hs2 := hx01.size
    refine go_DskC (k := ?_)
    refine CW_loop (fun e' w' => ∃ (k : Nat) (zs : List UInt8), k ≤ f.B.length ∧ zs.length = f.B.length ∧ e' 7 = .slice X f.B.length cX ∧ e' 10 = .int .i64 k ∧ e' 9 = .bool true ∧ w'.ownsRow w2.heap.size 5 1 (.slice X f.B.length cX) f.B.length (zs.map bv) ∧ w6.grownBy w' (Value.ownBlock (.slice X f.B.length cX))) (fun e' _ => f.B.length - (intOf (e' 10)).toNat) ?_ ?_
    · exact ⟨0, f.B, Nat.zero_le _, rfl, rfl, rfl, rfl, oX6, World.grownBy.refl _ _⟩
    rintro ea wa ⟨ka, za, hak, haz, has, hai, qa_9, hao, hag⟩
    rw [upd_self has, upd_self hai, upd_self qa_9]
    refine go_DskC (k := ?_)
    refine CW_cond _ rfl (fun hh => ?_) (fun _ => ?_)
    · have hlt : ka < f.B.length := by simpa using hh
      obtain ⟨g, cur, hA, hg, _⟩ := own_blk hao (by omega)
      subst hA
      have hcell := inc_cell hao haz hlt
      have hst := inc_step hao haz hlt (za[ka]'(by omega) + 1)
      refine go_DskC (k := ?_)
      rw [inc_u8]
      refine go_DskC (k := ?_)
      rw [add0] at hcell ⊢
      refine OW_store1 one_u8 rfl (bv (za[ka]'(by omega) + 1)) (bv (za[ka]'(by omega))) rfl rfl hcell (hao.frozenAt ka) ?_
      refine go_DskC (k := ?_)
      refine ⟨⟨ka + 1, _, by omega, by simp [haz], rfl, rfl, rfl, hst.1, grown_trans' hag hst.2⟩, ?_⟩
      show f.B.length - ((ka : Int) + 1).toNat < f.B.length - (ka : Int).toNat
      omega
    refine go_DskC (k := ?_)
    have hKa : Keeps w6 wa (fun k => ∃ ad, X = some ad ∧ ad.block = k) := Keeps.of_grown hag (fun g hg => by
      cases X with
      | none => cases hg
      | some ad => cases hg; exact ⟨ad, rfl, rfl⟩)
    exact bodyE_ret1 rfl (.bool true) rfl ⟨rfl, Sa, Sb, (r1.ext hx6).keeps hKa (fun k hk ⟨ad, ha, hh⟩ => oS4 ad ha (hh ▸ hk)), (hE5.ext hx6).keeps hKa (fun k hk ⟨ad, ha, hh⟩ => oS5 ad ha (hh ▸ hk)), r2, p3, r3, hKa.ext hx06 (fun k ⟨ad, ha, hh⟩ => by have := (hbX ad ha).1; omega)⟩
  have k0 : ¬ (f.kind = 0 ∨ f.kind = 1 ∨ f.kind = 2) := of_decide_eq_false hh
  clear hh
  refine go_DskC (k := ?_)
  refine CW_cond _ rfl (fun hh => ?_) (fun hh => ?_)
  · have hk : f.kind = 3 := by simpa using hh
    rw [show dAct d f = dSync d by unfold dAct; rw [if_neg k0, if_pos hk]]
    refine go_DskC (k := ?_)
    refine OW_callC Try.func24 (by kernel_rfl) rfl (dSync_any w2 g S d hR1 (by omega) (by omega)) rfl ?_
    intro en w4 hm
    have hM := mid (Ext.rfl' _) hm
    refine ⟨_, hm.1, ?_⟩
    have hE4 : ER w4 g2 S2 d := by obtain ⟨_, _, q, _⟩ := hM.at_; exact q
    clear hm
    refine go_DskC (k := ?_)
    refine OW_callC Try.func59 (by kernel_rfl) rfl (eSync_any w4 g2 S2 d hE4) rfl ?_
    intro en w5 hm
    have hF := hM.fin hm
    refine ⟨_, hm.1, ?_⟩
    refine go_DskC (k := ?_)
    exact bodyE_ret1 rfl (.bool true) rfl ⟨rfl, hF⟩
  have k3 : ¬ f.kind = 3 := by simpa using hh
  clear hh
  refine go_DskC (k := ?_)
  refine CW_cond _ rfl (fun hh => ?_) (fun hh => ?_)
  · have hk : f.kind = 4 := by simpa using hh
    rw [show dAct d f = dCrash d f.n f.m by unfold dAct; rw [if_neg k0, if_neg k3, if_pos hk]]
    refine go_DskC (k := ?_)
    refine OW_callC Try.func25 (by kernel_rfl) rfl (dCrash_any w2 g S d hR1 (by omega) (by omega) f.n f.m hok.n hok.m) rfl ?_
    intro en w4 hm
    have hM := mid (Ext.rfl' _) hm
    refine ⟨_, hm.1, ?_⟩
    have hE4 : ER w4 g2 S2 d := by obtain ⟨_, _, q, _⟩ := hM.at_; exact q
    have m14 : w4.cell? ⟨g3, 1, none⟩ = some (.int .i64 f.n) := hM.blk.cell 1
    have m24 : w4.cell? ⟨g3, 2, none⟩ = some (.int .i64 f.m) := hM.blk.cell 2
    clear hm
    refine go_DskC (k := ?_)
    refine OW_callC Try.func60 (by kernel_rfl) rfl (eCrash_any w4 g2 S2 d hE4 f.n f.m hok.n hok.m (by omega) (by omega)) rfl ?_
    intro en w5 hm
    have hF := hM.fin hm
    refine ⟨_, hm.1, ?_⟩
    refine go_DskC (k := ?_)
    exact bodyE_ret1 rfl (.bool true) rfl ⟨rfl, hF⟩
  have k4 : ¬ f.kind = 4 := by simpa using hh
  clear hh
  refine go_DskC (k := ?_)
  refine CW_meet (fun e' w' => e' 0 = .pointer (some ⟨g, 0, none⟩) ∧ e' 1 = .pointer (some ⟨g2, 0, none⟩) ∧ e' 5 = .pointer (some ⟨g3, 0, none⟩) ∧ e' 16 = .int .i64 f.kind ∧ e' 76 = .bool (decide (f.kind = 5 ∨ f.kind = 6)) ∧ w' = w2) ?_ ?_
  · refine CW_cond _ rfl (fun hh => ?_) (fun hh => ?_)
    · have h5 : f.kind = 5 := by simpa using hh
      rw [hh]
      refine go_DskC (k := ?_)
      exact ⟨rfl, rfl, rfl, rfl, rfl, by rw [decide_eq_true (show f.kind = 5 ∨ f.kind = 6 from .inl h5)]; rfl, rfl⟩
    have h5 : ¬ f.kind = 5 := by simpa using hh
    refine go_DskC (k := ?_)
    refine ⟨rfl, rfl, rfl, rfl, rfl, ?_, rfl⟩
    show Value.bool _ = _
    by_cases h6 : f.kind = 6 <;> simp [h5, h6]
  rintro e3 w3 ⟨q0, q1, q5, q16, q76, rfl⟩
  rw [upd_self q0, upd_self q1, upd_self q5, upd_self q16, upd_self q76]
  refine go_DskC (k := ?_)
  refine CW_cond _ rfl (fun hh => ?_) (fun hh => ?_)
  · have hk : f.kind = 5 ∨ f.kind = 6 := of_decide_eq_true hh
    rw [show dAct d f = dStart d by unfold dAct; rw [if_neg k0, if_neg k3, if_neg k4, if_pos hk]]
    refine go_DskC (k := ?_)
    refine OW_callC Try.func26 (by kernel_rfl) rfl (dStart_any w3 g S d hR1) rfl ?_
    intro en w4 hm
    have hM := mid (Ext.rfl' _) hm
    refine ⟨_, hm.1, ?_⟩
    have hE4 : ER w4 g2 S2 d := by obtain ⟨_, _, q, _⟩ := hM.at_; exact q
    clear hm
    refine go_DskC (k := ?_)
    refine OW_callC Try.func61 (by kernel_rfl) rfl (eStart_any w4 g2 S2 d hE4) rfl ?_
    intro en w5 hm
    have hF := hM.fin hm
    refine ⟨_, hm.1, ?_⟩
    refine go_DskC (k := ?_)
    exact bodyE_ret1 rfl (.bool true) rfl ⟨rfl, hF⟩
  have k5 : ¬ (f.kind = 5 ∨ f.kind = 6) := of_decide_eq_false hh
  clear hh
  refine go_DskC (k := ?_)
  refine CW_cond _ rfl (fun hh => ?_) (fun hh => ?_)
  · have hk : f.kind = 7 := by simpa using hh
    rw [show dAct d f = dCut d f.n by unfold dAct; rw [if_neg k0, if_neg k3, if_neg k4, if_neg k5, if_pos hk]]
    refine go_DskC (k := ?_)
    refine OW_callC Try.func27 (by kernel_rfl) rfl (dCut_any w3 g S d hR1 (by omega) (by omega) f.n) rfl ?_
    intro en w4 hm
    have hM := mid (Ext.rfl' _) hm
    refine ⟨_, hm.1, ?_⟩
    have hE4 : ER w4 g2 S2 d := by obtain ⟨_, _, q, _⟩ := hM.at_; exact q
    have m14 : w4.cell? ⟨g3, 1, none⟩ = some (.int .i64 f.n) := hM.blk.cell 1
    clear hm
    refine go_DskC (k := ?_)
    refine OW_callC Try.func62 (by kernel_rfl) rfl (eCut_any w4 g2 S2 d hE4 f.n (by omega)) rfl ?_
    intro en w5 hm
    have hF := hM.fin hm
    refine ⟨_, hm.1, ?_⟩
    refine go_DskC (k := ?_)
    exact bodyE_ret1 rfl (.bool true) rfl ⟨rfl, hF⟩
  have k7 : ¬ f.kind = 7 := by simpa using hh
  rw [show dAct d f = (0, d) by unfold dAct; rw [if_neg k0, if_neg k3, if_neg k4, if_neg k5, if_neg k7]]
  refine go_DskC (k := ?_)
  exact bodyE_ret1 rfl (.bool true) rfl ⟨rfl, two1⟩
end Go.Proofs.Ytnfeibbnjdegfaa

/- Walks: a wal on a disk that was made: New, ready, Add, Sync, records. -/
namespace Go.Proofs.Ytnfeibbnjdegfaa
open Go Go.RowKit
set_option linter.unusedVariables false
set_option maxRecDepth 4000
theorem go_Wal1 {A B : Prop} (h : Held B → A := by
  intro hEnd
  repeat (first | refine OW_nilCheck rfl ?_ | refine OW_fieldB fldo_V0 rfl ?_ | refine OW_eqlNil und_pV rfl ?_ | refine OW_eqlNil und_pD rfl ?_ | refine OW_moveV (.int _ _) rfl ?_ | refine OW_moveV (.slice _ _ _) rfl ?_ | refine OW_moveV (.bool _) rfl ?_ | refine OW_moveV (.pointer _) rfl ?_ | refine OW_moveV (.string _) rfl ?_ | refine OW_moveV (.agg _) rfl ?_ | refine OW_moveV (.tuple _) rfl ?_ | refine OW_nil ?_ | refine thenE_normal ?_ | refine CW_seq ?_ | refine CW_region (by kernel_rfl) ?_ | refine OW_assignV (.int _ _) rfl ?_ | refine OW_assignV (.slice _ _ _) rfl ?_ | refine OW_assignV (.bool _) rfl ?_ | refine OW_assignV (.pointer _) rfl ?_ | refine OW_assignV (.string _) rfl ?_ | refine OW_assignV (.agg _) rfl ?_ | refine OW_assignV (.tuple _) rfl ?_ | refine OW_addI rfl rfl (by omega) ?_ | refine OW_subI rfl rfl (by omega) ?_ | refine OW_mulI rfl rfl (by omega) ?_ | refine OW_lss rfl rfl ?_ | refine OW_extract rfl rfl ?_ | refine OW_gtr rfl rfl ?_ | refine OW_leq rfl rfl ?_ | refine OW_geq rfl rfl ?_ | refine OW_eql rfl rfl ?_ | refine OW_neq rfl rfl ?_ | refine OW_not rfl ?_ | refine OW_pickT rfl _ rfl ?_ | refine OW_pickF rfl (.bool _) rfl ?_ | refine OW_pickB rfl rfl rfl ?_ | refine OW_move ?_ | refine OW_assign ?_ | refine OW_pass rfl ?_ | refine OW_take rfl ?_ | refine OW_lenS (by first | with_reducible exact und_bytes | with_reducible exact und_bytess) rfl ?_ | refine OW_convInt (by first | with_reducible exact und_u8 | with_reducible exact und_u64 | with_reducible exact und_int | with_reducible exact und_u32) (by first | with_reducible exact und_u8 | with_reducible exact und_u64 | with_reducible exact und_int | with_reducible exact und_u32) rfl ?_ | refine OW_add rfl rfl ?_ | refine OW_sub rfl rfl ?_ | refine OW_mul rfl rfl ?_ | refine OW_min2 rfl rfl ?_ | refine OW_max2 rfl rfl ?_ | refine OW_neg rfl ?_ | refine CW_block ?_ | refine CW_condT rfl ?_ | refine CW_condF rfl ?_ | refine CW_exit ?_ | refine CW_ret ?_ | refine CW_skip ?_ | refine LW_seq ?_ | refine LW_regC ?_ | refine LW_condC ?_ | refine LW_regF ?_ | refine LW_condF ?_ | refine FW_seq ?_ | refine FW_region (by kernel_rfl) ?_ | refine FW_block ?_ | refine FW_condT rfl ?_ | refine FW_condF rfl ?_ | refine FW_exit ?_ | refine FW_ret ?_ | refine FW_skip ?_ | refine LW_ret ?_ | refine LW_skip ?_ | refine thenE_exit ?_ | refine thenE_ret ?_ | refine inBlockE_normal ?_ | refine inBlockE_same ?_ | refine inBlockE_ret ?_ | refine inBlockE_ne (by rfl) ?_ | refine OW_eqlB (by with_reducible exact und_bool) rfl rfl ?_ | refine OW_neqB (by with_reducible exact und_bool) rfl rfl ?_ | refine OW_idxS (by with_reducible exact und_bytes) one_u8 rfl rfl _ rfl (by omega) ?_ | refine OW_idxS (by with_reducible exact und_bytess) one_bytes rfl rfl _ rfl (by omega) ?_ | refine OW_load1 (by first | with_reducible exact one_u8 | with_reducible exact one_bytes) rfl _ (by assumption) ?_ | refine OW_load1 d_ptr rfl _ (by assumption) ?_ | refine OW_load1 v_ptr rfl _ (by assumption) ?_ | (refine OW_isLoad ?_; refine OW_loadBk d_ptr rfl (by assumption) _ rfl ?_))
  exact hEnd.out) (k : B) : A := h ⟨k⟩
theorem und_pV : Try.prog.underlying 27 = some (.pointer 61) := Try.underlying27
theorem fldo_V0 : FldO Try.prog 61 0 0 := ⟨fun w a => by kernel_rfl⟩
theorem v_ptr : OneT Try.prog 27 := ⟨.pointer none, 8, by kernel_rfl, rfl, by kernel_rfl⟩
theorem bld_V1 : ∀ w A, (Instr.build 61 [(0, .pointer A)].toArray).run Try.prog w = .ok (.agg #[.pointer A]) w := fun w A => by kernel_rfl
/-- A wal at block v, on a disk at block g. -/
abbrev VB (w : World) (v g : Nat) : Prop := Blk w v 61 #[.pointer (some ⟨g, 0, none⟩)]
set_option maxHeartbeats 8000000 in
theorem walNew_any (w : World) (A : Option Addr) : Calls Try.prog 16 #[.pointer A] w (fun en w' => ∃ v, en = .returned (.pointer (some ⟨v, 0, none⟩)) ∧ Blk w' v 61 #[.pointer A] ∧ w.heap.size ≤ v ∧ v < w'.heap.size ∧ Ext w w') := by
  refine calls_of_CW Try.func16 rfl (by simp [Try.ntmps16]) ?_
  rw [Try.ntmps16]
  refine go_Wal1 (k := ?_)
  refine OW_build _ _ (fun w => bld_V1 w A) rfl ?_
  refine go_Wal1 (k := ?_)
  refine OW_box _ rfl ?_
  intro w1 v hb hv hl hx
  refine go_Wal1 (k := ?_)
  exact bodyE_ret1 rfl (.pointer (some ⟨v, 0, none⟩)) rfl ⟨v, rfl, hb, hv, hl, hx⟩
def rdyE (d : DS) : Int := if d.up then 0 else 60
set_option maxHeartbeats 8000000 in
theorem ready_any (w : World) (v g : Nat) (S : Nat → Prop) (d : DS) (h : DR w g S d) (hv : VB w v g) (hn : d.ws.length ≤ 1000000) :
    Calls Try.prog 45 #[.pointer (some ⟨v, 0, none⟩)] w (MP w g S (rdyE d, d)) := by
  have hbd := h.bd
  refine calls_of_CW Try.func45 rfl (by simp [Try.ntmps45]) ?_
  rw [Try.ntmps45]
  refine go_Wal1 (k := ?_)
  rw [show (some (⟨v, 0, none⟩ : Addr)).isNone = false from rfl]
  refine go_Wal1 (k := ?_)
  rw [show (some (⟨g, 0, none⟩ : Addr)).isNone = false from rfl]
  refine go_Wal1 (k := ?_)
  refine OW_callV Try.func31 (by kernel_rfl) rfl (dUp_any w g S d h) rfl ?_
  intro w1 hx1
  have hv1 := hv.ext hx1
  unfold rdyE
  cases hu : d.up
  · refine go_Wal1 (k := ?_)
    have hW := dWrite_any w1 g S d (h.ext hx1) hn none 0 [] (Bs.nil _ _) (by decide)
    rw [show dWrite d [] = (60, d) by unfold dWrite; rw [hu]; rfl] at hW
    refine OW_callC Try.func23 (by kernel_rfl) rfl hW rfl ?_
    rintro en w2 hm
    refine ⟨_, hm.1, ?_⟩
    refine go_Wal1 (k := ?_)
    exact bodyE_ret1 rfl (.int .i64 60) rfl (by have := hm.of hx1 hbd; rw [hm.1] at this; exact this)
  · refine go_Wal1 (k := ?_)
    exact bodyE_ret1 rfl (.int .i64 0) rfl (MP.stay h hx1 0)
set_option maxHeartbeats 8000000 in
theorem vAdd_any (w : World) (v g : Nat) (S : Nat → Prop) (d : DS) (h : DR w g S d) (hv : VB w v g) (hvS : ¬ S v) (hn : d.ws.length ≤ 1000000) (A : Option Addr) (c : Nat) (b : List UInt8) (hb : ∀ u, Keeps w u S → Bs u A b) (hl : b.length ≤ 65536) :
    Calls Try.prog 17 #[.pointer (some ⟨v, 0, none⟩), .slice A b.length c] w (MP w g S (dWrite d (frameB b))) := by
  have hbd := h.bd
  have hvl := hv.lt
  refine calls_of_CW Try.func17 rfl (by simp [Try.ntmps17]) ?_
  rw [Try.ntmps17]
  refine go_Wal1 (k := ?_)
  refine OW_callC Try.func45 (by kernel_rfl) rfl (ready_any w v g S d h hv hn) rfl ?_
  rintro en w1 hm
  refine ⟨_, hm.1, ?_⟩
  obtain ⟨_, hd1, hk1⟩ := hm
  have hd1 : DR w1 g (more S w w1) d := hd1
  have hv1 := hv.keeps hk1 hvS
  have hb1 := hb w1 hk1
  rw [show (rdyE d, d).1 = rdyE d from rfl]
  unfold rdyE
  cases hu : d.up
  · rw [show dWrite d (frameB b) = (60, d) by unfold dWrite; rw [hu]; rfl]
    refine go_Wal1 (k := ?_)
    exact bodyE_ret1 rfl (.int .i64 60) rfl ⟨rfl, hd1, hk1⟩
  · refine go_Wal1 (k := ?_)
    have hfs := fseal_any w1 A c b hb1 hl
    have hfl : (frameB b).length ≤ 1000000 := by rw [frameB_length]; omega
    generalize frameB b = F at *
    refine OW_callC Try.func46 (by kernel_rfl) rfl hfs rfl ?_
    rintro en w2 ⟨A2, c2, rfl, hf2⟩
    refine ⟨_, rfl, ?_⟩
    have hv2 := hv1.ext hf2.ext
    have hb2 := hf2.bs
    refine go_Wal1 (k := ?_)
    refine OW_callC Try.func23 (by kernel_rfl) rfl (dWrite_any w2 g _ d (hd1.ext hf2.ext) hn A2 c2 F hb2 hfl) rfl ?_
    rintro en w3 hm3
    refine ⟨_, hm3.1, ?_⟩
    obtain ⟨_, hd3, hk3⟩ := hm3
    have z1 := hk1.size
    have z2 := hf2.ext.size
    have z3 := hk3.size
    refine go_Wal1 (k := ?_)
    refine bodyE_ret1 rfl (.int .i64 (dWrite d F).1) rfl ⟨rfl, hd3.mono (fun k hk => ?_) (fun k hk => ?_), ?_⟩
    · rcases hk with hk | hk
      · rcases hk with hk | hk
        · exact .inl hk
        · exact .inr ⟨hk.1, by omega⟩
      · exact .inr ⟨by omega, hk.2⟩
    · rcases hk with hk | hk
      · have := hbd k hk; omega
      · exact hk.2
    · exact hk1.trans_more ((Keeps.of_ext hf2.ext _).trans' hk3)
set_option maxHeartbeats 8000000 in
theorem vSync_any (w : World) (v g : Nat) (S : Nat → Prop) (d : DS) (h : DR w g S d) (hv : VB w v g) (hvS : ¬ S v) (hl : d.all.length ≤ 1000000) (hn : d.ws.length ≤ 1000000) :
    Calls Try.prog 20 #[.pointer (some ⟨v, 0, none⟩)] w (MP w g S (dSync d)) := by
  have hbd := h.bd
  refine calls_of_CW Try.func20 rfl (by simp [Try.ntmps20]) ?_
  rw [Try.ntmps20]
  refine go_Wal1 (k := ?_)
  refine OW_callC Try.func45 (by kernel_rfl) rfl (ready_any w v g S d h hv hn) rfl ?_
  rintro en w1 hm
  refine ⟨_, hm.1, ?_⟩
  obtain ⟨_, hd1, hk1⟩ := hm
  have hd1 : DR w1 g (more S w w1) d := hd1
  have hv1 := hv.keeps hk1 hvS
  rw [show (rdyE d, d).1 = rdyE d from rfl]
  unfold rdyE
  cases hu : d.up
  · rw [show dSync d = (60, d) by unfold dSync; rw [hu]; rfl]
    refine go_Wal1 (k := ?_)
    exact bodyE_ret1 rfl (.int .i64 60) rfl ⟨rfl, hd1, hk1⟩
  · refine go_Wal1 (k := ?_)
    refine OW_callC Try.func24 (by kernel_rfl) rfl (dSync_any w1 g _ d hd1 hl hn) rfl ?_
    rintro en w3 hm3
    refine ⟨_, hm3.1, ?_⟩
    obtain ⟨_, hd3, hk3⟩ := hm3
    have z1 := hk1.size
    have z3 := hk3.size
    refine go_Wal1 (k := ?_)
    refine bodyE_ret1 rfl (.int .i64 (dSync d).1) rfl ⟨rfl, hd3.mono (fun k hk => ?_) (fun k hk => ?_), hk1.trans_more hk3⟩
    · rcases hk with hk | hk
      · rcases hk with hk | hk
        · exact .inl hk
        · exact .inr ⟨hk.1, by omega⟩
      · exact .inr ⟨by omega, hk.2⟩
    · rcases hk with hk | hk
      · have := hbd k hk; omega
      · exact hk.2
end Go.Proofs.Ytnfeibbnjdegfaa

/- Walks: a disk's records, one after the other. -/
namespace Go.Proofs.Ytnfeibbnjdegfaa
open Go Go.RowKit
set_option linter.unusedVariables false
set_option maxRecDepth 4000
theorem go_Wal2 {A B : Prop} (h : Held B → A := by
  intro hEnd
  repeat (first | refine OW_nilCheck rfl ?_ | refine OW_fieldB fldo_V0 rfl ?_ | refine OW_eqlNil und_pV rfl ?_ | refine OW_eqlNil und_pD rfl ?_ | refine OW_moveV (.int _ _) rfl ?_ | refine OW_moveV (.slice _ _ _) rfl ?_ | refine OW_moveV (.bool _) rfl ?_ | refine OW_moveV (.pointer _) rfl ?_ | refine OW_moveV (.string _) rfl ?_ | refine OW_moveV (.agg _) rfl ?_ | refine OW_moveV (.tuple _) rfl ?_ | refine OW_nil ?_ | refine thenE_normal ?_ | refine CW_seq ?_ | refine CW_region (by kernel_rfl) ?_ | refine OW_assignV (.int _ _) rfl ?_ | refine OW_assignV (.slice _ _ _) rfl ?_ | refine OW_assignV (.bool _) rfl ?_ | refine OW_assignV (.pointer _) rfl ?_ | refine OW_assignV (.string _) rfl ?_ | refine OW_assignV (.agg _) rfl ?_ | refine OW_assignV (.tuple _) rfl ?_ | refine OW_addI rfl rfl (by omega) ?_ | refine OW_subI rfl rfl (by omega) ?_ | refine OW_mulI rfl rfl (by omega) ?_ | refine OW_lss rfl rfl ?_ | refine OW_extract rfl rfl ?_ | refine OW_gtr rfl rfl ?_ | refine OW_leq rfl rfl ?_ | refine OW_geq rfl rfl ?_ | refine OW_eql rfl rfl ?_ | refine OW_neq rfl rfl ?_ | refine OW_not rfl ?_ | refine OW_pickT rfl _ rfl ?_ | refine OW_pickF rfl (.bool _) rfl ?_ | refine OW_pickB rfl rfl rfl ?_ | refine OW_move ?_ | refine OW_assign ?_ | refine OW_pass rfl ?_ | refine OW_take rfl ?_ | refine OW_lenS (by first | with_reducible exact und_bytes | with_reducible exact und_bytess) rfl ?_ | refine OW_convInt (by first | with_reducible exact und_u8 | with_reducible exact und_u64 | with_reducible exact und_int | with_reducible exact und_u32) (by first | with_reducible exact und_u8 | with_reducible exact und_u64 | with_reducible exact und_int | with_reducible exact und_u32) rfl ?_ | refine OW_add rfl rfl ?_ | refine OW_sub rfl rfl ?_ | refine OW_mul rfl rfl ?_ | refine OW_min2 rfl rfl ?_ | refine OW_max2 rfl rfl ?_ | refine OW_neg rfl ?_ | refine CW_block ?_ | refine CW_condT rfl ?_ | refine CW_condF rfl ?_ | refine CW_exit ?_ | refine CW_ret ?_ | refine CW_skip ?_ | refine LW_seq ?_ | refine LW_regC ?_ | refine LW_condC ?_ | refine LW_regF ?_ | refine LW_condF ?_ | refine FW_seq ?_ | refine FW_region (by kernel_rfl) ?_ | refine FW_block ?_ | refine FW_condT rfl ?_ | refine FW_condF rfl ?_ | refine FW_exit ?_ | refine FW_ret ?_ | refine FW_skip ?_ | refine LW_ret ?_ | refine LW_skip ?_ | refine thenE_exit ?_ | refine thenE_ret ?_ | refine inBlockE_normal ?_ | refine inBlockE_same ?_ | refine inBlockE_ret ?_ | refine inBlockE_ne (by rfl) ?_ | refine OW_eqlB (by with_reducible exact und_bool) rfl rfl ?_ | refine OW_neqB (by with_reducible exact und_bool) rfl rfl ?_ | refine OW_idxS (by with_reducible exact und_bytes) one_u8 rfl rfl _ rfl (by omega) ?_ | refine OW_idxS (by with_reducible exact und_bytess) one_bytes rfl rfl _ rfl (by omega) ?_ | refine OW_load1 (by first | with_reducible exact one_u8 | with_reducible exact one_bytes) rfl _ (by assumption) ?_ | refine OW_load1 d_ptr rfl _ (by assumption) ?_ | refine OW_load1 v_ptr rfl _ (by assumption) ?_)
  exact hEnd.out) (k : B) : A := h ⟨k⟩
set_option maxHeartbeats 8000000 in
theorem records_any (w : World) (x : Value) (hx : x.cells = #[x]) :
    Calls Try.prog 47 #[x] w (fun en w' => ∃ g, en = .returned (.func (.func 71) #[] #[.pointer (some ⟨g, 0, none⟩)]) ∧ Blk w' g 27 #[x] ∧ w.heap.size ≤ g ∧ Ext w w') := by
  refine calls_of_CW Try.func47 rfl (by simp [Try.ntmps47]) ?_
  rw [Try.ntmps47]
  refine go_Wal2 (k := ?_)
  refine OW_box _ rfl ?_
  intro w1 g hb hg hl hx1
  have hb : Blk w1 g 27 x.cells := hb
  rw [hx] at hb
  refine go_Wal2 (k := ?_)
  refine OW_mkFunc [.pointer (some ⟨g, 0, none⟩)] rfl ?_
  refine go_Wal2 (k := ?_)
  exact bodyE_ret1 rfl _ rfl ⟨g, rfl, hb, hg, hx1⟩
def preR (d : DS) (B0 gB v g : Nat) (S : Nat → Prop) (W : World) : Prop := B0 ≤ W.heap.size ∧ Blk W gB 27 #[.pointer (some ⟨v, 0, none⟩)] ∧ VB W v g ∧ DR W g S d
/-- What the iterator leans on: nothing, but at the beginning. -/
def uR (gB : Nat) (k : Nat) : Prop := k = gB
def uB (A : Option Addr) (n : Nat) (k : Nat) : Prop := 0 < n ∧ ∃ ad, A = some ad ∧ ad.block = k
set_option maxHeartbeats 4000000 in
theorem records_iter (d : DS) (B0 gB v g : Nat) (Sd : Nat → Prop) (hl : d.all.length ≤ 100000) (hn : d.ws.length ≤ 1000000) :
    Iter3 Try.prog 71 [.pointer (some ⟨gB, 0, none⟩)] (fun x : FV => [.int .i64 x.1, sv x.2]) (okF d.all B0) (fun x => bvB x.2) (uR gB) (preR d B0 gB v g Sd) (fun xs => IsAll d.all ((xs.map Prod.snd).map pay)) (fun _ => True) where
  ok := fun S pre x W W' D st ⟨h1, h2, h3, h4⟩ hl hk => ⟨h1.noloop hl hk, h2, h3, h4⟩
  okS := fun S S' pre x W hs ⟨h1, h2, h3, h4⟩ => ⟨h1, h2, h3, fun k hk hS => h4 k hk (hs k hS)⟩
  okG := fun S pre x W k ⟨h1, h2, h3, h4⟩ hk => ⟨(h1.lt hk).2, by
    obtain ⟨ad, ha, hb⟩ := hk
    rcases own_at h1 with h5 | ⟨g, cur, h5, h6⟩
    · rw [h5] at ha; cases ha
    · rw [h5] at ha
      cases ha
      simp only at hb
      subst hb
      exact ⟨_, _, _, h6⟩⟩
  run := by
    intro l J Jx S0 W hP hU hJb hJ hJx hy hJ0
    obtain ⟨hBs, hB0, hV0, hD0⟩ := hP
    have hbytes := dBytes_any W g Sd d hD0 (by omega) hn
    have hS0b := hJb S0 [] W hJ0
    generalize d.all = b at *
    refine calls_of_LW Try.func71 rfl (by simp [Try.ntmps71]) ?_
    refine go_Wal2 (k := ?_)
    refine OW_isLoad ?_
    refine OW_loadBk v_ptr rfl hB0 (.pointer (some ⟨v, 0, none⟩)) rfl ?_
    refine go_Wal2 (k := ?_)
    rw [show (some (⟨v, 0, none⟩ : Addr)).isNone = false from rfl]
    refine go_Wal2 (k := ?_)
    refine OW_isLoad ?_
    refine OW_loadBk v_ptr rfl hB0 (.pointer (some ⟨v, 0, none⟩)) rfl ?_
    refine go_Wal2 (k := ?_)
    refine OW_isLoad ?_
    refine OW_loadBk d_ptr rfl hV0 (.pointer (some ⟨g, 0, none⟩)) rfl ?_
    refine go_Wal2 (k := ?_)
    rw [show (some (⟨g, 0, none⟩ : Addr)).isNone = false from rfl]
    refine go_Wal2 (k := ?_)
    refine OW_isLoad ?_
    refine OW_loadBk v_ptr rfl hB0 (.pointer (some ⟨v, 0, none⟩)) rfl ?_
    refine go_Wal2 (k := ?_)
    refine OW_isLoad ?_
    refine OW_loadBk d_ptr rfl hV0 (.pointer (some ⟨g, 0, none⟩)) rfl ?_
    refine go_Wal2 (k := ?_)
    refine OW_callC Try.func28 (by kernel_rfl) rfl hbytes rfl ?_
    rintro en W1 ⟨A, c, rfl, hc, hfb, hxW⟩
    refine ⟨_, rfl, ?_⟩
    have hb1 := hfb.bs
    have hlen : b.length ≤ 100000 := hl
    have hUA : ∀ k, uB A b.length k → W.heap.size ≤ k ∧ k < W1.heap.size := fun k ⟨h0, ad, ha, hk⟩ => by
      obtain ⟨g1, h5, h6, h7⟩ := hfb.at_ ad ha (by intro h; rw [h] at h0; exact absurd h0 (by decide))
      rw [h5] at hk
      simp only at hk
      omega
    have hsW := hxW.size
    refine go_Wal2 (k := ?_)
    refine LW_codeF (FW_block ?_)
    refine FW_loop (fun e w => ∃ (S : Nat → Prop) (xs : List FV), e 0 = .func (.yield l) #[] #[] ∧ B0 ≤ w.heap.size ∧ e 3 = .slice A b.length c ∧ e 4 = .int .i64 (framesB ((xs.map Prod.snd).map pay)).length ∧ Bs w A b ∧ (∀ k, uB A b.length k → ¬ S k ∧ k < w.heap.size) ∧
      (framesB ((xs.map Prod.snd).map pay)).length ≤ b.length ∧ b.take (framesB ((xs.map Prod.snd).map pay)).length = framesB ((xs.map Prod.snd).map pay) ∧ (∀ q ∈ (xs.map Prod.snd).map pay, q.length ≤ 65536) ∧ J S xs w) (fun e _ => b.length - (intOf (e 4)).toNat) ?_ ?_
    · exact ⟨S0, [], rfl, by omega, rfl, rfl, hb1, fun k hk => ⟨fun hS => by have := hS0b k hS; have := hUA k hk; omega, (hUA k hk).2⟩, by simp [framesB], by simp [framesB], by simp, hJ S0 [] _ _ hJ0 hxW⟩
    rintro e w ⟨S, xs, e0, hBs2, e3, e4, hb, hUS, h1, h2, h3, hj⟩
    rw [upd_self e0, upd_self e3, upd_self e4]
    have hstep := fun v p (hv : pay v = p) => framesB_le (b := b) h1 h2 h3 v hv
    obtain ⟨at_, hat⟩ : ∃ a, (framesB ((xs.map Prod.snd).map pay)).length = a := ⟨_, rfl⟩
    rw [hat] at hstep h1 ⊢
    refine FW_block (FW_seq (FW_hide (fun K hK => ?_)))
    refine FW_region (by kernel_rfl) ?_
    refine go_Wal2 (k := ?_)
    refine OW_sliceBs und_bytes one_u8 hb rfl hc rfl ⟨_, rfl⟩ rfl at_ b.length rfl rfl (by omega) ?_
    intro A3 hb3 hl3
    have hd : (b.drop at_).take (b.length - at_) = b.drop at_ := List.take_of_length_le (by rw [List.length_drop]; exact Nat.le_refl _)
    rw [hd] at hb3 hl3
    rw [← hl3]
    refine go_Wal2 (k := ?_)
    refine OW_callC Try.func72 (by kernel_rfl) rfl (frameNext_any w A3 (c - at_) (b.drop at_) hb3 (by omega) (by omega)) rfl ?_
    rintro en w2 (⟨hn, rfl, hx2⟩ | ⟨p, A4, c4, hn, rfl, hf4⟩)
    · refine ⟨_, rfl, ?_⟩
      refine go_Wal2 (k := ?_)
      rw [hK]
      refine FW_seq (FW_hide (fun K2 hK2 => ?_))
      refine go_Wal2 (k := ?_)
      rw [hK2]
      refine FW_seq ?_
      refine FW_regionF (by kernel_rfl) ?_
      refine OWF_take 9 ?_
      simp only [List.take_succ_cons, List.take_zero, List.drop_succ_cons, List.drop_zero]
      refine go_Wal2 (k := ?_)
      refine OWF_nil ?_
      refine go_Wal2 (k := ?_)
      exact leave_of (bodyE_ret0 rfl ⟨_, rfl, S, .inl ⟨xs, ⟨by rw [hat]; exact h1, h2, by rw [hat]; exact hn, h3⟩, hJ S xs _ _ hj hx2⟩⟩)
    · refine ⟨_, rfl, ?_⟩
      have hx2 := hf4.ext
      obtain ⟨k1, k2, k3, k4⟩ := hstep (A4, c4, p) p rfl hn
      have hj2 := hJ S xs _ _ hj hx2
      have hok : okF b B0 S xs (at_ + (p.length + 12), (A4, c4, p)) w2 := ⟨own_mono hf4.own hBs2, by rw [hat]; exact hn, by
          rw [List.map_append]
          show at_ + (p.length + 12) = (framesB (((xs.map Prod.snd) ++ [(A4, c4, p)]).map pay)).length
          rw [k4]; omega, fun k hk hS => by
          have h8 := hJb S xs _ hj k hS
          obtain ⟨ad, ha, rfl⟩ := hk
          have h9 := own_block hf4.own ad ha
          omega⟩
      refine go_Wal2 (k := ?_)
      rw [hK]
      refine FW_seq (FW_hide (fun K2 hK2 => ?_))
      refine go_Wal2 (k := ?_)
      rw [hK2]
      refine FW_seq ?_
      refine FW_regionF (by kernel_rfl) ?_
      refine OWF_take 6 ?_
      simp only [List.take_succ_cons, List.take_zero, List.drop_succ_cons, List.drop_zero]
      refine go_Wal2 (k := ?_)
      rw [show (at_ : Int) + ((p.length : Int) + 12) = ((at_ + (p.length + 12) : Nat) : Int) by omega]
      refine OWF_yield (args' := [.int .i64 ((at_ + (p.length + 12) : Nat) : Int), sv (A4, c4, p)]) rfl rfl rfl ((hy S xs (at_ + (p.length + 12), (A4, c4, p)) w2 hj2 hok).mono ?_)
      rintro en w3 ⟨hk3, S', hS', ⟨rfl, hj3⟩ | ⟨rfl, hj3⟩⟩
      · refine ⟨_, rfl, ?_⟩
        refine OWF_take 2 ?_
        simp only [List.take_succ_cons, List.take_zero, List.drop_succ_cons, List.drop_zero]
        refine go_Wal2 (k := ?_)
        refine OWF_nil ?_
        refine go_Wal2 (k := ?_)
        have hG : ∀ k, bvB (A4, c4, p) k → w.heap.size ≤ k := fun k ⟨ad, ha, hb2⟩ => by rw [← hb2]; exact (own_block hf4.own ad ha).1
        have hun : ∀ k, uB A b.length k → ¬ (S k ∨ bvB (A4, c4, p) k) := fun k hk hh => by
          rcases hh with hh | hh
          · exact (hUS k hk).1 hh
          · have := hG k hh; have := (hUS k hk).2; omega
        have hxs := hx2.size
        have hks := hk3.size
        refine ⟨⟨S', xs ++ [(at_ + (p.length + 12), (A4, c4, p))], rfl, by omega, rfl, ?_, ?_, fun k hk => ⟨fun hS => ?_, by have := (hUS k hk).2; omega⟩, ?_, ?_, ?_, hj3⟩, ?_⟩
        · rw [List.map_append]
          show Value.int .i64 _ = Value.int .i64 (framesB (((xs.map Prod.snd) ++ [(A4, c4, p)]).map pay)).length
          rw [k4]
          congr 2
        · by_cases h0 : 0 < b.length
          · exact (hb.ext hx2).keeps hk3 (fun ad ha => hun _ ⟨h0, ad, ha, rfl⟩)
          · have : b = [] := List.eq_nil_of_length_eq_zero (by omega)
            rw [this]; exact Bs.nil _ _
        · rcases hS' k hS with h | h | h
          · exact (hUS k hk).1 h
          · have := (hUS k hk).2; omega
          · have := hG k h; have := (hUS k hk).2; omega
        · rw [List.map_append]; exact k1
        · rw [List.map_append]; exact k2
        · rw [List.map_append]; exact k3
        · show b.length - ((at_ + (p.length + 12) : Nat) : Int).toNat < b.length - (at_ : Int).toNat
          rw [k4] at k1
          omega
      · refine ⟨_, rfl, ?_⟩
        refine OWF_take 2 ?_
        simp only [List.take_succ_cons, List.take_zero, List.drop_succ_cons, List.drop_zero]
        refine go_Wal2 (k := ?_)
        refine OWF_nil ?_
        refine go_Wal2 (k := ?_)
        exact leave_of (bodyE_ret0 rfl ⟨_, rfl, S', .inr ⟨_, trivial, hj3⟩⟩)
end Go.Proofs.Ytnfeibbnjdegfaa

/- SHA-256 computed: the same numbers, each forced before the next step, so that the kernel can compute them. No program in sight. -/
namespace Go.Proofs.Ytnfeibbnjdegfaa
open Go Go.RowKit
set_option linter.unusedVariables false
universe u
def force {α : Type u} (x : Nat) (k : Nat → α) : α := match x with
  | 0 => k 0
  | n + 1 => k (n + 1)
theorem force_eq {α : Type u} (x : Nat) (k : Nat → α) : force x k = k x := by cases x <;> rfl
def turnN (x a b c : Nat) : Nat := (rotS x a ^^^ rotS x b) ^^^ rotS x c
def smallN (x a b c : Nat) : Nat := (rotS x a ^^^ rotS x b) ^^^ (x / 2 ^ c)
theorem turnN_eq (x : UInt32) {a b c : Nat} (ha : a ≤ 32) (hb : b ≤ 32) (hc : c ≤ 32) : (turnU x a b c).toNat = turnN x.toNat a b c := by
  unfold turnU turnN
  rw [UInt32.toNat_xor, UInt32.toNat_xor, rotU_nat x ha, rotU_nat x hb, rotU_nat x hc]
theorem smallN_eq (x : UInt32) {a b c : Nat} (ha : a ≤ 32) (hb : b ≤ 32) : (smallU x a b c).toNat = smallN x.toNat a b c := by
  unfold smallU smallN
  rw [UInt32.toNat_xor, UInt32.toNat_xor, rotU_nat x ha, rotU_nat x hb, shU_nat]
theorem notN_eq (x : UInt32) : (~~~ x).toNat = 4294967295 - x.toNat := by
  have := u32_lt x
  rw [UInt32.toNat_not]
  rfl
def wN (ws : List UInt32) : List Nat := ws.map UInt32.toNat
theorem ldV_lt4 (b : List UInt8) (at_ : Int) : ldV b at_ 4 < 4294967296 := by
  unfold ldV ldL
  split
  · have := loadL_lt ((b.drop at_.toNat).take 4)
    have hl : ((b.drop at_.toNat).take 4).length ≤ 4 := by rw [List.length_take]; omega
    have h2 : 256 ^ ((b.drop at_.toNat).take 4).length ≤ 256 ^ 4 := Nat.pow_le_pow_right (by decide) hl
    simp only [Option.getD_some]
    omega
  · decide
/-- The first sixteen, the latest first. -/
def fstF {α : Type u} : Nat → Nat → List UInt8 → List Nat → (List Nat → α) → α
  | 0, _, _, ws, k => k ws
  | n + 1, t, b, ws, k => force (ldV b ((4 * t : Nat) : Int) 4) fun x => fstF n (t + 1) b (x :: ws) k
theorem fstF_eq {α : Type u} (b : List UInt8) (k : List Nat → α) : ∀ n t, t + n ≤ 16 → fstF n t b (wN (sch b t)).reverse k = k (wN (sch b (t + n))).reverse
  | 0, t, _ => rfl
  | n + 1, t, h => by
    unfold fstF
    rw [force_eq]
    have h1 : ldV b ((4 * t : Nat) : Int) 4 :: (wN (sch b t)).reverse = (wN (sch b (t + 1))).reverse := by
      have h2 : (nxt b (sch b t) t).toNat = ldV b ((4 * t : Nat) : Int) 4 := by
        unfold nxt
        rw [if_pos (by omega), UInt32.toNat_ofNat']
        exact Nat.mod_eq_of_lt (ldV_lt4 b _)
      simp [sch, wN, h2]
    rw [h1, fstF_eq b k n (t + 1) (by omega), show t + 1 + n = t + (n + 1) by omega]
def schF {α : Type u} : Nat → List Nat → (List Nat → α) → α
  | 0, ws, k => k ws
  | n + 1, ws, k => force ((((smallN (ws.getD 1 0) 17 19 10 + ws.getD 6 0) % 4294967296 + smallN (ws.getD 14 0) 7 18 3) % 4294967296 + ws.getD 15 0) % 4294967296) fun x => schF n (x :: ws) k
theorem rev_get (ws : List UInt32) {i : Nat} (h : i < ws.length) : (wN ws).reverse.getD i 0 = (ws.getD (ws.length - 1 - i) 0).toNat := by
  unfold wN
  rw [List.getD_eq_getElem?_getD, List.getElem?_reverse (by simpa using h), List.length_map, List.getElem?_map, List.getD_eq_getElem?_getD, List.getElem?_eq_getElem (by omega)]
  rfl
theorem schF_eq {α : Type u} (b : List UInt8) (k : List Nat → α) : ∀ n t, 16 ≤ t → schF n (wN (sch b t)).reverse k = k (wN (sch b (t + n))).reverse
  | 0, t, _ => rfl
  | n + 1, t, h => by
    unfold schF
    rw [force_eq]
    have hl := sch_length b t
    rw [rev_get (sch b t) (by omega), rev_get (sch b t) (by omega), rev_get (sch b t) (by omega), rev_get (sch b t) (by omega), hl]
    have h2 : (nxt b (sch b t) t).toNat = (((smallN ((sch b t).getD (t - 1 - 1) 0).toNat 17 19 10 + ((sch b t).getD (t - 1 - 6) 0).toNat) % 4294967296 + smallN ((sch b t).getD (t - 1 - 14) 0).toNat 7 18 3) % 4294967296 + ((sch b t).getD (t - 1 - 15) 0).toNat) % 4294967296 := by
      unfold nxt
      rw [if_neg (by omega), UInt32.toNat_add, UInt32.toNat_add, UInt32.toNat_add, smallN_eq _ (by decide) (by decide), smallN_eq _ (by decide) (by decide)]
      rw [show t - 1 - 1 = t - 2 by omega, show t - 1 - 6 = t - 7 by omega, show t - 1 - 14 = t - 15 by omega, show t - 1 - 15 = t - 16 by omega]
    rw [← h2]
    have h1 : (nxt b (sch b t) t).toNat :: (wN (sch b t)).reverse = (wN (sch b (t + 1))).reverse := by simp [sch, wN]
    rw [h1, schF_eq b k n (t + 1) (by omega), show t + 1 + n = t + (n + 1) by omega]
def rndL : N8 → List UInt32 → List UInt32 → N8
  | s, k :: ks, w :: ws => rndL (rnd s k w) ks ws
  | s, _, _ => s
theorem rndL_snoc (k w : UInt32) : ∀ (ks ws : List UInt32) (s : N8), ks.length = ws.length → rndL s (ks ++ [k]) (ws ++ [w]) = rnd (rndL s ks ws) k w
  | [], [], s, _ => rfl
  | k' :: ks, w' :: ws, s, h => by
    show rndL (rnd s k' w') (ks ++ [k]) (ws ++ [w]) = rnd (rndL (rnd s k' w') ks ws) k w
    exact rndL_snoc k w ks ws _ (by simpa using h)
  | [], _ :: _, s, h => by simp at h
  | _ :: _, [], s, h => by simp at h
theorem getD_get {α : Type u} (l : List α) (t : Nat) (d : α) (h : t < l.length) : l.getD t d = l[t] := by
  rw [List.getD_eq_getElem?_getD, List.getElem?_eq_getElem h]
  rfl
theorem rnds_L (b : List UInt8) (s : N8) : ∀ t, t ≤ 64 → rnds b s t = rndL s (kL.take t) ((sch b 64).take t)
  | 0, _ => by rw [rnds, List.take_zero, List.take_zero, rndL]; simp
  | t + 1, h => by
    have hk : t < kL.length := by rw [kL_length]; omega
    have hw : t < (sch b 64).length := by rw [sch_length]; omega
    have h1 := kL_length
    have h2 := sch_length b 64
    rw [rnds, getD_get _ _ _ hk, getD_get _ _ _ hw, take_succ_get _ _ hk, take_succ_get _ _ hw, rndL_snoc _ _ _ _ _ (by rw [List.length_take, List.length_take, h1, h2]), rnds_L b s t (by omega)]
def roundsF {α : Type u} : List Nat → List Nat → Nat → Nat → Nat → Nat → Nat → Nat → Nat → Nat → (Nat → Nat → Nat → Nat → Nat → Nat → Nat → Nat → α) → α
  | kk :: ks, w :: ws, a, b, c, d, e, f, g, h, k =>
    force (((((h + turnN e 6 11 25) % 4294967296 + ((e &&& f) ||| ((4294967295 - e) &&& g))) % 4294967296 + kk) % 4294967296 + w) % 4294967296) fun t1 =>
    force ((d + t1) % 4294967296) fun e' =>
    force ((t1 + (turnN a 2 13 22 + ((a &&& b ||| a &&& c) ||| b &&& c)) % 4294967296) % 4294967296) fun a' => roundsF ks ws a' a b c e' e f g k
  | _, _, a, b, c, d, e, f, g, h, k => k a b c d e f g h
theorem roundsF_eq {α : Type u} (k : Nat → Nat → Nat → Nat → Nat → Nat → Nat → Nat → α) : ∀ (ks ws : List UInt32) (s : N8), ks.length = ws.length →
    roundsF (wN ks) (wN ws) s.a.toNat s.b.toNat s.c.toNat s.d.toNat s.e.toNat s.f.toNat s.g.toNat s.h.toNat k =
      k (rndL s ks ws).a.toNat (rndL s ks ws).b.toNat (rndL s ks ws).c.toNat (rndL s ks ws).d.toNat (rndL s ks ws).e.toNat (rndL s ks ws).f.toNat (rndL s ks ws).g.toNat (rndL s ks ws).h.toNat
  | [], [], s, _ => rfl
  | kk :: ks, w :: ws, s, h => by
    have ih := roundsF_eq k ks ws (rnd s kk w) (by simpa using h)
    show roundsF (kk.toNat :: wN ks) (w.toNat :: wN ws) _ _ _ _ _ _ _ _ _ = _
    unfold roundsF
    rw [force_eq, force_eq, force_eq]
    have h1 : (one8 s kk w).toNat = ((((s.h.toNat + turnN s.e.toNat 6 11 25) % 4294967296 + ((s.e.toNat &&& s.f.toNat) ||| ((4294967295 - s.e.toNat) &&& s.g.toNat))) % 4294967296 + kk.toNat) % 4294967296 + w.toNat) % 4294967296 := by
      unfold one8
      rw [UInt32.toNat_add, UInt32.toNat_add, UInt32.toNat_add, UInt32.toNat_add, UInt32.toNat_or, UInt32.toNat_and, UInt32.toNat_and, notN_eq, turnN_eq _ (by decide) (by decide) (by decide)]
    have h2 : (two8 s).toNat = (turnN s.a.toNat 2 13 22 + ((s.a.toNat &&& s.b.toNat ||| s.a.toNat &&& s.c.toNat) ||| s.b.toNat &&& s.c.toNat)) % 4294967296 := by
      unfold two8
      rw [UInt32.toNat_add, UInt32.toNat_or, UInt32.toNat_or, UInt32.toNat_and, UInt32.toNat_and, UInt32.toNat_and, turnN_eq _ (by decide) (by decide) (by decide)]
    rw [← h1, ← h2]
    have h3 : (rnd s kk w).a.toNat = ((one8 s kk w).toNat + (two8 s).toNat) % 4294967296 := UInt32.toNat_add _ _
    have h4 : (rnd s kk w).e.toNat = (s.d.toNat + (one8 s kk w).toNat) % 4294967296 := UInt32.toNat_add _ _
    rw [← h3, ← h4]
    exact ih
  | [], _ :: _, s, h => by simp at h
  | _ :: _, [], s, h => by simp at h
def kN : List Nat := [1116352408, 1899447441, 3049323471, 3921009573, 961987163, 1508970993, 2453635748, 2870763221, 3624381080, 310598401, 607225278, 1426881987, 1925078388, 2162078206, 2614888103, 3248222580, 3835390401, 4022224774, 264347078, 604807628, 770255983, 1249150122, 1555081692, 1996064986, 2554220882, 2821834349, 2952996808, 3210313671, 3336571891, 3584528711, 113926993, 338241895, 666307205, 773529912, 1294757372, 1396182291, 1695183700, 1986661051, 2177026350, 2456956037, 2730485921, 2820302411, 3259730800, 3345764771, 3516065817, 3600352804, 4094571909, 275423344, 430227734, 506948616, 659060556, 883997877, 958139571, 1322822218, 1537002063, 1747873779, 1955562222, 2024104815, 2227730452, 2361852424, 2428436474, 2756734187, 3204031479, 3329325298]
theorem kN_eq : kN = wN kL := by decide +kernel
def blkF {α : Type u} (bs : List UInt8) (a b c d e f g h : Nat) (k : Nat → Nat → Nat → Nat → Nat → Nat → Nat → Nat → α) : α :=
  fstF 16 0 bs [] fun w16 => schF 48 w16 fun wr => roundsF kN wr.reverse a b c d e f g h fun a' b' c' d' e' f' g' h' =>
    force ((a + a') % 4294967296) fun a => force ((b + b') % 4294967296) fun b => force ((c + c') % 4294967296) fun c => force ((d + d') % 4294967296) fun d =>
    force ((e + e') % 4294967296) fun e => force ((f + f') % 4294967296) fun f => force ((g + g') % 4294967296) fun g => force ((h + h') % 4294967296) fun h => k a b c d e f g h
/-- The eight, handed on. -/
def give {α : Type u} (s : N8) (k : Nat → Nat → Nat → Nat → Nat → Nat → Nat → Nat → α) : α := k s.a.toNat s.b.toNat s.c.toNat s.d.toNat s.e.toNat s.f.toNat s.g.toNat s.h.toNat
theorem blkF_eq {α : Type u} (bs : List UInt8) (s : N8) (k : Nat → Nat → Nat → Nat → Nat → Nat → Nat → Nat → α) : give s (fun a b c d e f g h => blkF bs a b c d e f g h k) = give (blk s bs) k := by
  unfold give blkF
  have h0 := fstF_eq bs (fun w16 => schF 48 w16 fun wr => roundsF kN wr.reverse s.a.toNat s.b.toNat s.c.toNat s.d.toNat s.e.toNat s.f.toNat s.g.toNat s.h.toNat fun a' b' c' d' e' f' g' h' =>
    force ((s.a.toNat + a') % 4294967296) fun a => force ((s.b.toNat + b') % 4294967296) fun b => force ((s.c.toNat + c') % 4294967296) fun c => force ((s.d.toNat + d') % 4294967296) fun d =>
    force ((s.e.toNat + e') % 4294967296) fun e => force ((s.f.toNat + f') % 4294967296) fun f => force ((s.g.toNat + g') % 4294967296) fun g => force ((s.h.toNat + h') % 4294967296) fun h => k a b c d e f g h) 16 0 (by decide)
  refine h0.trans ?_
  rw [schF_eq bs _ 48 (0 + 16) (by decide), List.reverse_reverse, kN_eq, roundsF_eq _ kL (sch bs (0 + 16 + 48)) s (by rw [sch_length]; rfl)]
  have hr : rndL s kL (sch bs (0 + 16 + 48)) = rnds bs s 64 := by
    rw [rnds_L bs s 64 (Nat.le_refl _), List.take_of_length_le (by rw [kL_length]; exact Nat.le_refl _), List.take_of_length_le (by rw [sch_length]; exact Nat.le_refl _)]
  rw [hr]
  simp only [force_eq, blk, N8.add, UInt32.toNat_add]
def forceL {α : Type u} : List UInt8 → (List UInt8 → α) → α
  | [], k => k []
  | x :: xs, k => force x.toNat fun n => forceL xs fun ys => k (UInt8.ofNat n :: ys)
theorem forceL_eq {α : Type u} : ∀ (l : List UInt8) (k : List UInt8 → α), forceL l k = k l
  | [], k => rfl
  | x :: xs, k => by
    unfold forceL
    rw [force_eq, forceL_eq xs, UInt8.ofNat_toNat]
def runF {α : Type u} : Nat → Nat → List UInt8 → Nat → Nat → Nat → Nat → Nat → Nat → Nat → Nat → (Nat → Nat → Nat → Nat → Nat → Nat → Nat → Nat → α) → α
  | 0, _, _, a, b, c, d, e, f, g, h, k => k a b c d e f g h
  | n + 1, i, l, a, b, c, d, e, f, g, h, k => forceL (chunk l i) fun bs => blkF bs a b c d e f g h fun a b c d e f g h => runF n (i + 1) l a b c d e f g h k
theorem runF_eq {α : Type u} (s : N8) (l : List UInt8) (k : Nat → Nat → Nat → Nat → Nat → Nat → Nat → Nat → α) : ∀ n i, give (runB s l i) (fun a b c d e f g h => runF n i l a b c d e f g h k) = give (runB s l (i + n)) k
  | 0, i => rfl
  | n + 1, i => by
    have h1 : give (runB s l i) (fun a b c d e f g h => runF (n + 1) i l a b c d e f g h k) = give (runB s l i) (fun a b c d e f g h => blkF (chunk l i) a b c d e f g h fun a b c d e f g h => runF n (i + 1) l a b c d e f g h k) := by
      unfold give
      conv => lhs; unfold runF
      simp only [forceL_eq]
    rw [h1, blkF_eq, show i + (n + 1) = i + 1 + n by omega, ← runF_eq s l k n (i + 1)]
    rfl
/-- The tag's eight numbers, computed. -/
def shaF {α : Type u} (l : List UInt8) (k : Nat → Nat → Nat → Nat → Nat → Nat → Nat → Nat → α) : α :=
  forceL (l ++ tailB l.length) fun m => force (m.length / 64) fun n => runF n 0 m 1779033703 3144134277 1013904242 2773480762 1359893119 2600822924 528734635 1541459225 k
theorem shaF_eq {α : Type u} (l : List UInt8) (k : Nat → Nat → Nat → Nat → Nat → Nat → Nat → Nat → α) : shaF l k = give (shaN l) k := by
  unfold shaF
  rw [forceL_eq, force_eq]
  have := runF_eq iv8 (l ++ tailB l.length) k ((l ++ tailB l.length).length / 64) 0
  rw [Nat.zero_add] at this
  exact this
theorem sha_empty : shaF [] (fun a b c d e f g h => [a, b, c, d, e, f, g, h]) = [0xe3b0c442, 0x98fc1c14, 0x9afbf4c8, 0x996fb924, 0x27ae41e4, 0x649b934c, 0xa495991b, 0x7852b855] := by decide +kernel
theorem sha_abc : shaF [97, 98, 99] (fun a b c d e f g h => [a, b, c, d, e, f, g, h]) = [0xba7816bf, 0x8f01cfea, 0x414140de, 0x5dae2223, 0xb00361a3, 0x96177a9c, 0xb410ff61, 0xf20015ad] := by decide +kernel
theorem sha_abcd : shaF [97, 98, 99, 100, 98, 99, 100, 101, 99, 100, 101, 102, 100, 101, 102, 103, 101, 102, 103, 104, 102, 103, 104, 105, 103, 104, 105, 106, 104, 105, 106, 107, 105, 106, 107, 108, 106, 107, 108, 109, 107, 108, 109, 110, 108, 109, 110, 111, 109, 110, 111, 112, 110, 111, 112, 113] (fun a b c d e f g h => [a, b, c, d, e, f, g, h]) = [0x248d6a61, 0xd20638b8, 0xe5c02693, 0x0c3e6039, 0xa33ce459, 0x64ff2167, 0xf6ecedd4, 0x19db06c1] := by decide +kernel
end Go.Proofs.Ytnfeibbnjdegfaa

/- SHA-256 and HMAC computed, byte by byte. No program in sight. -/
namespace Go.Proofs.Ytnfeibbnjdegfaa
open Go Go.RowKit
set_option linter.unusedVariables false
def shaK (l : List UInt8) : List UInt8 := shaF l fun a b c d e f g h => putL a 4 ++ (putL b 4 ++ (putL c 4 ++ (putL d 4 ++ (putL e 4 ++ (putL f 4 ++ (putL g 4 ++ putL h 4))))))
theorem shaK_eq (l : List UInt8) : shaK l = shaL l := by
  unfold shaK
  rw [shaF_eq]
  unfold give shaL outB N8.l
  simp
def hmacK (key b : List UInt8) : List UInt8 := shaK (xorB 92 (keyB key) ++ shaK (xorB 54 (keyB key) ++ b))
theorem hmacK_eq (key b : List UInt8) : hmacK key b = hmacL key b := by
  unfold hmacK hmacL
  rw [shaK_eq, shaK_eq]
theorem ovr_set {n k : Nat} {a b : UInt8} (h : k < n) : (List.replicate k a ++ List.replicate (n - k) b).set k a = List.replicate (k + 1) a ++ List.replicate (n - (k + 1)) b := by
  rw [List.set_append_right _ _ (by simp), List.length_replicate, Nat.sub_self, show n - k = (n - (k + 1)) + 1 by omega, List.replicate_succ, List.set_cons_zero, List.replicate_succ', List.append_assoc]
  rfl
end Go.Proofs.Ytnfeibbnjdegfaa
