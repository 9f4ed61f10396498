/- Walks: the reference's reader's Tag. -/
import Derived.Test.YthhphmbhlddihaaRefR
namespace Go.Proofs.Ythhphmbhlddihaa
open Go Go.RowKit
set_option linter.unusedVariables false
set_option maxRecDepth 4000
theorem go_RefTag {A B : Prop} (h : Held B → A := by
  intro hEnd
  repeat (first | refine OW_moveV (.int _ _) rfl ?_ | refine OW_moveV (.slice _ _ _) rfl ?_ | refine OW_moveV (.bool _) rfl ?_ | refine OW_moveV (.pointer _) rfl ?_ | refine OW_moveV (.string _) rfl ?_ | refine OW_moveV (.agg _) rfl ?_ | refine OW_moveV (.tuple _) rfl ?_ | refine OW_nil ?_ | refine thenE_normal ?_ | refine CW_seq ?_ | refine CW_region (by kernel_rfl) ?_ | refine OW_assignV (.int _ _) rfl ?_ | refine OW_assignV (.slice _ _ _) rfl ?_ | refine OW_assignV (.bool _) rfl ?_ | refine OW_assignV (.pointer _) rfl ?_ | refine OW_assignV (.string _) rfl ?_ | refine OW_assignV (.agg _) rfl ?_ | refine OW_assignV (.tuple _) rfl ?_ | refine OW_addI rfl rfl (by omega) ?_ | refine OW_subI rfl rfl (by omega) ?_ | refine OW_mulI rfl rfl (by omega) ?_ | refine OW_lss rfl rfl ?_ | refine OW_extract rfl rfl ?_ | refine OW_gtr rfl rfl ?_ | refine OW_leq rfl rfl ?_ | refine OW_geq rfl rfl ?_ | refine OW_eql rfl rfl ?_ | refine OW_neq rfl rfl ?_ | refine OW_not rfl ?_ | refine OW_pickT rfl _ rfl ?_ | refine OW_pickF rfl (.bool _) rfl ?_ | refine OW_pickB rfl rfl rfl ?_ | refine OW_move ?_ | refine OW_assign ?_ | refine OW_pass rfl ?_ | refine OW_take rfl ?_ | refine OW_lenS (by first | with_reducible exact und_bytes | with_reducible exact und_bytess) rfl ?_ | refine OW_convInt (by first | with_reducible exact und_u8 | with_reducible exact und_u64 | with_reducible exact und_int | with_reducible exact und_u32) (by first | with_reducible exact und_u8 | with_reducible exact und_u64 | with_reducible exact und_int | with_reducible exact und_u32) rfl ?_ | refine OW_add rfl rfl ?_ | refine OW_sub rfl rfl ?_ | refine OW_mul rfl rfl ?_ | refine OW_min2 rfl rfl ?_ | refine OW_max2 rfl rfl ?_ | refine OW_neg rfl ?_ | refine CW_block ?_ | refine CW_condT rfl ?_ | refine CW_condF rfl ?_ | refine CW_exit ?_ | refine CW_ret ?_ | refine CW_skip ?_ | refine LW_seq ?_ | refine LW_regC ?_ | refine LW_condC ?_ | refine LW_regF ?_ | refine LW_condF ?_ | refine FW_seq ?_ | refine FW_region (by kernel_rfl) ?_ | refine FW_block ?_ | refine FW_condT rfl ?_ | refine FW_condF rfl ?_ | refine FW_exit ?_ | refine FW_ret ?_ | refine FW_skip ?_ | refine LW_ret ?_ | refine LW_skip ?_ | refine thenE_exit ?_ | refine thenE_ret ?_ | refine inBlockE_normal ?_ | refine inBlockE_same ?_ | refine inBlockE_ret ?_ | refine inBlockE_ne (by rfl) ?_ | refine OW_eqlB (by with_reducible exact und_bool) rfl rfl ?_ | refine OW_neqB (by with_reducible exact und_bool) rfl rfl ?_ | refine OW_idxS (by with_reducible exact und_bytes) one_u8 rfl rfl _ rfl (by omega) ?_ | refine OW_idxS (by with_reducible exact und_bytess) one_bytes rfl rfl _ rfl (by omega) ?_ | refine OW_load1 (by first | with_reducible exact one_u8 | with_reducible exact one_bytes) rfl _ (by assumption) ?_)
  exact hEnd.out) (k : B) : A := h ⟨k⟩
theorem und_Tag : Try.prog.underlying 24 = some (.array 32 5) := Try.underlying24
/-- The first k of some bytes over others. -/
def over (l z : List UInt8) (k : Nat) : List UInt8 := l.take k ++ z.drop k
theorem over_length {l z : List UInt8} {k : Nat} (hl : l.length = z.length) (hk : k ≤ l.length) : (over l z k).length = l.length := by
  unfold over; rw [List.length_append, List.length_take, List.length_drop]; omega
theorem over_set {l z : List UInt8} {k : Nat} (hl : l.length = z.length) (hk : k < l.length) : (over l z k).set k l[k] = over l z (k + 1) := by
  unfold over
  rw [List.set_append_right _ _ (by rw [List.length_take]; omega), List.length_take, Nat.min_eq_left (by omega), Nat.sub_self]
  rw [List.drop_eq_getElem_cons (show k < z.length by omega), List.set_cons_zero, List.take_succ_eq_append_getElem hk, List.append_assoc]
  rfl
theorem over_all {l z : List UInt8} (hl : l.length = z.length) : over l z l.length = l := by
  unfold over; rw [List.take_of_length_le (Nat.le_refl _), hl, List.drop_of_length_le (Nat.le_refl _), List.append_nil]
theorem tagV_length (s : List UInt8 × Int) : (tagV s).length = 32 := by
  unfold tagV
  split
  · rename_i hh
    have := of_decide_eq_true hh
    rw [List.length_take]; omega
  · rfl
set_option maxHeartbeats 8000000 in
theorem vTag_any (w : World) (g : Nat) (S : Nat → Prop) (s : List UInt8 × Int) (h : VR w g S s) : Calls Try.prog 91 #[.pointer (some ⟨g, 0, none⟩)] w (VPost w g S (.agg ((tagV s).map bv).toArray) (stepS s 32 true)) := by
  have hgs : g < w.heap.size := h.bd _ h.in_
  refine calls_of_CW Try.func91 rfl (by simp [Try.ntmps91]) ?_
  rw [Try.ntmps91]
  refine go_RefTag (k := ?_)
  refine OW_allocA agg_Tag ?_
  intro w1 g1 hb1 hg1 hlt1 hx1
  refine go_RefTag (k := ?_)
  refine OW_allocA agg_Tag ?_
  intro w2 g2 hb2 hg2 hlt2 hx2
  have hx := hx1.trans' hx2
  refine go_RefTag (k := ?_)
  refine OW_callC Try.func119 (by kernel_rfl) rfl (vSome_any w2 g S s (h.ext hx) 32 (by omega)) rfl ?_
  rintro en w3 ⟨A, c, rfl, ho, hv, hk⟩
  refine ⟨_, rfl, ?_⟩
  have hs1 := hx1.size
  have hb1 := (hb1.ext hx2).keeps hk (by omega)
  have hb2 := hb2.keeps hk (by omega)
  have hfin : ∀ w4, Blk w4 g2 24 ((tagV s).map bv).toArray → Blk w4 g1 24 (tz.map bv).toArray → Keeps w3 w4 (· = g2) → ∀ w5, Blk w5 g1 24 ((tagV s).map bv).toArray → w4.grownBy w5 (some g1) → VR w5 g S (stepS s 32 true) ∧ Keeps w w5 (· = g) := by
    intro w4 _ _ hk4 w5 _ hg5
    have hk5 : Keeps w3 w5 (fun k => k = g1 ∨ k = g2) := (hk4.mono (fun k _ hh => .inr hh)).trans' (Keeps.of_only hg5 (.inl rfl))
    refine ⟨hv.keeps hk5 (fun k hk2 hh => ?_), ?_⟩
    · have h9 := h.bd k hk2
      rcases hh with hh | hh <;> omega
    · refine ⟨hk5.os.trans (hk.os.trans hx.os), hk5.tape.trans (hk.tape.trans hx.tape), hk5.output.trans (hk.output.trans hx.output), Nat.le_trans hx.size (Nat.le_trans hk.size hk5.size), fun k hk1 hk2 => ?_⟩
      rw [hk5.block k (Nat.lt_of_lt_of_le hk1 (Nat.le_trans hx.size hk.size)) (by omega), hk.block k (Nat.lt_of_lt_of_le hk1 hx.size) hk2, hx.block k hk1]
  by_cases hf : fits s 32 = true
  · have hlen := fits_len (n := 32) hf
    have hl : someV s (32 : Nat) = s.1.take 32 := by
      unfold someV
      rw [show fits s ((32 : Nat) : Int) = true from hf, if_pos rfl]; rfl
    have ht : tagV s = s.1.take 32 := by unfold tagV; rw [hf, if_pos rfl]
    rw [hl, hlen] at ho
    rw [show fits s ((32 : Nat) : Int) = true from hf, hl, hlen]
    rw [ht] at hfin ⊢
    generalize s.1.take 32 = l at *
    have hbs : Bs w3 A l := own_rd ho
    obtain ⟨ad, hA⟩ := Bs.some_ hbs (by omega)
    subst hA
    have hne : ad.block ≠ g2 := by have := (own_block ho ad rfl).1; omega
    refine go_RefTag (k := ?_)
    refine CW_loop (fun e' w' => ∃ k : Nat, k ≤ 32 ∧ e' 2 = .pointer (some ⟨g1, 0, none⟩) ∧ e' 3 = .pointer (some ⟨g2, 0, none⟩) ∧ e' 4 = .slice (some ad) 32 c ∧ e' 5 = .bool true ∧ e' 6 = .int .i64 k ∧ Blk w' g2 24 ((over l tz k).map bv).toArray ∧ Keeps w3 w' (· = g2)) (fun e' _ => 32 - (intOf (e' 6)).toNat) ?_ ?_
    · exact ⟨0, Nat.zero_le _, rfl, rfl, rfl, rfl, rfl, hb2, Keeps.rfl' _ _⟩
    rintro e' w' ⟨k, hk32, e2, e3, e4, e5, e6, hB, hK⟩
    rw [upd_self e2, upd_self e3, upd_self e4, upd_self e5, upd_self e6]
    refine go_RefTag (k := ?_)
    refine CW_cond _ rfl (fun hh => ?_) (fun hh => ?_)
    · have hlt : k < 32 := by have := of_decide_eq_true hh; omega
      clear hh
      have hcell := (Bs.keeps hbs hK (fun ad' ha => by cases ha; exact hne)).cellAt k (by omega)
      have hlo : (over l tz k).length = 32 := by rw [over_length (by rw [hlen]; rfl) (by omega), hlen]
      refine go_RefTag (k := ?_)
      refine OW_idxA und_Tag one_u8 rfl rfl k rfl (by omega) ?_
      rw [add0]
      refine OW_storeB one_u8 rfl (bv l[k]) rfl rfl hB (by simp [hlo]; omega) ?_
      intro w4 hB4 hg4
      refine go_RefTag (k := ?_)
      refine ⟨⟨k + 1, by omega, rfl, rfl, rfl, rfl, rfl, ?_, hK.trans' (Keeps.of_only hg4 rfl)⟩, ?_⟩
      · rw [← over_set (by rw [hlen]; rfl) (by omega), List.map_set, ← List.setIfInBounds_toArray]
        exact hB4
      · show 32 - ((k : Int) + 1).toNat < 32 - (k : Int).toNat
        omega
    · have hge : k = 32 := by have := of_decide_eq_false hh; omega
      subst hge
      have ho : over l tz 32 = l := by rw [← hlen]; exact over_all (by rw [hlen]; rfl)
      rw [ho] at hB
      have hb1' := hb1.keeps hK (by omega)
      refine go_RefTag (k := ?_)
      refine OW_loadA agg_Tag rfl (l.map bv) (by simp [hlen]) hB.range ?_
      refine go_RefTag (k := ?_)
      refine OW_storeA agg_Tag rfl (l.map bv) rfl (by simp [hlen]) hb1' (by simp [tz]) (bv_one' _) ?_
      intro w5 hb5 hg5
      refine go_RefTag (k := ?_)
      obtain ⟨h1, h2⟩ := hfin w' hB hb1' hK w5 hb5 hg5
      exact bodyE_retc rfl agg_Tag rfl (l.map bv) (by simp [hlen]) hb5.range ⟨rfl, h1, h2⟩
  · have hf : fits s 32 = false := by simpa using hf
    have ht : tagV s = tz := by unfold tagV; rw [hf]; rfl
    rw [show fits s ((32 : Nat) : Int) = false from hf]
    rw [ht] at hfin ⊢
    refine go_RefTag (k := ?_)
    refine CW_loop (fun e' w' => e' = _ ∧ w' = w3) (fun _ _ => 0) ⟨rfl, rfl⟩ ?_
    rintro e' w' ⟨rfl, rfl⟩
    refine go_RefTag (k := ?_)
    refine OW_loadA agg_Tag rfl (tz.map bv) (by simp [tz]) hb2.range ?_
    refine go_RefTag (k := ?_)
    refine OW_storeA agg_Tag rfl (tz.map bv) rfl (by simp [tz]) hb1 (by simp [tz]) (bv_one' _) ?_
    intro w5 hb5 hg5
    refine go_RefTag (k := ?_)
    obtain ⟨h1, h2⟩ := hfin _ hb2 hb1 (Keeps.rfl' _ _) w5 hb5 hg5
    exact bodyE_retc rfl agg_Tag rfl (tz.map bv) (by simp [tz]) hb5.range ⟨rfl, h1, h2⟩
end Go.Proofs.Ythhphmbhlddihaa
