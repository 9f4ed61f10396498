/- Walks: the statements' own functions on fields: write, one, back. -/
import Derived.Test.YthhphmbhlddihaaField
import Derived.Test.YthhphmbhlddihaaEq
namespace Go.Proofs.Ythhphmbhlddihaa
open Go Go.RowKit
set_option linter.unusedVariables false
set_option maxRecDepth 4000
theorem go_WireL {A B : Prop} (h : Held B → A := by
  intro hEnd
  repeat (first | refine OW_moveV (.int _ _) rfl ?_ | refine OW_moveV (.slice _ _ _) rfl ?_ | refine OW_moveV (.bool _) rfl ?_ | refine OW_moveV (.pointer _) rfl ?_ | refine OW_moveV (.string _) rfl ?_ | refine OW_moveV (.agg _) rfl ?_ | refine OW_moveV (.tuple _) rfl ?_ | refine OW_nil ?_ | refine thenE_normal ?_ | refine CW_seq ?_ | refine CW_region (by kernel_rfl) ?_ | refine OW_assignV (.int _ _) rfl ?_ | refine OW_assignV (.slice _ _ _) rfl ?_ | refine OW_assignV (.bool _) rfl ?_ | refine OW_assignV (.pointer _) rfl ?_ | refine OW_assignV (.string _) rfl ?_ | refine OW_assignV (.agg _) rfl ?_ | refine OW_assignV (.tuple _) rfl ?_ | refine OW_addI rfl rfl (by omega) ?_ | refine OW_subI rfl rfl (by omega) ?_ | refine OW_mulI rfl rfl (by omega) ?_ | refine OW_lss rfl rfl ?_ | refine OW_extract rfl rfl ?_ | refine OW_gtr rfl rfl ?_ | refine OW_leq rfl rfl ?_ | refine OW_geq rfl rfl ?_ | refine OW_eql rfl rfl ?_ | refine OW_neq rfl rfl ?_ | refine OW_not rfl ?_ | refine OW_pickT rfl _ rfl ?_ | refine OW_pickF rfl (.bool _) rfl ?_ | refine OW_pickB rfl rfl rfl ?_ | refine OW_move ?_ | refine OW_assign ?_ | refine OW_pass rfl ?_ | refine OW_take rfl ?_ | refine OW_lenS (by first | with_reducible exact und_bytes | with_reducible exact und_bytess) rfl ?_ | refine OW_convInt (by first | with_reducible exact und_u8 | with_reducible exact und_u64 | with_reducible exact und_int | with_reducible exact und_u32) (by first | with_reducible exact und_u8 | with_reducible exact und_u64 | with_reducible exact und_int | with_reducible exact und_u32) rfl ?_ | refine OW_add rfl rfl ?_ | refine OW_sub rfl rfl ?_ | refine OW_mul rfl rfl ?_ | refine OW_min2 rfl rfl ?_ | refine OW_max2 rfl rfl ?_ | refine OW_neg rfl ?_ | refine CW_block ?_ | refine CW_condT rfl ?_ | refine CW_condF rfl ?_ | refine CW_exit ?_ | refine CW_ret ?_ | refine CW_skip ?_ | refine LW_seq ?_ | refine LW_regC ?_ | refine LW_condC ?_ | refine LW_regF ?_ | refine LW_condF ?_ | refine FW_seq ?_ | refine FW_region (by kernel_rfl) ?_ | refine FW_block ?_ | refine FW_condT rfl ?_ | refine FW_condF rfl ?_ | refine FW_exit ?_ | refine FW_ret ?_ | refine FW_skip ?_ | refine LW_ret ?_ | refine LW_skip ?_ | refine thenE_exit ?_ | refine thenE_ret ?_ | refine inBlockE_normal ?_ | refine inBlockE_same ?_ | refine inBlockE_ret ?_ | refine inBlockE_ne (by rfl) ?_ | refine OW_eqlB (by with_reducible exact und_bool) rfl rfl ?_ | refine OW_neqB (by with_reducible exact und_bool) rfl rfl ?_ | refine OW_idxS (by with_reducible exact und_bytes) one_u8 rfl rfl _ rfl (by omega) ?_ | refine OW_idxS (by with_reducible exact und_bytess) one_bytes rfl rfl _ rfl (by omega) ?_ | refine OW_load1 (by first | with_reducible exact one_u8 | with_reducible exact one_bytes) rfl _ (by assumption) ?_ | refine OW_rem rfl rfl (by decide) ?_ | refine OW_fieldF fld_F0 rfl ?_ | refine OW_fieldF fld_F1 rfl ?_ | refine OW_fieldF fld_F2 rfl ?_ | refine OW_fieldF fld_F3 rfl ?_ | refine OW_load1 (by first | with_reducible exact one_int) rfl _ (by assumption) ?_)
  exact hEnd.out) (k : B) : A := h ⟨k⟩
def byteOf (n : Int) : UInt8 := UInt8.ofNat (n % 256).toNat
theorem wrap_u8I (n : Int) : IntKind.u8.wrap n = ((byteOf n).toNat : Int) := by
  have h : IntKind.u8.wrap n = n % 256 := by simp [IntKind.wrap, IntKind.signed, IntKind.bits]
  rw [h, byteOf, UInt8.toNat_ofNat']
  omega
def flagOf (n : Int) : Bool := n.tmod 2 != 0
/-- What a field is in bytes. -/
def pieces (f : FD) : List (List UInt8) :=
  if f.kind = 0 then [[byteOf f.n]] else if f.kind = 1 then [putL (u64N f.n) 8] else if f.kind = 2 then [[if flagOf f.n then 1 else 0]] else if f.kind = 3 then [putL f.B.length 4, f.B] else if f.kind = 4 then [putL f.B.length 4, f.B] else if f.kind = 5 then [f.T] else []
def WDone (w : World) (g : Nat) (S : Nat → Prop) (s : Bool × List UInt8) : Ending → World → Prop := fun en w' => en = .returned (.tuple #[]) ∧ WR w' g (more S w w') s ∧ Keeps w w' S
theorem WDone.of {w w1 : World} {g : Nat} {S : Nat → Prop} {s : Bool × List UInt8} {en : Ending} {w' : World} (h : WPost w1 g S s en w') (hx : Ext w w1) (hb : ∀ k, S k → k < w.heap.size) : WDone w g S s (.returned (.tuple #[])) w' :=
  ⟨rfl, (WPost.of h hx hb).2.1, (WPost.of h hx hb).2.2⟩
set_option maxHeartbeats 8000000 in
theorem write_any (w : World) (g : Nat) (S : Nat → Prop) (s : Bool × List UInt8) (h : WR w g S s) (f : FD) (A : Option Addr) (c : Nat) (hf : FOk w f A c) (hA : ∀ ad, A = some ad → f.B ≠ [] → ¬ S ad.block) (hl : f.B.length ≤ 1000000) :
    Calls Try.prog 17 #[.pointer (some ⟨g, 0, none⟩), .agg (fcells f (.slice A f.B.length c)).toArray] w (WDone w g S (addAll s (pieces f))) := by
  refine calls_of_CW Try.func17 rfl (by simp [Try.ntmps17]) ?_
  rw [Try.ntmps17]
  refine go_WireL (k := ?_)
  refine OW_box _ rfl ?_
  intro w1 g3 hb hg3 hlt hx
  have hb : Blk w1 g3 26 (fcells f (.slice A f.B.length c)).toArray := hb
  have m0 : w1.cell? ⟨g3, 0, none⟩ = some (.int .i64 f.kind) := hb.cell 0
  have m1 : w1.cell? ⟨g3, 1, none⟩ = some (.int .i64 f.n) := hb.cell 1
  have m2 : w1.cell? ⟨g3, 2, none⟩ = some (.slice A f.B.length c) := hb.cell 2
  have hs := h.ext hx
  have hbd := h.bd
  refine go_WireL (k := ?_)
  refine CW_cond _ rfl (fun hh => ?_) (fun hh => ?_)
  · have hk : f.kind = 0 := by simpa using hh
    rw [show pieces f = [[byteOf f.n]] by unfold pieces; rw [if_pos hk]]
    clear hh hk
    refine go_WireL (k := ?_)
    rw [wrap_u8I]
    refine OW_callC Try.func35 (by kernel_rfl) rfl (wByte_any w1 g S s hs (byteOf f.n)) rfl ?_
    rintro en w3 hw
    refine ⟨_, hw.1, ?_⟩
    refine go_WireL (k := ?_)
    exact bodyE_end (bodyE_ret0 rfl (WDone.of hw hx hbd))
  have h0 : ¬ f.kind = 0 := by simpa using hh
  clear hh
  refine go_WireL (k := ?_)
  refine CW_cond _ rfl (fun hh => ?_) (fun hh => ?_)
  · have hk : f.kind = 1 := by simpa using hh
    rw [show pieces f = [putL (u64N f.n) 8] by unfold pieces; rw [if_neg h0, if_pos hk]]
    clear hh hk h0
    refine go_WireL (k := ?_)
    refine OW_callC Try.func31 (by kernel_rfl) rfl (wInt_any w1 g S s hs f.n) rfl ?_
    rintro en w3 hw
    refine ⟨_, hw.1, ?_⟩
    refine go_WireL (k := ?_)
    exact bodyE_end (bodyE_ret0 rfl (WDone.of hw hx hbd))
  have h1 : ¬ f.kind = 1 := by simpa using hh
  clear hh
  refine go_WireL (k := ?_)
  refine CW_cond _ rfl (fun hh => ?_) (fun hh => ?_)
  · have hk : f.kind = 2 := by simpa using hh
    rw [show pieces f = [[if flagOf f.n then 1 else 0]] by unfold pieces; rw [if_neg h0, if_neg h1, if_pos hk]]
    clear hh hk h0 h1
    refine go_WireL (k := ?_)
    rw [show (f.n.tmod 2 != 0) = flagOf f.n from rfl]
    refine OW_callC Try.func36 (by kernel_rfl) rfl (wFlag_any w1 g S s hs (flagOf f.n)) rfl ?_
    rintro en w3 hw
    refine ⟨_, hw.1, ?_⟩
    refine go_WireL (k := ?_)
    exact bodyE_end (bodyE_ret0 rfl (WDone.of hw hx hbd))
  have h2 : ¬ f.kind = 2 := by simpa using hh
  clear hh
  refine go_WireL (k := ?_)
  refine CW_cond _ rfl (fun hh => ?_) (fun hh => ?_)
  · have hk : f.kind = 3 := by simpa using hh
    rw [show pieces f = [putL f.B.length 4, f.B] by unfold pieces; rw [if_neg h0, if_neg h1, if_neg h2, if_pos hk]]
    clear hh hk h0 h1 h2
    refine go_WireL (k := ?_)
    refine OW_callC Try.func37 (by kernel_rfl) rfl (wBytes_any w1 g S s hs A f.B c (hf.bs.ext hx) hA hl) rfl ?_
    rintro en w3 hw
    refine ⟨_, hw.1, ?_⟩
    refine go_WireL (k := ?_)
    exact bodyE_end (bodyE_ret0 rfl (WDone.of hw hx hbd))
  have h3 : ¬ f.kind = 3 := by simpa using hh
  clear hh
  refine go_WireL (k := ?_)
  refine CW_cond _ rfl (fun hh => ?_) (fun hh => ?_)
  · have hk : f.kind = 4 := by simpa using hh
    rw [show pieces f = [putL f.B.length 4, f.B] by unfold pieces; rw [if_neg h0, if_neg h1, if_neg h2, if_neg h3, if_pos hk]]
    clear hh hk h0 h1 h2 h3
    refine go_WireL (k := ?_)
    refine OW_strOf (by with_reducible exact und_bytes) und_u8 und_string (hf.bs.ext hx) rfl ?_
    refine go_WireL (k := ?_)
    refine OW_callC Try.func38 (by kernel_rfl) rfl (wText_any w1 g S s hs ⟨f.B.toArray⟩ hl) rfl ?_
    rintro en w3 hw
    refine ⟨_, hw.1, ?_⟩
    refine go_WireL (k := ?_)
    exact bodyE_end (bodyE_ret0 rfl (WDone.of hw hx hbd))
  have h4 : ¬ f.kind = 4 := by simpa using hh
  clear hh
  refine go_WireL (k := ?_)
  refine CW_cond _ rfl (fun hh => ?_) (fun hh => ?_)
  · have hk : f.kind = 5 := by simpa using hh
    rw [show pieces f = [f.T] by unfold pieces; rw [if_neg h0, if_neg h1, if_neg h2, if_neg h3, if_neg h4, if_pos hk]]
    clear hh hk h0 h1 h2 h3 h4
    refine go_WireL (k := ?_)
    refine OW_loadX agg_Tag rfl (f.T.map bv) (by simp [hf.tag]) (fun j u hu => ?_) ?_
    · rw [addr_add_off]
      have := hb.cell (3 + j)
      rw [this, show 3 + j = j + 1 + 1 + 1 by omega]
      simpa [fcells] using hu
    refine go_WireL (k := ?_)
    refine OW_callC Try.func39 (by kernel_rfl) rfl (wTag_any w1 g S s hs f.T hf.tag) rfl ?_
    rintro en w3 hw
    refine ⟨_, hw.1, ?_⟩
    refine go_WireL (k := ?_)
    exact bodyE_end (bodyE_ret0 rfl (WDone.of hw hx hbd))
  have h5 : ¬ f.kind = 5 := by simpa using hh
  rw [show pieces f = [] by unfold pieces; rw [if_neg h0, if_neg h1, if_neg h2, if_neg h3, if_neg h4, if_neg h5]]
  refine go_WireL (k := ?_)
  exact bodyE_end (bodyE_ret0 rfl ⟨rfl, hs.mono (fun k hk => .inl hk) (fun k hk => by rcases hk with hk | hk; exact hs.bd k hk; exact hk.2), Keeps.of_ext hx S⟩)

theorem eqr_Tag : EqR Try.prog 24 32 := ⟨⟨⟨2, by decide, by kernel_rfl⟩, by kernel_rfl⟩, ⟨_, und_Tag, und_u8, by kernel_rfl⟩, by kernel_rfl⟩
theorem bytesV_len {w : World} {g : Nat} {S : Nat → Prop} {s : List UInt8 × Int} (h : RR w g S s) : (bytesV s).length ≤ 65536 := by
  unfold bytesV
  split
  · have h1 := h.len
    have h2 : (stepS s 4 (lenOk s)).1.length ≤ s.1.length := by
      unfold stepS
      split
      · exact Nat.le_refl _
      · split
        · exact Nat.zero_le _
        · split
          · simp
          · exact Nat.zero_le _
    rw [List.length_take]
    omega
  · exact Nat.zero_le _
/-- Two readers of one state, apart from each other. -/
structure Both (w : World) (g1 : Nat) (S1 : Nat → Prop) (g2 : Nat) (S2 : Nat → Prop) (s : List UInt8 × Int) : Prop where
  r : RR w g1 S1 s
  v : VR w g2 S2 s
  apart : ∀ k, S1 k → ¬ S2 k
theorem Both.ext {w w' : World} {g1 : Nat} {S1 : Nat → Prop} {g2 : Nat} {S2 : Nat → Prop} {s : List UInt8 × Int} (h : Both w g1 S1 g2 S2 s) (hx : Ext w w') : Both w' g1 S1 g2 S2 s := ⟨h.r.ext hx, h.v.ext hx, h.apart⟩
/-- The one's step, then the other's. -/
theorem Both.step {w w1 w2 : World} {g1 : Nat} {S1 : Nat → Prop} {g2 : Nat} {S2 : Nat → Prop} {s s' : List UInt8 × Int} (h : Both w g1 S1 g2 S2 s) (hr : RR w1 g1 S1 s') (hk : Keeps w w1 (· = g1)) (hv : VR w2 g2 S2 s') (hk2 : Keeps w1 w2 (· = g2)) : Both w2 g1 S1 g2 S2 s' ∧ Keeps w w2 (fun k => k = g1 ∨ k = g2) :=
  ⟨⟨hr.keeps hk2 (fun k hk3 hh => h.apart k hk3 (by rw [hh]; exact h.v.in_)), hv, h.apart⟩, (hk.mono (fun k _ hh => .inl hh)).trans' (hk2.mono (fun k _ hh => .inr hh))⟩
theorem Both.mid {w w1 : World} {g1 : Nat} {S1 : Nat → Prop} {g2 : Nat} {S2 : Nat → Prop} {s : List UInt8 × Int} (h : Both w g1 S1 g2 S2 s) (hk : Keeps w w1 (· = g1)) : VR w1 g2 S2 s := h.v.keeps hk (fun k hk3 hh => h.apart k (by rw [hh]; exact h.r.in_) hk3)
def OneP (w : World) (g1 : Nat) (S1 : Nat → Prop) (g2 : Nat) (S2 : Nat → Prop) : Ending → World → Prop := fun en w' => en = .returned (.bool true) ∧ (∃ s', Both w' g1 S1 g2 S2 s') ∧ Keeps w w' (fun k => k = g1 ∨ k = g2)
theorem keeps_ext3 {w w1 w2 : World} {S : Nat → Prop} (hx : Ext w w1) (hk : Keeps w1 w2 S) : Keeps w w2 S := (Keeps.of_ext hx S).trans' hk
end Go.Proofs.Ythhphmbhlddihaa
