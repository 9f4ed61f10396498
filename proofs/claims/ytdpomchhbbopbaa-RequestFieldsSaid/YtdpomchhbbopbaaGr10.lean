/- Several texts in one, as they stand in wip/src. -/
import Derived.Laws.CopyRow
import Derived.Test.YtdpomchhbbopbaaGr3
import Derived.Test.YtdpomchhbbopbaaGr4
import Derived.Test.YtdpomchhbbopbaaGr9
/- Walks: the reference's reader's Tag. -/
namespace Go.Proofs.Ytdpomchhbbopbaa
open Go Go.RowKit
set_option linter.unusedVariables false
set_option maxRecDepth 4000
theorem go_RefTag {A B : Prop} (h : Held B → A := by
  intro hEnd
  repeat (first | refine OW_moveV (.int _ _) rfl ?_ | refine OW_moveV (.slice _ _ _) rfl ?_ | refine OW_moveV (.bool _) rfl ?_ | refine OW_moveV (.pointer _) rfl ?_ | refine OW_moveV (.string _) rfl ?_ | refine OW_moveV (.agg _) rfl ?_ | refine OW_moveV (.tuple _) rfl ?_ | refine OW_nil ?_ | refine thenE_normal ?_ | refine CW_seq ?_ | refine CW_region (by kernel_rfl) ?_ | refine OW_assignV (.int _ _) rfl ?_ | refine OW_assignV (.slice _ _ _) rfl ?_ | refine OW_assignV (.bool _) rfl ?_ | refine OW_assignV (.pointer _) rfl ?_ | refine OW_assignV (.string _) rfl ?_ | refine OW_assignV (.agg _) rfl ?_ | refine OW_assignV (.tuple _) rfl ?_ | refine OW_addI rfl rfl (by omega) ?_ | refine OW_subI rfl rfl (by omega) ?_ | refine OW_mulI rfl rfl (by omega) ?_ | refine OW_lss rfl rfl ?_ | refine OW_extract rfl rfl ?_ | refine OW_gtr rfl rfl ?_ | refine OW_leq rfl rfl ?_ | refine OW_geq rfl rfl ?_ | refine OW_eql rfl rfl ?_ | refine OW_neq rfl rfl ?_ | refine OW_not rfl ?_ | refine OW_pickT rfl _ rfl ?_ | refine OW_pickF rfl (.bool _) rfl ?_ | refine OW_pickB rfl rfl rfl ?_ | refine OW_move ?_ | refine OW_assign ?_ | refine OW_pass rfl ?_ | refine OW_take rfl ?_ | refine OW_lenS (by first | with_reducible exact und_bytes | with_reducible exact und_bytess) rfl ?_ | refine OW_convInt (by first | with_reducible exact und_u8 | with_reducible exact und_u64 | with_reducible exact und_int | with_reducible exact und_u32) (by first | with_reducible exact und_u8 | with_reducible exact und_u64 | with_reducible exact und_int | with_reducible exact und_u32) rfl ?_ | refine OW_add rfl rfl ?_ | refine OW_sub rfl rfl ?_ | refine OW_mul rfl rfl ?_ | refine OW_min2 rfl rfl ?_ | refine OW_max2 rfl rfl ?_ | refine OW_neg rfl ?_ | refine CW_block ?_ | refine CW_condT rfl ?_ | refine CW_condF rfl ?_ | refine CW_exit ?_ | refine CW_ret ?_ | refine CW_skip ?_ | refine LW_seq ?_ | refine LW_regC ?_ | refine LW_condC ?_ | refine LW_regF ?_ | refine LW_condF ?_ | refine FW_seq ?_ | refine FW_region (by kernel_rfl) ?_ | refine FW_block ?_ | refine FW_condT rfl ?_ | refine FW_condF rfl ?_ | refine FW_exit ?_ | refine FW_ret ?_ | refine FW_skip ?_ | refine LW_ret ?_ | refine LW_skip ?_ | refine thenE_exit ?_ | refine thenE_ret ?_ | refine inBlockE_normal ?_ | refine inBlockE_same ?_ | refine inBlockE_ret ?_ | refine inBlockE_ne (by rfl) ?_ | refine OW_eqlB (by with_reducible exact und_bool) rfl rfl ?_ | refine OW_neqB (by with_reducible exact und_bool) rfl rfl ?_ | refine OW_idxS (by with_reducible exact und_bytes) one_u8 rfl rfl _ rfl (by omega) ?_ | refine OW_idxS (by with_reducible exact und_bytess) one_bytes rfl rfl _ rfl (by omega) ?_ | refine OW_load1 (by first | with_reducible exact one_u8 | with_reducible exact one_bytes) rfl _ (by assumption) ?_)
  exact hEnd.out) (k : B) : A := h ⟨k⟩
theorem und_Tag : Try.prog.underlying 25 = some (.array 32 5) := Try.underlying25
/-- The first k of some bytes over others. -/
def over (l z : List UInt8) (k : Nat) : List UInt8 := l.take k ++ z.drop k
theorem over_length {l z : List UInt8} {k : Nat} (hl : l.length = z.length) (hk : k ≤ l.length) : (over l z k).length = l.length := by
  unfold over; rw [List.length_append, List.length_take, List.length_drop]; omega
theorem over_set {l z : List UInt8} {k : Nat} (hl : l.length = z.length) (hk : k < l.length) : (over l z k).set k l[k] = over l z (k + 1) := by
  unfold over
  rw [List.set_append_right _ _ (by rw [List.length_take]; omega), List.length_take, Nat.min_eq_left (by omega), Nat.sub_self]
  rw [List.drop_eq_getElem_cons (show k < z.length by omega), List.set_cons_zero, List.take_succ_eq_append_getElem hk, List.append_assoc]
  rfl
theorem over_all {l z : List UInt8} (hl : l.length = z.length) : over l z l.length = l := by
  unfold over; rw [List.take_of_length_le (Nat.le_refl _), hl, List.drop_of_length_le (Nat.le_refl _), List.append_nil]
theorem tagV_length (s : List UInt8 × Int) : (tagV s).length = 32 := by
  unfold tagV
  split
  · rename_i hh
    have := of_decide_eq_true hh
    rw [List.length_take]; omega
  · rfl
set_option maxHeartbeats 8000000 in
theorem vTag_any (w : World) (g : Nat) (S : Nat → Prop) (s : List UInt8 × Int) (h : VR w g S s) : Calls Try.prog 72 #[.pointer (some ⟨g, 0, none⟩)] w (VPost w g S (.agg ((tagV s).map bv).toArray) (stepS s 32 true)) := by
  have hgs : g < w.heap.size := h.bd _ h.in_
  refine calls_of_CW Try.func72 rfl (by simp [Try.ntmps72]) ?_
  rw [Try.ntmps72]
  refine go_RefTag (k := ?_)
  refine OW_allocA agg_Tag ?_
  intro w1 g1 hb1 hg1 hlt1 hx1
  refine go_RefTag (k := ?_)
  refine OW_allocA agg_Tag ?_
  intro w2 g2 hb2 hg2 hlt2 hx2
  have hx := hx1.trans' hx2
  refine go_RefTag (k := ?_)
  refine OW_callC Try.func116 (by kernel_rfl) rfl (vSome_any w2 g S s (h.ext hx) 32 (by omega)) rfl ?_
  rintro en w3 ⟨A, c, rfl, ho, hv, hk⟩
  refine ⟨_, rfl, ?_⟩
  have hs1 := hx1.size
  have hb1 := (hb1.ext hx2).keeps hk (by omega)
  have hb2 := hb2.keeps hk (by omega)
  have hfin : ∀ w4, Blk w4 g2 25 ((tagV s).map bv).toArray → Blk w4 g1 25 (tz.map bv).toArray → Keeps w3 w4 (· = g2) → ∀ w5, Blk w5 g1 25 ((tagV s).map bv).toArray → w4.grownBy w5 (some g1) → VR w5 g S (stepS s 32 true) ∧ Keeps w w5 (· = g) := by
    intro w4 _ _ hk4 w5 _ hg5
    have hk5 : Keeps w3 w5 (fun k => k = g1 ∨ k = g2) := (hk4.mono (fun k _ hh => .inr hh)).trans' (Keeps.of_only hg5 (.inl rfl))
    refine ⟨hv.keeps hk5 (fun k hk2 hh => ?_), ?_⟩
    · have h9 := h.bd k hk2
      rcases hh with hh | hh <;> omega
    · refine ⟨hk5.os.trans (hk.os.trans hx.os), hk5.tape.trans (hk.tape.trans hx.tape), hk5.output.trans (hk.output.trans hx.output), Nat.le_trans hx.size (Nat.le_trans hk.size hk5.size), fun k hk1 hk2 => ?_⟩
      rw [hk5.block k (Nat.lt_of_lt_of_le hk1 (Nat.le_trans hx.size hk.size)) (by omega), hk.block k (Nat.lt_of_lt_of_le hk1 hx.size) hk2, hx.block k hk1]
  by_cases hf : fits s 32 = true
  · have hlen := fits_len (n := 32) hf
    have hl : someV s (32 : Nat) = s.1.take 32 := by
      unfold someV
      rw [show fits s ((32 : Nat) : Int) = true from hf, if_pos rfl]; rfl
    have ht : tagV s = s.1.take 32 := by unfold tagV; rw [hf, if_pos rfl]
    rw [hl, hlen] at ho
    rw [show fits s ((32 : Nat) : Int) = true from hf, hl, hlen]
    rw [ht] at hfin ⊢
    generalize s.1.take 32 = l at *
    have hbs : Bs w3 A l := own_rd ho
    obtain ⟨ad, hA⟩ := Bs.some_ hbs (by omega)
    subst hA
    have hne : ad.block ≠ g2 := by have := (own_block ho ad rfl).1; omega
    refine go_RefTag (k := ?_)
    refine CW_loop (fun e' w' => ∃ k : Nat, k ≤ 32 ∧ e' 2 = .pointer (some ⟨g1, 0, none⟩) ∧ e' 3 = .pointer (some ⟨g2, 0, none⟩) ∧ e' 4 = .slice (some ad) 32 c ∧ e' 5 = .bool true ∧ e' 6 = .int .i64 k ∧ Blk w' g2 25 ((over l tz k).map bv).toArray ∧ Keeps w3 w' (· = g2)) (fun e' _ => 32 - (intOf (e' 6)).toNat) ?_ ?_
    · exact ⟨0, Nat.zero_le _, rfl, rfl, rfl, rfl, rfl, hb2, Keeps.rfl' _ _⟩
    rintro e' w' ⟨k, hk32, e2, e3, e4, e5, e6, hB, hK⟩
    rw [upd_self e2, upd_self e3, upd_self e4, upd_self e5, upd_self e6]
    refine go_RefTag (k := ?_)
    refine CW_cond _ rfl (fun hh => ?_) (fun hh => ?_)
    · have hlt : k < 32 := by have := of_decide_eq_true hh; omega
      clear hh
      have hcell := (Bs.keeps hbs hK (fun ad' ha => by cases ha; exact hne)).cellAt k (by omega)
      have hlo : (over l tz k).length = 32 := by rw [over_length (by rw [hlen]; rfl) (by omega), hlen]
      refine go_RefTag (k := ?_)
      refine OW_idxA und_Tag one_u8 rfl rfl k rfl (by omega) ?_
      rw [add0]
      refine OW_storeB one_u8 rfl (bv l[k]) rfl rfl hB (by simp [hlo]; omega) ?_
      intro w4 hB4 hg4
      refine go_RefTag (k := ?_)
      refine ⟨⟨k + 1, by omega, rfl, rfl, rfl, rfl, rfl, ?_, hK.trans' (Keeps.of_only hg4 rfl)⟩, ?_⟩
      · rw [← over_set (by rw [hlen]; rfl) (by omega), List.map_set, ← List.setIfInBounds_toArray]
        exact hB4
      · show 32 - ((k : Int) + 1).toNat < 32 - (k : Int).toNat
        omega
    · have hge : k = 32 := by have := of_decide_eq_false hh; omega
      subst hge
      have ho : over l tz 32 = l := by rw [← hlen]; exact over_all (by rw [hlen]; rfl)
      rw [ho] at hB
      have hb1' := hb1.keeps hK (by omega)
      refine go_RefTag (k := ?_)
      refine OW_loadA agg_Tag rfl (l.map bv) (by simp [hlen]) hB.range ?_
      refine go_RefTag (k := ?_)
      refine OW_storeA agg_Tag rfl (l.map bv) rfl (by simp [hlen]) hb1' (by simp [tz]) (bv_one' _) ?_
      intro w5 hb5 hg5
      refine go_RefTag (k := ?_)
      obtain ⟨h1, h2⟩ := hfin w' hB hb1' hK w5 hb5 hg5
      exact bodyE_retc rfl agg_Tag rfl (l.map bv) (by simp [hlen]) hb5.range ⟨rfl, h1, h2⟩
  · have hf : fits s 32 = false := by simpa using hf
    have ht : tagV s = tz := by unfold tagV; rw [hf]; rfl
    rw [show fits s ((32 : Nat) : Int) = false from hf]
    rw [ht] at hfin ⊢
    refine go_RefTag (k := ?_)
    refine CW_loop (fun e' w' => e' = _ ∧ w' = w3) (fun _ _ => 0) ⟨rfl, rfl⟩ ?_
    rintro e' w' ⟨rfl, rfl⟩
    refine go_RefTag (k := ?_)
    refine OW_loadA agg_Tag rfl (tz.map bv) (by simp [tz]) hb2.range ?_
    refine go_RefTag (k := ?_)
    refine OW_storeA agg_Tag rfl (tz.map bv) rfl (by simp [tz]) hb1 (by simp [tz]) (bv_one' _) ?_
    intro w5 hb5 hg5
    refine go_RefTag (k := ?_)
    obtain ⟨h1, h2⟩ := hfin _ hb2 hb1 (Keeps.rfl' _ _) w5 hb5 hg5
    exact bodyE_retc rfl agg_Tag rfl (tz.map bv) (by simp [tz]) hb5.range ⟨rfl, h1, h2⟩
end Go.Proofs.Ytdpomchhbbopbaa

/- The statements' fields: what comes in, whether they are too many, what they are in bytes. -/
namespace Go.Proofs.Ytdpomchhbbopbaa
open Go Go.RowKit Go.ChangeShapes Go.WideShapes
set_option linter.unusedVariables false
set_option maxRecDepth 4000
theorem go_Field {A B : Prop} (h : Held B → A := by
  intro hEnd
  repeat (first | refine OW_moveV (.int _ _) rfl ?_ | refine OW_moveV (.slice _ _ _) rfl ?_ | refine OW_moveV (.bool _) rfl ?_ | refine OW_moveV (.pointer _) rfl ?_ | refine OW_moveV (.string _) rfl ?_ | refine OW_moveV (.agg _) rfl ?_ | refine OW_moveV (.tuple _) rfl ?_ | refine OW_nil ?_ | refine thenE_normal ?_ | refine CW_seq ?_ | refine CW_region (by kernel_rfl) ?_ | refine OW_assignV (.int _ _) rfl ?_ | refine OW_assignV (.slice _ _ _) rfl ?_ | refine OW_assignV (.bool _) rfl ?_ | refine OW_assignV (.pointer _) rfl ?_ | refine OW_assignV (.string _) rfl ?_ | refine OW_assignV (.agg _) rfl ?_ | refine OW_assignV (.tuple _) rfl ?_ | refine OW_addI rfl rfl (by omega) ?_ | refine OW_subI rfl rfl (by omega) ?_ | refine OW_mulI rfl rfl (by omega) ?_ | refine OW_lss rfl rfl ?_ | refine OW_extract rfl rfl ?_ | refine OW_gtr rfl rfl ?_ | refine OW_leq rfl rfl ?_ | refine OW_geq rfl rfl ?_ | refine OW_eql rfl rfl ?_ | refine OW_neq rfl rfl ?_ | refine OW_not rfl ?_ | refine OW_pickT rfl _ rfl ?_ | refine OW_pickF rfl (.bool _) rfl ?_ | refine OW_pickB rfl rfl rfl ?_ | refine OW_move ?_ | refine OW_assign ?_ | refine OW_pass rfl ?_ | refine OW_take rfl ?_ | refine OW_lenS (by first | with_reducible exact und_bytes | with_reducible exact und_bytess) rfl ?_ | refine OW_convInt (by first | with_reducible exact und_u8 | with_reducible exact und_u64 | with_reducible exact und_int | with_reducible exact und_u32) (by first | with_reducible exact und_u8 | with_reducible exact und_u64 | with_reducible exact und_int | with_reducible exact und_u32) rfl ?_ | refine OW_add rfl rfl ?_ | refine OW_sub rfl rfl ?_ | refine OW_mul rfl rfl ?_ | refine OW_min2 rfl rfl ?_ | refine OW_max2 rfl rfl ?_ | refine OW_neg rfl ?_ | refine CW_block ?_ | refine CW_condT rfl ?_ | refine CW_condF rfl ?_ | refine CW_exit ?_ | refine CW_ret ?_ | refine CW_skip ?_ | refine LW_seq ?_ | refine LW_regC ?_ | refine LW_condC ?_ | refine LW_regF ?_ | refine LW_condF ?_ | refine FW_seq ?_ | refine FW_region (by kernel_rfl) ?_ | refine FW_block ?_ | refine FW_condT rfl ?_ | refine FW_condF rfl ?_ | refine FW_exit ?_ | refine FW_ret ?_ | refine FW_skip ?_ | refine LW_ret ?_ | refine LW_skip ?_ | refine thenE_exit ?_ | refine thenE_ret ?_ | refine inBlockE_normal ?_ | refine inBlockE_same ?_ | refine inBlockE_ret ?_ | refine inBlockE_ne (by rfl) ?_ | refine OW_eqlB (by with_reducible exact und_bool) rfl rfl ?_ | refine OW_neqB (by with_reducible exact und_bool) rfl rfl ?_ | refine OW_idxS (by with_reducible exact und_bytes) one_u8 rfl rfl _ rfl (by omega) ?_ | refine OW_idxS (by with_reducible exact und_bytess) one_bytes rfl rfl _ rfl (by omega) ?_ | refine OW_load1 (by first | with_reducible exact one_u8 | with_reducible exact one_bytes) rfl _ (by assumption) ?_ | refine OW_lenS (by with_reducible exact und_Fs) rfl ?_ | refine OW_idxN und_Fs el_F rfl rfl _ rfl (by omega) ?_ | refine OW_fieldO fldo_F2 rfl ?_ | refine OW_load1 (by with_reducible exact one_int) rfl _ (by assumption) ?_)
  exact hEnd.out) (k : B) : A := h ⟨k⟩
structure FD where
  kind : Int
  n : Int
  B : List UInt8
  T : List UInt8
def fcells (f : FD) (v : Value) : List Value := [.int .i64 f.kind, .int .i64 f.n, v] ++ f.T.map bv
theorem fcells_length {f : FD} {v : Value} (h : f.T.length = 32) : (fcells f v).length = 35 := by simp [fcells, h]
/-- A field's own data, behind its place. -/
structure FOk (w : World) (f : FD) (A : Option Addr) (c : Nat) : Prop where
  bs : Bs w A f.B
  cap : f.B.length ≤ c
  small : f.B.length ≤ 140737488351232
  tag : f.T.length = 32
  kind : I64 f.kind
  n : I64 f.n
theorem FOk.ext {w w' : World} {f : FD} {A : Option Addr} {c : Nat} (h : FOk w f A c) (hx : Ext w w') : FOk w' f A c := ⟨h.bs.ext hx, h.cap, h.small, h.tag, h.kind, h.n⟩
def kField : KD Try.prog 51 FD where
  n := 35
  hn := by kernel_rfl
  R := fun w cs f => ∃ A c, cs = fcells f (.slice A f.B.length c) ∧ FOk w f A c
  ext := fun hx ⟨A, c, h1, h2⟩ => ⟨A, c, h1, h2.ext hx⟩
  opn := fun {H enc w fuel cs x} h hw => by
    obtain ⟨hl, hp⟩ := kd_parts Try.underlying51 h hw
    have hl : cs.length = 35 := by rw [hl]; kernel_rfl
    obtain ⟨a0, h0, r0⟩ := hp 0 _ rfl kI
    obtain ⟨a1, h1, r1⟩ := hp 1 _ rfl kI
    obtain ⟨a2, A, c, h2, ⟨r2, r2'⟩, b2⟩ := hp 2 _ rfl kBs
    obtain ⟨a3, h3, r3⟩ := hp 3 _ rfl kTag
    refine ⟨⟨a0, a1, a2, a3⟩, A, c, ?_, b2, r2, Nat.le_trans r2 r2', r3, r0, r1⟩
    have e0 : (cs.drop 0).take 1 = [.int .i64 a0] := h0
    have e1 : (cs.drop (0 + 1)).take 1 = [.int .i64 a1] := h1
    have e2 : (cs.drop (0 + 1 + 1)).take 1 = [.slice A a2.length c] := h2
    have e3 : (cs.drop (0 + 1 + 1 + 1)).take 32 = a3.map bv := h3
    have e4 : cs.drop (0 + 1 + 1 + 1 + 32) = [] := List.drop_of_length_le (by omega)
    have := cut_cons cs 0 1
    rw [cut_cons cs (0 + 1) 1, cut_cons cs (0 + 1 + 1) 1, cut_cons cs (0 + 1 + 1 + 1) 32, e0, e1, e2, e3, e4, List.drop_zero] at this
    rw [this]
    simp [fcells]
def kFields : KD Try.prog 53 (List FD) := kSlice kField Try.underlying53 (by kernel_rfl) (of_decide_eq_true (by kernel_rfl))
abbrev FS (w : World) (A : Option Addr) (l : List FD) : Prop := SlR 35 kField.R w A l
theorem FS.ext {w w' : World} {A : Option Addr} {l : List FD} (h : FS w A l) (hx : Ext w w') : FS w' A l := fun i hi => by
  obtain ⟨ad, ce, e1, e2, e3, e4⟩ := h i hi
  exact ⟨ad, ce, e1, e2, e3.ext hx, kField.ext hx e4⟩
theorem FS.get {w : World} {A : Option Addr} {l : List FD} (h : FS w A l) {i : Nat} (hi : i < l.length) : ∃ ad A' c', A = some ad ∧ At w (ad.add (i * 35)) (fcells l[i] (.slice A' (l[i]).B.length c')) ∧ FOk w l[i] A' c' := by
  obtain ⟨ad, ce, e1, e2, e3, A', c', e4, e5⟩ := h i hi
  subst e4
  exact ⟨ad, A', c', e1, e3, e5⟩
theorem und_Fs : Try.prog.underlying 53 = some (.slice 51) := Try.underlying53
theorem el_F : ElT Try.prog 51 35 := ⟨by kernel_rfl⟩
theorem agg_F : AggT Try.prog 51 35 (fcells ⟨0, 0, [], tz⟩ (.slice none 0 0)) := ⟨⟨_, Try.underlying51, rfl⟩, by kernel_rfl, fun w => by kernel_rfl⟩
theorem fldo_F2 : FldO Try.prog 51 2 2 := ⟨fun w a => by kernel_rfl⟩
theorem fld_F0 : Fld Try.prog 51 0 := ⟨fun w g => by kernel_rfl⟩
theorem fld_F1 : Fld Try.prog 51 1 := ⟨fun w g => by kernel_rfl⟩
theorem fld_F2 : Fld Try.prog 51 2 := ⟨fun w g => by kernel_rfl⟩
theorem fld_F3 : Fld Try.prog 51 3 := ⟨fun w g => by kernel_rfl⟩

def gsum (l : List FD) : Nat := (l.map fun f => f.B.length + 40).sum
theorem gsum_take_succ {l : List FD} {k : Nat} (h : k < l.length) : gsum (l.take (k + 1)) = gsum (l.take k) + ((l[k]).B.length + 40) := by
  unfold gsum; rw [List.take_succ_eq_append_getElem h, List.map_append, List.sum_append]; simp
theorem gsum_take_le (l : List FD) (k : Nat) : gsum (l.take k) ≤ gsum l := by
  have h := congrArg (fun l => gsum l) (List.take_append_drop k l)
  simp only [gsum, List.map_append, List.sum_append] at h ⊢
  omega
theorem gsum_len (l : List FD) : 40 * l.length ≤ gsum l := by
  unfold gsum
  induction l with
  | nil => simp
  | cons f l ih => simp only [List.map_cons, List.sum_cons, List.length_cons]; omega
theorem gsum_mem {l : List FD} {i : Nat} (h : i < l.length) : (l[i]).B.length + 40 ≤ gsum l := by
  have h1 := gsum_take_succ h
  have h2 := gsum_take_le l (i + 1)
  omega
set_option maxHeartbeats 8000000 in
theorem great_any (w : World) (A : Option Addr) (c : Nat) (l : List FD) (h : FS w A l) (hl : l.length ≤ 140737488351232) : Calls Try.prog 30 #[.slice A l.length c] w (RetV w (.bool (decide (4000 < gsum l)))) := by
  refine calls_of_CW Try.func30 rfl (by simp [Try.ntmps30]) ?_
  rw [Try.ntmps30]
  refine go_Field (k := ?_)
  refine CW_loop (fun e' w' => ∃ k : Nat, k ≤ l.length ∧ gsum (l.take k) ≤ 4000 ∧ e' 0 = .slice A l.length c ∧ e' 3 = .int .i64 (gsum (l.take k)) ∧ e' 4 = .int .i64 k ∧ w' = w) (fun e' _ => l.length - (intOf (e' 4)).toNat) ⟨0, Nat.zero_le _, Nat.zero_le _, rfl, rfl, rfl, rfl⟩ ?_
  rintro e' w' ⟨k, hk, hg, e0, e3, e4, rfl⟩
  rw [upd_self e0, upd_self e3, upd_self e4]
  refine go_Field (k := ?_)
  refine CW_cond _ rfl (fun hh => ?_) (fun hh => ?_)
  · have hlt : k < l.length := by have := of_decide_eq_true hh; omega
    clear hh
    obtain ⟨ad, A', c', hA, hat, hok⟩ := h.get hlt
    subst hA
    have hs := gsum_take_succ hlt
    have hcap := hok.small
    have hc2 : w'.cell? ((ad.add (k * 35)).add 2) = some (.slice A' (l[k]).B.length c') := hat 2 _ rfl
    refine go_Field (k := ?_)
    refine CW_cond _ rfl (fun hh => ?_) (fun hh => ?_)
    · have h2 := of_decide_eq_true hh
      have h3 := gsum_take_le l (k + 1)
      refine go_Field (k := ?_)
      exact bodyE_ret1 rfl (.bool (decide (4000 < gsum l))) (by rw [decide_eq_true (show 4000 < gsum l by omega)]; rfl) ⟨rfl, Ext.rfl' _⟩
    · have h2 := of_decide_eq_false hh
      clear hh
      refine go_Field (k := ?_)
      refine ⟨⟨k + 1, by omega, by omega, rfl, ?_, rfl, rfl⟩, ?_⟩
      · show Value.int _ _ = _
        rw [hs]
        congr 1
      · show l.length - ((k : Int) + 1).toNat < l.length - (k : Int).toNat
        omega
  · have hge : k = l.length := by have := of_decide_eq_false hh; omega
    subst hge
    rw [List.take_of_length_le (Nat.le_refl _)] at hg
    refine go_Field (k := ?_)
    exact bodyE_ret1 rfl (.bool (decide (4000 < gsum l))) (by rw [decide_eq_false (show ¬ 4000 < gsum l by omega)]; rfl) ⟨rfl, Ext.rfl' _⟩
end Go.Proofs.Ytdpomchhbbopbaa

/- Walks: the statements' own functions on fields: write, one, back. -/
namespace Go.Proofs.Ytdpomchhbbopbaa
open Go Go.RowKit
set_option linter.unusedVariables false
set_option maxRecDepth 4000
theorem go_WireL {A B : Prop} (h : Held B → A := by
  intro hEnd
  repeat (first | refine OW_moveV (.int _ _) rfl ?_ | refine OW_moveV (.slice _ _ _) rfl ?_ | refine OW_moveV (.bool _) rfl ?_ | refine OW_moveV (.pointer _) rfl ?_ | refine OW_moveV (.string _) rfl ?_ | refine OW_moveV (.agg _) rfl ?_ | refine OW_moveV (.tuple _) rfl ?_ | refine OW_nil ?_ | refine thenE_normal ?_ | refine CW_seq ?_ | refine CW_region (by kernel_rfl) ?_ | refine OW_assignV (.int _ _) rfl ?_ | refine OW_assignV (.slice _ _ _) rfl ?_ | refine OW_assignV (.bool _) rfl ?_ | refine OW_assignV (.pointer _) rfl ?_ | refine OW_assignV (.string _) rfl ?_ | refine OW_assignV (.agg _) rfl ?_ | refine OW_assignV (.tuple _) rfl ?_ | refine OW_addI rfl rfl (by omega) ?_ | refine OW_subI rfl rfl (by omega) ?_ | refine OW_mulI rfl rfl (by omega) ?_ | refine OW_lss rfl rfl ?_ | refine OW_extract rfl rfl ?_ | refine OW_gtr rfl rfl ?_ | refine OW_leq rfl rfl ?_ | refine OW_geq rfl rfl ?_ | refine OW_eql rfl rfl ?_ | refine OW_neq rfl rfl ?_ | refine OW_not rfl ?_ | refine OW_pickT rfl _ rfl ?_ | refine OW_pickF rfl (.bool _) rfl ?_ | refine OW_pickB rfl rfl rfl ?_ | refine OW_move ?_ | refine OW_assign ?_ | refine OW_pass rfl ?_ | refine OW_take rfl ?_ | refine OW_lenS (by first | with_reducible exact und_bytes | with_reducible exact und_bytess) rfl ?_ | refine OW_convInt (by first | with_reducible exact und_u8 | with_reducible exact und_u64 | with_reducible exact und_int | with_reducible exact und_u32) (by first | with_reducible exact und_u8 | with_reducible exact und_u64 | with_reducible exact und_int | with_reducible exact und_u32) rfl ?_ | refine OW_add rfl rfl ?_ | refine OW_sub rfl rfl ?_ | refine OW_mul rfl rfl ?_ | refine OW_min2 rfl rfl ?_ | refine OW_max2 rfl rfl ?_ | refine OW_neg rfl ?_ | refine CW_block ?_ | refine CW_condT rfl ?_ | refine CW_condF rfl ?_ | refine CW_exit ?_ | refine CW_ret ?_ | refine CW_skip ?_ | refine LW_seq ?_ | refine LW_regC ?_ | refine LW_condC ?_ | refine LW_regF ?_ | refine LW_condF ?_ | refine FW_seq ?_ | refine FW_region (by kernel_rfl) ?_ | refine FW_block ?_ | refine FW_condT rfl ?_ | refine FW_condF rfl ?_ | refine FW_exit ?_ | refine FW_ret ?_ | refine FW_skip ?_ | refine LW_ret ?_ | refine LW_skip ?_ | refine thenE_exit ?_ | refine thenE_ret ?_ | refine inBlockE_normal ?_ | refine inBlockE_same ?_ | refine inBlockE_ret ?_ | refine inBlockE_ne (by rfl) ?_ | refine OW_eqlB (by with_reducible exact und_bool) rfl rfl ?_ | refine OW_neqB (by with_reducible exact und_bool) rfl rfl ?_ | refine OW_idxS (by with_reducible exact und_bytes) one_u8 rfl rfl _ rfl (by omega) ?_ | refine OW_idxS (by with_reducible exact und_bytess) one_bytes rfl rfl _ rfl (by omega) ?_ | refine OW_load1 (by first | with_reducible exact one_u8 | with_reducible exact one_bytes) rfl _ (by assumption) ?_ | refine OW_rem rfl rfl (by decide) ?_ | refine OW_fieldF fld_F0 rfl ?_ | refine OW_fieldF fld_F1 rfl ?_ | refine OW_fieldF fld_F2 rfl ?_ | refine OW_fieldF fld_F3 rfl ?_ | refine OW_load1 (by first | with_reducible exact one_int) rfl _ (by assumption) ?_)
  exact hEnd.out) (k : B) : A := h ⟨k⟩
def byteOf (n : Int) : UInt8 := UInt8.ofNat (n % 256).toNat
theorem wrap_u8I (n : Int) : IntKind.u8.wrap n = ((byteOf n).toNat : Int) := by
  have h : IntKind.u8.wrap n = n % 256 := by simp [IntKind.wrap, IntKind.signed, IntKind.bits]
  rw [h, byteOf, UInt8.toNat_ofNat']
  omega
def flagOf (n : Int) : Bool := n.tmod 2 != 0
/-- What a field is in bytes. -/
def pieces (f : FD) : List (List UInt8) :=
  if f.kind = 0 then [[byteOf f.n]] else if f.kind = 1 then [putL (u64N f.n) 8] else if f.kind = 2 then [[if flagOf f.n then 1 else 0]] else if f.kind = 3 then [putL f.B.length 4, f.B] else if f.kind = 4 then [putL f.B.length 4, f.B] else if f.kind = 5 then [f.T] else []
def WDone (w : World) (g : Nat) (S : Nat → Prop) (s : Bool × List UInt8) : Ending → World → Prop := fun en w' => en = .returned (.tuple #[]) ∧ WR w' g (more S w w') s ∧ Keeps w w' S
theorem WDone.of {w w1 : World} {g : Nat} {S : Nat → Prop} {s : Bool × List UInt8} {en : Ending} {w' : World} (h : WPost w1 g S s en w') (hx : Ext w w1) (hb : ∀ k, S k → k < w.heap.size) : WDone w g S s (.returned (.tuple #[])) w' :=
  ⟨rfl, (WPost.of h hx hb).2.1, (WPost.of h hx hb).2.2⟩
set_option maxHeartbeats 8000000 in
theorem write_any (w : World) (g : Nat) (S : Nat → Prop) (s : Bool × List UInt8) (h : WR w g S s) (f : FD) (A : Option Addr) (c : Nat) (hf : FOk w f A c) (hA : ∀ ad, A = some ad → f.B ≠ [] → ¬ S ad.block) (hl : f.B.length ≤ 1000000) :
    Calls Try.prog 31 #[.pointer (some ⟨g, 0, none⟩), .agg (fcells f (.slice A f.B.length c)).toArray] w (WDone w g S (addAll s (pieces f))) := by
  refine calls_of_CW Try.func31 rfl (by simp [Try.ntmps31]) ?_
  rw [Try.ntmps31]
  refine go_WireL (k := ?_)
  refine OW_box _ rfl ?_
  intro w1 g3 hb hg3 hlt hx
  have hb : Blk w1 g3 51 (fcells f (.slice A f.B.length c)).toArray := hb
  have m0 : w1.cell? ⟨g3, 0, none⟩ = some (.int .i64 f.kind) := hb.cell 0
  have m1 : w1.cell? ⟨g3, 1, none⟩ = some (.int .i64 f.n) := hb.cell 1
  have m2 : w1.cell? ⟨g3, 2, none⟩ = some (.slice A f.B.length c) := hb.cell 2
  have hs := h.ext hx
  have hbd := h.bd
  refine go_WireL (k := ?_)
  refine CW_cond _ rfl (fun hh => ?_) (fun hh => ?_)
  · have hk : f.kind = 0 := by simpa using hh
    rw [show pieces f = [[byteOf f.n]] by unfold pieces; rw [if_pos hk]]
    clear hh hk
    refine go_WireL (k := ?_)
    rw [wrap_u8I]
    refine OW_callC Try.func52 (by kernel_rfl) rfl (wByte_any w1 g S s hs (byteOf f.n)) rfl ?_
    rintro en w3 hw
    refine ⟨_, hw.1, ?_⟩
    refine go_WireL (k := ?_)
    exact bodyE_end (bodyE_ret0 rfl (WDone.of hw hx hbd))
  have h0 : ¬ f.kind = 0 := by simpa using hh
  clear hh
  refine go_WireL (k := ?_)
  refine CW_cond _ rfl (fun hh => ?_) (fun hh => ?_)
  · have hk : f.kind = 1 := by simpa using hh
    rw [show pieces f = [putL (u64N f.n) 8] by unfold pieces; rw [if_neg h0, if_pos hk]]
    clear hh hk h0
    refine go_WireL (k := ?_)
    refine OW_callC Try.func48 (by kernel_rfl) rfl (wInt_any w1 g S s hs f.n) rfl ?_
    rintro en w3 hw
    refine ⟨_, hw.1, ?_⟩
    refine go_WireL (k := ?_)
    exact bodyE_end (bodyE_ret0 rfl (WDone.of hw hx hbd))
  have h1 : ¬ f.kind = 1 := by simpa using hh
  clear hh
  refine go_WireL (k := ?_)
  refine CW_cond _ rfl (fun hh => ?_) (fun hh => ?_)
  · have hk : f.kind = 2 := by simpa using hh
    rw [show pieces f = [[if flagOf f.n then 1 else 0]] by unfold pieces; rw [if_neg h0, if_neg h1, if_pos hk]]
    clear hh hk h0 h1
    refine go_WireL (k := ?_)
    rw [show (f.n.tmod 2 != 0) = flagOf f.n from rfl]
    refine OW_callC Try.func53 (by kernel_rfl) rfl (wFlag_any w1 g S s hs (flagOf f.n)) rfl ?_
    rintro en w3 hw
    refine ⟨_, hw.1, ?_⟩
    refine go_WireL (k := ?_)
    exact bodyE_end (bodyE_ret0 rfl (WDone.of hw hx hbd))
  have h2 : ¬ f.kind = 2 := by simpa using hh
  clear hh
  refine go_WireL (k := ?_)
  refine CW_cond _ rfl (fun hh => ?_) (fun hh => ?_)
  · have hk : f.kind = 3 := by simpa using hh
    rw [show pieces f = [putL f.B.length 4, f.B] by unfold pieces; rw [if_neg h0, if_neg h1, if_neg h2, if_pos hk]]
    clear hh hk h0 h1 h2
    refine go_WireL (k := ?_)
    refine OW_callC Try.func54 (by kernel_rfl) rfl (wBytes_any w1 g S s hs A f.B c (hf.bs.ext hx) hA hl) rfl ?_
    rintro en w3 hw
    refine ⟨_, hw.1, ?_⟩
    refine go_WireL (k := ?_)
    exact bodyE_end (bodyE_ret0 rfl (WDone.of hw hx hbd))
  have h3 : ¬ f.kind = 3 := by simpa using hh
  clear hh
  refine go_WireL (k := ?_)
  refine CW_cond _ rfl (fun hh => ?_) (fun hh => ?_)
  · have hk : f.kind = 4 := by simpa using hh
    rw [show pieces f = [putL f.B.length 4, f.B] by unfold pieces; rw [if_neg h0, if_neg h1, if_neg h2, if_neg h3, if_pos hk]]
    clear hh hk h0 h1 h2 h3
    refine go_WireL (k := ?_)
    refine OW_strOf (by with_reducible exact und_bytes) und_u8 und_string (hf.bs.ext hx) rfl ?_
    refine go_WireL (k := ?_)
    refine OW_callC Try.func55 (by kernel_rfl) rfl (wText_any w1 g S s hs ⟨f.B.toArray⟩ hl) rfl ?_
    rintro en w3 hw
    refine ⟨_, hw.1, ?_⟩
    refine go_WireL (k := ?_)
    exact bodyE_end (bodyE_ret0 rfl (WDone.of hw hx hbd))
  have h4 : ¬ f.kind = 4 := by simpa using hh
  clear hh
  refine go_WireL (k := ?_)
  refine CW_cond _ rfl (fun hh => ?_) (fun hh => ?_)
  · have hk : f.kind = 5 := by simpa using hh
    rw [show pieces f = [f.T] by unfold pieces; rw [if_neg h0, if_neg h1, if_neg h2, if_neg h3, if_neg h4, if_pos hk]]
    clear hh hk h0 h1 h2 h3 h4
    refine go_WireL (k := ?_)
    refine OW_loadX agg_Tag rfl (f.T.map bv) (by simp [hf.tag]) (fun j u hu => ?_) ?_
    · rw [addr_add_off]
      have := hb.cell (3 + j)
      rw [this, show 3 + j = j + 1 + 1 + 1 by omega]
      simpa [fcells] using hu
    refine go_WireL (k := ?_)
    refine OW_callC Try.func56 (by kernel_rfl) rfl (wTag_any w1 g S s hs f.T hf.tag) rfl ?_
    rintro en w3 hw
    refine ⟨_, hw.1, ?_⟩
    refine go_WireL (k := ?_)
    exact bodyE_end (bodyE_ret0 rfl (WDone.of hw hx hbd))
  have h5 : ¬ f.kind = 5 := by simpa using hh
  rw [show pieces f = [] by unfold pieces; rw [if_neg h0, if_neg h1, if_neg h2, if_neg h3, if_neg h4, if_neg h5]]
  refine go_WireL (k := ?_)
  exact bodyE_end (bodyE_ret0 rfl ⟨rfl, hs.mono (fun k hk => .inl hk) (fun k hk => by rcases hk with hk | hk; exact hs.bd k hk; exact hk.2), Keeps.of_ext hx S⟩)

theorem eqr_Tag : EqR Try.prog 25 32 := ⟨⟨⟨2, by decide, by kernel_rfl⟩, by kernel_rfl⟩, ⟨_, und_Tag, und_u8, by kernel_rfl⟩, by kernel_rfl⟩
theorem bytesV_len {w : World} {g : Nat} {S : Nat → Prop} {s : List UInt8 × Int} (h : RR w g S s) : (bytesV s).length ≤ 65536 := by
  unfold bytesV
  split
  · have h1 := h.len
    have h2 : (stepS s 4 (lenOk s)).1.length ≤ s.1.length := by
      unfold stepS
      split
      · exact Nat.le_refl _
      · split
        · exact Nat.zero_le _
        · split
          · simp
          · exact Nat.zero_le _
    rw [List.length_take]
    omega
  · exact Nat.zero_le _
/-- Two readers of one state, apart from each other. -/
structure Both (w : World) (g1 : Nat) (S1 : Nat → Prop) (g2 : Nat) (S2 : Nat → Prop) (s : List UInt8 × Int) : Prop where
  r : RR w g1 S1 s
  v : VR w g2 S2 s
  apart : ∀ k, S1 k → ¬ S2 k
theorem Both.ext {w w' : World} {g1 : Nat} {S1 : Nat → Prop} {g2 : Nat} {S2 : Nat → Prop} {s : List UInt8 × Int} (h : Both w g1 S1 g2 S2 s) (hx : Ext w w') : Both w' g1 S1 g2 S2 s := ⟨h.r.ext hx, h.v.ext hx, h.apart⟩
/-- The one's step, then the other's. -/
theorem Both.step {w w1 w2 : World} {g1 : Nat} {S1 : Nat → Prop} {g2 : Nat} {S2 : Nat → Prop} {s s' : List UInt8 × Int} (h : Both w g1 S1 g2 S2 s) (hr : RR w1 g1 S1 s') (hk : Keeps w w1 (· = g1)) (hv : VR w2 g2 S2 s') (hk2 : Keeps w1 w2 (· = g2)) : Both w2 g1 S1 g2 S2 s' ∧ Keeps w w2 (fun k => k = g1 ∨ k = g2) :=
  ⟨⟨hr.keeps hk2 (fun k hk3 hh => h.apart k hk3 (by rw [hh]; exact h.v.in_)), hv, h.apart⟩, (hk.mono (fun k _ hh => .inl hh)).trans' (hk2.mono (fun k _ hh => .inr hh))⟩
theorem Both.mid {w w1 : World} {g1 : Nat} {S1 : Nat → Prop} {g2 : Nat} {S2 : Nat → Prop} {s : List UInt8 × Int} (h : Both w g1 S1 g2 S2 s) (hk : Keeps w w1 (· = g1)) : VR w1 g2 S2 s := h.v.keeps hk (fun k hk3 hh => h.apart k (by rw [hh]; exact h.r.in_) hk3)
def OneP (w : World) (g1 : Nat) (S1 : Nat → Prop) (g2 : Nat) (S2 : Nat → Prop) : Ending → World → Prop := fun en w' => en = .returned (.bool true) ∧ (∃ s', Both w' g1 S1 g2 S2 s') ∧ Keeps w w' (fun k => k = g1 ∨ k = g2)
theorem keeps_ext3 {w w1 w2 : World} {S : Nat → Prop} (hx : Ext w w1) (hk : Keeps w1 w2 S) : Keeps w w2 S := (Keeps.of_ext hx S).trans' hk
end Go.Proofs.Ytdpomchhbbopbaa

/- Walk: the reference 01's Put. -/
namespace Go.Proofs.Ytdpomchhbbopbaa
open Go Go.RowKit
set_option linter.unusedVariables false
theorem go_RefPut {A B : Prop} (h : Held B → A := by
  intro hEnd
  repeat (first | refine OW_moveV (.int _ _) rfl ?_ | refine OW_moveV (.slice _ _ _) rfl ?_ | refine OW_moveV (.bool _) rfl ?_ | refine OW_moveV (.pointer _) rfl ?_ | refine OW_moveV (.string _) rfl ?_ | refine OW_moveV (.agg _) rfl ?_ | refine OW_moveV (.tuple _) rfl ?_ | refine OW_nil ?_ | refine thenE_normal ?_ | refine CW_seq ?_ | refine CW_region (by kernel_rfl) ?_ | refine OW_assignV (.int _ _) rfl ?_ | refine OW_assignV (.slice _ _ _) rfl ?_ | refine OW_assignV (.bool _) rfl ?_ | refine OW_assignV (.pointer _) rfl ?_ | refine OW_assignV (.string _) rfl ?_ | refine OW_assignV (.agg _) rfl ?_ | refine OW_assignV (.tuple _) rfl ?_ | refine OW_addI rfl rfl (by omega) ?_ | refine OW_subI rfl rfl (by omega) ?_ | refine OW_mulI rfl rfl (by omega) ?_ | refine OW_lss rfl rfl ?_ | refine OW_extract rfl rfl ?_ | refine OW_gtr rfl rfl ?_ | refine OW_leq rfl rfl ?_ | refine OW_geq rfl rfl ?_ | refine OW_eql rfl rfl ?_ | refine OW_neq rfl rfl ?_ | refine OW_not rfl ?_ | refine OW_pickT rfl _ rfl ?_ | refine OW_pickF rfl (.bool _) rfl ?_ | refine OW_pickB rfl rfl rfl ?_ | refine OW_move ?_ | refine OW_assign ?_ | refine OW_pass rfl ?_ | refine OW_take rfl ?_ | refine OW_lenS (by first | with_reducible exact und_bytes | with_reducible exact und_bytess) rfl ?_ | refine OW_convInt (by first | with_reducible exact und_u8 | with_reducible exact und_u64 | with_reducible exact und_int | with_reducible exact und_u32) (by first | with_reducible exact und_u8 | with_reducible exact und_u64 | with_reducible exact und_int | with_reducible exact und_u32) rfl ?_ | refine OW_add rfl rfl ?_ | refine OW_sub rfl rfl ?_ | refine OW_mul rfl rfl ?_ | refine OW_min2 rfl rfl ?_ | refine OW_max2 rfl rfl ?_ | refine OW_neg rfl ?_ | refine CW_block ?_ | refine CW_condT rfl ?_ | refine CW_condF rfl ?_ | refine CW_exit ?_ | refine CW_ret ?_ | refine CW_skip ?_ | refine LW_seq ?_ | refine LW_regC ?_ | refine LW_condC ?_ | refine LW_regF ?_ | refine LW_condF ?_ | refine FW_seq ?_ | refine FW_region (by kernel_rfl) ?_ | refine FW_block ?_ | refine FW_condT rfl ?_ | refine FW_condF rfl ?_ | refine FW_exit ?_ | refine FW_ret ?_ | refine FW_skip ?_ | refine LW_ret ?_ | refine LW_skip ?_ | refine thenE_exit ?_ | refine thenE_ret ?_ | refine inBlockE_normal ?_ | refine inBlockE_same ?_ | refine inBlockE_ret ?_ | refine inBlockE_ne (by rfl) ?_ | refine OW_eqlB (by with_reducible exact und_bool) rfl rfl ?_ | refine OW_neqB (by with_reducible exact und_bool) rfl rfl ?_ | refine OW_idxS (by with_reducible exact und_bytes) one_u8 rfl rfl _ rfl (by omega) ?_ | refine OW_idxS (by with_reducible exact und_bytess) one_bytes rfl rfl _ rfl (by omega) ?_ | refine OW_load1 (by first | with_reducible exact one_u8 | with_reducible exact one_bytes) rfl _ (by assumption) ?_)
  exact hEnd.out) (k : B) : A := h ⟨k⟩
theorem putL_take_succ {x n k : Nat} (hk : k < n) : (putL x n).take (k + 1) = (putL x n).take k ++ [UInt8.ofNat (x / 256 ^ (n - 1 - k))] := by
  rw [take_succ_get _ _ (by rw [putL_length]; exact hk)]
  congr 2
  have := putL_get (x := x) hk
  rw [List.getElem?_eq_getElem (by rw [putL_length]; exact hk)] at this
  exact Option.some.inj this
set_option maxHeartbeats 8000000 in
theorem refPut_any (w : World) (x : Nat) (n : Int) (nN : Nat) (hnn : n = (nN : Int)) (h8 : nN ≤ 8) (hx : x < 18446744073709551616) :
    Calls Try.prog 95 #[.int .u64 x, .int .i64 n] w (RetBs 5 w (putL x nN)) := by
  subst hnn
  have hlen := putL_length x nN
  refine calls_of_CW Try.func95 rfl (by simp [Try.ntmps95]) ?_
  rw [Try.ntmps95]
  refine go_RefPut (k := ?_)
  refine CW_loop (fun e' w' => ∃ (k : Nat) (A2 : Option Addr) (c2 : Nat), k ≤ nN ∧ e' 0 = .int .u64 x ∧ e' 1 = .int .i64 nN ∧ e' 6 = .int .i64 k ∧ e' 5 = .slice A2 k c2 ∧
      w'.ownsRow w.heap.size 5 1 (.slice A2 k c2) k (((putL x nN).take k).map bv) ∧ Ext w w') (fun e' _ => nN - (intOf (e' 6)).toNat) ?_ ?_
  · exact ⟨0, none, 0, Nat.zero_le _, rfl, rfl, rfl, rfl, World.ownsRow_nil _ _ _ _, Ext.rfl' w⟩
  · rintro e' w' ⟨k, A2, c2, hk, e0, e1, e6, e5, ho, hw⟩
    rw [upd_self e0, upd_self e1, upd_self e6, upd_self e5]
    refine go_RefPut (k := ?_)
    refine CW_cond _ rfl (fun h => ?_) (fun h => ?_)
    · have hlt : k < nN := by simpa using h
      refine go_RefPut (k := ?_)
      refine CW_loop (fun e'' w'' => ∃ j : Nat, k ≤ j ∧ j ≤ nN - 1 ∧ e'' 0 = .int .u64 x ∧ e'' 1 = .int .i64 nN ∧ e'' 6 = .int .i64 k ∧ e'' 5 = .slice A2 k c2 ∧ e'' 7 = .int .u64 (x / 256 ^ (j - k) : Nat) ∧ e'' 8 = .int .i64 j ∧ w'' = w') (fun e'' _ => nN - (intOf (e'' 8)).toNat) ?_ ?_
      · exact ⟨k, Nat.le_refl _, by omega, rfl, rfl, rfl, rfl, by simp; rfl, rfl, rfl⟩
      · rintro e2 w2 ⟨j, hj1, hj2, f0, f1, f6, f5, f7, f8, rfl⟩
        rw [upd_self f0, upd_self f1, upd_self f6, upd_self f5, upd_self f7, upd_self f8]
        have hy : x / 256 ^ (j - k) < 18446744073709551616 := Nat.lt_of_le_of_lt (Nat.div_le_self _ _) hx
        have hs : x / 256 ^ (j - k) / 256 = x / 256 ^ (j + 1 - k) := by rw [show j + 1 - k = j - k + 1 by omega, Nat.pow_succ, Nat.div_div_eq_div_mul]
        refine go_RefPut (k := ?_)
        refine CW_cond _ rfl (fun h => ?_) (fun h => ?_)
        · have hjl : j < nN - 1 := by simp at h; omega
          refine go_RefPut (k := ?_)
          refine OW_quo rfl rfl (by decide) ?_
          rw [quo_u64 _ 256 256 rfl hy, hs]
          refine go_RefPut (k := ?_)
          refine ⟨⟨j + 1, by omega, by omega, rfl, rfl, rfl, rfl, rfl, rfl, rfl⟩, ?_⟩
          show nN - ((j : Int) + 1).toNat < nN - (j : Int).toNat
          omega
        · have hje : j = nN - 1 := by simp at h; omega
          subst hje
          refine go_RefPut (k := ?_)
          refine OW_rem rfl rfl (by decide) ?_
          rw [rem_u32 _ 256 256 rfl]
          refine go_RefPut (k := ?_)
          rw [wrap_u8_lt _ (Nat.mod_lt _ (by decide))]
          have hv : (Value.int .u8 ((x / 256 ^ (nN - 1 - k) % 256 : Nat) : Int)) = bv (UInt8.ofNat (x / 256 ^ (nN - 1 - k))) := by simp [bv]
          refine OW_lit [.int .u8 ((x / 256 ^ (nN - 1 - k) % 256 : Nat) : Int)] und_bytes info_u8 rfl rfl (by simp [Value.oneCell']) (by decide) ?_
          intro w3 g3 hb3 hg3 hx3
          refine go_RefPut (k := ?_)
          refine OW_append und_bytes info_u8 rfl rfl rfl (own_ext ho hx3) hb3.rd (by simp) (by simp [Value.oneCell']) (by unfold maxLen; omega) (by omega) (Nat.le_trans hw.size hx3.size) ?_
          intro w4 A4 c4 ho4 hb4
          refine go_RefPut (k := ?_)
          refine ⟨⟨k + 1, A4, c4, by omega, rfl, rfl, rfl, rfl, ?_, (hw.trans' hx3).trans hb4⟩, ?_⟩
          · rw [putL_take_succ hlt, List.map_append, List.map_cons, List.map_nil, ← hv]
            exact ho4
          · show nN - ((k : Int) + 1).toNat < nN - (k : Int).toNat
            omega
    · have hge : k = nN := by simp at h; omega
      subst hge
      rw [List.take_of_length_le (by omega)] at ho
      refine go_RefPut (k := ?_)
      refine bodyE_ret1 rfl (.slice A2 k c2) rfl ⟨A2, c2, by rw [hlen], ?_, hw⟩
      rw [hlen]
      exact ho
end Go.Proofs.Ytdpomchhbbopbaa

/- Where ways meet again, whatever stands behind. No program in sight. -/
namespace Go.Proofs.Ytdpomchhbbopbaa
open Go Go.RowKit
/-- It ends in its normal way, and so. -/
def nrm (J : (Nat → Value) → World → Prop) : Exit → (Nat → Value) → World → Prop := fun x e w => x = .normal ∧ J e w
theorem CW_meet {P : Program} {n : Nat} {c : Code} {Q : Exit → (Nat → Value) → World → Prop} {e : Nat → Value} {w : World} (J : (Nat → Value) → World → Prop) (h : CW P n c (nrm J) e w) (hk : ∀ e w, J e w → Q .normal e w) : CW P n c Q e w :=
  h.mono fun x e w ⟨hx, hJ⟩ => by subst hx; exact hk _ _ hJ
/-- The same around a block's inside. -/
theorem CW_meetB {P : Program} {n id : Nat} {c : Code} {Q : Exit → (Nat → Value) → World → Prop} {e : Nat → Value} {w : World} (J : (Nat → Value) → World → Prop) (h : CW P n c (inBlockE id (nrm J)) e w) (hk : ∀ e w, J e w → Q .normal e w) : CW P n c (inBlockE id Q) e w :=
  h.mono fun x e w hx => by
    cases x with
    | normal => unfold inBlockE at hx ⊢; exact hk _ _ hx.2
    | exit id' =>
      unfold inBlockE at hx ⊢
      simp only at hx ⊢
      split
      · rename_i hh; rw [if_pos hh] at hx; exact hk _ _ hx.2
      · rename_i hh; rw [if_neg hh] at hx; cases hx.1
    | ret => unfold inBlockE at hx; cases hx.1
    | goto t => unfold inBlockE at hx; cases hx.1
    | panic ch => unfold inBlockE at hx; cases hx.1
    | outgrown => unfold inBlockE at hx; cases hx.1
theorem OW.mono {P : Program} {ops : Array Oper} {Q Q' : Exit → (Nat → Value) → World → Prop} : ∀ (l : List Oper) {e : Nat → Value} {w : World}, OW P ops Q l e w → (∀ e w, Q .normal e w → Q' .normal e w) → OW P ops Q' l e w
  | [], e, w, h, hq => by unfold OW at h ⊢; exact hq _ _ h
  | o :: l, e, w, h, hq => by
    unfold OW at h ⊢
    split
    · rename_i hw
      rw [if_pos hw] at h
      exact opW_mono h fun v w' hv => OW.mono l hv hq
    · rename_i hw
      rw [if_neg hw] at h
      exact OW.mono l h hq
/-- Where the ways of one region meet again. -/
theorem OW_meet {P : Program} {ops : Array Oper} {Q : Exit → (Nat → Value) → World → Prop} {l : List Oper} {e : Nat → Value} {w : World} (J : (Nat → Value) → World → Prop) (h : OW P ops (nrm J) l e w) (hk : ∀ e w, J e w → Q .normal e w) : OW P ops Q l e w :=
  OW.mono l h fun e w ⟨_, hJ⟩ => hk e w hJ
end Go.Proofs.Ytdpomchhbbopbaa

/- Walks: the reference's forms of fields, and the statements' Form. -/
namespace Go.Proofs.Ytdpomchhbbopbaa
open Go Go.RowKit
set_option linter.unusedVariables false
set_option maxRecDepth 4000
theorem go_Form {A B : Prop} (h : Held B → A := by
  intro hEnd
  repeat (first | refine OW_moveV (.int _ _) rfl ?_ | refine OW_moveV (.slice _ _ _) rfl ?_ | refine OW_moveV (.bool _) rfl ?_ | refine OW_moveV (.pointer _) rfl ?_ | refine OW_moveV (.string _) rfl ?_ | refine OW_moveV (.agg _) rfl ?_ | refine OW_moveV (.tuple _) rfl ?_ | refine OW_nil ?_ | refine thenE_normal ?_ | refine CW_seq ?_ | refine CW_region (by kernel_rfl) ?_ | refine OW_assignV (.int _ _) rfl ?_ | refine OW_assignV (.slice _ _ _) rfl ?_ | refine OW_assignV (.bool _) rfl ?_ | refine OW_assignV (.pointer _) rfl ?_ | refine OW_assignV (.string _) rfl ?_ | refine OW_assignV (.agg _) rfl ?_ | refine OW_assignV (.tuple _) rfl ?_ | refine OW_addI rfl rfl (by omega) ?_ | refine OW_subI rfl rfl (by omega) ?_ | refine OW_mulI rfl rfl (by omega) ?_ | refine OW_lss rfl rfl ?_ | refine OW_extract rfl rfl ?_ | refine OW_gtr rfl rfl ?_ | refine OW_leq rfl rfl ?_ | refine OW_geq rfl rfl ?_ | refine OW_eql rfl rfl ?_ | refine OW_neq rfl rfl ?_ | refine OW_not rfl ?_ | refine OW_pickT rfl _ rfl ?_ | refine OW_pickF rfl (.bool _) rfl ?_ | refine OW_pickB rfl rfl rfl ?_ | refine OW_move ?_ | refine OW_assign ?_ | refine OW_pass rfl ?_ | refine OW_take rfl ?_ | refine OW_lenS (by first | with_reducible exact und_bytes | with_reducible exact und_bytess) rfl ?_ | refine OW_convInt (by first | with_reducible exact und_u8 | with_reducible exact und_u64 | with_reducible exact und_int | with_reducible exact und_u32) (by first | with_reducible exact und_u8 | with_reducible exact und_u64 | with_reducible exact und_int | with_reducible exact und_u32) rfl ?_ | refine OW_add rfl rfl ?_ | refine OW_sub rfl rfl ?_ | refine OW_mul rfl rfl ?_ | refine OW_min2 rfl rfl ?_ | refine OW_max2 rfl rfl ?_ | refine OW_neg rfl ?_ | refine CW_block ?_ | refine CW_condT rfl ?_ | refine CW_condF rfl ?_ | refine CW_exit ?_ | refine CW_ret ?_ | refine CW_skip ?_ | refine LW_seq ?_ | refine LW_regC ?_ | refine LW_condC ?_ | refine LW_regF ?_ | refine LW_condF ?_ | refine FW_seq ?_ | refine FW_region (by kernel_rfl) ?_ | refine FW_block ?_ | refine FW_condT rfl ?_ | refine FW_condF rfl ?_ | refine FW_exit ?_ | refine FW_ret ?_ | refine FW_skip ?_ | refine LW_ret ?_ | refine LW_skip ?_ | refine thenE_exit ?_ | refine thenE_ret ?_ | refine inBlockE_normal ?_ | refine inBlockE_same ?_ | refine inBlockE_ret ?_ | refine inBlockE_ne (by rfl) ?_ | refine OW_eqlB (by with_reducible exact und_bool) rfl rfl ?_ | refine OW_neqB (by with_reducible exact und_bool) rfl rfl ?_ | refine OW_idxS (by with_reducible exact und_bytes) one_u8 rfl rfl _ rfl (by omega) ?_ | refine OW_idxS (by with_reducible exact und_bytess) one_bytes rfl rfl _ rfl (by omega) ?_ | refine OW_load1 (by first | with_reducible exact one_u8 | with_reducible exact one_bytes) rfl _ (by assumption) ?_ | refine OW_rem rfl rfl (by decide) ?_ | refine OW_lenS (by with_reducible exact und_Fs) rfl ?_ | refine OW_idxN und_Fs el_F rfl rfl _ rfl (by omega) ?_ | refine OW_fieldF fld_F0 rfl ?_ | refine OW_fieldF fld_F1 rfl ?_ | refine OW_fieldF fld_F2 rfl ?_ | refine OW_fieldF fld_F3 rfl ?_ | refine OW_load1 (by first | with_reducible exact one_int) rfl _ (by assumption) ?_)
  exact hEnd.out) (k : B) : A := h ⟨k⟩
section
variable {ops : Array Oper} {Q : Exit → (Nat → Value) → World → Prop} {rest : List Oper} {e : Nat → Value} {w : World} {d : Tmp} {ty : TypeId} {pos : String} {aft : Array Edge}
/-- Bytes more onto bytes of the call's own. -/
theorem OW_apB {x y : Operand} {base : Nat} {A A' : Option Addr} {c c' : Nat} {l l' : List UInt8} (hx : ev e x = .slice A l.length c) (hy : ev e y = .slice A' l'.length c') (ho : w.ownsRow base 5 1 (.slice A l.length c) l.length (l.map bv)) (hb : Bs w A' l') (hl : l.length + l'.length ≤ 1000000) (hbase : base ≤ w.heap.size)
    (h : ∀ w' A2 c2, w'.ownsRow base 5 1 (.slice A2 (l ++ l').length c2) (l ++ l').length ((l ++ l').map bv) → Below base w w' → OW Try.prog ops Q rest (upd e d (.slice A2 (l ++ l').length c2)) w') :
    OW Try.prog ops Q (⟨some d, .call { callee := .builtin .append, args := #[x, y], argTypes := #[31, 31] }, ty, pos, aft, none⟩ :: rest) e w := by
  refine OW_append und_bytes info_u8 rfl hx hy ho hb (by simp) (bv_one l') (by unfold maxLen; omega) (by omega) hbase ?_
  intro w' A2 c2 ho2 hb2
  rw [← List.map_append, ← List.length_append] at ho2
  rw [← List.length_append]
  exact h w' A2 c2 ho2 hb2
/-- The first bytes, onto nil. -/
theorem OW_litB {t : TypeId} {parts : Array (Nat × Operand)} {n : Nat} (l : List UInt8) (ht : t = 31) (hp : parts.toList.map (fun x => (x.1, ev e x.2)) = idxParts (l.map bv) 0) (hn : n = l.length) (hl : n ≤ 1000)
    (h : ∀ w' g, Bs w' (some ⟨g, 0, none⟩) l → w.heap.size ≤ g → Ext w w' → Blk w' g 5 (l.map bv).toArray → OW Try.prog ops Q rest (upd e d (.slice (some ⟨g, 0, none⟩) l.length l.length)) w') : OW Try.prog ops Q (⟨some d, .buildSlice t n parts, ty, pos, aft, none⟩ :: rest) e w := by
  subst ht; subst hn
  refine OW_lit (l.map bv) und_bytes info_u8 hp (by simp) (bv_one l) hl ?_
  intro w' g hb hg hx
  exact h w' g (blk_bs l hb) hg hx hb
end
set_option maxHeartbeats 8000000 in
theorem refInt_any (w : World) (n : Int) : Calls Try.prog 60 #[.int .i64 n] w (RetBs 5 w (putL (u64N n) 8)) := by
  refine calls_of_CW Try.func60 rfl (by simp [Try.ntmps60]) ?_
  rw [Try.ntmps60]
  refine go_Form (k := ?_)
  rw [wrap_u64I]
  refine OW_callBs Try.func95 (by kernel_rfl) rfl (refPut_any w (u64N n) 8 8 rfl (by decide) (u64N_lt n)) rfl ?_
  intro w1 A c hf
  refine go_Form (k := ?_)
  exact bodyE_ret1 rfl _ rfl ⟨A, c, rfl, hf⟩
theorem retBs_lit {w w' : World} {g : Nat} (l : List UInt8) (hb : Blk w' g 5 (l.map bv).toArray) (hg : w.heap.size ≤ g) (hx : Ext w w') (hl : l.length ≤ 1000) : RetBs 5 w l (.returned (.slice (some ⟨g, 0, none⟩) l.length l.length)) w' := by
  refine ⟨_, _, rfl, ?_, hx⟩
  have := hb.own hg (by simp [maxLen]; omega)
  simpa using this
set_option maxHeartbeats 8000000 in
theorem refBytes_any (w : World) (A : Option Addr) (b : List UInt8) (c : Nat) (hb : Bs w A b) (hl : b.length ≤ 900000) : Calls Try.prog 61 #[.slice A b.length c] w (RetBs 5 w (putL b.length 4 ++ b)) := by
  refine calls_of_CW Try.func61 rfl (by simp [Try.ntmps61]) ?_
  rw [Try.ntmps61]
  refine go_Form (k := ?_)
  rw [wrap_u64_lt _ (by omega)]
  refine OW_callBs Try.func95 (by kernel_rfl) rfl (refPut_any w b.length 4 4 rfl (by decide) (by omega)) rfl ?_
  intro w1 A1 c1 hf1
  refine go_Form (k := ?_)
  refine OW_callBs Try.func63 (by kernel_rfl) rfl (refCat_any w1 A1 A (putL b.length 4) b c1 c hf1.bs (hb.ext hf1.ext) (by rw [putL_length]; omega)) rfl ?_
  intro w2 A2 c2 hf2
  refine go_Form (k := ?_)
  exact bodyE_ret1 rfl _ rfl ⟨A2, c2, rfl, hf2.back hf1.ext⟩
set_option maxHeartbeats 8000000 in
theorem ref3Bytes_any (w : World) (t : List UInt8) (ht : t.length = 32) : Calls Try.prog 96 #[.agg (t.map bv).toArray] w (RetBs 5 w t) := by
  refine calls_of_CW Try.func96 rfl (by simp [Try.ntmps96]) ?_
  rw [Try.ntmps96]
  refine go_Form (k := ?_)
  refine OW_box _ rfl ?_
  intro w1 g1 hb1 hg1 hlt1 hx1
  have hb1 : Blk w1 g1 25 (t.map bv).toArray := hb1
  refine go_Form (k := ?_)
  refine CW_loop (fun e' w' => ∃ (k : Nat) (A : Option Addr) (c : Nat), k ≤ 32 ∧ e' 1 = .pointer (some ⟨g1, 0, none⟩) ∧ e' 3 = .slice A (t.take k).length c ∧ e' 4 = .int .i64 k ∧ w'.ownsRow w1.heap.size 5 1 (.slice A (t.take k).length c) (t.take k).length ((t.take k).map bv) ∧ Ext w1 w') (fun e' _ => 32 - (intOf (e' 4)).toNat) ?_ ?_
  · exact ⟨0, none, 0, Nat.zero_le _, rfl, rfl, rfl, World.ownsRow_nil _ _ _ _, Ext.rfl' _⟩
  rintro e' w2 ⟨k, A, c, hk, e1, e3, e4, ho, hx⟩
  rw [upd_self e1, upd_self e3, upd_self e4]
  refine go_Form (k := ?_)
  refine CW_cond _ rfl (fun hh => ?_) (fun hh => ?_)
  · have hlt : k < 32 := by have := of_decide_eq_true hh; omega
    clear hh
    have hcell : w2.cell? ⟨g1, k, none⟩ = some (bv t[k]) := by
      rw [(hb1.ext hx).cell]; simp [ht, hlt]
    refine go_Form (k := ?_)
    refine OW_idxA und_Tag one_u8 rfl rfl k rfl (by omega) ?_
    rw [add0]
    refine OW_load1 one_u8 rfl _ hcell ?_
    refine OW_litB [t[k]] rfl rfl rfl (by decide) ?_
    intro w3 g3 hb3 hg3 hx3 hB3
    refine OW_apB rfl rfl (own_ext ho hx3) hb3 (by simp [ht]; omega) (Nat.le_trans hx.size hx3.size) ?_
    intro w4 A4 c4 ho4 hbel
    rw [← List.take_succ_eq_append_getElem (by omega)] at ho4 ⊢
    refine go_Form (k := ?_)
    refine ⟨⟨k + 1, A4, c4, by omega, rfl, rfl, rfl, ho4, (hx.trans' hx3).trans hbel⟩, ?_⟩
    show 32 - ((k : Int) + 1).toNat < 32 - (k : Int).toNat
    omega
  · have hge : k = 32 := by have := of_decide_eq_false hh; omega
    subst hge
    rw [List.take_of_length_le (by omega)] at ho e3 ⊢
    refine go_Form (k := ?_)
    exact bodyE_ret1 rfl _ rfl ⟨A, c, rfl, own_mono ho hx1.size, hx1.trans' hx⟩
set_option maxHeartbeats 8000000 in
theorem refTag_any (w : World) (t : List UInt8) (ht : t.length = 32) : Calls Try.prog 62 #[.agg (t.map bv).toArray] w (RetBs 5 w t) := by
  refine calls_of_CW Try.func62 rfl (by simp [Try.ntmps62]) ?_
  rw [Try.ntmps62]
  refine go_Form (k := ?_)
  refine OW_box _ rfl ?_
  intro w1 g1 hb1 hg1 hlt1 hx1
  have hb1 : Blk w1 g1 25 (t.map bv).toArray := hb1
  refine go_Form (k := ?_)
  refine OW_loadX agg_Tag rfl (t.map bv) (by simp [ht]) hb1.atL ?_
  refine go_Form (k := ?_)
  refine OW_callBs Try.func96 (by kernel_rfl) rfl (ref3Bytes_any w1 t ht) rfl ?_
  intro w2 A2 c2 hf2
  refine go_Form (k := ?_)
  exact bodyE_ret1 rfl _ rfl ⟨A2, c2, rfl, hf2.back hx1⟩
theorem fcells_one (f : FD) {v : Value} (hv : v.oneCell' = true) : ∀ u ∈ fcells f v, u.oneCell' = true := by
  intro u hu
  simp only [fcells, List.mem_append, List.mem_cons, List.not_mem_nil, or_false] at hu
  rcases hu with (rfl | rfl | rfl) | hu
  · rfl
  · rfl
  · exact hv
  · exact bv_one f.T u hu
theorem fcells_tag {w : World} {g : Nat} {f : FD} {v : Value} (hb : Blk w g 51 (fcells f v).toArray) : At w ⟨g, 3, none⟩ (f.T.map bv) := fun j u hu => by
  rw [addr_add_off, hb.cell, show 3 + j = j + 1 + 1 + 1 by omega]
  simpa [fcells] using hu
/-- The form of fields. -/
def pieceL (f : FD) : List UInt8 := (pieces f).flatten
def formL (l : List FD) : List UInt8 := (l.map pieceL).flatten
theorem formL_take_succ {l : List FD} {k : Nat} (h : k < l.length) : formL (l.take (k + 1)) = formL (l.take k) ++ pieceL l[k] := by
  unfold formL; rw [List.take_succ_eq_append_getElem h, List.map_append, List.flatten_append]; simp only [List.map_cons, List.map_nil, List.flatten_cons, List.flatten_nil, List.append_nil]
theorem pieceL_len {f : FD} (h : f.T.length = 32) : (pieceL f).length ≤ f.B.length + 40 := by
  unfold pieceL pieces
  split
  · simp
  split
  · simp [putL_length]
  split
  · simp
  split
  · simp [putL_length]; omega
  split
  · simp [putL_length]; omega
  split
  · simp [h]
  · simp
theorem formL_len {l : List FD} (h : ∀ (i : Nat) (hi : i < l.length), (l[i]).T.length = 32) : ∀ k, (formL (l.take k)).length ≤ gsum (l.take k) := by
  intro k
  induction k with
  | zero => simp [formL]
  | succ k ih =>
    by_cases hk : k < l.length
    · rw [formL_take_succ hk, gsum_take_succ hk, List.length_append]
      have := pieceL_len (h k hk)
      omega
    · rw [List.take_of_length_le (by omega)] at ih ⊢
      exact ih
theorem FS.tags {w : World} {A : Option Addr} {l : List FD} (h : FS w A l) : ∀ (i : Nat) (hi : i < l.length), (l[i]).T.length = 32 := fun i hi => by
  obtain ⟨_, _, _, _, _, hok⟩ := h.get hi
  exact hok.tag
end Go.Proofs.Ytdpomchhbbopbaa

/- Whole structs into the midst of a block; structs that are compared. No program in sight. -/
namespace Go.Proofs.Ytdpomchhbbopbaa
open Go Go.RowKit Go.ChangeShapes Go.WideShapes
set_option linter.unusedVariables false
section
variable {P : Program} {ops : Array Oper} {Q : Exit → (Nat → Value) → World → Prop} {rest : List Oper} {e : Nat → Value} {w : World} {d : Tmp} {ty : TypeId} {pos : String} {aft : Array Edge}
/-- A whole array or struct into the midst of a block of the call's own. -/
theorem OW_storeM {x y : Operand} {t T : TypeId} {n g o : Nat} {zs : List Value} (ht : AggT P t n zs) (hx : ev e x = .pointer (some ⟨g, o, none⟩)) (cs : List Value) (hy : ev e y = .agg cs.toArray) (hl : cs.length = n) {old : List Value} (hb : Blk w g T old.toArray) (ho : o + n ≤ old.length) (h1 : ∀ v ∈ cs, v.oneCell' = true)
    (h : ∀ w', Blk w' g T (old.take o ++ cs ++ old.drop (o + n)).toArray → w.grownBy w' (some g) → OW P ops Q rest e w') : OW P ops Q (⟨none, .store t x y, ty, pos, aft, none⟩ :: rest) e w := by
  have hst := run_storeCells_at (P := P) g o T cs 0 old.toArray w hb (by simp; omega) h1
  simp only [Nat.add_zero] at hst
  have hsz := ht.size
  have hrun : (storeVar t ⟨g, o, none⟩ (.agg cs.toArray)).run P w = .ok () (w.setRow g (old.take o ++ cs ++ old.drop (o + n)).toArray) := by
    cases hq : P.info? t with
    | none => simp [hq] at hsz
    | some i =>
      have hs : cs.length = i.size := by simp [hq] at hsz; omega
      rw [hl] at hst
      simp [storeVar, sizeOf, typeInfo, hq, Value.cells, hs]
      simpa using hst
  refine OW_unit (w.setRow g (old.take o ++ cs ++ old.drop (o + n)).toArray) rfl rfl ?_ (h _ ?_ ?_)
  · simp only [execOp, hx, hy, Instr.storeAt, Instr.sureAddr, Sem.run_bind, Sem.run_pure, Result.andThen_ok, hrun]
  · exact setRow_heap w g old.toArray _ T (0, 0) hb
  · exact ⟨rfl, rfl, rfl, by simp, fun k hk hn => setRow_other w g k _ (fun hh => hn (by rw [hh]))⟩
end
theorem mapM_one {α β : Type} {g : α → Option β} {a : α} {l : List α} {x : β} {xs : List β} (h : g a = some x) (hs : l.mapM g = some xs) : (a :: l).mapM g = some (x :: xs) := by
  rw [List.mapM_cons, h, hs]; rfl
theorem mapM_none {α β : Type} {g : α → Option β} : ([] : List α).mapM g = some [] := rfl
section
variable {P : Program} {t : TypeId} {D : Nat} {cs : List Value}
theorem keyLits_fields {fs : Array Field} (hu : P.underlying t = some (.struct fs)) (hl : cs.length = P.cellsOf t) (hn : fs.all (·.name != "_") = true) (Ls : List (List Lit)) (h : fs.toList.mapM (fun f => P.keyLits D f.type ((cs.drop f.offset).take (P.cellsOf f.type))) = some Ls) : P.keyLits (D + 1) t cs = some Ls.flatten := by
  unfold Program.keyLits
  rw [hu]
  simp only [hl, hn, and_self, if_true, h, Option.map_some]
theorem lit_int {o : Nat} {n : Int} (hu : P.underlying t = some (.int .i64)) (hc : P.cellsOf t = 1) (hcut : (cs.drop o).take 1 = [.int .i64 n]) (hi : I64 n) : P.keyLits (D + 1) t ((cs.drop o).take (P.cellsOf t)) = some [.int .i64 n] := by
  rw [hc, hcut]
  unfold Program.keyLits
  rw [hu]
  have hw : (Lit.int .i64 n).wf = true := by
    unfold I64 at hi
    simp [Lit.wf, IntKind.min, IntKind.max, IntKind.signed, IntKind.bits]; omega
  simp [hw]
theorem lit_u8 {o : Nat} {b : UInt8} (hu : P.underlying t = some (.int .u8)) (hc : P.cellsOf t = 1) (hcut : (cs.drop o).take 1 = [bv b]) : P.keyLits (D + 1) t ((cs.drop o).take (P.cellsOf t)) = some [litB b] := by
  rw [hc, hcut]
  exact keyLits_u8 hu D b
theorem lit_row {o n : Nat} {l : List UInt8} (hq : EqR P t n) (hcut : (cs.drop o).take n = l.map bv) (hl : l.length = n) : P.keyLits (D + 2) t ((cs.drop o).take (P.cellsOf t)) = some (l.map litB) := by
  obtain ⟨el, h1, h2, h3⟩ := hq.row
  rw [hq.size, hcut]
  exact keyLits_arr h1 h2 h3 hq.size D hl
end
end Go.Proofs.Ytdpomchhbbopbaa

/- Links: their cells, what they are told as, whether two are the same. -/
namespace Go.Proofs.Ytdpomchhbbopbaa
open Go Go.RowKit Go.ChangeShapes Go.WideShapes
set_option linter.unusedVariables false
set_option maxRecDepth 4000
/-- A link. -/
structure LK where
  n : Int
  stamp : Int
  op : UInt8
  ten : Int
  a : Int
  b : Int
  c : Int
  ahead : List UInt8
  self : List UInt8
def lcells (l : LK) : List Value := [.int .i64 l.n, .int .i64 l.stamp, bv l.op, .int .i64 l.ten, .int .i64 l.a, .int .i64 l.b, .int .i64 l.c] ++ (l.ahead.map bv ++ l.self.map bv)
structure LOk (l : LK) : Prop where
  ahead : l.ahead.length = 32
  self : l.self.length = 32
  i : I64 l.n ∧ I64 l.stamp ∧ I64 l.ten ∧ I64 l.a ∧ I64 l.b ∧ I64 l.c
theorem lcells_length {l : LK} (h : LOk l) : (lcells l).length = 71 := by simp [lcells, h.ahead, h.self]
def kLink : KD Try.prog 27 LK where
  n := 71
  hn := by kernel_rfl
  R := fun w cs l => cs = lcells l ∧ LOk l
  ext := fun hx h => h
  opn := fun {H enc w fuel cs x} h hw => by
    obtain ⟨hl, hp⟩ := kd_parts Try.underlying27 h hw
    have hl : cs.length = 71 := by rw [hl]; kernel_rfl
    obtain ⟨a0, h0, r0⟩ := hp 0 _ rfl kI
    obtain ⟨a1, h1, r1⟩ := hp 1 _ rfl kI
    obtain ⟨a2, h2⟩ := hp 2 _ rfl kB8
    obtain ⟨a3, h3, r3⟩ := hp 3 _ rfl kI
    obtain ⟨a4, h4, r4⟩ := hp 4 _ rfl kI
    obtain ⟨a5, h5, r5⟩ := hp 5 _ rfl kI
    obtain ⟨a6, h6, r6⟩ := hp 6 _ rfl kI
    obtain ⟨a7, h7, r7⟩ := hp 7 _ rfl kTag
    obtain ⟨a8, h8, r8⟩ := hp 8 _ rfl kTag
    have e0 : (cs.drop 0).take 1 = [.int .i64 a0] := h0
    have e1 : (cs.drop (0 + 1)).take 1 = [.int .i64 a1] := h1
    have e2 : (cs.drop (0 + 1 + 1)).take 1 = [bv a2] := h2
    have e3 : (cs.drop (0 + 1 + 1 + 1)).take 1 = [.int .i64 a3] := h3
    have e4 : (cs.drop (0 + 1 + 1 + 1 + 1)).take 1 = [.int .i64 a4] := h4
    have e5 : (cs.drop (0 + 1 + 1 + 1 + 1 + 1)).take 1 = [.int .i64 a5] := h5
    have e6 : (cs.drop (0 + 1 + 1 + 1 + 1 + 1 + 1)).take 1 = [.int .i64 a6] := h6
    have e7 : (cs.drop (0 + 1 + 1 + 1 + 1 + 1 + 1 + 1)).take 32 = a7.map bv := h7
    have e8 : (cs.drop (0 + 1 + 1 + 1 + 1 + 1 + 1 + 1 + 32)).take 32 = a8.map bv := h8
    have eN : cs.drop (0 + 1 + 1 + 1 + 1 + 1 + 1 + 1 + 32 + 32) = [] := List.drop_of_length_le (by omega)
    have := cut_cons cs 0 1
    rw [cut_cons cs (0 + 1) 1, cut_cons cs (0 + 1 + 1) 1, cut_cons cs (0 + 1 + 1 + 1) 1, cut_cons cs (0 + 1 + 1 + 1 + 1) 1, cut_cons cs (0 + 1 + 1 + 1 + 1 + 1) 1, cut_cons cs (0 + 1 + 1 + 1 + 1 + 1 + 1) 1, cut_cons cs (0 + 1 + 1 + 1 + 1 + 1 + 1 + 1) 32, cut_cons cs (0 + 1 + 1 + 1 + 1 + 1 + 1 + 1 + 32) 32, e0, e1, e2, e3, e4, e5, e6, e7, e8, eN, List.drop_zero] at this
    rw [this]
    refine ⟨⟨a0, a1, a2, a3, a4, a5, a6, a7, a8⟩, ?_, r7, r8, r0, r1, r3, r4, r5, r6⟩
    simp [lcells]
theorem fld_L0 : Fld Try.prog 27 0 := ⟨fun w g => by kernel_rfl⟩
theorem fld_L1 : Fld Try.prog 27 1 := ⟨fun w g => by kernel_rfl⟩
theorem fld_L2 : Fld Try.prog 27 2 := ⟨fun w g => by kernel_rfl⟩
theorem fld_L3 : Fld Try.prog 27 3 := ⟨fun w g => by kernel_rfl⟩
theorem fld_L4 : Fld Try.prog 27 4 := ⟨fun w g => by kernel_rfl⟩
theorem fld_L5 : Fld Try.prog 27 5 := ⟨fun w g => by kernel_rfl⟩
theorem fld_L6 : Fld Try.prog 27 6 := ⟨fun w g => by kernel_rfl⟩
theorem fld_L7 : Fld Try.prog 27 7 := ⟨fun w g => by kernel_rfl⟩
theorem fldo_L8 : FldO Try.prog 27 8 39 := ⟨fun w a => by kernel_rfl⟩
theorem agg_Link : AggT Try.prog 27 71 (lcells ⟨0, 0, 0, 0, 0, 0, 0, tzS, tzS⟩) := ⟨⟨_, Try.underlying27, rfl⟩, by kernel_rfl, fun w => by kernel_rfl⟩
theorem lcells_one (l : LK) : ∀ v ∈ lcells l, v.oneCell' = true := by
  intro v hv
  simp only [lcells, List.mem_append, List.mem_cons, List.not_mem_nil, or_false] at hv
  rcases hv with (rfl | rfl | rfl | rfl | rfl | rfl | rfl) | hv | hv
  · rfl
  · rfl
  · rfl
  · rfl
  · rfl
  · rfl
  · rfl
  · exact bv_one l.ahead v hv
  · exact bv_one l.self v hv
theorem ahead_in {w : World} {g : Nat} {T : TypeId} {l : LK} (h : LOk l) (hb : Blk w g T (lcells l).toArray) : At w ⟨g, 7, none⟩ (l.ahead.map bv) := fun j u hu => by
  have hj : j < 32 := by have := (List.getElem?_eq_some_iff.1 hu).1; simpa [h.ahead] using this
  rw [addr_add_off, hb.cell]
  simp only [lcells, List.getElem?_toArray]
  rw [List.getElem?_append_right (by simp), List.getElem?_append_left (by simp [h.ahead]; omega)]
  simpa using hu
theorem self_in {w : World} {g : Nat} {T : TypeId} {l : LK} (h : LOk l) (hb : Blk w g T (lcells l).toArray) : At w ⟨g, 39, none⟩ (l.self.map bv) := fun j u hu => by
  rw [addr_add_off, hb.cell]
  simp only [lcells, List.getElem?_toArray]
  rw [List.getElem?_append_right (by simp; omega), List.getElem?_append_right (by simp [h.ahead]; omega)]
  simp only [List.length_cons, List.length_nil, List.length_map, h.ahead]
  rw [show 39 + j - (0 + 1 + 1 + 1 + 1 + 1 + 1 + 1) - 32 = j by omega]
  exact hu
theorem fldo_L0 : FldO Try.prog 27 0 0 := ⟨fun w a => by kernel_rfl⟩
theorem fldo_L1 : FldO Try.prog 27 1 1 := ⟨fun w a => by kernel_rfl⟩
theorem fldo_L2 : FldO Try.prog 27 2 2 := ⟨fun w a => by kernel_rfl⟩
theorem fldo_L3 : FldO Try.prog 27 3 3 := ⟨fun w a => by kernel_rfl⟩
theorem fldo_L4 : FldO Try.prog 27 4 4 := ⟨fun w a => by kernel_rfl⟩
theorem fldo_L5 : FldO Try.prog 27 5 5 := ⟨fun w a => by kernel_rfl⟩
theorem fldo_L6 : FldO Try.prog 27 6 6 := ⟨fun w a => by kernel_rfl⟩
theorem fldo_L7 : FldO Try.prog 27 7 7 := ⟨fun w a => by kernel_rfl⟩
def litI (n : Int) : Lit := .int .i64 n
/-- What a link is compared by. -/
def litK (l : LK) : List Lit := [litI l.n, litI l.stamp, litB l.op, litI l.ten, litI l.a, litI l.b, litI l.c] ++ (l.ahead.map litB ++ l.self.map litB)
theorem litI_inj {a b : Int} (h : litI a = litI b) : a = b := by unfold litI at h; injection h
theorem litK_inj {l k : LK} (hl : LOk l) (hk : LOk k) (h : litK l = litK k) : l = k := by
  unfold litK at h
  simp only [List.cons_append, List.nil_append, List.cons.injEq] at h
  obtain ⟨h1, h2, h3, h4, h5, h6, h7, h8⟩ := h
  have h9 := List.append_inj h8 (by simp [hl.ahead, hk.ahead])
  obtain ⟨l1, l2, l3, l4, l5, l6, l7, l8, l9⟩ := l
  obtain ⟨k1, k2, k3, k4, k5, k6, k7, k8, k9⟩ := k
  simp only at h1 h2 h3 h4 h5 h6 h7 h9
  rw [litI_inj h1, litI_inj h2, litB_inj h3, litI_inj h4, litI_inj h5, litI_inj h6, litI_inj h7, litsB_inj h9.1, litsB_inj h9.2]
theorem lk_eqr_Tag : EqR Try.prog 25 32 := ⟨⟨⟨2, by decide, by kernel_rfl⟩, by kernel_rfl⟩, ⟨_, s_und_Tag, und_u8, by kernel_rfl⟩, by kernel_rfl⟩
theorem lk_eqx : EqX Try.prog 27 := ⟨⟨3, by decide, by kernel_rfl⟩, by kernel_rfl⟩
theorem lk_cells : Program.cellsOf Try.prog 27 = 71 := by kernel_rfl
theorem lk_drop7 {l : LK} (h : LOk l) : ((lcells l).drop 7).take 32 = l.ahead.map bv := by
  unfold lcells
  rw [List.drop_append_of_le_length (by simp), List.drop_of_length_le (by simp), List.nil_append, List.take_append_of_le_length (by simp [h.ahead]), List.take_of_length_le (by simp [h.ahead])]
theorem lk_drop39 {l : LK} (h : LOk l) : ((lcells l).drop 39).take 32 = l.self.map bv := by
  unfold lcells
  rw [List.drop_append, List.drop_of_length_le (by simp), List.nil_append, List.drop_append, List.drop_of_length_le (by simp [h.ahead]), List.nil_append]
  simp only [List.length_cons, List.length_nil, List.length_map, h.ahead]
  exact List.take_of_length_le (by simp [h.self])
theorem lk_lits {l : LK} (h : LOk l) : Try.prog.keyLits 4 27 (lcells l) = some (litK l) := by
  obtain ⟨i1, i2, i3, i4, i5, i6⟩ := h.i
  have := keyLits_fields (D := 3) (cs := lcells l) Try.underlying27 (by rw [lk_cells]; exact lcells_length h) (by kernel_rfl) [[litI l.n], [litI l.stamp], [litB l.op], [litI l.ten], [litI l.a], [litI l.b], [litI l.c], l.ahead.map litB, l.self.map litB]
    (mapM_one (lit_int und_int (by kernel_rfl) rfl i1) (mapM_one (lit_int und_int (by kernel_rfl) rfl i2) (mapM_one (lit_u8 und_u8 (by kernel_rfl) rfl) (mapM_one (lit_int und_int (by kernel_rfl) rfl i3) (mapM_one (lit_int und_int (by kernel_rfl) rfl i4) (mapM_one (lit_int und_int (by kernel_rfl) rfl i5) (mapM_one (lit_int und_int (by kernel_rfl) rfl i6) (mapM_one (lit_row lk_eqr_Tag (lk_drop7 h) h.ahead) (mapM_one (lit_row lk_eqr_Tag (lk_drop39 h) h.self) mapM_none)))))))))
  rw [this]
  simp [litK]
theorem lk_formed {l : LK} (h : LOk l) : (Value.agg (lcells l).toArray).formed Try.prog 27 = true := by
  simp [Value.formed, Try.underlying27, lk_cells, lcells_length h]
section
variable {ops : Array Oper} {Q : Exit → (Nat → Value) → World → Prop} {rest : List Oper} {e : Nat → Value} {w : World} {d : Tmp} {ty : TypeId} {pos : String} {aft : Array Edge}
theorem OW_neqK {x y : Operand} {t' : TypeId} {a b : LK} (hx : ev e x = .agg (lcells a).toArray) (hy : ev e y = .agg (lcells b).toArray) (ha : LOk a) (hb : LOk b) (r : Bool) (hr : r = true ↔ a ≠ b) (h : OW Try.prog ops Q rest (upd e d (.bool r)) w) :
    OW Try.prog ops Q (⟨some d, .binOp .neq 27 x y t', ty, pos, aft, none⟩ :: rest) e w := by
  refine OW_neqX lk_eqx hx hy (lk_formed ha) (lk_formed hb) (lk_lits ha) (lk_lits hb) (fun q hq => ?_)
  have : (!q) = r := by
    rw [Bool.eq_iff_iff, hr, Bool.not_eq_true', ← Bool.not_eq_true, hq]
    exact ⟨fun hh e => hh (by rw [e]), fun hh e => hh (litK_inj ha hb e)⟩
  rw [this]
  exact h
theorem OW_eqlK {x y : Operand} {t' : TypeId} {a b : LK} (hx : ev e x = .agg (lcells a).toArray) (hy : ev e y = .agg (lcells b).toArray) (ha : LOk a) (hb : LOk b) (r : Bool) (hr : r = true ↔ a = b) (h : OW Try.prog ops Q rest (upd e d (.bool r)) w) :
    OW Try.prog ops Q (⟨some d, .binOp .eql 27 x y t', ty, pos, aft, none⟩ :: rest) e w := by
  refine OW_eqlX lk_eqx hx hy (lk_formed ha) (lk_formed hb) (lk_lits ha) (lk_lits hb) (fun q hq => ?_)
  have : q = r := by
    rw [Bool.eq_iff_iff, hr, hq]
    exact ⟨fun e => litK_inj ha hb e, fun e => by rw [e]⟩
  rw [this]
  exact h
end
end Go.Proofs.Ytdpomchhbbopbaa
