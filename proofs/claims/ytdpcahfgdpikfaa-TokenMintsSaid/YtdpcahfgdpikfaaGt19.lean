/- Several texts in one, as they stand in wip/src. -/
import Derived.Test.YtdpcahfgdpikfaaGt2
import Derived.Test.YtdpcahfgdpikfaaGt3
import Derived.Test.YtdpcahfgdpikfaaGt4
import Derived.Test.YtdpcahfgdpikfaaGt8
import Derived.Test.YtdpcahfgdpikfaaGt11
import Derived.Test.YtdpcahfgdpikfaaGt12
import Derived.Test.YtdpcahfgdpikfaaGt13
import Derived.Test.YtdpcahfgdpikfaaGt14
/- Grants: their cells, what they are told as, whether two are the same. -/
namespace Go.Proofs.Ytdpcahfgdpikfaa
open Go Go.RowKit Go.ChangeShapes Go.WideShapes
set_option linter.unusedVariables false
set_option maxRecDepth 4000
/-- A grant. -/
structure GD where
  rights : UInt8
  expiry : Int
  serial : Int
def gcells (g : GD) : List Value := [bv g.rights, .int .i64 g.expiry, .int .i64 g.serial]
def kGrant : KD Try.prog 49 GD where
  n := 3
  hn := by kernel_rfl
  R := fun w cs g => cs = gcells g ∧ I64 g.expiry ∧ I64 g.serial
  ext := fun hx h => h
  opn := fun {H enc w fuel cs x} h hw => by
    obtain ⟨hl, hp⟩ := kd_parts Try.underlying49 h hw
    have hl : cs.length = 3 := by rw [hl]; kernel_rfl
    obtain ⟨a0, h0⟩ := hp 0 _ rfl kB8
    obtain ⟨a1, h1, r1⟩ := hp 1 _ rfl kI
    obtain ⟨a2, h2, r2⟩ := hp 2 _ rfl kI
    have e0 : (cs.drop 0).take 1 = [bv a0] := h0
    have e1 : (cs.drop (0 + 1)).take 1 = [.int .i64 a1] := h1
    have e2 : (cs.drop (0 + 1 + 1)).take 1 = [.int .i64 a2] := h2
    have eN : cs.drop (0 + 1 + 1 + 1) = [] := List.drop_of_length_le (by omega)
    have := cut_cons cs 0 1
    rw [cut_cons cs (0 + 1) 1, cut_cons cs (0 + 1 + 1) 1, e0, e1, e2, eN, List.drop_zero] at this
    rw [this]
    refine ⟨⟨a0, a1, a2⟩, ?_, r1, r2⟩
    simp [gcells]
/-- From one number to another. -/
def inR (n least most : Int) : Bool := decide (least ≤ n) && decide (n ≤ most)
structure GOk (g : GD) : Prop where
  i : I64 g.expiry ∧ I64 g.serial
def litG (g : GD) : List Lit := [litB g.rights, litI g.expiry, litI g.serial]
theorem litG_inj {a b : GD} (h : litG a = litG b) : a = b := by
  unfold litG at h
  simp only [List.cons.injEq, and_true] at h
  obtain ⟨h1, h2, h3⟩ := h
  obtain ⟨a1, a2, a3⟩ := a
  obtain ⟨b1, b2, b3⟩ := b
  simp only at h1 h2 h3
  rw [litB_inj h1, litI_inj h2, litI_inj h3]
theorem gd_eqx : EqX Try.prog 49 := ⟨⟨2, by decide, by kernel_rfl⟩, by kernel_rfl⟩
theorem gd_cells : Program.cellsOf Try.prog 49 = 3 := by kernel_rfl
theorem gcells_length (g : GD) : (gcells g).length = 3 := rfl
theorem gcells_one (g : GD) : ∀ v ∈ gcells g, v.oneCell' = true := by
  intro v hv
  simp only [gcells, List.mem_cons, List.not_mem_nil, or_false] at hv
  rcases hv with rfl | rfl | rfl <;> rfl
theorem gd_lits {g : GD} (h : GOk g) : Try.prog.keyLits 3 49 (gcells g) = some (litG g) := by
  have := keyLits_fields (D := 2) (cs := gcells g) Try.underlying49 (by rw [gd_cells]; rfl) (by kernel_rfl) [[litB g.rights], [litI g.expiry], [litI g.serial]]
    (mapM_one (lit_u8 und_u8 (by kernel_rfl) rfl) (mapM_one (lit_int und_int (by kernel_rfl) rfl h.i.1) (mapM_one (lit_int und_int (by kernel_rfl) rfl h.i.2) mapM_none)))
  rw [this]
  simp [litG]
theorem gd_formed (g : GD) : (Value.agg (gcells g).toArray).formed Try.prog 49 = true := by
  simp [Value.formed, Try.underlying49, gd_cells, gcells]
theorem fldo_G0 : FldO Try.prog 49 0 0 := ⟨fun w a => by kernel_rfl⟩
theorem fldo_G1 : FldO Try.prog 49 1 1 := ⟨fun w a => by kernel_rfl⟩
theorem fldo_G2 : FldO Try.prog 49 2 2 := ⟨fun w a => by kernel_rfl⟩
theorem agg_Grant : AggT Try.prog 49 3 (gcells ⟨0, 0, 0⟩) := ⟨⟨_, Try.underlying49, rfl⟩, by kernel_rfl, fun w => by kernel_rfl⟩
section
variable {ops : Array Oper} {Q : Exit → (Nat → Value) → World → Prop} {rest : List Oper} {e : Nat → Value} {w : World} {d : Tmp} {ty : TypeId} {pos : String} {aft : Array Edge}
theorem OW_neqG {x y : Operand} {t' : TypeId} {a b : GD} (hx : ev e x = .agg (gcells a).toArray) (hy : ev e y = .agg (gcells b).toArray) (ha : GOk a) (hb : GOk b) (r : Bool) (hr : r = true ↔ a ≠ b) (h : OW Try.prog ops Q rest (upd e d (.bool r)) w) :
    OW Try.prog ops Q (⟨some d, .binOp .neq 49 x y t', ty, pos, aft, none⟩ :: rest) e w := by
  refine OW_neqX gd_eqx hx hy (gd_formed a) (gd_formed b) (gd_lits ha) (gd_lits hb) (fun q hq => ?_)
  have : (!q) = r := by
    rw [Bool.eq_iff_iff, hr, Bool.not_eq_true', ← Bool.not_eq_true, hq]
    exact ⟨fun hh e => hh (by rw [e]), fun hh e => hh (litG_inj e)⟩
  rw [this]
  exact h
theorem OW_eqlG {x y : Operand} {t' : TypeId} {a b : GD} (hx : ev e x = .agg (gcells a).toArray) (hy : ev e y = .agg (gcells b).toArray) (ha : GOk a) (hb : GOk b) (r : Bool) (hr : r = true ↔ a = b) (h : OW Try.prog ops Q rest (upd e d (.bool r)) w) :
    OW Try.prog ops Q (⟨some d, .binOp .eql 49 x y t', ty, pos, aft, none⟩ :: rest) e w := by
  refine OW_eqlX gd_eqx hx hy (gd_formed a) (gd_formed b) (gd_lits ha) (gd_lits hb) (fun q hq => ?_)
  have : q = r := by
    rw [Bool.eq_iff_iff, hr, hq]
    exact ⟨fun e => litG_inj e, fun e => by rw [e]⟩
  rw [this]
  exact h
end
end Go.Proofs.Ytdpcahfgdpikfaa

/- Numbers as bytes, there and back. No program in sight. -/
namespace Go.Proofs.Ytdpcahfgdpikfaa
open Go Go.RowKit
set_option linter.unusedVariables false
theorem loadL_putL (n : Nat) : ∀ x, x < 256 ^ n → loadL (putL x n) = x := by
  induction n with
  | zero => intro x hx; simp at hx; subst hx; rfl
  | succ n ih =>
    intro x hx
    have h1 : putL x (n + 1) = putL (x / 256) n ++ [UInt8.ofNat x] := by
      unfold putL
      rw [List.range_succ, List.map_append]
      congr 1
      · apply List.map_congr_left
        intro i hi
        have hi' : i < n := List.mem_range.1 hi
        rw [show n + 1 - 1 - i = (n - 1 - i) + 1 by omega, Nat.pow_succ, Nat.mul_comm, ← Nat.div_div_eq_div_mul]
      · simp
    rw [h1, loadL_snoc, ih _ (by rw [Nat.pow_succ] at hx; omega), UInt8.toNat_ofNat']
    omega
theorem putL_snoc (x n : Nat) : putL x (n + 1) = putL (x / 256) n ++ [UInt8.ofNat x] := by
  unfold putL
  rw [List.range_succ, List.map_append]
  congr 1
  · apply List.map_congr_left
    intro i hi
    have hi' : i < n := List.mem_range.1 hi
    rw [show n + 1 - 1 - i = (n - 1 - i) + 1 by omega, Nat.pow_succ, Nat.mul_comm, ← Nat.div_div_eq_div_mul]
  · simp
theorem putL_loadL : ∀ (n : Nat) (l : List UInt8), l.length = n → putL (loadL l) n = l
  | 0, l, h => by rw [List.eq_nil_of_length_eq_zero h]; rfl
  | n + 1, l, h => by
    obtain ⟨l', b, rfl⟩ : ∃ l' b, l = l' ++ [b] := ⟨l.dropLast, l.getLast (by intro hh; rw [hh] at h; cases h), (List.dropLast_concat_getLast _).symm⟩
    have hb := b.toNat_lt
    rw [putL_snoc, loadL_snoc, show (256 * loadL l' + b.toNat) / 256 = loadL l' by omega, putL_loadL n l' (by simpa using h)]
    congr 2
    apply UInt8.toNat_inj.1
    rw [UInt8.toNat_ofNat']
    omega
end Go.Proofs.Ytdpcahfgdpikfaa

/- Tokens, plainly: which may be, their tags, bytes, what is read, what they leave. No program in sight but a grant's cells. -/
namespace Go.Proofs.Ytdpcahfgdpikfaa
open Go Go.RowKit Go.ChangeShapes Go.WideShapes
set_option linter.unusedVariables false
/-- A token. -/
structure TK where
  ten : Int
  line : List GD
  tag : List UInt8
def two40 : Int := 1099511627776
def mayG (g : GD) : Bool := decide (g.rights.toNat ≤ 15) && inR g.expiry 0 two40 && inR g.serial 1 two40
def lineOk (l : List GD) : Bool := decide (1 ≤ l.length) && decide (l.length ≤ 4) && l.all mayG
def mayT (t : TK) : Bool := inR t.ten 0 8 && lineOk t.line
def grantB (g : GD) : List UInt8 := numsB [g.rights.toNat, g.expiry, g.serial]
theorem grantB_len (g : GD) : (grantB g).length = 24 := numsB_length _
def tagS (o : List UInt8) (g : GD) : List UInt8 := hmacL o (grantB g)
def tagL (key : List UInt8) (ten : Int) : List GD → List UInt8
  | [] => tzS
  | g :: l => l.foldl tagS (hmacL key (numsB [ten] ++ grantB g))
theorem tagL_snoc (key : List UInt8) (ten : Int) {l : List GD} (h : l ≠ []) (g : GD) : tagL key ten (l ++ [g]) = tagS (tagL key ten l) g := by
  cases l with
  | nil => exact absurd rfl h
  | cons a l => simp [tagL]
theorem tagL_len (key : List UInt8) (ten : Int) (l : List GD) : (tagL key ten l).length = 32 := by
  rcases List.eq_nil_or_concat l with rfl | ⟨l, g, rfl⟩
  · rfl
  · rw [List.concat_eq_append]
    cases l with
    | nil => exact hmacL_length _ _
    | cons a l => rw [tagL_snoc _ _ (by simp)]; exact hmacL_length _ _
def t0 : TK := ⟨0, [], tzS⟩
def mintT (key : List UInt8) (ten : Int) (g : GD) : TK × Int := if mayT ⟨ten, [g], tzS⟩ then (⟨ten, [g], tagL key ten [g]⟩, 0) else (t0, 2)
def attT (t : TK) (g : GD) : TK × Int := if mayT t && mayG g then (if t.line.length = 4 then (t0, 4) else (⟨t.ten, t.line ++ [g], tagS t.tag g⟩, 0)) else (t0, 2)
def printT (t : TK) : List UInt8 := if mayT t then numsB [t.ten, t.line.length] ++ ((t.line.map grantB).flatten ++ t.tag) else []
def leavesR (l : List GD) : UInt8 := l.foldl (fun r g => r &&& g.rights) 15
def leavesE (l : List GD) : Int := l.foldl (fun x g => min x g.expiry) two40
def checkT (key : List UInt8) (t : TK) : Int := if mayT t then (if tagL key t.ten t.line = t.tag then 0 else 91) else 90
def verT (key : List UInt8) (t : TK) (now : Int) (need : UInt8) : Int :=
  if checkT key t = 0 then (if leavesE t.line ≤ now then 92 else if need &&& ~~~ (leavesR t.line) = 0 then 0 else 94) else checkT key t
/-- A number that stands in bytes. -/
def numA (b : List UInt8) (i : Nat) : Nat := loadL ((b.drop i).take 8)
def gdA (b : List UInt8) (i : Nat) : GD := ⟨UInt8.ofNat (numA b (16 + 24 * i)), numA b (24 + 24 * i), numA b (32 + 24 * i)⟩
def fineA (b : List UInt8) (i : Nat) : Bool := decide (numA b (16 + 24 * i) ≤ 255) && decide ((numA b (24 + 24 * i) : Int) ≤ two40) && decide ((numA b (32 + 24 * i) : Int) ≤ two40)
def readT (b : List UInt8) : TK := ⟨numA b 0, (List.range (numA b 8)).map (gdA b), b.drop (16 + 24 * numA b 8)⟩
def goodT (b : List UInt8) : Bool := decide (48 ≤ b.length) && decide ((numA b 0 : Int) ≤ two40) && (decide (1 ≤ numA b 8) && decide (numA b 8 ≤ 4) && decide (b.length = 48 + 24 * numA b 8)) && ((List.range (numA b 8)).all (fineA b) && mayT (readT b))
/-- What Parse tells. -/
def parT (b : List UInt8) : TK × Int := if goodT b then (readT b, 0) else (t0, 90)
theorem numA_put {n : Nat} (h : n < 18446744073709551616) (r : List UInt8) : loadL ((putL n 8 ++ r).take 8) = n := by
  rw [List.take_append_of_le_length (by rw [putL_length]; exact Nat.le_refl _), List.take_of_length_le (by rw [putL_length]; exact Nat.le_refl _)]
  exact loadL_putL 8 _ (by simpa using h)
theorem drop_flat {α : Type} (k : Nat) : ∀ (l : List (List α)) (i : Nat), (∀ x ∈ l, x.length = k) → l.flatten.drop (k * i) = (l.drop i).flatten
  | [], i, _ => by simp
  | x :: l, 0, _ => by simp
  | x :: l, i + 1, h => by
    have hx := h x (List.mem_cons_self ..)
    rw [List.flatten_cons, List.drop_append, List.drop_of_length_le (by rw [hx, Nat.mul_succ]; omega), List.nil_append, hx, Nat.mul_succ, show k * i + k - k = k * i by omega, drop_flat k l i (fun y hy => h y (List.mem_cons_of_mem _ hy))]
    rfl
theorem numA_drop (b : List UInt8) (k i : Nat) : numA b (k + i) = numA (b.drop k) i := by unfold numA; rw [List.drop_drop]
theorem numA_at (b : List UInt8) (k : Nat) : numA b k = loadL ((b.drop k).take 8) := rfl
theorem numA_lt (b : List UInt8) (k : Nat) : numA b k < 18446744073709551616 := by
  have := loadL_lt ((b.drop k).take 8)
  have h2 : ((b.drop k).take 8).length ≤ 8 := by rw [List.length_take]; omega
  have h3 : 256 ^ ((b.drop k).take 8).length ≤ 256 ^ 8 := Nat.pow_le_pow_right (by decide) h2
  have h4 : (256 : Nat) ^ 8 = 18446744073709551616 := by decide
  unfold numA
  omega
theorem u64N_nat {n : Nat} (h : n < 18446744073709551616) : u64N (n : Int) = n := by unfold u64N; omega
theorem grantB_app (g : GD) (r : List UInt8) : grantB g ++ r = putL g.rights.toNat 8 ++ (putL (u64N g.expiry) 8 ++ (putL (u64N g.serial) 8 ++ r)) := by
  have h := g.rights.toNat_lt
  simp only [grantB, numsB, List.map_cons, List.map_nil, List.flatten_cons, List.flatten_nil, List.append_nil, List.append_assoc]
  rw [u64N_nat (by omega)]
theorem put8_drop (n : Nat) (r : List UInt8) : (putL n 8 ++ r).drop 8 = r := by
  rw [List.drop_append, putL_length, List.drop_of_length_le (by rw [putL_length]; exact Nat.le_refl _), List.nil_append]
  rfl
theorem nat_i {n : Int} (h0 : 0 ≤ n) (h1 : n < 18446744073709551616) : ((u64N n : Nat) : Int) = n := by unfold u64N; omega
/-- A grant that stands where it was printed. -/
theorem gd_there {b : List UInt8} {i : Nat} {g : GD} {r : List UInt8} (hg : mayG g = true) (hb : b.drop (16 + 24 * i) = grantB g ++ r) : gdA b i = g ∧ fineA b i = true := by
  unfold mayG inR two40 at hg
  simp only [Bool.and_eq_true, decide_eq_true_eq] at hg
  obtain ⟨⟨h1, h2, h3⟩, h4, h5⟩ := hg
  rw [grantB_app] at hb
  have e1 : numA b (16 + 24 * i) = g.rights.toNat := by rw [numA_at, hb]; exact numA_put (by omega) _
  have e2 : numA b (24 + 24 * i) = u64N g.expiry := by
    rw [show 24 + 24 * i = (16 + 24 * i) + 8 by omega, numA_drop, hb, numA_at, put8_drop]; exact numA_put (u64N_lt _) _
  have e3 : numA b (32 + 24 * i) = u64N g.serial := by
    rw [show 32 + 24 * i = (16 + 24 * i) + 8 + 8 by omega, numA_drop, ← List.drop_drop, hb, numA_at, put8_drop, put8_drop]; exact numA_put (u64N_lt _) _
  have i2 := nat_i h2 (by omega)
  have i3 := nat_i (by omega : 0 ≤ g.serial) (by omega)
  refine ⟨?_, ?_⟩
  · unfold gdA
    rw [e1, e2, e3, i2, i3]
    obtain ⟨a, b, c⟩ := g
    simp
  · unfold fineA two40
    rw [e1, e2, e3, i2, i3]
    have := g.rights.toNat_lt
    simp only [Bool.and_eq_true, decide_eq_true_eq]
    exact ⟨⟨by omega, h3⟩, h5⟩
theorem mayT_parts {t : TK} (h : mayT t = true) : 0 ≤ t.ten ∧ t.ten ≤ 8 ∧ 1 ≤ t.line.length ∧ t.line.length ≤ 4 ∧ ∀ g ∈ t.line, mayG g = true := by
  unfold mayT inR lineOk at h
  simp only [Bool.and_eq_true, decide_eq_true_eq, List.all_eq_true] at h
  exact ⟨h.1.1, h.1.2, h.2.1.1, h.2.1.2, h.2.2⟩
theorem flat_grants_len (l : List GD) : ((l.map grantB).flatten).length = 24 * l.length := by
  induction l with
  | nil => rfl
  | cons g l ih => rw [List.map_cons, List.flatten_cons, List.length_append, ih, grantB_len, List.length_cons]; omega
theorem printT_eq {t : TK} (h : mayT t = true) : printT t = putL (u64N t.ten) 8 ++ (putL t.line.length 8 ++ ((t.line.map grantB).flatten ++ t.tag)) := by
  have hp := mayT_parts h
  unfold printT
  rw [if_pos h]
  simp only [numsB, List.map_cons, List.map_nil, List.flatten_cons, List.flatten_nil, List.append_nil, List.append_assoc]
  rw [u64N_nat (by omega)]
theorem printT_len {t : TK} (h : mayT t = true) (ht : t.tag.length = 32) : (printT t).length = 48 + 24 * t.line.length := by
  rw [printT_eq h]
  simp only [List.length_append, putL_length, flat_grants_len, ht]
  omega
/-- What is printed is read as it was. -/
theorem par_print {t : TK} (h : mayT t = true) (ht : t.tag.length = 32) : goodT (printT t) = true ∧ readT (printT t) = t := by
  have hp := mayT_parts h
  have hl := printT_len h ht
  have he := printT_eq h
  obtain ⟨b, hb⟩ : ∃ b, printT t = b := ⟨_, rfl⟩
  rw [hb] at hl he ⊢
  have d8 : b.drop 8 = putL t.line.length 8 ++ ((t.line.map grantB).flatten ++ t.tag) := by rw [he, put8_drop]
  have d16 : b.drop 16 = (t.line.map grantB).flatten ++ t.tag := by rw [show 16 = 8 + 8 from rfl, ← List.drop_drop, d8, put8_drop]
  have n0 : (numA b 0 : Int) = t.ten := by rw [numA_at, List.drop_zero, he, numA_put (u64N_lt _)]; exact nat_i hp.1 (by omega)
  have n8 : numA b 8 = t.line.length := by rw [numA_at, d8, numA_put (by omega)]
  have hdr : ∀ i, i ≤ t.line.length → b.drop (16 + 24 * i) = ((t.line.drop i).map grantB).flatten ++ t.tag := fun i hi => by
    rw [← List.drop_drop, d16, List.drop_append_of_le_length (by rw [flat_grants_len]; omega), drop_flat 24 _ _ (fun x hx => by obtain ⟨g, _, rfl⟩ := List.mem_map.1 hx; exact grantB_len g), List.map_drop]
  have hg : ∀ i (hi : i < t.line.length), gdA b i = t.line[i] ∧ fineA b i = true := fun i hi => by
    refine gd_there (r := ((t.line.drop (i + 1)).map grantB).flatten ++ t.tag) (hp.2.2.2.2 _ (List.getElem_mem _)) ?_
    rw [hdr i (by omega), List.drop_eq_getElem_cons hi, List.map_cons, List.flatten_cons, List.append_assoc]
  have hr : readT b = t := by
    unfold readT
    rw [n0, n8, hdr _ (Nat.le_refl _), List.drop_of_length_le (Nat.le_refl _)]
    have hm : (List.range t.line.length).map (gdA b) = t.line := by
      apply List.ext_getElem (by simp)
      intro i h1 h2
      rw [List.getElem_map, List.getElem_range]
      exact (hg i h2).1
    rw [hm]
    obtain ⟨a, l, g⟩ := t
    simp
  refine ⟨?_, hr⟩
  unfold goodT
  rw [hr, h, n0, n8]
  simp only [Bool.and_eq_true, decide_eq_true_eq, List.all_eq_true, List.mem_range, and_true]
  exact ⟨⟨⟨by omega, by unfold two40; omega⟩, ⟨hp.2.2.1, hp.2.2.2.1⟩, hl⟩, fun i hi => (hg i hi).2⟩
theorem grant_there {b : List UInt8} {i : Nat} (hl : 40 + 24 * i ≤ b.length) (hf : fineA b i = true) : grantB (gdA b i) = (b.drop (16 + 24 * i)).take 24 := by
  unfold fineA at hf
  simp only [Bool.and_eq_true, decide_eq_true_eq] at hf
  have := grantB_app (gdA b i) []
  rw [List.append_nil, List.append_nil] at this
  rw [this]
  have l1 := numA_lt b (16 + 24 * i)
  have p : ∀ k, k + 8 ≤ b.length → putL (numA b k) 8 = (b.drop k).take 8 := fun k hk => putL_loadL 8 _ (by rw [List.length_take, List.length_drop]; omega)
  have e1 : (gdA b i).rights.toNat = numA b (16 + 24 * i) := by
    show (UInt8.ofNat _).toNat = _
    rw [UInt8.toNat_ofNat']; omega
  have e2 : u64N (gdA b i).expiry = numA b (24 + 24 * i) := u64N_nat (numA_lt _ _)
  have e3 : u64N (gdA b i).serial = numA b (32 + 24 * i) := u64N_nat (numA_lt _ _)
  rw [e1, e2, e3, p _ (by omega), p _ (by omega), p _ (by omega)]
  have d1 : b.drop (24 + 24 * i) = (b.drop (16 + 24 * i)).drop 8 := by rw [List.drop_drop]; congr 1; omega
  have d2 : b.drop (32 + 24 * i) = ((b.drop (16 + 24 * i)).drop 8).drop 8 := by rw [List.drop_drop, List.drop_drop]; congr 1; omega
  rw [d1, d2]
  show _ = (b.drop (16 + 24 * i)).take (8 + (8 + 8))
  rw [List.take_add, List.take_add]
theorem grants_there (b : List UInt8) : ∀ n, 16 + 24 * n ≤ b.length → (∀ i, i < n → fineA b i = true) → (((List.range n).map (gdA b)).map grantB).flatten = (b.drop 16).take (24 * n)
  | 0, _, _ => by simp
  | n + 1, h, hf => by
    rw [List.range_succ, List.map_append, List.map_append, List.flatten_append, grants_there b n (by omega) (fun i hi => hf i (by omega)), Nat.mul_succ, List.take_add, List.drop_drop]
    simp only [List.map_cons, List.map_nil, List.flatten_cons, List.flatten_nil, List.append_nil]
    rw [grant_there (by omega) (hf n (by omega))]
/-- What is read has those bytes. -/
theorem print_par {b : List UInt8} (h : goodT b = true) : mayT (readT b) = true ∧ (readT b).tag.length = 32 ∧ printT (readT b) = b := by
  unfold goodT at h
  simp only [Bool.and_eq_true, decide_eq_true_eq, List.all_eq_true, List.mem_range] at h
  obtain ⟨⟨⟨h1, h2⟩, ⟨h3, h4⟩, h5⟩, h6, h7⟩ := h
  refine ⟨h7, by unfold readT; simp only [List.length_drop]; omega, ?_⟩
  rw [printT_eq h7]
  have e0 : u64N (readT b).ten = numA b 0 := u64N_nat (numA_lt _ _)
  have e1 : (readT b).line.length = numA b 8 := by simp [readT]
  have e2 : ((readT b).line.map grantB).flatten = (b.drop 16).take (24 * numA b 8) := grants_there b _ (by omega) h6
  have e3 : (readT b).tag = (b.drop 16).drop (24 * numA b 8) := by rw [List.drop_drop]; rfl
  rw [e0, e1, e2, e3, List.take_append_drop]
  have p : ∀ k, k + 8 ≤ b.length → putL (numA b k) 8 = (b.drop k).take 8 := fun k hk => putL_loadL 8 _ (by rw [List.length_take, List.length_drop]; omega)
  rw [p 0 (by omega), p 8 (by omega), List.drop_zero, show b.drop 16 = (b.drop 8).drop 8 by rw [List.drop_drop], List.take_append_drop, List.take_append_drop]
theorem u8_andn (n a b : UInt8) : n &&& ~~~(a &&& b) = 0 ↔ n &&& ~~~a = 0 ∧ n &&& ~~~b = 0 := by
  simp only [← UInt8.toBitVec_inj, UInt8.toBitVec_and, UInt8.toBitVec_not, UInt8.toBitVec_ofNat]
  rw [BitVec.not_and, BitVec.and_or_distrib_left]
  exact BitVec.or_eq_zero_iff
theorem u8_or (n r : UInt8) : r ||| n = r ↔ n &&& ~~~r = 0 := by
  simp only [← UInt8.toBitVec_inj, UInt8.toBitVec_and, UInt8.toBitVec_not, UInt8.toBitVec_or, UInt8.toBitVec_ofNat]
  constructor
  · intro h
    apply BitVec.eq_of_getLsbD_eq
    intro i hi
    have := congrArg (fun x => x.getLsbD i) h
    simp at this ⊢
    intro h1
    simp_all
  · intro h
    apply BitVec.eq_of_getLsbD_eq
    intro i hi
    have := congrArg (fun x => x.getLsbD i) h
    simp at this ⊢
    intro h1
    cases hr : r.toBitVec.getLsbD i <;> simp_all
theorem u8_15 (n r : UInt8) (h : r.toNat ≤ 15) : n &&& ~~~r = 0 → n &&& ~~~(15 : UInt8) = 0 := by
  intro h1
  have h2 : r &&& 15 = r := by
    apply UInt8.toNat_inj.1
    rw [UInt8.toNat_and]
    show r.toNat &&& 15 = r.toNat
    rw [show 15 = 2 ^ 4 - 1 from rfl, Nat.and_two_pow_sub_one_eq_mod]
    omega
  rw [← h2, u8_andn] at h1
  exact h1.2
theorem leavesE_le (now : Int) : ∀ (l : List GD) (x : Int), l.foldl (fun x g => min x g.expiry) x ≤ now ↔ x ≤ now ∨ ∃ g ∈ l, g.expiry ≤ now
  | [], x => by simp
  | g :: l, x => by
    rw [List.foldl_cons, leavesE_le now l]
    constructor
    · rintro (h | ⟨k, hk, h⟩)
      · rcases Int.le_total x g.expiry with hh | hh
        · rw [Int.min_eq_left hh] at h; exact .inl h
        · rw [Int.min_eq_right hh] at h; exact .inr ⟨g, List.mem_cons_self .., h⟩
      · exact .inr ⟨k, List.mem_cons_of_mem _ hk, h⟩
    · rintro (h | ⟨k, hk, h⟩)
      · exact .inl (by omega)
      · rcases List.mem_cons.1 hk with rfl | hk
        · exact .inl (by omega)
        · exact .inr ⟨k, hk, h⟩
theorem leavesR_and (n : UInt8) : ∀ (l : List GD) (r : UInt8), n &&& ~~~(l.foldl (fun r g => r &&& g.rights) r) = 0 ↔ n &&& ~~~r = 0 ∧ ∀ g ∈ l, n &&& ~~~g.rights = 0
  | [], r => by simp
  | g :: l, r => by
    rw [List.foldl_cons, leavesR_and n l, u8_andn]
    simp only [List.mem_cons, forall_eq_or_imp, and_assoc]
theorem lineOk_parts {l : List GD} (h : lineOk l = true) : 1 ≤ l.length ∧ l.length ≤ 4 ∧ ∀ g ∈ l, mayG g = true := by
  unfold lineOk at h
  simp only [Bool.and_eq_true, decide_eq_true_eq, List.all_eq_true] at h
  exact ⟨h.1.1, h.1.2, h.2⟩
theorem late_iff {l : List GD} (h : lineOk l = true) (now : Int) : leavesE l ≤ now ↔ ∃ g ∈ l, g.expiry ≤ now := by
  obtain ⟨h1, h2, h3⟩ := lineOk_parts h
  unfold leavesE
  rw [leavesE_le]
  constructor
  · rintro (hh | hh)
    · match l, h1 with
      | g :: l, _ =>
        have hg := h3 g (List.mem_cons_self ..)
        unfold mayG inR at hg
        simp only [Bool.and_eq_true, decide_eq_true_eq] at hg
        exact ⟨g, List.mem_cons_self .., by omega⟩
    · exact hh
  · exact .inr
theorem less_iff {l : List GD} (h : lineOk l = true) (n : UInt8) : n &&& ~~~(leavesR l) = 0 ↔ ∀ g ∈ l, n &&& ~~~g.rights = 0 := by
  obtain ⟨h1, h2, h3⟩ := lineOk_parts h
  unfold leavesR
  rw [leavesR_and]
  constructor
  · exact fun hh => hh.2
  · intro hh
    match l, h1 with
    | g :: l, _ =>
      have hg := h3 g (List.mem_cons_self ..)
      unfold mayG at hg
      simp only [Bool.and_eq_true, decide_eq_true_eq] at hg
      exact ⟨u8_15 n g.rights hg.1.1 (hh g (List.mem_cons_self ..)), hh⟩
end Go.Proofs.Ytdpcahfgdpikfaa

/- Walks: rights, and the reference's: what a grant, a line may be; what is left of a line. -/
namespace Go.Proofs.Ytdpcahfgdpikfaa
open Go Go.RowKit Go.ChangeShapes Go.WideShapes
set_option linter.unusedVariables false
set_option maxRecDepth 4000
theorem go_Tok1 {A B : Prop} (h : Held B → A := by
  intro hEnd
  repeat (first | (refine OW_isLoad ?_; refine OW_loadM (by with_reducible exact agg_Grant) rfl (by assumption) ?_) | refine OW_fieldB fldo_G0 rfl ?_ | refine OW_fieldB fldo_G1 rfl ?_ | refine OW_fieldB fldo_G2 rfl ?_ | refine OW_fieldO fldo_G0 rfl ?_ | refine OW_fieldO fldo_G1 rfl ?_ | refine OW_fieldO fldo_G2 rfl ?_ | refine OW_lenS und_Grants rfl ?_ | refine OW_idxN und_Grants el_Grant rfl rfl _ rfl (by omega) ?_ | refine OW_idxN und_Grants el_Grant rfl rfl 0 rfl (by omega) ?_ | refine OW_moveV (.int _ _) rfl ?_ | refine OW_moveV (.slice _ _ _) rfl ?_ | refine OW_moveV (.bool _) rfl ?_ | refine OW_moveV (.pointer _) rfl ?_ | refine OW_moveV (.string _) rfl ?_ | refine OW_moveV (.agg _) rfl ?_ | refine OW_moveV (.tuple _) rfl ?_ | refine OW_nil ?_ | refine thenE_normal ?_ | refine CW_seq ?_ | refine CW_region (by kernel_rfl) ?_ | refine OW_assignV (.int _ _) rfl ?_ | refine OW_assignV (.slice _ _ _) rfl ?_ | refine OW_assignV (.bool _) rfl ?_ | refine OW_assignV (.pointer _) rfl ?_ | refine OW_assignV (.string _) rfl ?_ | refine OW_assignV (.agg _) rfl ?_ | refine OW_assignV (.tuple _) rfl ?_ | refine OW_addI rfl rfl (by omega) ?_ | refine OW_subI rfl rfl (by omega) ?_ | refine OW_mulI rfl rfl (by omega) ?_ | refine OW_lss rfl rfl ?_ | refine OW_extract rfl rfl ?_ | refine OW_gtr rfl rfl ?_ | refine OW_leq rfl rfl ?_ | refine OW_geq rfl rfl ?_ | refine OW_eql rfl rfl ?_ | refine OW_neq rfl rfl ?_ | refine OW_not rfl ?_ | refine OW_pickT rfl _ rfl ?_ | refine OW_pickF rfl (.bool _) rfl ?_ | refine OW_pickB rfl rfl rfl ?_ | refine OW_move ?_ | refine OW_assign ?_ | refine OW_pass rfl ?_ | refine OW_take rfl ?_ | refine OW_lenS (by first | with_reducible exact und_bytes | with_reducible exact und_bytess) rfl ?_ | refine OW_convInt (by first | with_reducible exact und_u8 | with_reducible exact und_u64 | with_reducible exact und_int | with_reducible exact und_u32) (by first | with_reducible exact und_u8 | with_reducible exact und_u64 | with_reducible exact und_int | with_reducible exact und_u32) rfl ?_ | refine OW_add rfl rfl ?_ | refine OW_sub rfl rfl ?_ | refine OW_mul rfl rfl ?_ | refine OW_min2 rfl rfl ?_ | refine OW_max2 rfl rfl ?_ | refine OW_neg rfl ?_ | refine CW_block ?_ | refine CW_condT rfl ?_ | refine CW_condF rfl ?_ | refine CW_exit ?_ | refine CW_ret ?_ | refine CW_skip ?_ | refine LW_seq ?_ | refine LW_regC ?_ | refine LW_condC ?_ | refine LW_regF ?_ | refine LW_condF ?_ | refine FW_seq ?_ | refine FW_region (by kernel_rfl) ?_ | refine FW_block ?_ | refine FW_condT rfl ?_ | refine FW_condF rfl ?_ | refine FW_exit ?_ | refine FW_ret ?_ | refine FW_skip ?_ | refine LW_ret ?_ | refine LW_skip ?_ | refine thenE_exit ?_ | refine thenE_ret ?_ | refine inBlockE_normal ?_ | refine inBlockE_same ?_ | refine inBlockE_ret ?_ | refine inBlockE_ne (by rfl) ?_ | refine OW_eqlB (by with_reducible exact und_bool) rfl rfl ?_ | refine OW_neqB (by with_reducible exact und_bool) rfl rfl ?_ | refine OW_idxS (by with_reducible exact und_bytes) one_u8 rfl rfl _ rfl (by omega) ?_ | refine OW_idxS (by with_reducible exact und_bytess) one_bytes rfl rfl _ rfl (by omega) ?_ | refine OW_load1 (by first | with_reducible exact one_u8 | with_reducible exact one_bytes) rfl _ (by assumption) ?_ | (refine OW_isLoad ?_; refine OW_loadBk (by first | with_reducible exact s_int | with_reducible exact one_u8) rfl (by assumption) _ (by rfl) ?_) | refine OW_load1 s_int rfl _ (by assumption) ?_)
  exact hEnd.out) (k : B) : A := h ⟨k⟩
theorem und_Grants : Try.prog.underlying 43 = some (.slice 49) := Try.underlying43
theorem el_Grant : ElT Try.prog 49 3 := ⟨by kernel_rfl⟩
theorem und_Errno : Try.prog.underlying 26 = some (.int .i64) := Try.underlying26
def kGrants : KD Try.prog 43 (List GD) := kSlice kGrant und_Grants (by kernel_rfl) (of_decide_eq_true (by kernel_rfl))
/-- Grants that are read. -/
def GRd (w : World) (A : Option Addr) (l : List GD) : Prop := RdN w A 3 (l.map gcells)
theorem GRd.ext {w w' : World} {A : Option Addr} {l : List GD} (h : GRd w A l) (hx : Ext w w') : GRd w' A l := RdN.ext h hx
theorem grants_of {w : World} {A : Option Addr} {l : List GD} (h : SlR kGrant.n kGrant.R w A l) : GRd w A l ∧ ∀ x ∈ l, GOk x :=
  ⟨slr_rdN gcells (by decide) (fun cs a hr => hr.1) h, fun x hx => by
    obtain ⟨i, hi, rfl⟩ := List.mem_iff_getElem.1 hx
    obtain ⟨ad, ce, e1, e2, e3, e4⟩ := h i hi
    exact ⟨e4.2⟩⟩
theorem GRd.at_ {w : World} {A : Option Addr} {l : List GD} (h : GRd w A l) {i : Nat} (hi : i < l.length) : ∃ ad, A = some ad ∧ At w (ad.add (i * 3)) (gcells l[i]) := by
  obtain ⟨ad, ha, hc⟩ := RdN.at_ h (by decide) (i := i) (by simpa using hi)
  exact ⟨ad, ha, by simpa using hc⟩
theorem GRd.nil (w : World) (A : Option Addr) : GRd w A [] := RdN.nil _ _ _
theorem gAt {w : World} {ad : Addr} {g : GD} (h : At w ad (gcells g)) : AtM w ad (gcells g) 3 := ⟨h, rfl⟩
theorem mayG_eq (g : GD) : mayG g = (decide ((g.rights.toNat : Int) ≤ 15) && (decide (0 ≤ g.expiry) && (decide (g.expiry ≤ 1099511627776) && (decide (1 ≤ g.serial) && decide (g.serial ≤ 1099511627776))))) := by
  unfold mayG inR two40
  rw [show decide ((g.rights.toNat : Int) ≤ 15) = decide (g.rights.toNat ≤ 15) from decide_eq_decide.2 (by omega)]
  simp only [Bool.and_assoc]
theorem mayG_eq8 (g : GD) : mayG g = (decide ((g.rights.toNat : Int) < 16) && (decide (0 ≤ g.expiry) && (decide (g.expiry ≤ 1099511627776) && (decide (0 < g.serial) && decide (g.serial ≤ 1099511627776))))) := by
  rw [mayG_eq, show decide ((g.rights.toNat : Int) < 16) = decide ((g.rights.toNat : Int) ≤ 15) from decide_eq_decide.2 (by omega), show decide (0 < g.serial) = decide (1 ≤ g.serial) from decide_eq_decide.2 (by omega)]
set_option maxHeartbeats 8000000 in
theorem rMay_any (w : World) (g : GD) : Calls Try.prog 41 #[.agg (gcells g).toArray] w (RetV w (.bool (mayG g))) := by
  rw [mayG_eq]
  refine calls_of_CW Try.func41 rfl (by simp [Try.ntmps41]) ?_
  rw [Try.ntmps41]
  refine go_Tok1 (k := ?_)
  refine OW_box _ rfl ?_
  intro w1 g1 hb1 hg1 hlt1 hx1
  have hb1 : Blk w1 g1 49 (gcells g).toArray := hb1
  refine go_Tok1 (k := ?_)
  refine OW_split 6 _ rfl (fun h1 => ?_) (fun h1 => ?_)
  rotate_left 1
  · refine go_Tok1 (k := ?_)
    exact bodyE_ret1 rfl (.bool false) rfl ⟨by rw [h1]; rfl, hx1⟩
  refine go_Tok1 (k := ?_)
  refine OW_split 11 _ rfl (fun h2 => ?_) (fun h2 => ?_)
  rotate_left 1
  · refine go_Tok1 (k := ?_)
    exact bodyE_ret1 rfl (.bool false) rfl ⟨by rw [h1, h2]; rfl, hx1⟩
  refine go_Tok1 (k := ?_)
  refine OW_split 16 _ rfl (fun h3 => ?_) (fun h3 => ?_)
  rotate_left 1
  · refine go_Tok1 (k := ?_)
    exact bodyE_ret1 rfl (.bool false) rfl ⟨by rw [h1, h2, h3]; rfl, hx1⟩
  refine go_Tok1 (k := ?_)
  refine OW_split 21 _ rfl (fun h4 => ?_) (fun h4 => ?_)
  rotate_left 1
  · refine go_Tok1 (k := ?_)
    exact bodyE_ret1 rfl (.bool false) rfl ⟨by rw [h1, h2, h3, h4]; rfl, hx1⟩
  refine go_Tok1 (k := ?_)
  exact bodyE_ret1 rfl (.bool _) rfl ⟨by rw [h1, h2, h3, h4]; rfl, hx1⟩
set_option maxHeartbeats 8000000 in
theorem ref8May_any (w : World) (g : GD) : Calls Try.prog 80 #[.agg (gcells g).toArray] w (RetV w (.bool (mayG g))) := by
  rw [mayG_eq8]
  refine calls_of_CW Try.func80 rfl (by simp [Try.ntmps80]) ?_
  rw [Try.ntmps80]
  refine go_Tok1 (k := ?_)
  refine OW_box _ rfl ?_
  intro w1 g1 hb1 hg1 hlt1 hx1
  have hb1 : Blk w1 g1 49 (gcells g).toArray := hb1
  refine go_Tok1 (k := ?_)
  refine OW_split 6 _ rfl (fun h1 => ?_) (fun h1 => ?_)
  rotate_left 1
  · refine go_Tok1 (k := ?_)
    exact bodyE_ret1 rfl (.bool false) rfl ⟨by rw [h1]; rfl, hx1⟩
  refine go_Tok1 (k := ?_)
  refine OW_split 11 _ rfl (fun h2 => ?_) (fun h2 => ?_)
  rotate_left 1
  · refine go_Tok1 (k := ?_)
    exact bodyE_ret1 rfl (.bool false) rfl ⟨by rw [h1, h2]; rfl, hx1⟩
  refine go_Tok1 (k := ?_)
  refine OW_split 16 _ rfl (fun h3 => ?_) (fun h3 => ?_)
  rotate_left 1
  · refine go_Tok1 (k := ?_)
    exact bodyE_ret1 rfl (.bool false) rfl ⟨by rw [h1, h2, h3]; rfl, hx1⟩
  refine go_Tok1 (k := ?_)
  refine OW_split 21 _ rfl (fun h4 => ?_) (fun h4 => ?_)
  rotate_left 1
  · refine go_Tok1 (k := ?_)
    exact bodyE_ret1 rfl (.bool false) rfl ⟨by rw [h1, h2, h3, h4]; rfl, hx1⟩
  refine go_Tok1 (k := ?_)
  exact bodyE_ret1 rfl (.bool _) rfl ⟨by rw [h1, h2, h3, h4]; rfl, hx1⟩
theorem all_take {l : List GD} {k : Nat} (hk : k < l.length) : (l.take (k + 1)).all mayG = ((l.take k).all mayG && mayG l[k]) := by
  rw [List.take_succ_eq_append_getElem hk, List.all_append]
  simp
theorem all_no {l : List GD} {k : Nat} (hk : k < l.length) (h : mayG l[k] = false) : l.all mayG = false := by
  rw [List.all_eq_false]
  exact ⟨_, List.getElem_mem hk, by rw [h]; decide⟩
set_option maxHeartbeats 8000000 in
theorem rLine_any (w : World) (A : Option Addr) (c : Nat) (l : List GD) (hl : GRd w A l) (hn : l.length ≤ 1000000) : Calls Try.prog 40 #[.slice A l.length c] w (RetV w (.bool (lineOk l))) := by
  refine calls_of_CW Try.func40 rfl (by simp [Try.ntmps40]) ?_
  rw [Try.ntmps40]
  refine go_Tok1 (k := ?_)
  refine OW_split 8 _ rfl (fun h1 => ?_) (fun h1 => ?_)
  · refine go_Tok1 (k := ?_)
    exact bodyE_ret1 rfl (.bool false) rfl ⟨by unfold lineOk; rw [decide_eq_false (show ¬ 1 ≤ l.length by have := of_decide_eq_true h1; omega)]; rfl, Ext.rfl' _⟩
  have n1 : 1 ≤ l.length := by have := of_decide_eq_false h1; omega
  clear h1
  refine go_Tok1 (k := ?_)
  refine CW_cond _ rfl (fun hh => ?_) (fun hh => ?_)
  · refine go_Tok1 (k := ?_)
    exact bodyE_ret1 rfl (.bool false) rfl ⟨by unfold lineOk; rw [decide_eq_false (show ¬ l.length ≤ 4 by have := of_decide_eq_true hh; omega), Bool.and_false]; rfl, Ext.rfl' _⟩
  have n4 : l.length ≤ 4 := by have := of_decide_eq_false hh; omega
  clear hh
  have hlo : lineOk l = l.all mayG := by unfold lineOk; rw [decide_eq_true n1, decide_eq_true n4]; rfl
  rw [hlo]
  refine go_Tok1 (k := ?_)
  refine CW_loop (fun e' w' => ∃ k : Nat, k ≤ l.length ∧ e' 13 = .slice A l.length c ∧ e' 14 = .int .i64 l.length ∧ e' 15 = .int .i64 k ∧ (l.take k).all mayG = true ∧ Ext w w') (fun e' _ => l.length - (intOf (e' 15)).toNat) ⟨0, Nat.zero_le _, rfl, rfl, rfl, rfl, Ext.rfl' _⟩ ?_
  rintro e' w1 ⟨k, hk, q13, q14, q15, hall, hx1⟩
  rw [upd_self q13, upd_self q14, upd_self q15]
  refine go_Tok1 (k := ?_)
  refine CW_cond _ rfl (fun hh => ?_) (fun hh => ?_)
  · have hlt : k < l.length := by have := of_decide_eq_true hh; omega
    clear hh
    obtain ⟨ad, rfl, hat⟩ := (hl.ext hx1).at_ hlt
    have hsucc := all_take hlt
    have hno := all_no hlt
    generalize l[k] = g at *
    have hg := gAt hat
    refine go_Tok1 (k := ?_)
    refine OW_allocA agg_Grant ?_
    intro w2 g2 hb2 hg2 hlt2 hx2
    refine go_Tok1 (k := ?_)
    refine OW_storeA agg_Grant rfl (gcells g) rfl rfl hb2 (by kernel_rfl) (gcells_one _) ?_
    intro w3 hb3 hg3
    have hx3 : Ext w w3 := (Keeps.of_only hg3 (S := (· = g2)) rfl).ext (hx1.trans' hx2) (fun j hj => by have hj : j = g2 := hj; have := hx1.size; omega)
    refine go_Tok1 (k := ?_)
    refine OW_loadX agg_Grant rfl (gcells g) rfl hb3.atL ?_
    refine go_Tok1 (k := ?_)
    refine OW_callV Try.func41 (by kernel_rfl) rfl (rMay_any w3 g) rfl ?_
    intro w4 hx4
    have hx04 := hx3.trans' hx4
    cases hm : mayG g with
    | false =>
      rw [hno hm]
      refine go_Tok1 (k := ?_)
      exact bodyE_ret1 rfl (.bool false) rfl ⟨rfl, hx04⟩
    | true =>
      refine go_Tok1 (k := ?_)
      refine ⟨⟨k + 1, hlt, rfl, rfl, rfl, by rw [hsucc, hall, hm]; rfl, hx04⟩, ?_⟩
      show l.length - ((k : Int) + 1).toNat < l.length - (k : Int).toNat
      omega
  · have hge : k = l.length := by have := of_decide_eq_false hh; omega
    rw [hge, List.take_length] at hall
    rw [hall]
    refine go_Tok1 (k := ?_)
    exact bodyE_ret1 rfl (.bool true) rfl ⟨rfl, hx1⟩
set_option maxHeartbeats 8000000 in
theorem ref8Line_any (w : World) (A : Option Addr) (c : Nat) (l : List GD) (hl : GRd w A l) (hn : l.length ≤ 1000000) : Calls Try.prog 103 #[.slice A l.length c] w (RetV w (.bool (lineOk l))) := by
  refine calls_of_CW Try.func103 rfl (by simp [Try.ntmps103]) ?_
  rw [Try.ntmps103]
  refine go_Tok1 (k := ?_)
  refine CW_loop (fun e' w' => ∃ k : Nat, k ≤ l.length ∧ k ≤ 4 ∧ e' 0 = .slice A l.length c ∧ e' 3 = .int .i64 k ∧ (l.take k).all mayG = true ∧ Ext w w') (fun e' _ => l.length - (intOf (e' 3)).toNat) ⟨0, Nat.zero_le _, by decide, rfl, rfl, rfl, Ext.rfl' _⟩ ?_
  rintro e' w1 ⟨k, hk, hk4, q0, q3, hall, hx1⟩
  rw [upd_self q0, upd_self q3]
  refine go_Tok1 (k := ?_)
  refine CW_cond _ rfl (fun hh => ?_) (fun hh => ?_)
  · have hlt : k < l.length := by have := of_decide_eq_true hh; omega
    clear hh
    obtain ⟨ad, rfl, hat⟩ := (hl.ext hx1).at_ hlt
    have hsucc := all_take hlt
    have hno := all_no hlt
    generalize l[k] = g at *
    have hg := gAt hat
    refine go_Tok1 (k := ?_)
    refine OW_split 12 _ rfl (fun h1 => ?_) (fun h1 => ?_)
    · refine go_Tok1 (k := ?_)
      exact bodyE_ret1 rfl (.bool false) rfl ⟨by unfold lineOk; rw [decide_eq_false (show ¬ l.length ≤ 4 by have := of_decide_eq_true h1; omega), Bool.and_false]; rfl, hx1⟩
    have h3 : k < 4 := by have := of_decide_eq_false h1; omega
    clear h1
    refine go_Tok1 (k := ?_)
    refine OW_callV Try.func80 (by kernel_rfl) rfl (ref8May_any w1 g) rfl ?_
    intro w4 hx4
    have hx04 := hx1.trans' hx4
    cases hm : mayG g with
    | false =>
      have hlo : lineOk l = false := by unfold lineOk; rw [hno hm, Bool.and_false]
      rw [hlo]
      refine go_Tok1 (k := ?_)
      exact bodyE_ret1 rfl (.bool false) rfl ⟨rfl, hx04⟩
    | true =>
      refine go_Tok1 (k := ?_)
      refine ⟨⟨k + 1, hlt, h3, rfl, rfl, by rw [hsucc, hall, hm]; rfl, hx04⟩, ?_⟩
      show l.length - ((k : Int) + 1).toNat < l.length - (k : Int).toNat
      omega
  · have hge : k = l.length := by have := of_decide_eq_false hh; omega
    rw [hge, List.take_length] at hall
    refine go_Tok1 (k := ?_)
    exact bodyE_ret1 rfl (.bool _) rfl ⟨by
      unfold lineOk
      rw [hall, Bool.and_true, decide_eq_true (show l.length ≤ 4 by omega), Bool.and_true]
      congr 2
      exact decide_eq_decide.2 (by omega), hx1⟩
theorem leavesR_take {l : List GD} {k : Nat} (hk : k < l.length) : leavesR (l.take (k + 1)) = leavesR (l.take k) &&& l[k].rights := by
  unfold leavesR
  rw [List.take_succ_eq_append_getElem hk, List.foldl_append]
  rfl
theorem leavesE_take {l : List GD} {k : Nat} (hk : k < l.length) : leavesE (l.take (k + 1)) = min (leavesE (l.take k)) l[k].expiry := by
  unfold leavesE
  rw [List.take_succ_eq_append_getElem hk, List.foldl_append]
  rfl
theorem bv_of_u8 (z : UInt8) : BitVec.ofInt 8 (z.toNat : Int) = z.toBitVec := by
  apply BitVec.eq_of_toNat_eq
  rw [BitVec.toNat_ofInt]
  have := z.toNat_lt
  show ((z.toNat : Int) % 256).toNat = z.toBitVec.toNat
  rw [show ((z.toNat : Int) % 256).toNat = z.toNat by omega]
  rfl
theorem and_bv (x y : UInt8) : bitsK .and .u8 (x.toNat : Int) (y.toNat : Int) = ((x &&& y).toNat : Int) := by
  have h : ∀ z : UInt8, BitVec.ofInt 8 (z.toNat : Int) = z.toBitVec := bv_of_u8
  show IntKind.u8.wrap ((BitVec.ofInt 8 (x.toNat : Int) &&& BitVec.ofInt 8 (y.toNat : Int)).toNat : Int) = _
  rw [h, h]
  show IntKind.u8.wrap ((x &&& y).toNat : Int) = _
  exact wrap_u8_lt _ (x &&& y).toNat_lt
theorem andn_bv (x y : UInt8) : bitsK .andNot .u8 (x.toNat : Int) (y.toNat : Int) = ((x &&& ~~~ y).toNat : Int) := by
  have h := bv_of_u8
  show IntKind.u8.wrap ((BitVec.ofInt 8 (x.toNat : Int) &&& ~~~ BitVec.ofInt 8 (y.toNat : Int)).toNat : Int) = _
  rw [h, h]
  show IntKind.u8.wrap ((x &&& ~~~ y).toNat : Int) = _
  exact wrap_u8_lt _ (x &&& ~~~ y).toNat_lt
theorem min_int (a b : Int) : (if b < a then b else a) = min a b := by
  by_cases h : b < a
  · rw [if_pos h, Int.min_eq_right (by omega)]
  · rw [if_neg h, Int.min_eq_left (by omega)]
theorem bodyE_ret3T {P : Program} {fn : Func} {R : Ending → World → Prop} {e : Nat → Value} {w : World} {t u x : Tmp} (hr : fn.results = #[.tmp t, .tmp u, .tmp x]) (v v' v'' : Value) (hv : e t = v) (hv' : e u = v') (hv'' : e x = v'') (hR : R (.returned (.tuple #[v, v', v''])) w) : bodyE P fn R .ret e w := by
  unfold bodyE
  refine ⟨_, fun tmps ht => ?_, hR⟩
  subst hv; subst hv'; subst hv''
  rw [← ht, ← ht, ← ht]
  simp [results, hr]
set_option maxHeartbeats 8000000 in
theorem rLeaves_any (w : World) (A : Option Addr) (c : Nat) (l : List GD) (hl : GRd w A l) (hn : l.length ≤ 1000000) : Calls Try.prog 85 #[.slice A l.length c] w
    (RetV w (.tuple (if lineOk l then #[bv (leavesR l), .int .i64 (leavesE l), .int .i64 0] else #[.int .u8 0, .int .i64 0, .int .i64 2]))) := by
  refine calls_of_CW Try.func85 rfl (by simp [Try.ntmps85]) ?_
  rw [Try.ntmps85]
  refine go_Tok1 (k := ?_)
  refine OW_callV Try.func40 (by kernel_rfl) rfl (rLine_any w A c l hl hn) rfl ?_
  intro w0 hx0
  cases hm : lineOk l with
  | false =>
    refine go_Tok1 (k := ?_)
    exact bodyE_ret3T rfl (.int .u8 0) (.int .i64 0) (.int .i64 2) rfl rfl rfl ⟨rfl, hx0⟩
  | true =>
  refine go_Tok1 (k := ?_)
  refine CW_loop (fun e' w' => ∃ k : Nat, k ≤ l.length ∧ e' 10 = .slice A l.length c ∧ e' 11 = .int .i64 l.length ∧ e' 12 = .int .i64 k ∧ e' 2 = bv (leavesR (l.take k)) ∧ e' 3 = .int .i64 (leavesE (l.take k)) ∧ Ext w w') (fun e' _ => l.length - (intOf (e' 12)).toNat) ⟨0, Nat.zero_le _, rfl, rfl, rfl, rfl, rfl, hx0⟩ ?_
  rintro e' w1 ⟨k, hk, q10, q11, q12, q2, q3, hx1⟩
  rw [upd_self q10, upd_self q11, upd_self q12, upd_self q2, upd_self q3]
  refine go_Tok1 (k := ?_)
  refine CW_cond _ rfl (fun hh => ?_) (fun hh => ?_)
  · have hlt : k < l.length := by have := of_decide_eq_true hh; omega
    clear hh
    obtain ⟨ad, rfl, hat⟩ := (hl.ext hx1).at_ hlt
    have hr := leavesR_take hlt
    have he := leavesE_take hlt
    generalize l[k] = g at *
    generalize leavesR (l.take k) = r at *
    generalize leavesE (l.take k) = x at *
    have hg := gAt hat
    refine go_Tok1 (k := ?_)
    refine OW_allocA agg_Grant ?_
    intro w2 g2 hb2 hg2 hlt2 hx2
    refine go_Tok1 (k := ?_)
    refine OW_storeA agg_Grant rfl (gcells g) rfl rfl hb2 (by kernel_rfl) (gcells_one _) ?_
    intro w3 hb3 hg3
    have hb3 : Blk w3 g2 49 (gcells g).toArray := hb3
    have hx3 : Ext w w3 := (Keeps.of_only hg3 (S := (· = g2)) rfl).ext (hx1.trans' hx2) (fun j hj => by have hj : j = g2 := hj; have := hx1.size; omega)
    clear hb2
    refine go_Tok1 (k := ?_)
    refine OW_and rfl rfl _ (and_bv r g.rights) ?_
    refine go_Tok1 (k := ?_)
    rw [min_int, ← he]
    refine go_Tok1 (k := ?_)
    refine ⟨⟨k + 1, hlt, rfl, rfl, rfl, by rw [hr]; rfl, rfl, hx3⟩, ?_⟩
    show l.length - ((k : Int) + 1).toNat < l.length - (k : Int).toNat
    omega
  · have hge : k = l.length := by have := of_decide_eq_false hh; omega
    rw [hge, List.take_length]
    refine go_Tok1 (k := ?_)
    exact bodyE_ret3T rfl (bv (leavesR l)) (.int .i64 (leavesE l)) (.int .i64 0) rfl rfl rfl ⟨rfl, hx1⟩
set_option maxHeartbeats 8000000 in
theorem rHas_any (w : World) (r n : UInt8) : Calls Try.prog 86 #[bv r, bv n] w (RetV w (.bool (n &&& ~~~ r == 0))) := by
  refine calls_of_CW Try.func86 rfl (by simp [Try.ntmps86]) ?_
  rw [Try.ntmps86]
  refine go_Tok1 (k := ?_)
  refine OW_andNot rfl rfl _ (andn_bv n r) ?_
  refine go_Tok1 (k := ?_)
  refine bodyE_ret1 rfl (.bool (((n &&& ~~~ r).toNat : Int) == 0)) rfl ⟨?_, Ext.rfl' _⟩
  have : (((n &&& ~~~ r).toNat : Int) == 0) = (n &&& ~~~ r == 0) := by
    rw [Bool.eq_iff_iff, beq_iff_eq, beq_iff_eq, ← UInt8.toNat_inj]
    show ((n &&& ~~~ r).toNat : Int) = 0 ↔ (n &&& ~~~ r).toNat = 0
    omega
  rw [this]
end Go.Proofs.Ytdpcahfgdpikfaa

/- Walks: a token's cells; a grant's numbers; which token may be. -/
namespace Go.Proofs.Ytdpcahfgdpikfaa
open Go Go.RowKit Go.ChangeShapes Go.WideShapes
set_option linter.unusedVariables false
set_option maxRecDepth 4000
theorem go_Tok2 {A B : Prop} (h : Held B → A := by
  intro hEnd
  repeat (first | refine OW_fieldB fldo_G0 rfl ?_ | refine OW_fieldB fldo_G1 rfl ?_ | refine OW_fieldB fldo_G2 rfl ?_ | refine OW_fieldB fldo_T0 rfl ?_ | refine OW_fieldB fldo_T1 rfl ?_ | refine OW_fieldB fldo_T2 rfl ?_ | refine OW_lenS und_Grants rfl ?_ | refine OW_moveV (.int _ _) rfl ?_ | refine OW_moveV (.slice _ _ _) rfl ?_ | refine OW_moveV (.bool _) rfl ?_ | refine OW_moveV (.pointer _) rfl ?_ | refine OW_moveV (.string _) rfl ?_ | refine OW_moveV (.agg _) rfl ?_ | refine OW_moveV (.tuple _) rfl ?_ | refine OW_nil ?_ | refine thenE_normal ?_ | refine CW_seq ?_ | refine CW_region (by kernel_rfl) ?_ | refine OW_assignV (.int _ _) rfl ?_ | refine OW_assignV (.slice _ _ _) rfl ?_ | refine OW_assignV (.bool _) rfl ?_ | refine OW_assignV (.pointer _) rfl ?_ | refine OW_assignV (.string _) rfl ?_ | refine OW_assignV (.agg _) rfl ?_ | refine OW_assignV (.tuple _) rfl ?_ | refine OW_addI rfl rfl (by omega) ?_ | refine OW_subI rfl rfl (by omega) ?_ | refine OW_mulI rfl rfl (by omega) ?_ | refine OW_lss rfl rfl ?_ | refine OW_extract rfl rfl ?_ | refine OW_gtr rfl rfl ?_ | refine OW_leq rfl rfl ?_ | refine OW_geq rfl rfl ?_ | refine OW_eql rfl rfl ?_ | refine OW_neq rfl rfl ?_ | refine OW_not rfl ?_ | refine OW_pickT rfl _ rfl ?_ | refine OW_pickF rfl (.bool _) rfl ?_ | refine OW_pickB rfl rfl rfl ?_ | refine OW_move ?_ | refine OW_assign ?_ | refine OW_pass rfl ?_ | refine OW_take rfl ?_ | refine OW_lenS (by first | with_reducible exact und_bytes | with_reducible exact und_bytess) rfl ?_ | refine OW_convInt (by first | with_reducible exact und_u8 | with_reducible exact und_u64 | with_reducible exact und_int | with_reducible exact und_u32) (by first | with_reducible exact und_u8 | with_reducible exact und_u64 | with_reducible exact und_int | with_reducible exact und_u32) rfl ?_ | refine OW_add rfl rfl ?_ | refine OW_sub rfl rfl ?_ | refine OW_mul rfl rfl ?_ | refine OW_min2 rfl rfl ?_ | refine OW_max2 rfl rfl ?_ | refine OW_neg rfl ?_ | refine CW_block ?_ | refine CW_condT rfl ?_ | refine CW_condF rfl ?_ | refine CW_exit ?_ | refine CW_ret ?_ | refine CW_skip ?_ | refine LW_seq ?_ | refine LW_regC ?_ | refine LW_condC ?_ | refine LW_regF ?_ | refine LW_condF ?_ | refine FW_seq ?_ | refine FW_region (by kernel_rfl) ?_ | refine FW_block ?_ | refine FW_condT rfl ?_ | refine FW_condF rfl ?_ | refine FW_exit ?_ | refine FW_ret ?_ | refine FW_skip ?_ | refine LW_ret ?_ | refine LW_skip ?_ | refine thenE_exit ?_ | refine thenE_ret ?_ | refine inBlockE_normal ?_ | refine inBlockE_same ?_ | refine inBlockE_ret ?_ | refine inBlockE_ne (by rfl) ?_ | refine OW_eqlB (by with_reducible exact und_bool) rfl rfl ?_ | refine OW_neqB (by with_reducible exact und_bool) rfl rfl ?_ | refine OW_idxS (by with_reducible exact und_bytes) one_u8 rfl rfl _ rfl (by omega) ?_ | refine OW_idxS (by with_reducible exact und_bytess) one_bytes rfl rfl _ rfl (by omega) ?_ | refine OW_load1 (by first | with_reducible exact one_u8 | with_reducible exact one_bytes) rfl _ (by assumption) ?_ | (refine OW_isLoad ?_; refine OW_loadBk (by first | with_reducible exact s_int | with_reducible exact one_u8 | with_reducible exact one_grants) rfl (by assumption) _ (by rfl) ?_) | refine OW_load1 s_int rfl _ (by assumption) ?_)
  exact hEnd.out) (k : B) : A := h ⟨k⟩
/-- A token's cells, its line behind a place. -/
def tcells (t : TK) (v : Value) : List Value := .int .i64 t.ten :: v :: t.tag.map bv
structure TOk (w : World) (t : TK) (A : Option Addr) (c : Nat) : Prop where
  rd : GRd w A t.line
  cap : t.line.length ≤ c
  g : ∀ x ∈ t.line, GOk x
  ten : I64 t.ten
  tag : t.tag.length = 32
theorem TOk.ext {w w' : World} {t : TK} {A : Option Addr} {c : Nat} (h : TOk w t A c) (hx : Ext w w') : TOk w' t A c := ⟨h.rd.ext hx, h.cap, h.g, h.ten, h.tag⟩
theorem tcells_length {t : TK} (h : t.tag.length = 32) (v : Value) : (tcells t v).length = 34 := by simp [tcells, h]
def kToken : KD Try.prog 45 TK where
  n := 34
  hn := by kernel_rfl
  R := fun w cs t => ∃ A c, cs = tcells t (.slice A t.line.length c) ∧ TOk w t A c
  ext := fun hx ⟨A, c, h1, h2⟩ => ⟨A, c, h1, h2.ext hx⟩
  opn := fun {H enc w fuel cs x} h hw => by
    obtain ⟨hl, hp⟩ := kd_parts Try.underlying45 h hw
    have hl : cs.length = 34 := by rw [hl]; kernel_rfl
    obtain ⟨a0, h0, r0⟩ := hp 0 _ rfl kI
    obtain ⟨a1, A, c, h1, r1, r1', b1⟩ := hp 1 _ rfl kGrants
    obtain ⟨a2, h2, r2⟩ := hp 2 _ rfl kTag
    have e0 : (cs.drop 0).take 1 = [.int .i64 a0] := h0
    have e1 : (cs.drop (0 + 1)).take 1 = [.slice A a1.length c] := h1
    have e2 : (cs.drop (0 + 1 + 1)).take 32 = a2.map bv := h2
    have eN : cs.drop (0 + 1 + 1 + 32) = [] := List.drop_of_length_le (by omega)
    have := cut_cons cs 0 1
    rw [cut_cons cs (0 + 1) 1, cut_cons cs (0 + 1 + 1) 32, e0, e1, e2, eN, List.drop_zero] at this
    rw [this]
    obtain ⟨q1, q2⟩ := grants_of b1
    refine ⟨⟨a0, a1, a2⟩, A, c, ?_, q1, r1, q2, r0, ?_⟩
    · simp [tcells]
    · exact r2
theorem one_grants : OneT Try.prog 43 := ⟨.slice none 0 0, 24, by kernel_rfl, rfl, by kernel_rfl⟩
theorem fldo_T0 : FldO Try.prog 45 0 0 := ⟨fun w a => by kernel_rfl⟩
theorem fldo_T1 : FldO Try.prog 45 1 1 := ⟨fun w a => by kernel_rfl⟩
theorem fldo_T2 : FldO Try.prog 45 2 2 := ⟨fun w a => by kernel_rfl⟩
theorem agg_Token : AggT Try.prog 45 34 (tcells t0 (.slice none 0 0)) := ⟨⟨_, Try.underlying45, rfl⟩, by kernel_rfl, fun w => by kernel_rfl⟩
theorem tcells_one (t : TK) (A : Option Addr) (n c : Nat) : ∀ v ∈ tcells t (.slice A n c), v.oneCell' = true := by
  intro v hv
  simp only [tcells, List.mem_cons] at hv
  rcases hv with rfl | rfl | hv
  · rfl
  · rfl
  · exact bv_one _ v hv
theorem tag_in {w : World} {g : Nat} {T : TypeId} {t : TK} {v : Value} (hb : Blk w g T (tcells t v).toArray) : At w ⟨g, 2, none⟩ (t.tag.map bv) := fun j u hu => by
  have := hb.atL (2 + j) u (by simpa [tcells, Nat.add_comm 2 j] using hu)
  rw [addr_add_off] at this ⊢
  simpa using this
theorem tag_inM {w : World} {g : Nat} {T : TypeId} {t : TK} {v : Value} (hb : Blk w g T (tcells t v).toArray) (h : t.tag.length = 32) : AtM w ⟨g, 2, none⟩ (t.tag.map bv) 32 := ⟨tag_in hb, by rw [List.length_map, h]⟩
theorem i64_b8T (b : UInt8) : IntKind.i64.wrap (b.toNat : Int) = b.toNat := by
  have h := b.toNat_lt
  exact wrap64_in (by omega)
theorem a_info_intT : (Try.prog.info? 3).map (fun i => (i.zero, i.size, i.bytes)) = some (some (.int .i64 0), 1, 8) := by kernel_rfl
set_option maxHeartbeats 8000000 in
theorem tokGrant_any (w : World) (g : GD) : Calls Try.prog 79 #[.agg (gcells g).toArray] w (RetBs 5 w (grantB g)) := by
  refine calls_of_CW Try.func79 rfl (by simp [Try.ntmps79]) ?_
  rw [Try.ntmps79]
  refine go_Tok2 (k := ?_)
  refine OW_box _ rfl ?_
  intro w1 g1 hb1 hg1 hlt1 hx1
  have hb1 : Blk w1 g1 49 (gcells g).toArray := hb1
  refine go_Tok2 (k := ?_)
  rw [i64_b8T]
  refine OW_lit [.int .i64 g.rights.toNat, .int .i64 g.expiry, .int .i64 g.serial] und_ints a_info_intT rfl rfl (by simp [Value.oneCell']) (by decide) ?_
  intro w3 g3 hb3 hg3 hx3
  have hN := tokNums_any w3 (some ⟨g3, 0, none⟩) 3 [g.rights.toNat, g.expiry, g.serial] (by unfold Is; simpa [iv] using hb3.rd) (by show 3 ≤ 1000; decide)
  clear hb3
  refine go_Tok2 (k := ?_)
  refine OW_callBs Try.func87 (by kernel_rfl) rfl hN rfl ?_
  intro w4 A4 c4 hf4
  refine go_Tok2 (k := ?_)
  exact bodyE_ret1 rfl (.slice A4 _ c4) rfl ⟨A4, c4, rfl, hf4.back (hx1.trans' hx3)⟩
set_option maxHeartbeats 8000000 in
theorem refGrant_any (w : World) (g : GD) : Calls Try.prog 82 #[.agg (gcells g).toArray] w (RetBs 5 w (grantB g)) := by
  have hG : putL (u64N g.rights.toNat) 8 ++ putL (u64N g.expiry) 8 ++ putL (u64N g.serial) 8 = grantB g := by simp [grantB, numsB]
  have l1 := putL_length (u64N g.rights.toNat) 8
  have l2 := putL_length (u64N g.expiry) 8
  have l3 := putL_length (u64N g.serial) 8
  have hN := fun w n => refNumber_any w n
  refine calls_of_CW Try.func82 rfl (by simp [Try.ntmps82]) ?_
  rw [Try.ntmps82]
  refine go_Tok2 (k := ?_)
  refine OW_box _ rfl ?_
  intro w1 g1 hb1 hg1 hlt1 hx1
  have hb1 : Blk w1 g1 49 (gcells g).toArray := hb1
  refine go_Tok2 (k := ?_)
  refine OW_lit [] und_bytes info_u8 rfl rfl (by simp) (by decide) ?_
  intro w2 g2 hb2 hg2 hx2
  have hoE : w2.ownsRow w.heap.size 5 1 (.slice (some ⟨g2, 0, none⟩) 0 0) 0 [] := own_of_blk (by have := hx1.size; omega) hb2 rfl (Nat.le_refl _) (by decide) rfl
  replace hb1 := hb1.ext hx2
  refine go_Tok2 (k := ?_)
  rw [i64_b8T]
  refine OW_callBs Try.func83 (by kernel_rfl) rfl (hN w2 g.rights.toNat) rfl ?_
  intro w3 A3 c3 hf3
  generalize putL (u64N g.rights.toNat) 8 = z1 at *
  have hx03 := hx1.trans' (hx2.trans' hf3.ext)
  refine go_Tok2 (k := ?_)
  refine OW_apU (l := []) rfl rfl (own_ext hoE hf3.ext) hf3.bs (by rw [l1]; decide) hx03.size ?_
  intro w4 A4 c4 ho4 hT4 hbel4
  rw [List.nil_append] at ho4 ⊢
  replace hb1 := hT4 _ _ _ (by decide) (hb1.ext hf3.ext)
  have hx04 : Ext w w4 := hx03.trans hbel4
  clear hoE hb2
  refine go_Tok2 (k := ?_)
  refine OW_callBs Try.func83 (by kernel_rfl) rfl (hN w4 g.expiry) rfl ?_
  intro w5 A5 c5 hf5
  generalize putL (u64N g.expiry) 8 = z2 at *
  have hx05 := hx04.trans' hf5.ext
  refine go_Tok2 (k := ?_)
  refine OW_apU rfl rfl (own_ext ho4 hf5.ext) hf5.bs (by rw [l1, l2]; decide) hx05.size ?_
  intro w6 A6 c6 ho6 hT6 hbel6
  replace hb1 := hT6 _ _ _ (by decide) (hb1.ext hf5.ext)
  have hx06 : Ext w w6 := hx05.trans hbel6
  refine go_Tok2 (k := ?_)
  refine OW_callBs Try.func83 (by kernel_rfl) rfl (hN w6 g.serial) rfl ?_
  intro w7 A7 c7 hf7
  generalize putL (u64N g.serial) 8 = z3 at *
  have hx07 := hx06.trans' hf7.ext
  refine go_Tok2 (k := ?_)
  refine OW_apU rfl rfl (own_ext ho6 hf7.ext) hf7.bs (by rw [List.length_append, l1, l2, l3]; decide) hx07.size ?_
  intro w8 A8 c8 ho8 hT8 hbel8
  rw [hG] at ho8 ⊢
  refine go_Tok2 (k := ?_)
  exact bodyE_ret1 rfl (.slice A8 _ c8) rfl ⟨A8, c8, rfl, ho8, hx07.trans hbel8⟩
theorem mayT_eq (t : TK) : mayT t = (decide (0 ≤ t.ten) && (decide (t.ten ≤ 8) && lineOk t.line)) := by
  unfold mayT inR
  rw [Bool.and_assoc]
set_option maxHeartbeats 8000000 in
theorem tMay_any (w : World) (t : TK) (A : Option Addr) (c : Nat) (h : GRd w A t.line) (hn : t.line.length ≤ 1000000) : Calls Try.prog 75 #[.agg (tcells t (.slice A t.line.length c)).toArray] w (RetV w (.bool (mayT t))) := by
  rw [mayT_eq]
  refine calls_of_CW Try.func75 rfl (by simp [Try.ntmps75]) ?_
  rw [Try.ntmps75]
  refine go_Tok2 (k := ?_)
  refine OW_box _ rfl ?_
  intro w1 g1 hb1 hg1 hlt1 hx1
  have hb1 : Blk w1 g1 45 (tcells t (.slice A t.line.length c)).toArray := hb1
  refine go_Tok2 (k := ?_)
  refine OW_split 6 _ rfl (fun h1 => ?_) (fun h1 => ?_)
  rotate_left 1
  · refine go_Tok2 (k := ?_)
    exact bodyE_ret1 rfl (.bool false) rfl ⟨by rw [h1]; rfl, hx1⟩
  refine go_Tok2 (k := ?_)
  refine OW_split 11 _ rfl (fun h2 => ?_) (fun h2 => ?_)
  rotate_left 1
  · refine go_Tok2 (k := ?_)
    exact bodyE_ret1 rfl (.bool false) rfl ⟨by rw [h1, h2]; rfl, hx1⟩
  refine go_Tok2 (k := ?_)
  refine OW_callV Try.func40 (by kernel_rfl) rfl (rLine_any w1 A c t.line (h.ext hx1) hn) rfl ?_
  intro w2 hx2
  refine go_Tok2 (k := ?_)
  exact bodyE_ret1 rfl (.bool _) rfl ⟨by rw [h1, h2]; rfl, hx1.trans' hx2⟩
set_option maxHeartbeats 8000000 in
theorem ref9May_any (w : World) (t : TK) (A : Option Addr) (c : Nat) (h : GRd w A t.line) (hn : t.line.length ≤ 1000000) : Calls Try.prog 77 #[.agg (tcells t (.slice A t.line.length c)).toArray] w (RetV w (.bool (mayT t))) := by
  rw [mayT_eq]
  refine calls_of_CW Try.func77 rfl (by simp [Try.ntmps77]) ?_
  rw [Try.ntmps77]
  refine go_Tok2 (k := ?_)
  refine OW_box _ rfl ?_
  intro w1 g1 hb1 hg1 hlt1 hx1
  have hb1 : Blk w1 g1 45 (tcells t (.slice A t.line.length c)).toArray := hb1
  refine go_Tok2 (k := ?_)
  refine OW_split 6 _ rfl (fun h1 => ?_) (fun h1 => ?_)
  rotate_left 1
  · refine go_Tok2 (k := ?_)
    exact bodyE_ret1 rfl (.bool false) rfl ⟨by rw [h1]; rfl, hx1⟩
  refine go_Tok2 (k := ?_)
  refine OW_split 11 _ rfl (fun h2 => ?_) (fun h2 => ?_)
  rotate_left 1
  · refine go_Tok2 (k := ?_)
    exact bodyE_ret1 rfl (.bool false) rfl ⟨by rw [h1, h2]; rfl, hx1⟩
  refine go_Tok2 (k := ?_)
  refine OW_callV Try.func103 (by kernel_rfl) rfl (ref8Line_any w1 A c t.line (h.ext hx1) hn) rfl ?_
  intro w2 hx2
  refine go_Tok2 (k := ?_)
  exact bodyE_ret1 rfl (.bool _) rfl ⟨by rw [h1, h2]; rfl, hx1.trans' hx2⟩
end Go.Proofs.Ytdpcahfgdpikfaa
