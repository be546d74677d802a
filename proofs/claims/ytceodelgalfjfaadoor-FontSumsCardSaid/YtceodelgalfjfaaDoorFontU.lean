/- Font: the code points of a text as the reference reads them are those of Go's range. No program in sight. -/
import Derived.Test.YtceodelgalfjfaaDoorEngIter
namespace Go.Proofs.Ytceodelgalfjfaa
open Go Go.Eng
set_option linter.unusedSimpArgs false
set_option linter.unusedVariables false

/-- a further byte, from lo to hi -/
def mo (l : List UInt8) (i : Nat) (lo hi : Int) : Int := match l[i]? with
  | some x => if (x.toNat : Int) < lo ∨ hi < (x.toNat : Int) then -1 else (x.toNat : Int) - 128
  | none => -1
def thr (l : List UInt8) (p : Nat) (b : Int) : Int × Int :=
  if mo l (p + 1) (if b = 224 then 160 else 128) (if b = 237 then 159 else 191) < 0 ∨ mo l (p + 2) 128 191 < 0 then (65533, 1)
  else ((b - 224) * 4096 + mo l (p + 1) (if b = 224 then 160 else 128) (if b = 237 then 159 else 191) * 64 + mo l (p + 2) 128 191, 3)
def fou (l : List UInt8) (p : Nat) (b : Int) : Int × Int :=
  if (mo l (p + 1) (if b = 240 then 144 else 128) (if b = 244 then 143 else 191) < 0 ∨ mo l (p + 2) 128 191 < 0) ∨ mo l (p + 3) 128 191 < 0 then (65533, 1)
  else ((b - 240) * 262144 + mo l (p + 1) (if b = 240 then 144 else 128) (if b = 244 then 143 else 191) * 4096 + mo l (p + 2) 128 191 * 64 + mo l (p + 3) 128 191, 4)
/-- the code point that begins with byte b at p, and its bytes -/
def pt (l : List UInt8) (p : Nat) (b : Int) : Int × Int :=
  if b < 128 then (b, 1)
  else if 194 ≤ b ∧ b ≤ 223 then (if 0 ≤ mo l (p + 1) 128 191 then ((b - 192) * 64 + mo l (p + 1) 128 191, 2) else (65533, 1))
  else if 224 ≤ b ∧ b ≤ 239 then thr l p b
  else if 240 ≤ b ∧ b ≤ 244 then fou l p b
  else (65533, 1)

theorem mo_range (l : List UInt8) (i : Nat) (lo hi : Int) (h : hi ≤ 191) (h2 : 128 ≤ lo) : -1 ≤ mo l i lo hi ∧ mo l i lo hi ≤ 63 := by
  unfold mo
  split
  · rename_i x hx
    have := x.toNat_lt
    split <;> omega
  · omega

/-- Go's decoding, the further bytes' tests and values set free -/
def D (b0 : Nat) (c1 c2 c3 : Bool) (v1 v2 v3 : Nat) : Nat × Nat :=
  if b0 < 0x80 then (b0, 1)
  else if b0 / 32 == 6 && c1 then
    if (b0 % 32) * 64 + v1 ≥ 0x80 then ((b0 % 32) * 64 + v1, 2) else (65533, 1)
  else if b0 / 16 == 14 && c1 && c2 then
    if (b0 % 16) * 4096 + v1 * 64 + v2 ≥ 0x800 && Utf8.valid ((b0 % 16) * 4096 + v1 * 64 + v2 : Nat) then ((b0 % 16) * 4096 + v1 * 64 + v2, 3) else (65533, 1)
  else if b0 / 8 == 30 && c1 && c2 && c3 then
    if (b0 % 8) * 262144 + v1 * 4096 + v2 * 64 + v3 ≥ 0x10000 && Utf8.valid ((b0 % 8) * 262144 + v1 * 4096 + v2 * 64 + v3 : Nat) then ((b0 % 8) * 262144 + v1 * 4096 + v2 * 64 + v3, 4) else (65533, 1)
  else (65533, 1)

theorem byte_none {l : List UInt8} {i : Nat} (h : l[i]? = none) : ¬ i < (⟨l.toArray⟩ : ByteArray).size := by
  have hl : l.length ≤ i := List.getElem?_eq_none_iff.1 h
  simp [ByteArray.size]; omega
theorem byte_some {l : List UInt8} {i : Nat} {x : UInt8} (h : l[i]? = some x) : i < (⟨l.toArray⟩ : ByteArray).size ∧ ((⟨l.toArray⟩ : ByteArray).get! i).toNat = x.toNat := by
  obtain ⟨hl, he⟩ := List.getElem?_eq_some_iff.1 h
  refine ⟨by simpa [ByteArray.size] using hl, ?_⟩
  show (l.toArray[i]!).toNat = _
  rw [getElem!_pos l.toArray i (by simpa using hl)]
  simp [he]

theorem decode_D (s : ByteArray) (p : Nat) : Utf8.decode s p = D (s.get! (p + 0)).toNat (decide (p + 1 < s.size) && (s.get! (p + 1)).toNat / 64 == 2) (decide (p + 2 < s.size) && (s.get! (p + 2)).toNat / 64 == 2) (decide (p + 3 < s.size) && (s.get! (p + 3)).toNat / 64 == 2)
    ((s.get! (p + 1)).toNat % 64) ((s.get! (p + 2)).toNat % 64) ((s.get! (p + 3)).toNat % 64) := rfl

/-- a further byte, as Go tests it -/
theorem cont_mo (l : List UInt8) (i : Nat) : ∃ v : Nat, v ≤ 63 ∧ ((⟨l.toArray⟩ : ByteArray).get! i).toNat % 64 = v ∧ (decide (i < (⟨l.toArray⟩ : ByteArray).size) && ((⟨l.toArray⟩ : ByteArray).get! i).toNat / 64 == 2) = decide (0 ≤ mo l i 128 191) ∧
    (0 ≤ mo l i 128 191 → mo l i 128 191 = v) ∧ ∀ lo hi : Int, 128 ≤ lo → hi ≤ 191 → mo l i lo hi = if mo l i 128 191 < 0 ∨ mo l i 128 191 + 128 < lo ∨ hi < mo l i 128 191 + 128 then -1 else mo l i 128 191 := by
  refine ⟨_, by omega, rfl, ?_⟩
  unfold mo
  cases h : l[i]? with
  | none => have := byte_none h; simp [this]
  | some y =>
    have hy := y.toNat_lt
    obtain ⟨h1, h2⟩ := byte_some h
    simp only [h1, h2, decide_true, Bool.true_and]
    refine ⟨?_, ?_, ?_⟩
    · rw [Bool.eq_iff_iff]
      simp only [beq_iff_eq, decide_eq_true_eq]
      split <;> omega
    · split <;> omega
    · intro lo hi hlo hhi
      split <;> split <;> split <;> omega

def lo3 (b : Int) : Int := if b = 224 then 160 else 128
def hi3 (b : Int) : Int := if b = 237 then 159 else 191
def lo4 (b : Int) : Int := if b = 240 then 144 else 128
def hi4 (b : Int) : Int := if b = 244 then 143 else 191

theorem ptD (l : List UInt8) (p b : Nat) (hb : b < 256) (c1 c2 c3 : Bool) (v1 v2 v3 : Nat) (h1 : v1 ≤ 63) (h2 : v2 ≤ 63) (h3 : v3 ≤ 63) (e1 : c1 = decide (0 ≤ mo l (p + 1) 128 191)) (e2 : c2 = decide (0 ≤ mo l (p + 2) 128 191)) (e3 : c3 = decide (0 ≤ mo l (p + 3) 128 191))
    (f1 : 0 ≤ mo l (p + 1) 128 191 → mo l (p + 1) 128 191 = v1) (f2 : 0 ≤ mo l (p + 2) 128 191 → mo l (p + 2) 128 191 = v2) (f3 : 0 ≤ mo l (p + 3) 128 191 → mo l (p + 3) 128 191 = v3)
    (g1 : ∀ lo hi : Int, 128 ≤ lo → hi ≤ 191 → mo l (p + 1) lo hi = if mo l (p + 1) 128 191 < 0 ∨ mo l (p + 1) 128 191 + 128 < lo ∨ hi < mo l (p + 1) 128 191 + 128 then -1 else mo l (p + 1) 128 191) :
    ∀ r, D b c1 c2 c3 v1 v2 v3 = r → pt l p b = ((r.1 : Int), (r.2 : Int)) := by
  intro r hr
  have g3 := g1 (lo3 b) (hi3 b) (by unfold lo3; split <;> omega) (by unfold hi3; split <;> omega)
  have g4 := g1 (lo4 b) (hi4 b) (by unfold lo4; split <;> omega) (by unfold hi4; split <;> omega)
  have hlo3 : lo3 b = 160 ∧ b = 224 ∨ lo3 b = 128 ∧ b ≠ 224 := by unfold lo3; split <;> omega
  have hhi3 : hi3 b = 159 ∧ b = 237 ∨ hi3 b = 191 ∧ b ≠ 237 := by unfold hi3; split <;> omega
  have hlo4 : lo4 b = 144 ∧ b = 240 ∨ lo4 b = 128 ∧ b ≠ 240 := by unfold lo4; split <;> omega
  have hhi4 : hi4 b = 143 ∧ b = 244 ∨ hi4 b = 191 ∧ b ≠ 244 := by unfold hi4; split <;> omega
  unfold pt thr fou
  change (if (b : Int) < 128 then ((b : Int), (1 : Int)) else if 194 ≤ (b : Int) ∧ (b : Int) ≤ 223 then _ else if 224 ≤ (b : Int) ∧ (b : Int) ≤ 239 then (if mo l (p + 1) (lo3 b) (hi3 b) < 0 ∨ mo l (p + 2) 128 191 < 0 then ((65533 : Int), (1 : Int)) else (((b : Int) - 224) * 4096 + mo l (p + 1) (lo3 b) (hi3 b) * 64 + mo l (p + 2) 128 191, 3)) else if 240 ≤ (b : Int) ∧ (b : Int) ≤ 244 then (if (mo l (p + 1) (lo4 b) (hi4 b) < 0 ∨ mo l (p + 2) 128 191 < 0) ∨ mo l (p + 3) 128 191 < 0 then ((65533 : Int), (1 : Int)) else (((b : Int) - 240) * 262144 + mo l (p + 1) (lo4 b) (hi4 b) * 4096 + mo l (p + 2) 128 191 * 64 + mo l (p + 3) 128 191, 4)) else _) = _
  generalize hm1 : mo l (p + 1) 128 191 = m1 at *
  generalize hm2 : mo l (p + 2) 128 191 = m2 at *
  generalize hm3 : mo l (p + 3) 128 191 = m3 at *
  generalize mo l (p + 1) (lo3 b) (hi3 b) = m13 at *
  generalize mo l (p + 1) (lo4 b) (hi4 b) = m14 at *
  generalize lo3 b = L3 at *
  generalize hi3 b = H3 at *
  generalize lo4 b = L4 at *
  generalize hi4 b = H4 at *
  clear g1 hm1 hm2 hm3
  have g3' : (m1 < 0 ∨ m1 + 128 < L3 ∨ H3 < m1 + 128) ∧ m13 = -1 ∨ ¬ (m1 < 0 ∨ m1 + 128 < L3 ∨ H3 < m1 + 128) ∧ m13 = m1 := by
    rw [g3]; split
    · rename_i h; exact .inl ⟨h, rfl⟩
    · rename_i h; exact .inr ⟨h, rfl⟩
  have g4' : (m1 < 0 ∨ m1 + 128 < L4 ∨ H4 < m1 + 128) ∧ m14 = -1 ∨ ¬ (m1 < 0 ∨ m1 + 128 < L4 ∨ H4 < m1 + 128) ∧ m14 = m1 := by
    rw [g4]; split
    · rename_i h; exact .inl ⟨h, rfl⟩
    · rename_i h; exact .inr ⟨h, rfl⟩
  clear g3 g4
  subst e1 e2 e3
  unfold D Utf8.valid at hr
  simp only [Bool.and_eq_true, Bool.or_eq_true, beq_iff_eq, decide_eq_true_eq] at hr
  by_cases r0 : (b : Int) < 128
  · rw [if_pos r0]; rw [if_pos (by omega)] at hr; subst hr; rfl
  rw [if_neg r0]; rw [if_neg (by omega)] at hr
  by_cases r1 : 194 ≤ (b : Int) ∧ (b : Int) ≤ 223
  · rw [if_pos r1]
    split at hr
    · rw [if_pos (by omega)] at hr; subst hr; rw [if_pos (by omega)]; refine Prod.ext ?_ ?_ <;> dsimp only <;> omega
    · rw [if_neg (by omega), if_neg (by omega)] at hr; subst hr; rw [if_neg (by omega)]; rfl
  rw [if_neg r1]
  by_cases r2 : 224 ≤ (b : Int) ∧ (b : Int) ≤ 239
  · rw [if_pos r2]; rw [if_neg (by omega)] at hr
    split at hr
    · split at hr
      · subst hr; rw [if_neg (by omega)]; refine Prod.ext ?_ ?_ <;> dsimp only <;> omega
      · subst hr; rw [if_pos (by omega)]; rfl
    · rw [if_neg (by omega)] at hr; subst hr; rw [if_pos (by omega)]; rfl
  rw [if_neg r2]
  by_cases r3 : 240 ≤ (b : Int) ∧ (b : Int) ≤ 244
  · rw [if_pos r3]; rw [if_neg (by omega), if_neg (by omega)] at hr
    split at hr
    · split at hr
      · subst hr; rw [if_neg (by omega)]; refine Prod.ext ?_ ?_ <;> dsimp only <;> omega
      · subst hr; rw [if_pos (by omega)]; rfl
    · subst hr; rw [if_pos (by omega)]; rfl
  rw [if_neg r3]
  split at hr
  · rw [if_neg (by omega)] at hr; subst hr; rfl
  · rw [if_neg (by omega)] at hr
    split at hr
    · rw [if_neg (by omega)] at hr; subst hr; rfl
    · subst hr; rfl

theorem pt_dec (l : List UInt8) (p : Nat) (x : UInt8) (hx : l[p]? = some x) : pt l p x.toNat = ((dec l p).1, ((dec l p).2 : Int)) := by
  obtain ⟨v1, a1, b1, c1, d1, e1⟩ := cont_mo l (p + 1)
  obtain ⟨v2, a2, b2, c2, d2, e2⟩ := cont_mo l (p + 2)
  obtain ⟨v3, a3, b3, c3, d3, e3⟩ := cont_mo l (p + 3)
  have h0 := byte_some hx
  have := ptD l p x.toNat x.toNat_lt _ _ _ v1 v2 v3 a1 a2 a3 c1 c2 c3 d1 d2 d3 e1 _ rfl
  rw [this]
  have hd := decode_D ⟨l.toArray⟩ p
  rw [b1, b2, b3, Nat.add_zero, h0.2] at hd
  simp only [dec, hd]
end Go.Proofs.Ytceodelgalfjfaa
