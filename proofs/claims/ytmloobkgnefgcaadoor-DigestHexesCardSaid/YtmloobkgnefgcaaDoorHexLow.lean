/- Sixteen lower-case hexadecimal digits and their number: plain laws on lists. -/
import Derived.Test.YtmloobkgnefgcaaDoorHexPure
namespace Go.Proofs.YtmloobkgnefgcaaDoor
set_option linter.unusedVariables false
set_option linter.unusedSimpArgs false

def hexN : Nat → Nat → List UInt8
  | 0, _ => []
  | k + 1, n => hexN k (n / 16) ++ [hexDig (n % 16)]

theorem hexN_len : ∀ k n, (hexN k n).length = k
  | 0, n => rfl
  | k + 1, n => by simp [hexN, hexN_len k]

theorem hexN_zero : ∀ k, hexN k 0 = List.replicate k 48
  | 0 => rfl
  | k + 1 => by
    have e : hexDig (0 % 16) = 48 := by decide +kernel
    rw [List.replicate_succ']
    simp only [hexN]
    rw [show 0 / 16 = 0 from rfl, hexN_zero k, e]

theorem hex_pad : ∀ k h, h < 16 ^ (k + 1) → List.replicate (k + 1 - (hexDigits h).length) 48 ++ hexDigits h = hexN (k + 1) h
  | 0, h, hh => by
    have hs : h < 16 := by simpa using hh
    rw [hexDigits_small hs]
    simp [hexN, Nat.mod_eq_of_lt hs]
  | k + 1, h, hh => by
    by_cases hs : h < 16
    · have e : hexN (k + 1 + 1) h = hexN (k + 1) (h / 16) ++ [hexDig (h % 16)] := rfl
      rw [e, hexDigits_small hs, Nat.div_eq_of_lt hs, Nat.mod_eq_of_lt hs, hexN_zero]
      rfl
    · have e : hexN (k + 1 + 1) h = hexN (k + 1) (h / 16) ++ [hexDig (h % 16)] := rfl
      have ih := hex_pad k (h / 16) (by rw [Nat.pow_succ] at hh; omega)
      rw [e, hexDigits_big hs, ← ih, List.length_append, List.length_singleton, ← List.append_assoc]
      rw [show k + 1 + 1 - ((hexDigits (h / 16)).length + 1) = k + 1 - (hexDigits (h / 16)).length by omega]

theorem hex16_eq (h : Nat) (hh : h < 18446744073709551616) : hex16 h = hexN 16 h := hex_pad 15 h hh

/-- A lower-case digit's value. -/
def lowVal (c : UInt8) : Option Nat :=
  if 48 ≤ c.toNat ∧ c.toNat ≤ 57 then some (c.toNat - 48)
  else if 97 ≤ c.toNat ∧ c.toNat ≤ 102 then some (c.toNat - 87) else none

theorem lowVal_lt {c : UInt8} {d : Nat} (h : lowVal c = some d) : d < 16 ∧ hexVal c = some d ∧ hexDig d = c := by
  unfold lowVal at h
  unfold hexVal
  split at h
  case isTrue h1 =>
    cases h
    refine ⟨by omega, by rw [if_pos h1], ?_⟩
    unfold hexDig
    rw [if_pos (by omega), show 48 + (c.toNat - 48) = c.toNat by omega]
    exact UInt8.ofNat_toNat
  case isFalse h1 =>
    split at h
    case isTrue h2 =>
      cases h
      refine ⟨by omega, by rw [if_neg h1, if_pos h2], ?_⟩
      unfold hexDig
      rw [if_neg (by omega), show 87 + (c.toNat - 87) = c.toNat by omega]
      exact UInt8.ofNat_toNat
    case isFalse h2 => cases h

theorem lowVal_dig : ∀ i : Fin 16, lowVal (hexDig i.val) = some i.val := by decide +kernel

def unhexL (acc : Nat) : List UInt8 → Option Nat
  | [] => some acc
  | c :: r => match lowVal c with
    | none => none
    | some d => unhexL (16 * acc + d) r

theorem unhexL_app : ∀ (a b : List UInt8) (n : Nat), unhexL n (a ++ b) = (unhexL n a).bind fun m => unhexL m b
  | [], b, n => rfl
  | c :: r, b, n => by
    simp only [List.cons_append, unhexL]
    cases lowVal c with
    | none => rfl
    | some d => exact unhexL_app r b _

theorem unhexL_hexN : ∀ k n, unhexL 0 (hexN k n) = some (n % 16 ^ k)
  | 0, n => by simp [hexN, unhexL, Nat.mod_one]
  | k + 1, n => by
    have hl : lowVal (hexDig (n % 16)) = some (n % 16) := lowVal_dig ⟨n % 16, Nat.mod_lt _ (by omega)⟩
    simp only [hexN]
    rw [unhexL_app, unhexL_hexN k]
    simp only [Option.bind_some, unhexL, hl]
    rw [Nat.pow_succ, Nat.mul_comm (16 ^ k) 16, Nat.mod_mul]
    congr 1
    omega

theorem unhexL_back : ∀ (l : List UInt8) (i acc h : Nat), unhexL acc l = some h → hexN (i + l.length) h = hexN i acc ++ l
  | [], i, acc, h, e => by
    simp only [unhexL] at e
    cases e
    simp
  | c :: r, i, acc, h, e => by
    simp only [unhexL] at e
    cases hv : lowVal c with
    | none => rw [hv] at e; cases e
    | some d =>
      rw [hv] at e
      obtain ⟨hd, -, hc⟩ := lowVal_lt hv
      have ih := unhexL_back r (i + 1) (16 * acc + d) h e
      have e1 : hexN (i + 1) (16 * acc + d) = hexN i ((16 * acc + d) / 16) ++ [hexDig ((16 * acc + d) % 16)] := rfl
      rw [e1, show (16 * acc + d) / 16 = acc by omega, show (16 * acc + d) % 16 = d by omega, hc] at ih
      rw [List.length_cons, show i + (r.length + 1) = i + 1 + r.length by omega, ih, List.append_assoc]
      rfl

theorem unhexL_parse : ∀ (l : List UInt8) (i acc h : Nat), i + l.length = 16 → acc < 16 ^ i → unhexL acc l = some h → parseHex acc l = .ok h
  | [], i, acc, h, hi, ha, e => by
    simp only [unhexL] at e
    cases e
    rfl
  | c :: r, i, acc, h, hi, ha, e => by
    simp only [unhexL] at e
    cases hv : lowVal c with
    | none => rw [hv] at e; cases e
    | some d =>
      rw [hv] at e
      obtain ⟨hd, hx, hc⟩ := lowVal_lt hv
      have hle : (16 : Nat) ^ i ≤ 16 ^ 15 := Nat.pow_le_pow_right (by omega) (by simp at hi; omega)
      have h15 : (16 : Nat) ^ 15 = 1152921504606846976 := by decide
      simp only [parseHex, hx]
      rw [if_neg (by omega), Nat.mul_comm]
      exact unhexL_parse r (i + 1) _ h (by simp at hi; omega) (by rw [Nat.pow_succ]; omega) e

/-- What 'Unhex' answers, told by the plain reading of sixteen digits. -/
def unhexR (l : List UInt8) : Int × Int :=
  if l.length = 16 then match unhexL 0 l with | some h => ((h : Int), 0) | none => (0, 2) else (0, 2)

theorem unhexOf_eq (l : List UInt8) : unhexOf l = unhexR l := by
  unfold unhexR unhexOf
  by_cases hl : l.length = 16
  · rw [if_pos hl, if_neg (by rintro rfl; simp at hl)]
    cases hu : unhexL 0 l with
    | some h =>
      have hp := unhexL_parse l 0 0 h (by omega) (by omega) hu
      have hb := unhexL_back l 0 0 h hu
      have hlt := parseHex_lt l 0 h (by omega) hp
      rw [hl] at hb
      have e : hex16 h = l := by rw [hex16_eq h hlt]; simpa [hexN] using hb
      rw [hp]
      simp only [e, if_true]
    | none =>
      cases hp : parseHex 0 l with
      | ok h =>
        have hlt := parseHex_lt l 0 h (by omega) hp
        have hne : ¬ hex16 h = l := by
          intro e
          rw [← e, hex16_eq h hlt, unhexL_hexN] at hu
          cases hu
        simp only [if_neg hne]
      | _ => rfl
  · rw [if_neg hl]
    by_cases h0 : l = []
    · rw [if_pos h0]
    · rw [if_neg h0]
      cases hp : parseHex 0 l with
      | ok h =>
        have hlt := parseHex_lt l 0 h (by omega) hp
        have hne : ¬ hex16 h = l := by
          intro e
          rw [hex16_eq h hlt] at e
          rw [← e, hexN_len] at hl
          exact hl rfl
        simp only [if_neg hne]
      | _ => rfl

theorem unhexOf_hex (h : Nat) (hh : h < 18446744073709551616) : unhexOf (hex16 h) = ((h : Int), 0) := by
  have h16 : (16 : Nat) ^ 16 = 18446744073709551616 := by decide
  rw [unhexOf_eq, hex16_eq h hh]
  unfold unhexR
  rw [hexN_len, if_pos rfl, unhexL_hexN, h16, Nat.mod_eq_of_lt hh]

theorem unhexOf_good (l : List UInt8) (h : (unhexOf l).2 = 0) : ∃ u : Nat, u < 18446744073709551616 ∧ (unhexOf l).1 = (u : Int) ∧ hex16 u = l := by
  unfold unhexOf at h ⊢
  by_cases h0 : l = []
  · rw [if_pos h0] at h; cases h
  · rw [if_neg h0] at h ⊢
    cases hp : parseHex 0 l with
    | ok u =>
      rw [hp] at h
      by_cases he : hex16 u = l
      · exact ⟨u, parseHex_lt l 0 u (by omega) hp, by simp only [he, if_true], he⟩
      · simp only [if_neg he] at h; cases h
    | _ => rw [hp] at h; cases h
end Go.Proofs.YtmloobkgnefgcaaDoor
