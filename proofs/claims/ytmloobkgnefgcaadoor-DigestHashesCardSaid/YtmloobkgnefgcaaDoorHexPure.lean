/- Hexadecimal numerals as lists of bytes, and the numbers that a text of hexadecimal digits spells: plain functions on lists, of no program. -/
import Derived.Lib.AtoiAll
import Derived.Lib.ItoaNum
namespace Go.Proofs.YtmloobkgnefgcaaDoor

/-- A hexadecimal digit's letter. -/
def hexDig (n : Nat) : UInt8 := UInt8.ofNat (if n < 10 then 48 + n else 87 + n)

/-- The hexadecimal numeral without leading zeros. -/
def hexDigits (u : Nat) : List UInt8 := if _h : u < 16 then [hexDig u] else hexDigits (u / 16) ++ [hexDig (u % 16)]
  termination_by u
  decreasing_by omega

theorem hexDigits_small {u : Nat} (h : u < 16) : hexDigits u = [hexDig u] := by rw [hexDigits, dif_pos h]
theorem hexDigits_big {u : Nat} (h : ¬ u < 16) : hexDigits u = hexDigits (u / 16) ++ [hexDig (u % 16)] := by rw [hexDigits, dif_neg h]

theorem digits36_hex_fin : ∀ i : Fin 16, (Lib.digits36.data.toList)[i.val]? = some (hexDig i.val) := by decide +kernel
theorem hexDig_lt : ∀ i : Fin 16, (hexDig i.val).toNat = if i.val < 10 then 48 + i.val else 87 + i.val := by decide +kernel

/-- The value of a byte as a digit in base 16, as ParseUint takes it: both cases of letters. -/
def hexVal (c : UInt8) : Option Nat :=
  if 48 ≤ c.toNat ∧ c.toNat ≤ 57 then some (c.toNat - 48)
  else if 97 ≤ c.toNat ∧ c.toNat ≤ 102 then some (c.toNat - 87)
  else if 65 ≤ c.toNat ∧ c.toNat ≤ 70 then some (c.toNat - 55)
  else none

/-- The end of a text that is no numeral. -/
def badN : Lib.NumEnd Nat := Lib.parseMag []

/-- ParseUint(.., 16, 64), from a number that is gathered already. -/
def parseHex (acc : Nat) : List UInt8 → Lib.NumEnd Nat
  | [] => .ok acc
  | c :: r => match hexVal c with
    | none => badN
    | some d => if 1152921504606846976 ≤ acc then .range else parseHex (acc * 16 + d) r


theorem hexDigits_pos (u : Nat) : 1 ≤ (hexDigits u).length := by
  rw [hexDigits]
  split <;> simp

theorem hexDigits_len : ∀ (k u : Nat), u < 16 ^ (k + 1) → (hexDigits u).length ≤ k + 1
  | 0, u, h => by rw [hexDigits_small (by simpa using h)]; simp
  | k + 1, u, h => by
    by_cases hs : u < 16
    · rw [hexDigits_small hs]; simp
    · rw [hexDigits_big hs]
      have := hexDigits_len k (u / 16) (by rw [Nat.pow_succ] at h; omega)
      simp
      omega

/-- Sixteen digits: the numeral with leading zeros. -/
def hex16 (h : Nat) : List UInt8 := List.replicate (16 - (hexDigits h).length) 48 ++ hexDigits h

/-- What 'Unhex' answers: the number and no error, or zero and ErrSyntax. -/
def unhexOf (l : List UInt8) : Int × Int :=
  if l = [] then (0, 2) else match parseHex 0 l with
    | .ok h => if hex16 h = l then ((h : Int), 0) else (0, 2)
    | _ => (0, 2)

theorem parseHex_lt : ∀ (l : List UInt8) (acc u : Nat), acc < 18446744073709551616 → parseHex acc l = .ok u → u < 18446744073709551616
  | [], acc, u, h, e => by
    simp only [parseHex] at e
    cases e
    exact h
  | c :: r, acc, u, h, e => by
    simp only [parseHex] at e
    cases hv : hexVal c with
    | none => rw [hv] at e; cases e
    | some d =>
      rw [hv] at e
      simp only at e
      have hd : d < 16 := by
        unfold hexVal at hv
        split at hv
        · cases hv; omega
        · split at hv
          · cases hv; omega
          · split at hv
            · cases hv; omega
            · cases hv
      split at e
      · cases e
      · exact parseHex_lt r _ u (by omega) e
end Go.Proofs.YtmloobkgnefgcaaDoor
