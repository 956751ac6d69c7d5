/- DigestHexes: the plain law. -/
import Derived.Test.YtmloobkgnefgcaaDoorDigC
import Derived.Test.YtmloobkgnefgcaaDoorHexLow
namespace Go.Proofs.YtmloobkgnefgcaaDoor.Pure
open Go.RowKit Go.Proofs.YtmloobkgnefgcaaDoor Go.Proofs.YtmloobkgnefgcaaDoor.QD Go.Proofs.YtmloobkgnefgcaaDoorW.PrintWords
set_option linter.unusedVariables false
set_option linter.unusedSimpArgs false

theorem u64w {n : Int} (h0 : 0 ≤ n) (h1 : n < 18446744073709551616) : IntKind.u64.wrap n = n := by rw [IntKind.wrap_u64]; omega

theorem hexAt : ∀ i : Fin 16, (⟨#[48, 49, 50, 51, 52, 53, 54, 55, 56, 57, 97, 98, 99, 100, 101, 102]⟩ : ByteArray).extract i.val (i.val + 1) = ⟨#[hexDig i.val]⟩ := by decide +kernel

theorem refHex_l0 : ∀ (d k n : Nat) (x : ByteArray), d ≤ 16 → n < 18446744073709551616 → x.size + d = 16 → d + 1 ≤ k →
    corebankref08_Hex.l0 k (n : Int) x ((16 - d : Nat) : Int) = some ⟨(hexN d n ++ x.data.toList).toArray⟩ := by
  intro d
  induction d with
  | zero =>
    intro k n x hd hn hx hk
    obtain ⟨k, rfl⟩ : ∃ m, k = m + 1 := ⟨k - 1, by omega⟩
    simp only [corebankref08_Hex.l0]
    rw [if_neg (by omega)]
    simp [hexN]
  | succ d ih =>
    intro k n x hd hn hx hk
    obtain ⟨k, rfl⟩ : ∃ m, k = m + 1 := ⟨k - 1, by omega⟩
    have e := hexAt ⟨n % 16, Nat.mod_lt _ (by omega)⟩
    simp only at e
    have t0 : Int.tmod (n : Int) 16 = ((n % 16 : Nat) : Int) := by rw [tmodn (by omega)]; omega
    have t1 : Int.tdiv (n : Int) 16 = ((n / 16 : Nat) : Int) := by rw [Int.tdiv_eq_ediv_of_nonneg (by omega)]; omega
    have m16 : n % 16 < 16 := Nat.mod_lt _ (by omega)
    simp only [corebankref08_Hex.l0, t0, t1]
    rw [w64 (n := ((n % 16 : Nat) : Int)) (by omega) (by omega), w64 (n := ((n % 16 : Nat) : Int) + 1) (by omega) (by omega), w64 (by omega) (by omega), u64w (by omega) (by omega)]
    rw [if_pos (by omega), if_pos (by omega), if_pos (by omega), if_pos (by omega)]
    rw [show (((n % 16 : Nat) : Int) + 1).toNat = n % 16 + 1 by omega, Int.toNat_natCast, e]
    have hs1 : (⟨#[hexDig (n % 16)]⟩ : ByteArray).size = 1 := rfl
    rw [if_pos (by rw [hs1]; omega), show (((16 - (d + 1) : Nat) : Int) + 1) = ((16 - d : Nat) : Int) by omega, ih k (n / 16) _ (by omega) (by omega) (by rw [ByteArray.size_append, hs1]; omega) (by omega)]
    have ea : ((⟨#[hexDig (n % 16)]⟩ : ByteArray) ++ x).data.toList = hexDig (n % 16) :: x.data.toList := by rw [app_data]; rfl
    rw [ea]
    simp [hexN]

theorem refHex_ev (n : Nat) (hn : n < 18446744073709551616) : Ev (fun k => corebankref08_Hex.f k (n : Int)) ⟨(hexN 16 n).toArray⟩ :=
  ⟨17, fun k hk => by
    have := refHex_l0 16 k n ⟨#[]⟩ (by omega) hn rfl (by omega)
    unfold corebankref08_Hex.f
    rw [List.append_nil] at this
    exact this⟩

theorem refhex_at (c : UInt8) (k : Nat) : corebankref08_hex.f (k + 1) (c.toNat : Int) = some (match lowVal c with | some d => (d : Int) | none => -1) := by
  have hc : c.toNat < 256 := UInt8.toNat_lt _
  by_cases h1 : 48 ≤ c.toNat ∧ c.toNat ≤ 57
  · have hv : lowVal c = some (c.toNat - 48) := by unfold lowVal; rw [if_pos h1]
    rw [hv]
    unfold corebankref08_hex.f
    simp only [corebankref08_hex.j0]
    rw [if_pos (by omega), decide_eq_true (by omega), if_pos rfl]
    congr 1
    omega
  · by_cases h2 : 97 ≤ c.toNat ∧ c.toNat ≤ 102
    · have hv : lowVal c = some (c.toNat - 87) := by unfold lowVal; rw [if_neg h1, if_pos h2]
      rw [hv]
      unfold corebankref08_hex.f
      simp only [corebankref08_hex.j0]
      rw [if_pos (by omega), decide_eq_false (by omega), if_neg (by simp), if_pos (by omega), if_pos (by omega)]
      congr 1
      omega
    · have hv : lowVal c = none := by unfold lowVal; rw [if_neg h1, if_neg h2]
      rw [hv]
      unfold corebankref08_hex.f
      simp only [corebankref08_hex.j0]
      by_cases h3 : 48 ≤ c.toNat
      · rw [if_pos (by omega), decide_eq_false (by omega), if_neg (by simp)]
        by_cases h4 : 97 ≤ c.toNat
        · rw [if_pos (by omega), if_neg (by omega)]
        · rw [if_neg (by omega)]
      · rw [if_neg (by omega), if_neg (by simp), if_neg (by omega)]

theorem refUnhex_l0 (x : ByteArray) (hx : x.size = 16) : ∀ (d k i n : Nat), 16 - i = d → i ≤ 16 → n < 16 ^ i → d + 2 ≤ k →
    corebankref08_Unhex.l0 k x (n : Int) (i : Int) = some (match unhexL n (x.data.toList.drop i) with | some h => ((h : Int), 0) | none => (0, 2)) := by
  intro d
  induction d with
  | zero =>
    intro k i n hd hi hn hk
    obtain ⟨k, rfl⟩ : ∃ m, k = m + 1 := ⟨k - 1, by omega⟩
    obtain rfl : i = x.size := by omega
    simp only [corebankref08_Unhex.l0]
    rw [if_neg (by omega), drop_end]
    rfl
  | succ d ih =>
    intro k i n hd hi hn hk
    obtain ⟨k, rfl⟩ : ∃ m, k = m + 1 + 1 := ⟨k - 2, by omega⟩
    obtain ⟨c, hdr, hbt, hc⟩ := bt_drop x i (by omega)
    have hle : (16 : Nat) ^ i ≤ 16 ^ 15 := Nat.pow_le_pow_right (by omega) (by omega)
    have h15 : (16 : Nat) ^ 15 = 1152921504606846976 := by decide
    simp only [corebankref08_Unhex.l0]
    rw [if_pos (by omega), if_pos (by omega), if_pos (by omega), hbt, refhex_at, hdr]
    simp only [Option.bind_some, unhexL]
    cases hv : lowVal c with
    | none => rfl
    | some v =>
      obtain ⟨hd2, -, -⟩ := lowVal_lt hv
      simp only
      have hnn : n < 1152921504606846976 := by omega
      have hs : 16 * n + v < 16 ^ (i + 1) := by rw [Nat.pow_succ]; omega
      have hrec := ih (k + 1) (i + 1) (16 * n + v) (by omega) (by omega) hs (by omega)
      have e1 : IntKind.u64.wrap (16 * (n : Int)) = 16 * (n : Int) := u64w (by omega) (by omega)
      have e2 : IntKind.u64.wrap (v : Int) = (v : Int) := u64w (by omega) (by omega)
      have e3 : IntKind.u64.wrap (16 * (n : Int) + (v : Int)) = ((16 * n + v : Nat) : Int) := by rw [u64w (by omega) (by omega)]; omega
      have e4 : wrap64 ((i : Int) + 1) = ((i + 1 : Nat) : Int) := by rw [w64 (by omega) (by omega)]; omega
      rw [if_neg (by omega), e1, e2, e3, e4]
      exact hrec

theorem refUnhex_ev (x : ByteArray) : Ev (fun k => corebankref08_Unhex.f k x) (unhexR x.data.toList) := by
  refine ⟨18, fun k hk => ?_⟩
  have hz : x.data.toList.length = x.size := Array.length_toList
  show corebankref08_Unhex.f k x = _
  unfold corebankref08_Unhex.f unhexR
  by_cases h : x.size = 16
  · rw [if_pos (by omega), if_pos (by omega)]
    exact refUnhex_l0 x h 16 k 0 0 (by omega) (by omega) (by omega) (by omega)
  · rw [if_neg (by omega), if_neg (by omega)]

theorem DigestHexes : ∀ (a0 : Int) (a1 : ByteArray), (Lit.int .u64 a0).wf = true → a1.size ≤ 140737488351232 → ∃ k, QD.corebanklaw08_DigestHexes.f k a0 a1 = some true := by
  intro a0 s h0 hs
  obtain ⟨g0, g1⟩ := wf64 h0
  obtain ⟨n, rfl⟩ : ∃ n : Nat, a0 = (n : Int) := ⟨a0.toNat, by omega⟩
  have hn : n < 18446744073709551616 := by omega
  obtain ⟨K, hl⟩ := live_ev
  obtain ⟨K1, h1⟩ := refUnhex_ev s
  obtain ⟨K2, h2⟩ := refHex_ev n hn
  refine ⟨K + K1 + K2, ?_⟩
  have e : corebanklaw08_live.f (K + K1 + K2) = _ := hl _ (by omega)
  have e1 : corebankref08_Unhex.f (K + K1 + K2) s = _ := h1 _ (by omega)
  have e2 : corebankref08_Hex.f (K + K1 + K2) (n : Int) = _ := h2 _ (by omega)
  have eh : ∀ m : Nat, m < 18446744073709551616 → digest_Hex.f (m : Int) = some ⟨(hex16 m).toArray⟩ := fun m hm => by
    unfold digest_Hex.f
    rw [if_pos ⟨by omega, by omega⟩, Int.toNat_natCast]
  have eu : ∀ t : ByteArray, t.size ≤ 281474976710656 → digest_Unhex.f t = some (unhexOf t.data.toList) := fun t ht => by
    unfold digest_Unhex.f
    rw [if_pos ht]
  have hz : (⟨(hexN 16 n).toArray⟩ : ByteArray).size = 16 := by
    show (hexN 16 n).toArray.size = 16
    rw [List.size_toArray, hexN_len]
  unfold corebanklaw08_DigestHexes.f
  generalize corebanklaw08_live.f (K + K1 + K2) = L at e ⊢
  generalize corebankref08_Unhex.f (K + K1 + K2) s = R1 at e1 ⊢
  generalize corebankref08_Hex.f (K + K1 + K2) (n : Int) = R2 at e2 ⊢
  clear h1 h2 hl
  subst e1 e2 e
  by_cases c0 : (s.size : Int) > 100
  · rw [if_pos c0]; rfl
  rw [if_neg c0, eu s (by omega), eh n hn, hex16_eq n hn]
  simp only [Option.bind_some]
  rw [eu _ (by rw [hz]; omega), ← hex16_eq n hn, unhexOf_hex n hn, unhexOf_eq]
  simp only [Option.bind_some, if_true]
  by_cases c1 : (unhexR s.data.toList).2 = 0
  · rw [if_pos c1]
    rw [← unhexOf_eq] at c1 ⊢
    obtain ⟨u, hu, e1, e2⟩ := unhexOf_good _ c1
    rw [e1, eh u hu]
    simp only [Option.bind_some]
    rw [if_pos (by rw [e2, ByteArray.toList_eq])]
  · rw [if_neg c1]
end Go.Proofs.YtmloobkgnefgcaaDoor.Pure
