/- Check digits: what Mod97, Seal and Sealed answer, of the program and of the reference; the chapter's examples. -/
import Derived.Test.YtmloobkgnefgcaaDoorDigA
namespace Go.Proofs.YtmloobkgnefgcaaDoor.Pure
open Go.RowKit Go.Proofs.YtmloobkgnefgcaaDoor Go.Proofs.YtmloobkgnefgcaaDoor.QD Go.Proofs.YtmloobkgnefgcaaDoorW.PrintWords

def mod97 (x : ByteArray) : Int × Int :=
  if x.size < 1 ∨ x.size > 48 then (0, 5) else if plainL x.data.toList = true then (((restL 0 x.data.toList : Nat) : Int), 0) else (0, 2)

theorem mod97_ev (x : ByteArray) (hx : x.size ≤ 140737488351300) : Ev (fun k => digest_Mod97.f k x) (mod97 x) := by
  obtain ⟨K, hK⟩ := rem_ev x hx
  refine ⟨K + 1, fun k hk => ?_⟩
  obtain ⟨k, rfl⟩ : ∃ m, k = m + 1 := ⟨k - 1, by omega⟩
  have h : digest_remainder.f k x = _ := hK k (by omega)
  simp only [digest_Mod97.f, digest_Mod97.j0, mod97]
  by_cases h1 : (x.size : Int) < 1
  · rw [if_pos h1, if_pos trivial, if_pos (.inl (by omega))]
  · by_cases h2 : (x.size : Int) > 48
    · rw [if_neg h1, decide_eq_true h2, if_pos rfl, if_pos (.inr (by omega))]
    · rw [if_neg h1, decide_eq_false h2, if_neg (by simp), if_neg (by omega), h]
      by_cases hp : plainL x.data.toList = true <;> simp [hp]

theorem rmod97_ev (x : ByteArray) (hx : x.size ≤ 140737488351300) : Ev (fun k => corebankref08_Mod97.f k x) (mod97 x) := by
  obtain ⟨K, hK⟩ := plain_ev x hx
  by_cases hp : plainL x.data.toList = true
  · obtain ⟨K2, hK2⟩ := rest_ev x hx hp
    refine ⟨K + K2 + 1, fun k hk => ?_⟩
    obtain ⟨k, rfl⟩ : ∃ m, k = m + 1 := ⟨k - 1, by omega⟩
    have h : corebankref08_Plain.f k x = _ := hK k (by omega)
    have h' : corebankref08_rest.f k x = _ := hK2 k (by omega)
    simp only [corebankref08_Mod97.f, corebankref08_Mod97.j0, mod97]
    by_cases h1 : (x.size : Int) < 1
    · rw [if_pos h1, if_pos trivial, if_pos (.inl (by omega))]
    · by_cases h2 : (x.size : Int) > 48
      · rw [if_neg h1, decide_eq_true h2, if_pos rfl, if_pos (.inr (by omega))]
      · rw [if_neg h1, decide_eq_false h2, if_neg (by simp), if_neg (by omega), h, if_pos hp]
        simp [hp, h']
  · refine ⟨K + 1, fun k hk => ?_⟩
    obtain ⟨k, rfl⟩ : ∃ m, k = m + 1 := ⟨k - 1, by omega⟩
    have h : corebankref08_Plain.f k x = _ := hK k (by omega)
    simp only [corebankref08_Mod97.f, corebankref08_Mod97.j0, mod97]
    by_cases h1 : (x.size : Int) < 1
    · rw [if_pos h1, if_pos trivial, if_pos (.inl (by omega))]
    · by_cases h2 : (x.size : Int) > 48
      · rw [if_neg h1, decide_eq_true h2, if_pos rfl, if_pos (.inr (by omega))]
      · rw [if_neg h1, decide_eq_false h2, if_neg (by simp), if_neg (by omega), h]
        simp [hp]

def sealedB (x : ByteArray) : Bool := decide (3 ≤ x.size) && (decide ((mod97 x).2 = 0) && ((mod97 x).1 == 1))

theorem sealed_ev (x : ByteArray) (hx : x.size ≤ 140737488351300) : Ev (fun k => digest_Sealed.f k x) (sealedB x) := by
  obtain ⟨K, hK⟩ := mod97_ev x hx
  refine ⟨K, fun k hk => ?_⟩
  have h : digest_Mod97.f k x = _ := hK k hk
  simp only [digest_Sealed.f, h, Option.bind_some, sealedB]
  by_cases h1 : 3 ≤ x.size
  · rw [if_pos (by omega)]
    by_cases h2 : (mod97 x).2 = 0 <;> simp [h1, h2]
  · rw [if_neg (by omega)]
    simp [h1]

theorem rsealed_ev (x : ByteArray) (hx : x.size ≤ 140737488351300) : Ev (fun k => corebankref08_Sealed.f k x) (sealedB x) := by
  obtain ⟨K, hK⟩ := rmod97_ev x hx
  refine ⟨K, fun k hk => ?_⟩
  have h : corebankref08_Mod97.f k x = _ := hK k hk
  simp only [corebankref08_Sealed.f, h, Option.bind_some, sealedB]
  by_cases h1 : 3 ≤ x.size
  · rw [if_pos (by omega)]
    by_cases h2 : (mod97 x).2 = 0 <;> simp [h1, h2]
  · rw [if_neg (by omega)]
    simp [h1]

/-- Two digits. -/
def two (v : Nat) : ByteArray := ⟨#[UInt8.ofNat (48 + v / 10), UInt8.ofNat (48 + v % 10)]⟩
def chk (x : ByteArray) : Nat := 98 - restL 0 (x.data.toList ++ [48, 48])
def sealS (x : ByteArray) : ByteArray × Int :=
  if x.size < 1 ∨ x.size > 46 then (⟨#[]⟩, 5) else if plainL x.data.toList = true then (x ++ two (chk x), 0) else (⟨#[]⟩, 2)

theorem app_data (x y : ByteArray) : (x ++ y).data.toList = x.data.toList ++ y.data.toList := by rw [ByteArray.data_append]; simp
theorem plain_app (a b : List UInt8) : plainL (a ++ b) = (plainL a && plainL b) := by simp [plainL]
theorem plain00 (x : ByteArray) : plainL (x ++ (⟨#[48, 48]⟩ : ByteArray)).data.toList = plainL x.data.toList := by
  rw [app_data, plain_app]
  have : plainL (⟨#[48, 48]⟩ : ByteArray).data.toList = true := by decide
  rw [this, Bool.and_true]
theorem chk_bd (x : ByteArray) : 2 ≤ chk x ∧ chk x ≤ 98 := by
  have := restL_lt (x.data.toList ++ [48, 48]) 0 (by omega)
  unfold chk
  omega
theorem two_lt : ∀ v : Fin 10, (⟨#[48]⟩ : ByteArray) ++ ⟨(Lib.decDigits v.val).toArray⟩ = two v.val := by
  intro v
  rw [Lib.decDigits_one v.isLt]
  apply ByteArray.ext
  rw [ByteArray.data_append]
  unfold two
  rw [show v.val / 10 = 0 by omega, show v.val % 10 = v.val by omega]
  rfl
theorem two_ge (v : Nat) (h1 : ¬ v < 10) (h2 : v < 100) : (⟨(Lib.decDigits v).toArray⟩ : ByteArray) = two v := by rw [Lib.decDigits_two h1 h2]; rfl

theorem seal_ev (x : ByteArray) (hx : x.size ≤ 140737488351290) : Ev (fun k => digest_Seal.f k x) (sealS x) := by
  have hs2 : (x ++ (⟨#[48, 48]⟩ : ByteArray)).size = x.size + 2 := by rw [ByteArray.size_append]; rfl
  obtain ⟨K, hK⟩ := rem_ev (x ++ (⟨#[48, 48]⟩ : ByteArray)) (by omega)
  refine ⟨K + 1, fun k hk => ?_⟩
  obtain ⟨k, rfl⟩ : ∃ m, k = m + 1 := ⟨k - 1, by omega⟩
  have h : digest_remainder.f k (x ++ (⟨#[48, 48]⟩ : ByteArray)) = _ := hK k (by omega)
  rw [plain00, app_data] at h
  simp only [digest_Seal.f, digest_Seal.j0, sealS]
  by_cases h1 : (x.size : Int) < 1
  · rw [if_pos h1, if_pos trivial, if_pos (.inl (by omega))]
  · by_cases h2 : (x.size : Int) > 46
    · rw [if_neg h1, decide_eq_true h2, if_pos rfl, if_pos (.inr (by omega))]
    · have hr : (if x.size < 1 ∨ x.size > 46 then ((⟨#[]⟩ : ByteArray), (5 : Int)) else if plainL x.data.toList = true then (x ++ two (chk x), 0) else (⟨#[]⟩, 2)) = if plainL x.data.toList = true then (x ++ two (chk x), 0) else (⟨#[]⟩, 2) := if_neg (by omega)
      rw [hr, if_neg h1, decide_eq_false h2, if_neg (by simp), if_pos (by omega), h]
      by_cases hp : plainL x.data.toList = true
      · have hc := chk_bd x
        have e98 : wrap64 (98 - ((restL 0 (x.data.toList ++ [48, 48]) : Nat) : Int)) = ((chk x : Nat) : Int) := by
          have := restL_lt (x.data.toList ++ [48, 48]) 0 (by omega)
          unfold chk
          rw [w64 (by omega) (by omega)]
          omega
        have hI : strconv_Itoa.f ((chk x : Nat) : Int) = some ⟨(Lib.decDigits (chk x)).toArray⟩ := by
          unfold strconv_Itoa.f
          rw [if_pos (by omega), Int.toNat_natCast]
        simp only [Option.bind_some, hp, if_true]
        rw [e98, hI]
        simp only [Option.bind_some]
        by_cases ht : chk x < 10
        · have hsz : (⟨(Lib.decDigits (chk x)).toArray⟩ : ByteArray).size = 1 := by rw [Lib.decDigits_one ht]; rfl
          have e2 : (⟨#[48]⟩ : ByteArray) ++ ⟨(Lib.decDigits (chk x)).toArray⟩ = two (chk x) := two_lt ⟨chk x, ht⟩
          have hs3 : (two (chk x)).size = 2 := rfl
          rw [hsz, if_pos (by omega), if_pos (by omega), e2, hs3, if_pos (by omega)]
        · have hsz : (⟨(Lib.decDigits (chk x)).toArray⟩ : ByteArray).size = 2 := by rw [two_ge _ ht (by omega)]; rfl
          rw [hsz, if_neg (by omega), if_pos (by omega), two_ge _ ht (by omega)]
      · simp [hp]

theorem dig10 : ∀ i : Fin 10, (⟨#[48, 49, 50, 51, 52, 53, 54, 55, 56, 57]⟩ : ByteArray).extract i.val (i.val + 1) = ⟨#[UInt8.ofNat (48 + i.val)]⟩ := by decide +kernel

theorem rseal_tail (x : ByteArray) (hx : x.size ≤ 46) (v : Nat) (h0 : 2 ≤ v) (h1 : v ≤ 98) :
    (if 0 ≤ (wrap64 (Int.tdiv (v : Int) 10)) then (if (wrap64 (Int.tdiv (v : Int) 10)) ≤ (wrap64 ((wrap64 (Int.tdiv (v : Int) 10)) + 1)) then (if (wrap64 ((wrap64 (Int.tdiv (v : Int) 10)) + 1)) ≤ 10 then (if x.size + ((⟨#[48, 49, 50, 51, 52, 53, 54, 55, 56, 57]⟩ : ByteArray).extract ((wrap64 (Int.tdiv (v : Int) 10)) : Int).toNat ((wrap64 ((wrap64 (Int.tdiv (v : Int) 10)) + 1)) : Int).toNat).size ≤ 9223372036854775807 then (if 0 ≤ (Int.tmod (v : Int) 10) then (if (Int.tmod (v : Int) 10) ≤ (wrap64 ((Int.tmod (v : Int) 10) + 1)) then (if (wrap64 ((Int.tmod (v : Int) 10) + 1)) ≤ 10 then (if (x ++ ((⟨#[48, 49, 50, 51, 52, 53, 54, 55, 56, 57]⟩ : ByteArray).extract ((wrap64 (Int.tdiv (v : Int) 10)) : Int).toNat ((wrap64 ((wrap64 (Int.tdiv (v : Int) 10)) + 1)) : Int).toNat)).size + ((⟨#[48, 49, 50, 51, 52, 53, 54, 55, 56, 57]⟩ : ByteArray).extract ((Int.tmod (v : Int) 10) : Int).toNat ((wrap64 ((Int.tmod (v : Int) 10) + 1)) : Int).toNat).size ≤ 9223372036854775807 then (some ((x ++ ((⟨#[48, 49, 50, 51, 52, 53, 54, 55, 56, 57]⟩ : ByteArray).extract ((wrap64 (Int.tdiv (v : Int) 10)) : Int).toNat ((wrap64 ((wrap64 (Int.tdiv (v : Int) 10)) + 1)) : Int).toNat)) ++ ((⟨#[48, 49, 50, 51, 52, 53, 54, 55, 56, 57]⟩ : ByteArray).extract ((Int.tmod (v : Int) 10) : Int).toNat ((wrap64 ((Int.tmod (v : Int) 10) + 1)) : Int).toNat), (0 : Int))) else (none)) else (none)) else (none)) else (none)) else (none)) else (none)) else (none)) else (none)) = some (x ++ two v, 0) := by
  have ed : wrap64 (Int.tdiv (v : Int) 10) = ((v / 10 : Nat) : Int) := by
    rw [Int.tdiv_eq_ediv_of_nonneg (by omega), w64 (by omega) (by omega)]; omega
  have em : Int.tmod (v : Int) 10 = ((v % 10 : Nat) : Int) := by rw [tmodn (by omega)]; omega
  have ed1 : wrap64 (((v / 10 : Nat) : Int) + 1) = ((v / 10 + 1 : Nat) : Int) := by rw [w64 (by omega) (by omega)]; omega
  have em1 : wrap64 (((v % 10 : Nat) : Int) + 1) = ((v % 10 + 1 : Nat) : Int) := by rw [w64 (by omega) (by omega)]; omega
  have x1 := dig10 ⟨v / 10, by omega⟩
  have x2 := dig10 ⟨v % 10, by omega⟩
  simp only at x1 x2
  rw [ed, em, ed1, em1]
  simp only [Int.toNat_natCast]
  rw [x1, x2]
  have z1 : (⟨#[UInt8.ofNat (48 + v / 10)]⟩ : ByteArray).size = 1 := rfl
  have z2 : (⟨#[UInt8.ofNat (48 + v % 10)]⟩ : ByteArray).size = 1 := rfl
  have z3 : (x ++ (⟨#[UInt8.ofNat (48 + v / 10)]⟩ : ByteArray)).size = x.size + 1 := by rw [ByteArray.size_append]; rfl
  have z4 : x ++ (⟨#[UInt8.ofNat (48 + v / 10)]⟩ : ByteArray) ++ (⟨#[UInt8.ofNat (48 + v % 10)]⟩ : ByteArray) = x ++ two v := by
    rw [ByteArray.append_assoc]
    congr 1
  rw [z4, z1, z2, z3, if_pos (by omega), if_pos (by omega), if_pos (by omega), if_pos (by omega), if_pos (by omega), if_pos (by omega), if_pos (by omega), if_pos (by omega)]

theorem rseal_ev (x : ByteArray) (hx : x.size ≤ 140737488351290) : Ev (fun k => corebankref08_Seal.f k x) (sealS x) := by
  have hs2 : (x ++ (⟨#[48, 48]⟩ : ByteArray)).size = x.size + 2 := by rw [ByteArray.size_append]; rfl
  obtain ⟨K, hK⟩ := plain_ev x (by omega)
  by_cases hp : plainL x.data.toList = true
  · obtain ⟨K2, hK2⟩ := rest_ev (x ++ (⟨#[48, 48]⟩ : ByteArray)) (by omega) (by rw [plain00]; exact hp)
    refine ⟨K + K2 + 1, fun k hk => ?_⟩
    obtain ⟨k, rfl⟩ : ∃ m, k = m + 1 := ⟨k - 1, by omega⟩
    have h : corebankref08_Plain.f k x = _ := hK k (by omega)
    have h' : corebankref08_rest.f k (x ++ (⟨#[48, 48]⟩ : ByteArray)) = _ := hK2 k (by omega)
    rw [app_data, show (⟨#[48, 48]⟩ : ByteArray).data.toList = [48, 48] from rfl] at h'
    simp only [corebankref08_Seal.f, corebankref08_Seal.j0, sealS]
    by_cases h1 : (x.size : Int) < 1
    · rw [if_pos h1, if_pos trivial, if_pos (.inl (by omega))]
    · by_cases h2 : (x.size : Int) > 46
      · rw [if_neg h1, decide_eq_true h2, if_pos rfl, if_pos (.inr (by omega))]
      · have hr : (if x.size < 1 ∨ x.size > 46 then ((⟨#[]⟩ : ByteArray), (5 : Int)) else if plainL x.data.toList = true then (x ++ two (chk x), 0) else (⟨#[]⟩, 2)) = (x ++ two (chk x), 0) := by rw [if_neg (by omega), if_pos hp]
        rw [hr, if_neg h1, decide_eq_false h2, if_neg (by simp), h, hp]
        simp only [Option.bind_some, if_true]
        rw [if_pos (by omega), h']
        simp only [Option.bind_some]
        have hc := chk_bd x
        have hl := restL_lt (x.data.toList ++ [48, 48]) 0 (by omega)
        have hcv : chk x = 98 - restL 0 (x.data.toList ++ [48, 48]) := rfl
        generalize chk x = v at hc hcv ⊢
        generalize restL 0 (x.data.toList ++ [48, 48]) = r at hl hcv ⊢
        have e98 : wrap64 (98 - (r : Int)) = (v : Int) := by rw [w64 (by omega) (by omega)]; omega
        rw [e98]
        exact rseal_tail x (by omega) v hc.1 hc.2
  · refine ⟨K + 1, fun k hk => ?_⟩
    obtain ⟨k, rfl⟩ : ∃ m, k = m + 1 := ⟨k - 1, by omega⟩
    have h : corebankref08_Plain.f k x = _ := hK k (by omega)
    simp only [corebankref08_Seal.f, corebankref08_Seal.j0, sealS]
    by_cases h1 : (x.size : Int) < 1
    · rw [if_pos h1, if_pos trivial, if_pos (.inl (by omega))]
    · by_cases h2 : (x.size : Int) > 46
      · rw [if_neg h1, decide_eq_true h2, if_pos rfl, if_pos (.inr (by omega))]
      · have hr : (if x.size < 1 ∨ x.size > 46 then ((⟨#[]⟩ : ByteArray), (5 : Int)) else if plainL x.data.toList = true then (x ++ two (chk x), 0) else (⟨#[]⟩, 2)) = (⟨#[]⟩, 2) := by rw [if_neg (by omega), if_neg hp]
        rw [hr, if_neg h1, decide_eq_false h2, if_neg (by simp), h]
        simp [hp]
end Go.Proofs.YtmloobkgnefgcaaDoor.Pure
