/- DigestSeals: a sealed text with one byte replaced. -/
import Derived.Test.YtmloobkgnefgcaaDoorDigD
import Derived.Test.YtmloobkgnefgcaaDoorQDx4
namespace Go.Proofs.YtmloobkgnefgcaaDoor.Pure
open Go.RowKit Go.Proofs.YtmloobkgnefgcaaDoor Go.Proofs.YtmloobkgnefgcaaDoor.QD Go.Proofs.YtmloobkgnefgcaaDoorW.PrintWords
set_option linter.unusedVariables false
set_option linter.unusedSimpArgs false

/-- What Sealed says of a plain text of at most 48 bytes. -/
theorem sealedB_plain (x : ByteArray) (h1 : 3 ≤ x.size) (h2 : x.size ≤ 48) (hp : plainL x.data.toList = true) : sealedB x = decide (restL 0 x.data.toList = 1) := by
  have m : mod97 x = (((restL 0 x.data.toList : Nat) : Int), 0) := by unfold mod97; rw [if_neg (by omega), if_pos hp]
  unfold sealedB
  rw [m]
  by_cases h : restL 0 x.data.toList = 1
  · simp [h1, h]
  · have : ¬ ((restL 0 x.data.toList : Nat) : Int) = 1 := by omega
    simp [h, this]

theorem size_list (x : ByteArray) : x.data.toList.length = x.size := Array.length_toList
theorem extract_list (x : ByteArray) (i j : Nat) : (x.extract i j).data.toList = (x.data.toList.take j).drop i := by
  rw [ByteArray.data_extract, Array.toList_extract]
  rw [List.extract_eq_take_drop, List.drop_take]

theorem letter_kind (c : UInt8) (h : okC c = true) : corebanklaw08_letter.f (c.toNat : Int) = some (decide (¬ c.toNat ≤ 57)) := by
  have oc : (48 ≤ c.toNat ∧ c.toNat ≤ 57) ∨ (65 ≤ c.toNat ∧ c.toNat ≤ 90) := by simpa [okC] using h
  unfold corebanklaw08_letter.f
  by_cases h1 : c.toNat ≤ 57
  · rw [if_neg (by omega)]
    simp [h1]
  · rw [if_pos (by omega)]
    have : (c.toNat : Int) ≤ 90 := by omega
    simp [h1, this]

theorem plainL_at (l : List UInt8) (h : plainL l = true) (i : Nat) (hi : i < l.length) : okC l[i] = true := by
  unfold plainL at h
  rw [List.all_eq_true] at h
  exact h _ (List.getElem_mem hi)

theorem j1_true (a2 : Int) (t : ByteArray) (i : Int) (o : ByteArray) : Ev (fun k => corebanklaw08_DigestSeals.j1 k a2 t i o true) true := by
  obtain ⟨K, hl⟩ := live_ev
  refine ⟨K + 1, fun k hk => ?_⟩
  obtain ⟨k, rfl⟩ : ∃ m, k = m + 1 := ⟨k - 1, by omega⟩
  have e : corebanklaw08_live.f k = _ := hl k (by omega)
  simp only [corebanklaw08_DigestSeals.j1, e, Option.bind_some, if_true]

theorem j1_false (a2 : Int) (t : ByteArray) (i : Nat) (hi : i < t.size) (o : ByteArray) (ho : o.size ≤ 48) (hs : sealedB o = (a2 == bt t (i : Int))) : Ev (fun k => corebanklaw08_DigestSeals.j1 k a2 t (i : Int) o false) true := by
  obtain ⟨K, hl⟩ := live_ev
  obtain ⟨K1, h1⟩ := sealed_ev o (by omega)
  refine ⟨K + K1 + 1, fun k hk => ?_⟩
  obtain ⟨k, rfl⟩ : ∃ m, k = m + 1 := ⟨k - 1, by omega⟩
  have e : corebanklaw08_live.f k = _ := hl k (by omega)
  have e1 : digest_Sealed.f k o = _ := h1 k (by omega)
  simp only [corebanklaw08_DigestSeals.j1, e, e1, Option.bind_some]
  rw [if_neg (by decide), if_pos (by omega), if_pos (by omega), hs, beq_self_eq_true, if_pos rfl]

/-- The other text: one byte replaced. -/
def other (t : ByteArray) (i : Nat) (a2 : Int) : ByteArray := t.extract 0 i ++ strOfNums [a2] ++ t.extract (i + 1) t.size

theorem other_list (t : ByteArray) (i : Nat) (hi : i < t.size) (a2 : Int) (c : UInt8) (hcd : c = UInt8.ofNat a2.toNat) : (other t i a2).data.toList = t.data.toList.take i ++ c :: t.data.toList.drop (i + 1) := by
  have hso : (strOfNums [a2]).data.toList = [c] := by rw [strOfNums_data, hcd]; rfl
  unfold other
  rw [app_data, app_data, hso, extract_list, extract_list, List.drop_zero, ← size_list t, List.take_length]
  simp

theorem other_size (t : ByteArray) (i : Nat) (hi : i < t.size) (a2 : Int) : (other t i a2).size = t.size := by
  have hlen := size_list t
  rw [← size_list, other_list t i hi a2 _ rfl, List.length_append, List.length_cons, List.length_take, List.length_drop]
  omega

theorem other_sealed (t : ByteArray) (h3 : 3 ≤ t.size) (h48 : t.size ≤ 48) (htp : plainL t.data.toList = true) (htv : restL 0 t.data.toList = 1) (i : Nat) (hi : i < t.size) (a2 : Int) (c d : UInt8) (hcn : (c.toNat : Int) = a2) (hcd : c = UInt8.ofNat a2.toNat)
    (hspl : t.data.toList = t.data.toList.take i ++ d :: t.data.toList.drop (i + 1)) (hbt : bt t (i : Int) = (d.toNat : Int)) (hdk : okC d = true) (hc : okC c = true) (hk : (c.toNat ≤ 57) ↔ (d.toNat ≤ 57)) : sealedB (other t i a2) = (a2 == bt t (i : Int)) := by
  have hol := other_list t i hi a2 c hcd
  have hos := other_size t i hi a2
  have hop : plainL (other t i a2).data.toList = true := by
    rw [hspl, plain_app] at htp
    rw [hol, plain_app]
    simp only [plainL, List.all_cons] at htp ⊢
    rw [hc]
    rw [hdk] at htp
    exact htp
  rw [sealedB_plain _ (by omega) (by omega) hop, hol, hbt]
  rw [hspl] at htv
  generalize t.data.toList.take i = A at *
  generalize t.data.toList.drop (i + 1) = B at *
  by_cases hcd2 : c = d
  · rw [hcd2, htv, ← hcn, hcd2]
    simp
  · have e5 : ¬ restL 0 (A ++ c :: B) = 1 := fun h6 => hcd2 (restL_change _ _ _ _ hc hdk hk (h6.trans htv.symm))
    have e6 : (a2 == (d.toNat : Int)) = false := by
      rw [beq_eq_false_iff_ne, ← hcn]
      intro h7
      exact hcd2 (UInt8.toNat_inj.mp (by omega))
    rw [e6]
    exact decide_eq_false e5

theorem j0_ev (t : ByteArray) (h3 : 3 ≤ t.size) (h48 : t.size ≤ 48) (htp : plainL t.data.toList = true) (htv : restL 0 t.data.toList = 1) (a1 a2 : Int) (a10 : 0 ≤ a1) (a11 : a1 < 256) (a20 : 0 ≤ a2) (a21 : a2 < 256) :
    Ev (fun k => corebanklaw08_DigestSeals.j0 k a1 a2 t false) true := by
  have hlen := size_list t
  obtain ⟨i, hi⟩ : ∃ i : Nat, Int.tmod (wrap64 a1) (t.size : Int) = (i : Int) := ⟨(a1 % (t.size : Int)).toNat, by
    rw [w64 (by omega) (by omega), tmodn a10]
    have := Int.emod_nonneg a1 (show (t.size : Int) ≠ 0 by omega)
    omega⟩
  have hi2 : i < t.size := by
    have h3 := Int.emod_lt_of_pos a1 (show (0 : Int) < (t.size : Int) by omega)
    rw [w64 (by omega) (by omega), tmodn a10] at hi
    omega
  have f1 : ¬ ((t.size : Int) = 0) := by omega
  have f2 : 0 ≤ (i : Int) := by omega
  have f3 : (i : Int) ≤ (t.size : Int) := by omega
  have f4 : 0 ≤ ((i + 1 : Nat) : Int) := by omega
  have f5 : ((i + 1 : Nat) : Int) ≤ (t.size : Int) := by omega
  have f6 : (i : Int) < (t.size : Int) := by omega
  have ew : wrap64 ((i : Int) + 1) = ((i + 1 : Nat) : Int) := by rw [w64 (by omega) (by omega)]; omega
  have hspl : t.data.toList = t.data.toList.take i ++ t.data.toList[i]'(by omega) :: t.data.toList.drop (i + 1) := by
    rw [← List.drop_eq_getElem_cons, List.take_append_drop]
  have hbt : bt t (i : Int) = ((t.data.toList[i]'(by omega)).toNat : Int) := by
    obtain ⟨c, hc1, hc2, _⟩ := bt_drop t i hi2
    rw [List.drop_eq_getElem_cons (by omega)] at hc1
    rw [hc2, (List.cons.inj hc1).1]
  have hdk : okC (t.data.toList[i]'(by omega)) = true := plainL_at _ htp _ _
  generalize t.data.toList[i]'(by omega) = d at hspl hbt hdk
  obtain ⟨c, hcd⟩ : ∃ c : UInt8, c = UInt8.ofNat a2.toNat := ⟨_, rfl⟩
  have hcn : (c.toNat : Int) = a2 := by rw [hcd, UInt8.toNat_ofNat']; omega
  have hso : (strOfNums [a2]).data.toList = [c] := by rw [strOfNums_data, hcd]; rfl
  have hss : (strOfNums [a2]).size = 1 := strOfNums_size _
  have hos := other_size t i hi2 a2
  have hob : (other t i a2).size ≤ 48 := by omega
  have K3x := plain_ev (strOfNums [a2]) (by omega)
  have hxs : (t.extract 0 i).size + (strOfNums [a2]).size ≤ 9223372036854775807 := by rw [ByteArray.size_extract]; omega
  have hxs2 : (t.extract 0 i ++ strOfNums [a2]).size + (t.extract (i + 1) t.size).size ≤ 9223372036854775807 := by
    rw [← ByteArray.size_append]
    exact Nat.le_trans (show (other t i a2).size ≤ 48 from hob) (by decide)
  have hpc : plainL (strOfNums [a2]).data.toList = okC c := by rw [hso]; simp [plainL]
  obtain ⟨K3, hK3⟩ := K3x
  have tail : ∀ b : Bool, Ev (fun k => corebanklaw08_DigestSeals.j1 k a2 t (i : Int) (other t i a2) b) true →
      Ev (fun k => (if okC c = true then ((corebanklaw08_letter.f a2).bind fun t170 => (if (i : Int) < (t.size : Int) then ((corebanklaw08_letter.f (bt t (i : Int))).bind fun t171 => (corebanklaw08_DigestSeals.j1 k a2 t (i : Int) (other t i a2) (t170 != t171))) else none)) else (corebanklaw08_DigestSeals.j1 k a2 t (i : Int) (other t i a2) true))) true := by
    intro _ _
    by_cases hc : okC c = true
    · have ek : ∀ k, (if okC c = true then ((corebanklaw08_letter.f a2).bind fun t170 => (if (i : Int) < (t.size : Int) then ((corebanklaw08_letter.f (bt t (i : Int))).bind fun t171 => (corebanklaw08_DigestSeals.j1 k a2 t (i : Int) (other t i a2) (t170 != t171))) else none)) else (corebanklaw08_DigestSeals.j1 k a2 t (i : Int) (other t i a2) true)) = corebanklaw08_DigestSeals.j1 k a2 t (i : Int) (other t i a2) (decide (¬ c.toNat ≤ 57) != decide (¬ d.toNat ≤ 57)) := by
        intro k
        have hl1 : corebanklaw08_letter.f a2 = some (decide (¬ c.toNat ≤ 57)) := by rw [← hcn]; exact letter_kind c hc
        rw [if_pos hc, hl1]
        simp only [Option.bind_some]
        rw [if_pos f6, hbt, letter_kind d hdk]
        rfl
      simp only [ek]
      by_cases hk : (c.toNat ≤ 57) ↔ (d.toNat ≤ 57)
      · have e1 : (decide (¬ c.toNat ≤ 57) != decide (¬ d.toNat ≤ 57)) = false := by
          by_cases q1 : c.toNat ≤ 57
          · simp [q1, hk.1 q1]
          · have q2 : ¬ d.toNat ≤ 57 := fun h => q1 (hk.2 h)
            simp [q1, q2]
        rw [e1]
        exact j1_false a2 t i hi2 _ hob (other_sealed t h3 h48 htp htv i hi2 a2 c d hcn hcd hspl hbt hdk hc hk)
      · have e1 : (decide (¬ c.toNat ≤ 57) != decide (¬ d.toNat ≤ 57)) = true := by
          by_cases q1 : c.toNat ≤ 57
          · have q2 : ¬ d.toNat ≤ 57 := fun h => hk ⟨fun _ => h, fun _ => q1⟩
            simp [q1, q2]
          · have q2 : d.toNat ≤ 57 := Classical.byContradiction fun h => hk ⟨fun h1 => absurd h1 q1, fun h1 => absurd h1 h⟩
            simp [q1, q2]
        rw [e1]
        exact j1_true _ _ _ _
    · simp only [if_neg hc]
      exact j1_true _ _ _ _
  obtain ⟨K, hK⟩ := tail true (j1_true _ _ _ _)
  refine ⟨K + K3 + 1, fun k hk => ?_⟩
  obtain ⟨k, rfl⟩ : ∃ m, k = m + 1 := ⟨k - 1, by omega⟩
  have e3 : corebankref08_Plain.f k (strOfNums [a2]) = _ := hK3 k (by omega)
  have e4 := hK k (by omega)
  simp only [corebanklaw08_DigestSeals.j0]
  rw [hi, ew]
  simp only [Int.toNat_natCast, Option.bind_some]
  rw [if_neg (show ¬ (false = true) by decide), if_neg f1, if_pos f2, if_pos f3, if_pos hxs, if_pos f4, if_pos f5, if_pos hxs2, e3]
  simp only [Option.bind_some]
  rw [hpc]
  exact e4

end Go.Proofs.YtmloobkgnefgcaaDoor.Pure
