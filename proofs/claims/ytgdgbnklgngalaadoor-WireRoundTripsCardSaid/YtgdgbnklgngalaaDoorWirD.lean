/- Lists of numbers: the reference. -/
import Derived.Test.YtgdgbnklgngalaaDoorWirC
import Derived.Test.YtgdgbnklgngalaaDoorQDx5
namespace Go.Proofs.YtgdgbnklgngalaaDoor.Pure
open Go.RowKit Go.Proofs.YtgdgbnklgngalaaDoor Go.Proofs.YtgdgbnklgngalaaDoor.QD Go.Proofs.YtgdgbnklgngalaaDoorW.PrintWords
set_option linter.unusedVariables false
set_option linter.unusedSimpArgs false

theorem wfi {a : Int} (h : (Lit.int .i64 a).wf = true) : i64R a := by
  have e1 : IntKind.i64.min = -9223372036854775808 := rfl
  have e2 : IntKind.i64.max = 9223372036854775807 := rfl
  simp [Lit.wf, e1, e2] at h
  exact h

theorem sameI_l0 (l : List Int) (hl : l.length ≤ 281474976710656) : ∀ (d k i : Nat), l.length - i = d → i ≤ l.length → d + 1 ≤ k → corebankref07_SameInts.l0 k l l (i : Int) = some true := by
  intro d
  induction d with
  | zero =>
    intro k i hd hi hk
    obtain ⟨k, rfl⟩ : ∃ m, k = m + 1 := ⟨k - 1, by omega⟩
    simp only [corebankref07_SameInts.l0]
    rw [if_neg (by omega)]
  | succ d ih =>
    intro k i hd hi hk
    obtain ⟨k, rfl⟩ : ∃ m, k = m + 1 := ⟨k - 1, by omega⟩
    simp only [corebankref07_SameInts.l0]
    rw [if_pos (by omega), if_pos (by omega), if_pos (by omega), if_pos trivial, w64s i (by omega)]
    exact ih k (i + 1) (by omega) (by omega) (by omega)
theorem sameI_ev (l : List Int) (hl : l.length ≤ 281474976710656) : Ev (fun k => corebankref07_SameInts.f k l l) true :=
  ⟨l.length + 1, fun k hk => by
    show corebankref07_SameInts.f k l l = _
    unfold corebankref07_SameInts.f
    rw [if_pos rfl]
    exact sameI_l0 l hl l.length k 0 (by omega) (by omega) (by omega)⟩

theorem rtakes_l0 (ts : List ByteArray) (hl : ts.length ≤ 1000000000) (hs : ∀ s ∈ ts, s.size ≤ 1000000000) : ∀ (d k i : Nat) (acc : List Int), ts.length - i = d → i ≤ ts.length → acc.length ≤ i → d + 1000000010 ≤ k →
    corebankref07_TakeInts.l0 k ts acc (i : Int) = some (intsS (ts.drop i) acc) := by
  intro d
  induction d with
  | zero =>
    intro k i acc hd hi ha hk
    obtain ⟨k, rfl⟩ : ∃ m, k = m + 1 := ⟨k - 1, by omega⟩
    obtain rfl : i = ts.length := by omega
    simp only [corebankref07_TakeInts.l0]
    rw [if_neg (by omega), List.drop_length]
    rfl
  | succ d ih =>
    intro k i acc hd hi ha hk
    obtain ⟨k, rfl⟩ : ∃ m, k = m + 1 := ⟨k - 1, by omega⟩
    obtain ⟨s, hdr, hrd, hm⟩ := rdOf_drop ByteArray.empty ts i (by omega)
    have h1 := hs s hm
    simp only [corebankref07_TakeInts.l0]
    rw [if_pos (by omega), if_pos (by omega), hrd, rtake_ev s (by omega) k (by omega), hdr]
    simp only [Option.bind_some, intsS]
    by_cases hc : (takeR s.data.toList).2 = 0
    · rw [if_pos hc, if_pos hc, if_pos (by omega), w64s i (by omega)]
      exact ih k (i + 1) _ (by omega) (by omega) (by simp; omega) (by omega)
    · rw [if_neg hc, if_neg hc]

theorem rtakes_ev (x : ByteArray) (hx : x.size ≤ 1000000000) (lim : Int) : Ev (fun k => corebankref07_TakeInts.f k x lim) (takeIntsS x.data.toList lim) := by
  have hz := size_list x
  obtain ⟨K1, h1⟩ := runpack_ev x hx
  refine ⟨K1 + x.size + 1000000010, fun k hk => ?_⟩
  have e1 : corebankref07_Unpack.f k x = _ := h1 k (by omega)
  show corebankref07_TakeInts.f k x lim = _
  unfold corebankref07_TakeInts.f takeIntsS
  rw [e1]
  simp only [Option.bind_some]
  show (if (unpackS x.data.toList).2 = 0 then _ else _) = some (if (unpackS x.data.toList).2 = 0 then (if ((unpackS x.data.toList).1.length : Int) > lim then ([], 5) else intsS (unpackS x.data.toList).1 []) else ([], (unpackS x.data.toList).2))
  by_cases hc : (unpackS x.data.toList).2 = 0
  · obtain ⟨hl, hs⟩ := unpack_sizes hc
    rw [if_pos hc, if_pos hc]
    by_cases h5 : ((unpackS x.data.toList).1.length : Int) > lim
    · rw [if_pos h5, if_pos h5]
    · rw [if_neg h5, if_neg h5]
      have := rtakes_l0 (unpackS x.data.toList).1 (by omega) (fun s h => Nat.le_trans (hs s h) (by omega)) (unpackS x.data.toList).1.length k 0 [] (by omega) (by omega) (by simp) (by omega)
      rw [List.drop_zero] at this
      exact this
  · rw [if_neg hc, if_neg hc]

theorem rints_l0 (xs : List Int) (hl : xs.length ≤ 1000000) (hr : ∀ x ∈ xs, i64R x) : ∀ (d i : Nat) (x : ByteArray), xs.length - i = d → i ≤ xs.length → x.size ≤ i * 100 →
    Ev (fun k => corebankref07_Ints.l0 k xs x (i : Int)) ⟨(x.data.toList ++ packL (intsP (xs.drop i))).toArray⟩ := by
  intro d
  induction d with
  | zero =>
    intro i x hd hi hx
    refine ⟨1, fun k hk => ?_⟩
    obtain ⟨k, rfl⟩ : ∃ m, k = m + 1 := ⟨k - 1, by omega⟩
    obtain rfl : i = xs.length := by omega
    show corebankref07_Ints.l0 (k + 1) xs x _ = _
    simp only [corebankref07_Ints.l0]
    rw [if_neg (by omega), List.drop_length]
    simp [packL, intsP]
  | succ d ih =>
    intro i x hd hi hx
    obtain ⟨s, hdr, hrd, hm⟩ := rd_drop xs i (by omega)
    have h1 := hr s hm
    obtain ⟨K0, hK0⟩ := int_ev s h1
    have hss := Lib.itoa_length_le s h1.1 h1.2
    have hsz : (itoaS s).size = (Lib.itoa s).length := mk_size _
    obtain ⟨K1, hK1⟩ := int_ev ((itoaS s).size : Int) ⟨by omega, by omega⟩
    have hil := Lib.itoa_length_le ((itoaS s).size : Int) (by omega) (by omega)
    have his : (itoaS ((itoaS s).size : Int)).size = (Lib.itoa ((itoaS s).size : Int)).length := mk_size _
    have z1 : (x ++ itoaS ((itoaS s).size : Int)).size = x.size + (itoaS ((itoaS s).size : Int)).size := ByteArray.size_append
    have z2 : ((x ++ itoaS ((itoaS s).size : Int)) ++ (⟨#[58]⟩ : ByteArray)).size = (x ++ itoaS ((itoaS s).size : Int)).size + 1 := ByteArray.size_append
    have z3 : (((x ++ itoaS ((itoaS s).size : Int)) ++ (⟨#[58]⟩ : ByteArray)) ++ itoaS s).size = ((x ++ itoaS ((itoaS s).size : Int)) ++ (⟨#[58]⟩ : ByteArray)).size + (itoaS s).size := ByteArray.size_append
    obtain ⟨K2, hK2⟩ := ih (i + 1) (((x ++ itoaS ((itoaS s).size : Int)) ++ (⟨#[58]⟩ : ByteArray)) ++ itoaS s) (by omega) (by omega) (by omega)
    refine ⟨K0 + K1 + K2 + 1, fun k hk => ?_⟩
    obtain ⟨k, rfl⟩ : ∃ m, k = m + 1 := ⟨k - 1, by omega⟩
    have e0 : corebankref07_Int.f k s = _ := hK0 k (by omega)
    have e1 : corebankref07_Int.f k ((itoaS s).size : Int) = _ := hK1 k (by omega)
    have e2 : corebankref07_Ints.l0 k xs (((x ++ itoaS ((itoaS s).size : Int)) ++ (⟨#[58]⟩ : ByteArray)) ++ itoaS s) ((i + 1 : Nat) : Int) = _ := hK2 k (by omega)
    show corebankref07_Ints.l0 (k + 1) xs x _ = _
    simp only [corebankref07_Ints.l0]
    rw [if_pos (by omega), if_pos (by omega), hrd, e0]
    simp only [Option.bind_some]
    rw [e1]
    simp only [Option.bind_some]
    rw [if_pos (by omega), if_pos (by omega), if_pos (by omega), w64s i (by omega), e2, hdr]
    congr 2
    rw [app_data, app_data, app_data]
    have ep : intsP (s :: xs.drop (i + 1)) = itoaS s :: intsP (xs.drop (i + 1)) := rfl
    rw [ep]
    simp only [packL]
    have ei : (itoaS ((itoaS s).size : Int)).data.toList = Lib.itoa ((itoaS s).size : Int) := rfl
    rw [ei]
    simp

theorem rints_ev (xs : List Int) (hl : xs.length ≤ 1000000) (hr : ∀ x ∈ xs, i64R x) : Ev (fun k => corebankref07_Ints.f k xs) (packS (intsP xs)) := by
  obtain ⟨K, hK⟩ := rints_l0 xs hl hr xs.length 0 ⟨#[]⟩ (by omega) (by omega) (by show (0 : Nat) ≤ _; omega)
  exact ⟨K, fun k hk => by
    have := hK k hk
    rw [List.drop_zero] at this
    exact this⟩

theorem intsS_len : ∀ (ts : List ByteArray) (acc : List Int), (intsS ts acc).1.length ≤ acc.length + ts.length
  | [], acc => by simp [intsS]
  | s :: r, acc => by
    simp only [intsS]
    by_cases hc : (takeR s.data.toList).2 = 0
    · rw [if_pos hc]
      have := intsS_len r (acc ++ [(takeR s.data.toList).1])
      simp at this ⊢
      omega
    · rw [if_neg hc]
      simp

theorem takeInts_len (l : List UInt8) (lim : Int) : (takeIntsS l lim).1.length ≤ l.length := by
  unfold takeIntsS
  show (if (unpackS l).2 = 0 then (if ((unpackS l).1.length : Int) > lim then ([], 5) else intsS (unpackS l).1 []) else (([] : List Int), (unpackS l).2)).1.length ≤ l.length
  by_cases hc : (unpackS l).2 = 0
  · obtain ⟨hl, hs⟩ := unpack_sizes hc
    rw [if_pos hc]
    by_cases h5 : ((unpackS l).1.length : Int) > lim
    · rw [if_pos h5]; simp
    · rw [if_neg h5]
      have := intsS_len (unpackS l).1 []
      simp at this
      omega
  · rw [if_neg hc]; simp
end Go.Proofs.YtgdgbnklgngalaaDoor.Pure
