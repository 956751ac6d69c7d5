/- MsgLawA: what the law MessageChecks asks of it. -/
import Derived.Test.YthmlibimhdeocaaDoorChWirA
import Derived.Test.YthmlibimhdeocaaDoorChMsgLive
import Derived.Test.YthmlibimhdeocaaDoorChOpenM
namespace Go.Proofs.YthmlibimhdeocaaDoor.Pure
open Go.RowKit Go.Proofs.YthmlibimhdeocaaDoor Go.Proofs.YthmlibimhdeocaaDoor.QD Go.Proofs.YthmlibimhdeocaaDoorW.PrintWords
set_option linter.unusedVariables false
set_option linter.unusedSimpArgs false

theorem wfi {a : Int} (h : (Lit.int .i64 a).wf = true) : i64R a := by
  have e1 : IntKind.i64.min = -9223372036854775808 := rfl
  have e2 : IntKind.i64.max = 9223372036854775807 := rfl
  simp [Lit.wf, e1, e2] at h
  exact h
def numS (x : Int) : ByteArray := ⟨(Lib.itoa x).toArray⟩
theorem numS_size {x : Int} (h : i64R x) : (numS x).size ≤ 22 := by
  have := Lib.itoa_length_le x h.1 h.2
  have hz : (numS x).size = (Lib.itoa x).length := by rw [← size_list]; rfl
  omega
theorem str_num {x : Int} (h : i64R x) : strconv_Itoa.f x = some (numS x) := by
  unfold strconv_Itoa.f
  rw [if_pos ⟨h.1, h.2⟩]
  rfl
/-- A message's fields as texts. -/
def encT (m : S23) : List ByteArray := [m.f0, numS m.f1, numS m.f2, numS m.f3, numS m.f4, numS m.f5, m.f6]
def encS (m : S23) : ByteArray := ⟨(packL (encT m)).toArray⟩
/-- The numbers are such, the texts not too long. -/
def fitM (m : S23) : Prop := m.f0.size ≤ 5000 ∧ m.f6.size ≤ 5000 ∧ i64R m.f1 ∧ i64R m.f2 ∧ i64R m.f3 ∧ i64R m.f4 ∧ i64R m.f5
theorem encT_size {m : S23} (h : fitM m) : ∀ s ∈ encT m, s.size ≤ 5000 := by
  obtain ⟨h0, h6, h1, h2, h3, h4, h5⟩ := h
  have a1 := numS_size h1
  have a2 := numS_size h2
  have a3 := numS_size h3
  have a4 := numS_size h4
  have a5 := numS_size h5
  intro s hs
  simp only [encT, List.mem_cons, List.not_mem_nil, or_false] at hs
  rcases hs with rfl | rfl | rfl | rfl | rfl | rfl | rfl <;> omega
theorem encT_len {m : S23} (h : fitM m) : (packL (encT m)).length ≤ 100000 := by
  have hb := packL_bound (encT m) (fun s hs => Nat.le_trans (encT_size h s hs) (by omega))
  have e7 : (encT m).length = 7 := rfl
  have hall := encT_size h
  have hsum : ((encT m).map (·.size)).sum ≤ 35000 := by
    have hx : ∀ l : List ByteArray, (∀ s ∈ l, s.size ≤ 5000) → (l.map (·.size)).sum ≤ 5000 * l.length := by
      intro l
      induction l with
      | nil => intro _; simp
      | cons x r ih =>
        intro hl
        have := hl x List.mem_cons_self
        have := ih (fun s hs => hl s (List.mem_cons_of_mem _ hs))
        simp only [List.map_cons, List.sum_cons, List.length_cons]
        omega
    have := hx _ hall
    omega
  omega
theorem enc_eq {m : S23} (h : fitM m) : message_Encode.f m.f0 m.f1 m.f2 m.f3 m.f4 m.f5 m.f6 = some (encS m) := by
  have hl := encT_len h
  obtain ⟨h0, h6, h1, h2, h3, h4, h5⟩ := h
  unfold message_Encode.f
  rw [str_num h1, str_num h2, str_num h3, str_num h4, str_num h5]
  simp only [Option.bind_some]
  exact pack_eq (encT m) (by omega)
/-- The numbers of texts, or the first error. -/
def goS : List ByteArray → List Int → Sum Int (List Int)
  | [], ns => .inr ns
  | s :: r, ns => if (takeR s.data.toList).2 = 0 then goS r (ns ++ [(takeR s.data.toList).1]) else .inl (takeR s.data.toList).2
def decAllS : List ByteArray → ByteArray × Int × Int × Int × Int × Int × ByteArray × Int
  | [s, a, b, c, d, e, t] => match goS [a, b, c, d, e] [] with
    | .inl x => decZ x
    | .inr [a, b, c, d, e] => (s, a, b, c, d, e, t, 0)
    | .inr _ => decZ 25
  | _ => decZ 25
/-- What message.Decode answers. -/
def decS (x : ByteArray) : ByteArray × Int × Int × Int × Int × Int × ByteArray × Int :=
  if (unpackS x.data.toList).2 = 0 then decAllS (unpackS x.data.toList).1 else decZ (unpackS x.data.toList).2
theorem goS_eq : ∀ (l : List ByteArray) (ns : List Int), (∀ s ∈ l, s.size ≤ 281474976710656) → decGo l ns = some (goS l ns)
  | [], ns, _ => rfl
  | s :: r, ns, h => by
    rw [decGo, takeInt_eq s (h s List.mem_cons_self), Option.bind_some, goS]
    split
    · exact goS_eq r _ (fun t ht => h t (List.mem_cons_of_mem _ ht))
    · rfl
theorem goS_len : ∀ (l : List ByteArray) (ns xs : List Int), goS l ns = .inr xs → xs.length = ns.length + l.length
  | [], ns, xs, h => by
    rw [goS] at h
    injection h with h
    rw [h]
    rfl
  | s :: r, ns, xs, h => by
    rw [goS] at h
    split at h
    · have := goS_len r _ _ h
      simp only [List.length_append, List.length_cons, List.length_nil] at this ⊢
      omega
    · cases h
theorem unpack_sizes {l : List UInt8} (h : (unpackS l).2 = 0) : (unpackS l).1.length ≤ l.length ∧ ∀ s ∈ (unpackS l).1, s.size ≤ l.length := by
  have hu : unpkS (l.length + 1) l [] = ((unpackS l).1, 0) := by rw [← h]; rfl
  refine ⟨unpk_len hu, fun s hs => ?_⟩
  have hp : packL (unpackS l).1 = l := by simpa [packL] using pack_unpk _ _ _ _ hu
  obtain ⟨a, b, hab⟩ := List.append_of_mem hs
  have := congrArg List.length hp
  rw [hab, packL_append] at this
  have hz := size_list s
  simp only [packL, List.length_append, List.length_cons] at this
  omega
theorem dec_eq (x : ByteArray) (hx : x.size ≤ 1000000000) : message_Decode.f x = some (decS x) := by
  unfold message_Decode.f decS
  rw [unpack_eq x hx, Option.bind_some]
  by_cases hc : (unpackS x.data.toList).2 = 0
  · rw [if_pos hc, if_pos hc]
    obtain ⟨-, hs⟩ := unpack_sizes hc
    generalize (unpackS x.data.toList).1 = l at hs ⊢
    have hz := size_list x
    by_cases h7 : l.length = 7
    · obtain ⟨s, a, b, c, d, e, t, rfl⟩ := seven h7
      unfold decAll decAllS
      dsimp only
      rw [goS_eq _ _ (fun u hu => by
        have := hs u (by simp only [List.mem_cons, List.not_mem_nil, or_false] at hu ⊢; rcases hu with rfl | rfl | rfl | rfl | rfl <;> simp)
        omega), Option.bind_some]
      cases hg : goS [a, b, c, d, e] [] with
      | inl e => rfl
      | inr xs =>
        have hl := goS_len _ _ _ hg
        simp only [List.length_cons, List.length_nil] at hl
        match xs, hl with
        | [x0, x1, x2, x3, x4], _ => rfl
    · rw [decAll_ne h7]
      unfold decAllS
      split
      · simp at h7
      · rfl
  · rw [if_neg hc, if_neg hc]
theorem fit_ok {m : S23} (h : okM m) (h0 : m.f0.size ≤ 1000) (h6 : m.f6.size ≤ 1000) : fitM m := by
  obtain ⟨-, -, w1, w2, w3, w4, w5⟩ := h
  exact ⟨by omega, by omega, wfi w1, wfi w2, wfi w3, wfi w4, wfi w5⟩
end Go.Proofs.YthmlibimhdeocaaDoor.Pure

