/- PureMessageChecks: what the law MessageChecks asks of it. -/
import Derived.Test.YthmlibimhdeocaaDoorChMsgLawC
import Derived.Test.YthmlibimhdeocaaDoorChWirCm
import Derived.Test.YthmlibimhdeocaaDoorChQDx7
namespace Go.Proofs.YthmlibimhdeocaaDoor.Pure
open Go Go.RowKit Go.Proofs.YthmlibimhdeocaaDoor Go.Proofs.YthmlibimhdeocaaDoor.QD Go.Proofs.YthmlibimhdeocaaDoorW.PrintWords
set_option linter.unusedVariables false
set_option linter.unusedSimpArgs false

/-- What the numbers' texts make of a message. -/
def finS (s t : ByteArray) : Sum Int (List Int) → ByteArray × Int × Int × Int × Int × Int × ByteArray × Int
  | .inl x => decZ x
  | .inr [a, b, c, d, e] => (s, a, b, c, d, e, t, 0)
  | .inr _ => decZ 25
theorem rdec_l0 (l : List ByteArray) (hl : l.length = 7) (hs : ∀ s ∈ l, s.size ≤ 5000) : ∀ (d k i : Nat) (ns : List Int), 6 - i = d → 1 ≤ i → i ≤ 6 → ns.length + 1 = i → d + 6000 ≤ k →
    corebankref43_Decode.l0 k l ns (i : Int) = some (finS (rdOf ByteArray.empty l 0) (rdOf ByteArray.empty l 6) (goS ((l.drop i).take (6 - i)) ns))
  | d, 0, i, ns, _, _, _, _, hk => by omega
  | d, k + 1, i, ns, hd, hi1, hi, hn, hk => by
    simp only [corebankref43_Decode.l0]
    by_cases h : i < 6
    · obtain ⟨s, hdr, hrd, hmem⟩ := rdOf_drop ByteArray.empty l i (by omega)
      have hz := hs s hmem
      rw [if_pos (by omega), if_pos (by omega), if_pos (by omega), hrd, rtake_ev s (by omega) k (by omega), Option.bind_some, hdr]
      have e1 : (s :: l.drop (i + 1)).take (6 - i) = s :: (l.drop (i + 1)).take (6 - (i + 1)) := by
        rw [show 6 - i = (6 - (i + 1)) + 1 by omega, List.take_succ_cons]
      rw [e1, goS]
      by_cases hc : (takeR s.data.toList).2 = 0
      · rw [if_pos hc, if_pos hc, if_pos (by omega), w64s i (by omega)]
        exact rdec_l0 l hl hs (d - 1) k (i + 1) _ (by omega) (by omega) (by omega) (by rw [List.length_append, List.length_singleton]; omega) (by omega)
      · rw [if_neg hc, if_neg hc]
        rfl
    · obtain rfl : i = 6 := by omega
      have h5 : ns.length = 5 := by omega
      rw [if_neg (by omega), if_pos (by omega), if_pos (by omega), if_pos (by omega), if_pos (by omega), if_pos (by omega), if_pos (by omega), if_pos (by omega)]
      match ns, h5 with
      | [x0, x1, x2, x3, x4], _ =>
        rw [Nat.sub_self, List.take_zero, goS]
        rfl
theorem rdec_ev (x : ByteArray) (hx : x.size ≤ 5000) : ∃ K, ∀ k, K ≤ k → corebankref43_Decode.f k x = some (decS x) := by
  obtain ⟨K, hK⟩ := runpack_ev x (by omega)
  refine ⟨K + 7000, fun k hk => ?_⟩
  have e0 : corebankref07_Unpack.f k x = _ := hK k (by omega)
  unfold corebankref43_Decode.f decS
  rw [e0, Option.bind_some]
  have hz := size_list x
  by_cases hc : (unpackS x.data.toList).2 = 0
  · rw [if_pos hc, if_pos hc]
    obtain ⟨-, hs⟩ := unpack_sizes hc
    generalize (unpackS x.data.toList).1 = l at hs ⊢
    by_cases h7 : l.length = 7
    · rw [if_pos (by omega)]
      have := rdec_l0 l h7 (fun s hm => Nat.le_trans (hs s hm) (by omega)) 5 k 1 [] rfl (by omega) (by omega) rfl (by omega)
      have h9 : corebankref43_Decode.l0 k l [] 1 = _ := this
      rw [h9]
      obtain ⟨s, a, b, c, d, e, t, rfl⟩ := seven h7
      unfold decAllS
      dsimp only
      have e5 : (([s, a, b, c, d, e, t] : List ByteArray).drop 1).take (6 - 1) = [a, b, c, d, e] := rfl
      rw [e5]
      generalize goS [a, b, c, d, e] [] = g
      match g with
      | .inl x => rfl
      | .inr [a, b, c, d, e] => rfl
      | .inr [] => rfl
      | .inr [_] => rfl
      | .inr [_, _] => rfl
      | .inr [_, _, _] => rfl
      | .inr [_, _, _, _] => rfl
      | .inr (_ :: _ :: _ :: _ :: _ :: _ :: _) => rfl
    · rw [if_neg (by omega)]
      unfold decAllS
      split
      · simp at h7
      · rfl
  · rw [if_neg hc, if_neg hc]
    rfl
theorem renc_ev (m : S23) (h : fitM m) : ∃ K, ∀ k, K ≤ k → corebankref43_Encode.f k m.f0 m.f1 m.f2 m.f3 m.f4 m.f5 m.f6 = some (encS m) := by
  have hsz := encT_size h
  obtain ⟨h0, h6, h1, h2, h3, h4, h5⟩ := h
  obtain ⟨K1, e1⟩ := int_ev m.f1 h1
  obtain ⟨K2, e2⟩ := int_ev m.f2 h2
  obtain ⟨K3, e3⟩ := int_ev m.f3 h3
  obtain ⟨K4, e4⟩ := int_ev m.f4 h4
  obtain ⟨K5, e5⟩ := int_ev m.f5 h5
  obtain ⟨K6, e6⟩ := rpack_ev (encT m) (by simp [encT]) (fun s hs => Nat.le_trans (hsz s hs) (by omega))
  refine ⟨K1 + K2 + K3 + K4 + K5 + K6, fun k hk => ?_⟩
  have g1 : corebankref07_Int.f k m.f1 = _ := e1 k (by omega)
  have g2 : corebankref07_Int.f k m.f2 = _ := e2 k (by omega)
  have g3 : corebankref07_Int.f k m.f3 = _ := e3 k (by omega)
  have g4 : corebankref07_Int.f k m.f4 = _ := e4 k (by omega)
  have g5 : corebankref07_Int.f k m.f5 = _ := e5 k (by omega)
  have g6 : corebankref07_Pack.f k (encT m) = _ := e6 k (by omega)
  unfold corebankref43_Encode.f
  rw [g1, Option.bind_some, g2, Option.bind_some, g3, Option.bind_some, g4, Option.bind_some, g5, Option.bind_some]
  have g7 : corebankref07_Pack.f k [m.f0, itoaS m.f1, itoaS m.f2, itoaS m.f3, itoaS m.f4, itoaS m.f5, m.f6] = some (packS (encT m)) := g6
  rw [g7]
  rfl
theorem MessageChecks : ∀ (a0 : S23) (a1 : ByteArray), okM a0 → a1.size ≤ 140737488351232 → ∃ k, QD.corebanklaw43_MessageChecks.f k a0.f0 a0.f1 a0.f2 a0.f3 a0.f4 a0.f5 a0.f6 a1 = some true := by
  intro m x hm hx
  have out : ∀ k, corebanklaw43_MessageChecks.j0 (k + 1) x true m.f0 m.f1 m.f2 m.f3 m.f4 m.f5 m.f6 = some true := fun k => by
    simp only [corebanklaw43_MessageChecks.j0]
    rw [if_pos trivial]
  by_cases hb : big m = true
  · refine ⟨1, ?_⟩
    unfold corebanklaw43_MessageChecks.f
    rw [great_eq m, Option.bind_some, if_pos hb]
    exact out 0
  by_cases hs : (x.size : Int) > 5000
  · refine ⟨1, ?_⟩
    unfold corebanklaw43_MessageChecks.f
    rw [great_eq m, Option.bind_some, if_neg hb, decide_eq_true hs]
    exact out 0
  obtain ⟨hf, h0, h6⟩ := big_fit hm (by simpa using hb)
  obtain ⟨K1, hd⟩ := rdec_ev x (by omega)
  obtain ⟨K2, he⟩ := renc_ev m hf
  refine ⟨K1 + K2 + 5001, ?_⟩
  unfold corebanklaw43_MessageChecks.f
  rw [great_eq m, Option.bind_some, if_neg hb, decide_eq_false hs]
  obtain ⟨k, hk⟩ : ∃ k, K1 + K2 + 5001 = k + 1 := ⟨K1 + K2 + 5000, rfl⟩
  rw [hk]
  have hchk : message_Check.f m.f0 m.f1 m.f2 m.f3 m.f4 m.f5 m.f6 = some (chkM m) := check_eq m (by omega) (by omega)
  simp only [corebanklaw43_MessageChecks.j0]
  rw [if_neg (by simp), dec_eq x (by omega), Option.bind_some, hd k (by omega), Option.bind_some, hchk, Option.bind_some, rcheck_ev m (by omega) (by omega) k (by omega), Option.bind_some, if_pos rfl, enc_eq hf, Option.bind_some, he k (by omega), Option.bind_some, if_pos rfl]
  rw [if_pos (by simp), if_pos rfl, live_some]
  rfl
end Go.Proofs.YthmlibimhdeocaaDoor.Pure

