/- The chapter's examples hold ('live'). -/
import Derived.Test.YtmloobkgnefgcaaDoorDigB
namespace Go.Proofs.YtmloobkgnefgcaaDoor.Pure
open Go.RowKit Go.Proofs.YtmloobkgnefgcaaDoor Go.Proofs.YtmloobkgnefgcaaDoor.QD Go.Proofs.YtmloobkgnefgcaaDoorW.PrintWords

theorem unhex_live : digest_Unhex.f (⟨#[97, 102, 54, 51, 100, 99, 52, 99, 56, 54, 48, 49, 101, 99, 56, 99]⟩ : ByteArray) = some (12638187200555641996, 0) := by
  have hp : parseHex 0 [97, 102, 54, 51, 100, 99, 52, 99, 56, 54, 48, 49, 101, 99, 56, 99] = .ok 12638187200555641996 := by decide +kernel
  have hd : hexDigits 12638187200555641996 = [97, 102, 54, 51, 100, 99, 52, 99, 56, 54, 48, 49, 101, 99, 56, 99] := by
    repeat (first | rw [hexDigits_small (by decide)] | rw [hexDigits_big (by decide)])
    decide
  unfold digest_Unhex.f unhexOf
  rw [if_pos (by decide)]
  simp only [hp, hex16, hd]
  decide

theorem mod97_zz : mod97 (⟨#[90, 90]⟩ : ByteArray) = (43, 0) := by decide +kernel
theorem mod97_a : mod97 (⟨#[97]⟩ : ByteArray) = (0, 2) := by decide +kernel
theorem seal_cb : sealS (⟨#[67, 66, 48, 48, 48, 48, 49, 48, 48, 48]⟩ : ByteArray) = (⟨#[67, 66, 48, 48, 48, 48, 49, 48, 48, 48, 51, 51]⟩, 0) := by decide +kernel
theorem sealed_cb : sealedB (⟨#[67, 66, 48, 48, 48, 48, 49, 48, 48, 48, 51, 51]⟩ : ByteArray) = true := by decide +kernel
theorem sealed_cb2 : sealedB (⟨#[67, 66, 48, 48, 48, 48, 49, 48, 48, 48, 51, 52]⟩ : ByteArray) = false := by decide +kernel
theorem hash_0 : digest_Hash.f 3 (⟨#[]⟩ : ByteArray) = some 14695981039346656037 := by decide +kernel
theorem hash_a : digest_Hash.f 3 (⟨#[97]⟩ : ByteArray) = some 12638187200555641996 := by decide +kernel

theorem live_ev : Ev (fun k => corebanklaw08_live.f k) true := by
  obtain ⟨K1, h1⟩ := mod97_ev (⟨#[90, 90]⟩ : ByteArray) (by decide)
  obtain ⟨K2, h2⟩ := mod97_ev (⟨#[97]⟩ : ByteArray) (by decide)
  obtain ⟨K3, h3⟩ := seal_ev (⟨#[67, 66, 48, 48, 48, 48, 49, 48, 48, 48]⟩ : ByteArray) (by decide)
  obtain ⟨K4, h4⟩ := sealed_ev (⟨#[67, 66, 48, 48, 48, 48, 49, 48, 48, 48, 51, 51]⟩ : ByteArray) (by decide)
  obtain ⟨K5, h5⟩ := sealed_ev (⟨#[67, 66, 48, 48, 48, 48, 49, 48, 48, 48, 51, 52]⟩ : ByteArray) (by decide)
  refine ⟨K1 + K2 + K3 + K4 + K5 + 3, fun k hk => ?_⟩
  have e1 : digest_Mod97.f k (⟨#[90, 90]⟩ : ByteArray) = _ := h1 k (by omega)
  have e2 : digest_Mod97.f k (⟨#[97]⟩ : ByteArray) = _ := h2 k (by omega)
  have e3 : digest_Seal.f k (⟨#[67, 66, 48, 48, 48, 48, 49, 48, 48, 48]⟩ : ByteArray) = _ := h3 k (by omega)
  have e4 : digest_Sealed.f k (⟨#[67, 66, 48, 48, 48, 48, 49, 48, 48, 48, 51, 51]⟩ : ByteArray) = _ := h4 k (by omega)
  have e5 : digest_Sealed.f k (⟨#[67, 66, 48, 48, 48, 48, 49, 48, 48, 48, 51, 52]⟩ : ByteArray) = _ := h5 k (by omega)
  have e6 : digest_Hash.f k (⟨#[]⟩ : ByteArray) = _ := at_rounds (digest_Hash.mono _) (show 3 ≤ k by omega) hash_0
  have e7 : digest_Hash.f k (⟨#[97]⟩ : ByteArray) = _ := at_rounds (digest_Hash.mono _) (show 3 ≤ k by omega) hash_a
  rw [mod97_zz] at e1
  rw [mod97_a] at e2
  rw [seal_cb] at e3
  rw [sealed_cb] at e4
  rw [sealed_cb2] at e5
  simp only [corebanklaw08_live.f, e1, e2, e3, unhex_live, e6, e7, e4, e5, Option.bind_some, if_true]
  have lst : (⟨#[67, 66, 48, 48, 48, 48, 49, 48, 48, 48, 51, 51]⟩ : ByteArray).toList = [67, 66, 48, 48, 48, 48, 49, 48, 48, 48, 51, 51] := ByteArray.toList_mk _
  rw [if_pos lst]
  rfl

theorem wf64 {a : Int} (h : (Lit.int .u64 a).wf = true) : 0 ≤ a ∧ a < 18446744073709551616 := by
  have e1 : IntKind.u64.min = 0 := rfl
  have e2 : IntKind.u64.max = 18446744073709551615 := rfl
  simp [Lit.wf, e1, e2] at h
  omega
theorem wf8 {a : Int} (h : (Lit.int .u8 a).wf = true) : 0 ≤ a ∧ a < 256 := by
  have e1 : IntKind.u8.min = 0 := rfl
  have e2 : IntKind.u8.max = 255 := rfl
  simp [Lit.wf, e1, e2] at h
  omega
end Go.Proofs.YtmloobkgnefgcaaDoor.Pure
