/- strconv.ParseUint(s, 16, 64), digest.Hex, digest.Unhex, strconv.Itoa of small numbers: contracts, in the form that the printed callers ask. -/
import Derived.Test.YtmloobkgnefgcaaDoorParseHex
import Derived.Test.YtmloobkgnefgcaaDoorFmtHex
import Derived.Test.YtmloobkgnefgcaaDoorShelf
import Derived.Lib.AtoiErrMem
import Derived.LoopTactic
import Derived.Outline
namespace Go.Proofs.YtmloobkgnefgcaaDoor
open Go.RowKit Go.Proofs.YtmloobkgnefgcaaDoorW.PrintWords

set_option maxRecDepth 100000 in
theorem parseUint16_empty (w : World) : Calls Tryd.prog 38 #[.string ⟨#[]⟩, .int .i64 16, .int .i64 64] w fun e w' => e = .returned (.tuple #[.int .u64 0, .iface 53 (.int .i64 2)]) ∧ w' = w := by
  go_enter Tryd.func38, Tryd.ntmps38
  go_wp2
  go_ret2
  exact ⟨rfl, rfl⟩

theorem parseUint16_ok (s : ByteArray) (hlim : s.size ≤ 281474976710656) (n : Nat) (hne : s.size ≠ 0) (hp : parseHex 0 s.data.toList = .ok n) (w : World) :
    Calls Tryd.prog 29 #[.string s, .int .i64 16, .int .i64 64] w fun e w' => e = .returned (.tuple #[.int .u64 (n : Int), .nilIface]) ∧ Below w.heap.size w w' := by
  have hc := parseUint16_inner s hne (by omega) w
  rw [hp] at hc
  have hb := Lib.bytesWorld_below w 5 s
  have HC := Lib.hid hc
  have HB := Lib.hid hb
  clear hc hb hp hne
  go_enter Tryd.func29, Tryd.ntmps29
  go_wp2_with (go_at_call 38; refine HC.out.mono ?_; rintro e w' ⟨rfl, rfl⟩; simp only [Lib.uintTuple])
  go_ret2
  exact ⟨rfl, HB.out⟩

theorem parseUint16_bad (s : ByteArray) (hlim : s.size ≤ 281474976710656) (hbad : s.size = 0 ∨ ∀ n, parseHex 0 s.data.toList ≠ .ok n) (w : World) (h : TabW w) :
    Calls Tryd.prog 29 #[.string s, .int .i64 16, .int .i64 64] w fun e w' => ∃ (x : Int) (N : Nat), e = .returned (.tuple #[.int .u64 x, .iface 56 (.pointer (some ⟨N, 0, none⟩))]) ∧ Below w.heap.size w w' := by
  have body : ∀ (c x : Int) (w1 : World), (c = 1 ∨ c = 2) → (∀ W, W = w → Calls Tryd.prog 38 #[.string s, .int .i64 16, .int .i64 64] W fun e w' => e = .returned (.tuple #[.int .u64 x, .iface 53 (.int .i64 c)]) ∧ w' = w1) → Below w.heap.size w w1 →
      Calls Tryd.prog 29 #[.string s, .int .i64 16, .int .i64 64] w fun e w' => ∃ (x : Int) (N : Nat), e = .returned (.tuple #[.int .u64 x, .iface 56 (.pointer (some ⟨N, 0, none⟩))]) ∧ Below w.heap.size w w' := by
    intro c x w1 hcc hc hb
    have HC := Lib.hid (hc w rfl)
    have HB := Lib.hid hb
    have ht := h.below hb
    obtain ⟨t1, p1, hs⟩ := ht.synCell
    obtain ⟨t2, p2, hr⟩ := ht.ranCell
    have HS := Lib.hid hs
    have HR := Lib.hid hr
    have HT := Lib.hid h
    clear hc hb ht hs hr h hbad
    rcases hcc with rfl | rfl
    · go_enter Tryd.func29, Tryd.ntmps29
      go_wp2_with (first
        | (go_at_call 38; refine HC.out.mono ?_; rintro e w' ⟨rfl, rfl⟩)
        | (go_at_call 39; refine (Tryd.strconv_toError_range _ s _ _ (.iface t2 p2) _ hlim HR.out (Or.inr ⟨t2, p2, rfl⟩)).mono ?_; rintro e w2 ⟨N, rfl, -, -, hb2⟩))
      go_ret2
      exact ⟨x, N, rfl, below_then HB.out HB.out.size hb2⟩
    · go_enter Tryd.func29, Tryd.ntmps29
      go_wp2_with (first
        | (go_at_call 38; refine HC.out.mono ?_; rintro e w' ⟨rfl, rfl⟩)
        | (go_at_call 39; refine (Tryd.strconv_toError_syntax _ s _ _ (.iface t1 p1) _ hlim HS.out (Or.inr ⟨t1, p1, rfl⟩)).mono ?_; rintro e w2 ⟨N, rfl, -, -, hb2⟩))
      go_ret2
      exact ⟨x, N, rfl, below_then HB.out HB.out.size hb2⟩
  by_cases hz : s.size = 0
  · have e0 : s = ⟨#[]⟩ := by
      obtain ⟨d⟩ := s
      congr 1
      exact Array.eq_empty_of_size_eq_zero hz
    subst e0
    exact body 2 0 w (.inr rfl) (fun W hW => by subst hW; exact parseUint16_empty _) (Below.refl _ _)
  · have hc := parseUint16_inner s hz (by omega) w
    have hb := Lib.bytesWorld_below w 5 s
    rcases hp : parseHex 0 s.data.toList with n | _ | _
    · exact absurd hp ((hbad.resolve_left hz) n)
    · rw [hp] at hc; first | exact body 2 _ _ (.inr rfl) (fun W hW => by subst hW; exact hc) hb | exact body 1 _ _ (.inl rfl) (fun W hW => by subst hW; exact hc) hb
    · rw [hp] at hc; first | exact body 2 _ _ (.inr rfl) (fun W hW => by subst hW; exact hc) hb | exact body 1 _ _ (.inl rfl) (fun W hW => by subst hW; exact hc) hb

def vstr : Value → ByteArray
  | .string s => s
  | _ => ⟨#[]⟩

/-- digest.Hex: sixteen digits. -/
theorem hex_any (u : Nat) (hu : u < 18446744073709551616) (w : World) (h : TabW w) :
    Calls Tryd.prog 12 #[.int .u64 (u : Int)] w fun e w' => e = .returned (.string ⟨(hex16 u).toArray⟩) ∧ Below w.heap.size w w' := by
  have hlen := hexDigits_len 15 u (by simpa using hu)
  have HT := Lib.hid h
  have HL := Lib.hid hlen
  clear h hlen
  go_enter Tryd.func12, Tryd.ntmps12
  go_wp2_with (go_at_call 31; refine (formatUint16 u hu _ HT.out).mono ?_; rintro e w1 ⟨rfl, hb⟩; have HB := Lib.hid hb; clear hb)
  go_loop [3] (fun vs => ∃ (S : ByteArray), vs = .string S ∧ Hid (∃ k, S = ⟨(List.replicate k 48 ++ hexDigits u).toArray⟩ ∧ k + (hexDigits u).length ≤ 16)) (fun vs => 16 - (vstr vs).size)
  case atStart => exact ⟨_, rfl, Lib.hid ⟨0, by simp, by have := HL.out; omega⟩⟩
  case round =>
    obtain ⟨S, rfl, hS⟩ := hrel
    by_cases hlt : S.size < 16
    · have i0 : (S.size : Int) < 16 := by omega
      have i1 : 1 + S.size ≤ 9223372036854775807 := by omega
      go_wp2
      refine ⟨⟨_, rfl, Lib.hid ?_⟩, ?_⟩
      · obtain ⟨k, e, hk⟩ := hS.out
        refine ⟨k + 1, ?_, ?_⟩
        · rw [e]; rfl
        · have : S.size = k + (hexDigits u).length := by rw [e]; show (List.toArray _).size = _; simp
          omega
      · have e1 : ((⟨#[48]⟩ : ByteArray) ++ S).size = 1 + S.size := by rw [ByteArray.size_append]; rfl
        show 16 - ((⟨#[48]⟩ : ByteArray) ++ S).size < 16 - S.size
        omega
    · have i0 : 16 ≤ (S.size : Int) := by omega
      go_wp2
      go_ret
      have hS2 : S = ⟨(hex16 u).toArray⟩ := by
        obtain ⟨k, e, hk⟩ := hS.out
        have hz : S.size = k + (hexDigits u).length := by rw [e]; show (List.toArray _).size = _; simp
        rw [e, hex16, show k = 16 - (hexDigits u).length by omega]
      exact ⟨by rw [← hS2]; rfl, HB.out⟩

/-- digest.Unhex. -/
def digest_Unhex.f (a0 : ByteArray) : Option (Int × Int) := if a0.size ≤ 281474976710656 then some (unhexOf a0.data.toList) else none

theorem digest_Unhex.calls (a0 : ByteArray) (r1 r2 : Int) (w : World) (HTab_ : TabW w) (h : digest_Unhex.f a0 = some (r1, r2)) :
    Calls Tryd.prog 10 #[.string a0] w fun e w' => e = .returned (.tuple #[.int .u64 r1, .int .i64 r2]) ∧ Below w.heap.size w w' := by
  unfold digest_Unhex.f at h
  split at h
  case isFalse => cases h
  case isTrue hlim =>
  have hr := Option.some.inj h
  have HT := Lib.hid HTab_
  clear h HTab_
  by_cases hbad : a0.size = 0 ∨ ∀ n, parseHex 0 a0.data.toList ≠ .ok n
  · have e : unhexOf a0.data.toList = (0, 2) := by
      unfold unhexOf
      split
      · rfl
      · rename_i hne
        have hz : ¬ a0.size = 0 := fun hz => hne (by rw [← Array.toList_eq_nil_iff.2 (Array.eq_empty_of_size_eq_zero hz)])
        rcases hp : parseHex 0 a0.data.toList with n | _ | _
        · exact absurd hp ((hbad.resolve_left hz) n)
        · rfl
        · rfl
    rw [e] at hr
    obtain ⟨rfl, rfl⟩ := Prod.mk.inj hr
    have hc := Lib.hid (parseUint16_bad a0 hlim hbad w HT.out)
    clear hbad e hr
    go_enter Tryd.func10, Tryd.ntmps10
    go_wp2_with (go_at_call 29; refine hc.out.mono ?_; rintro e w1 ⟨x, N, rfl, hb⟩; have HB := Lib.hid hb; clear hb)
    go_ret2
    exact ⟨rfl, HB.out⟩
  · have hz : a0.size ≠ 0 := fun hz => hbad (.inl hz)
    obtain ⟨n, hp⟩ : ∃ n, parseHex 0 a0.data.toList = .ok n := Classical.byContradiction fun hn => hbad (.inr fun n hp => hn ⟨n, hp⟩)
    have hn := parseHex_lt _ 0 n (by omega) hp
    have hc := Lib.hid (parseUint16_ok a0 hlim n hz hp w)
    have e : unhexOf a0.data.toList = if hex16 n = a0.data.toList then ((n : Int), 0) else (0, 2) := by
      unfold unhexOf
      rw [if_neg (fun he => hz (by show a0.data.size = 0; rw [← Array.length_toList, he]; rfl)), hp]
    rw [e] at hr
    have HN := Lib.hid hn
    clear hbad hp hz e hn
    by_cases heq : hex16 n = a0.data.toList
    · rw [if_pos heq] at hr
      obtain ⟨rfl, rfl⟩ := Prod.mk.inj hr
      have hs : (⟨(hex16 n).toArray⟩ : ByteArray) = a0 := by rw [heq]
      have ht := Lib.hid hs
      clear heq hr hs
      go_enter Tryd.func10, Tryd.ntmps10
      go_wp2_with (first
        | (go_at_call 29; refine hc.out.mono ?_; rintro e w1 ⟨rfl, hb⟩; have HB := Lib.hid hb; clear hb)
        | (go_at_call 12; refine (hex_any n HN.out _ (HT.out.below HB.out)).mono ?_; rintro e w2 ⟨rfl, hb2⟩; have HB2 := Lib.hid hb2; clear hb2; rw [ht.out]))
      go_ret2
      exact ⟨rfl, below_then HB.out HB.out.size HB2.out⟩
    · rw [if_neg heq] at hr
      obtain ⟨rfl, rfl⟩ := Prod.mk.inj hr
      have hs : (hex16 n == a0.toList) = false := by
        rw [beq_eq_false_iff_ne]
        intro he
        exact heq (by rw [ByteArray.toList_eq] at he; exact he)
      clear heq hr
      go_enter Tryd.func10, Tryd.ntmps10
      go_wp2_with (first
        | (go_at_call 29; refine hc.out.mono ?_; rintro e w1 ⟨rfl, hb⟩; have HB := Lib.hid hb; clear hb)
        | (go_at_call 12; refine (hex_any n HN.out _ (HT.out.below HB.out)).mono ?_; rintro e w2 ⟨rfl, hb2⟩; have HB2 := Lib.hid hb2; clear hb2))
      go_ret2
      exact ⟨rfl, below_then HB.out HB.out.size HB2.out⟩

def digest_Hex.f (a0 : Int) : Option ByteArray := if 0 ≤ a0 ∧ a0 < 18446744073709551616 then some ⟨(hex16 a0.toNat).toArray⟩ else none
theorem digest_Hex.calls (a0 : Int) (r : ByteArray) (w : World) (HTab_ : TabW w) (h : digest_Hex.f a0 = some r) :
    Calls Tryd.prog 12 #[.int .u64 a0] w fun e w' => e = .returned (.string r) ∧ Below w.heap.size w w' := by
  unfold digest_Hex.f at h
  split at h
  case isFalse => cases h
  case isTrue hlim =>
  obtain rfl := Option.some.inj h
  have := hex_any a0.toNat (by omega) w HTab_
  rwa [show ((a0.toNat : Nat) : Int) = a0 by omega] at this

/-- strconv.Itoa, of numbers from 0 to 99: no table is read. -/
def strconv_Itoa.f (a0 : Int) : Option ByteArray := if 0 ≤ a0 ∧ a0 < 100 then some ⟨(Lib.decDigits a0.toNat).toArray⟩ else none
theorem strconv_Itoa.calls (a0 : Int) (r : ByteArray) (w : World) (h : strconv_Itoa.f a0 = some r) :
    Calls Tryd.prog 34 #[.int .i64 a0] w fun e w' => e = .returned (.string r) ∧ Below w.heap.size w w' := by
  unfold strconv_Itoa.f at h
  split at h
  case isFalse => cases h
  case isTrue hlim =>
  obtain rfl := Option.some.inj h
  have := Tryd.strconv_Itoa_small a0.toNat (by omega) w
  rw [show ((a0.toNat : Nat) : Int) = a0 by omega] at this
  refine this.mono ?_
  rintro e w' ⟨rfl, rfl⟩
  exact ⟨rfl, Below.refl _ _⟩
end Go.Proofs.YtmloobkgnefgcaaDoor
