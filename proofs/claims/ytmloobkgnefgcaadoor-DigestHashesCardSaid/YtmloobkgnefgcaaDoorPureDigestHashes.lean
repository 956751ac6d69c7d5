/- DigestHashes: the plain law. -/
import Derived.Test.YtmloobkgnefgcaaDoorDigC
import Derived.Test.YtmloobkgnefgcaaDoorQDx6
namespace Go.Proofs.YtmloobkgnefgcaaDoor.Pure
open Go.RowKit Go.Proofs.YtmloobkgnefgcaaDoor Go.Proofs.YtmloobkgnefgcaaDoor.QD Go.Proofs.YtmloobkgnefgcaaDoorW.PrintWords
set_option linter.unusedVariables false
set_option linter.unusedSimpArgs false

def isU (h : Int) : Prop := 0 ≤ h ∧ h < 18446744073709551616
theorem isU_wrap (x : Int) : isU (IntKind.u64.wrap x) := by unfold isU; rw [IntKind.wrap_u64]; omega
theorem isU_off : isU 14695981039346656037 := by unfold isU; omega

/-- One byte more in a sum. -/
def mixB (h : Int) (b : Nat) : Int := IntKind.u64.wrap ((Go.bits .xor .u64 h (b : Int)) * 1099511628211)
def fnv (h : Int) (l : List UInt8) : Int := l.foldl (fun h c => mixB h c.toNat) h
theorem fnv_app (h : Int) (a b : List UInt8) : fnv h (a ++ b) = fnv (fnv h a) b := List.foldl_append ..
theorem fnv_isU : ∀ (l : List UInt8) (h : Int), isU h → isU (fnv h l)
  | [], h, hh => hh
  | c :: r, h, hh => fnv_isU r _ (isU_wrap _)

theorem wrapB (b : Nat) (hb : b < 256) : IntKind.u64.wrap (b : Int) = (b : Int) := by rw [IntKind.wrap_u64]; omega

theorem extend_l0 (x : ByteArray) (hx : x.size ≤ 140737488351300) : ∀ (d k i : Nat) (h : Int), x.size - i = d → i ≤ x.size → d + 1 ≤ k →
    digest_extend.l0 k h x (x.size : Int) (i : Int) = some (fnv h (x.data.toList.drop i)) := by
  intro d
  induction d with
  | zero =>
    intro k i h hd hi hk
    obtain ⟨k, rfl⟩ : ∃ m, k = m + 1 := ⟨k - 1, by omega⟩
    obtain rfl : i = x.size := by omega
    simp only [digest_extend.l0]
    rw [if_neg (by omega), drop_end]
    rfl
  | succ d ih =>
    intro k i h hd hi hk
    obtain ⟨k, rfl⟩ : ∃ m, k = m + 1 := ⟨k - 1, by omega⟩
    obtain ⟨c, hdr, hbt, hc⟩ := bt_drop x i (by omega)
    simp only [digest_extend.l0]
    rw [if_pos (by omega), if_pos (by omega), if_pos (by omega), hdr, hbt, w64 (n := (i : Int) + 1) (by omega) (by omega), show ((i : Int) + 1) = ((i + 1 : Nat) : Int) by omega, wrapB _ hc]
    exact ih k (i + 1) _ (by omega) (by omega) (by omega)

theorem extend_ev (x : ByteArray) (hx : x.size ≤ 140737488351300) (h : Int) : Ev (fun k => digest_extend.f k h x) (fnv h x.data.toList) :=
  ⟨x.size + 1, fun k hk => by
    have := extend_l0 x hx x.size k 0 h (by omega) (by omega) (by omega)
    unfold digest_extend.f
    rw [List.drop_zero] at this
    exact this⟩

theorem rextend_l0 (x : ByteArray) (hx : x.size ≤ 140737488351300) : ∀ (d k i : Nat) (h : Int), x.size - i = d → i ≤ x.size → d + 1 ≤ k →
    corebankref08_Extend.l0 k h x (i : Int) = some (fnv h (x.data.toList.drop i)) := by
  intro d
  induction d with
  | zero =>
    intro k i h hd hi hk
    obtain ⟨k, rfl⟩ : ∃ m, k = m + 1 := ⟨k - 1, by omega⟩
    obtain rfl : i = x.size := by omega
    simp only [corebankref08_Extend.l0]
    rw [if_neg (by omega), drop_end]
    rfl
  | succ d ih =>
    intro k i h hd hi hk
    obtain ⟨k, rfl⟩ : ∃ m, k = m + 1 := ⟨k - 1, by omega⟩
    obtain ⟨c, hdr, hbt, hc⟩ := bt_drop x i (by omega)
    simp only [corebankref08_Extend.l0]
    rw [if_pos (by omega), if_pos (by omega), hdr, hbt, w64 (n := (i : Int) + 1) (by omega) (by omega), show ((i : Int) + 1) = ((i + 1 : Nat) : Int) by omega, wrapB _ hc]
    exact ih k (i + 1) _ (by omega) (by omega) (by omega)

theorem rextend_ev (x : ByteArray) (hx : x.size ≤ 140737488351300) (h : Int) : Ev (fun k => corebankref08_Extend.f k h x) (fnv h x.data.toList) :=
  ⟨x.size + 1, fun k hk => by
    have := rextend_l0 x hx x.size k 0 h (by omega) (by omega) (by omega)
    unfold corebankref08_Extend.f
    rw [List.drop_zero] at this
    exact this⟩

def hashS (x : ByteArray) : Int := fnv 14695981039346656037 x.data.toList

theorem hash_ev (x : ByteArray) (hx : x.size ≤ 140737488351300) : Ev (fun k => digest_Hash.f k x) (hashS x) := by
  obtain ⟨K, hK⟩ := extend_ev x hx 14695981039346656037
  refine ⟨K, fun k hk => ?_⟩
  have e : digest_extend.f k 14695981039346656037 x = _ := hK k hk
  show digest_Hash.f k x = _
  unfold digest_Hash.f
  rw [e]
  rfl
theorem rhash_ev (x : ByteArray) (hx : x.size ≤ 140737488351300) : Ev (fun k => corebankref08_Hash.f k x) (hashS x) := by
  obtain ⟨K, hK⟩ := rextend_ev x hx 14695981039346656037
  refine ⟨K, fun k hk => ?_⟩
  have e : corebankref08_Extend.f k 14695981039346656037 x = _ := hK k hk
  show corebankref08_Hash.f k x = _
  unfold corebankref08_Hash.f
  rw [e]
  rfl

def bytesN : Nat → Nat → List UInt8
  | 0, _ => []
  | k + 1, n => UInt8.ofNat (n % 256) :: bytesN k (n / 256)

theorem bitsAnd255 (v : Nat) (h : v < 18446744073709551616) : Go.bits .and .u64 (v : Int) 255 = ((v % 256 : Nat) : Int) := by
  have e : v &&& 255 = v % 256 := Nat.and_two_pow_sub_one_eq_mod v 8
  have e1 : (2 : Nat) ^ IntKind.u64.bits = 18446744073709551616 := by decide
  simp [Go.bits]
  rw [e1, Nat.mod_eq_of_lt h, show 255 % 18446744073709551616 = 255 from rfl, e, IntKind.wrap_u64]
  omega

theorem shr8 (n i : Nat) (hi : i < 8) : shr .u64 (n : Int) (wrap64 (8 * (i : Int))) = ((n / 256 ^ i : Nat) : Int) := by
  have e : (256 : Nat) ^ i = 2 ^ (8 * i) := by rw [show (256 : Nat) = 2 ^ 8 by decide, ← Nat.pow_mul]
  have e2 : IntKind.u64.bits = 64 := rfl
  unfold shr
  rw [w64 (by omega) (by omega), show (8 * (i : Int)).toNat = 8 * i by omega, e2, Nat.min_eq_left (by omega), e, Int.natCast_ediv, Int.natCast_pow]
  rfl

theorem eight_l0 (n : Nat) (hn : n < 18446744073709551616) : ∀ (d k i : Nat) (h : Int), 8 - i = d → i ≤ 8 → d + 1 ≤ k →
    digest_eight.l0 k h (n : Int) (i : Int) = some (fnv h (bytesN d (n / 256 ^ i))) := by
  intro d
  induction d with
  | zero =>
    intro k i h hd hi hk
    obtain ⟨k, rfl⟩ : ∃ m, k = m + 1 := ⟨k - 1, by omega⟩
    simp only [digest_eight.l0]
    rw [if_neg (by omega)]
    rfl
  | succ d ih =>
    intro k i h hd hi hk
    obtain ⟨k, rfl⟩ : ∃ m, k = m + 1 := ⟨k - 1, by omega⟩
    have hq : n / 256 ^ i < 18446744073709551616 := Nat.lt_of_le_of_lt (Nat.div_le_self _ _) hn
    have hb : (UInt8.ofNat (n / 256 ^ i % 256)).toNat = n / 256 ^ i % 256 := by
      rw [UInt8.toNat_ofNat']
      omega
    simp only [digest_eight.l0]
    rw [if_pos (by omega), shr8 n i (by omega), bitsAnd255 _ hq, w64 (n := 8 * (i : Int)) (by omega) (by omega), if_pos (by omega), w64 (by omega) (by omega), show ((i : Int) + 1) = ((i + 1 : Nat) : Int) by omega, ih k (i + 1) _ (by omega) (by omega) (by omega)]
    simp only [bytesN, fnv, List.foldl_cons, mixB, hb]
    rw [Nat.div_div_eq_div_mul, ← Nat.pow_succ]

theorem eight_ev (n : Nat) (hn : n < 18446744073709551616) (h : Int) : Ev (fun k => digest_eight.f k h (n : Int)) (fnv h (bytesN 8 n)) :=
  ⟨9, fun k hk => by
    have := eight_l0 n hn 8 k 0 h (by omega) (by omega) (by omega)
    unfold digest_eight.f
    rw [Nat.pow_zero, Nat.div_one] at this
    exact this⟩

theorem reight_l0 : ∀ (d k i n : Nat) (xs : List Int), 8 - i = d → i ≤ 8 → n < 18446744073709551616 → xs.length = i → d + 1 ≤ k →
    corebankref08_eight.l0 k (n : Int) xs (i : Int) = some ⟨(xs.map (fun n => UInt8.ofNat n.toNat) ++ bytesN d n).toArray⟩ := by
  intro d
  induction d with
  | zero =>
    intro k i n xs hd hi hn hx hk
    obtain ⟨k, rfl⟩ : ∃ m, k = m + 1 := ⟨k - 1, by omega⟩
    simp only [corebankref08_eight.l0]
    rw [if_neg (by omega)]
    simp [strOfNums, bytesN]
  | succ d ih =>
    intro k i n xs hd hi hn hx hk
    obtain ⟨k, rfl⟩ : ∃ m, k = m + 1 := ⟨k - 1, by omega⟩
    have t0 : Int.tmod (n : Int) 256 = ((n % 256 : Nat) : Int) := by rw [tmodn (by omega)]; omega
    have t1 : Int.tdiv (n : Int) 256 = ((n / 256 : Nat) : Int) := by rw [Int.tdiv_eq_ediv_of_nonneg (by omega)]; omega
    have t2 : (((n % 256 : Nat) : Int)) % 256 = ((n % 256 : Nat) : Int) := by omega
    have t3 : IntKind.u64.wrap ((n / 256 : Nat) : Int) = ((n / 256 : Nat) : Int) := by rw [IntKind.wrap_u64]; omega
    simp only [corebankref08_eight.l0, t0, t1, t2, t3]
    rw [if_pos (by omega), if_pos (by omega), w64 (by omega) (by omega), show ((i : Int) + 1) = ((i + 1 : Nat) : Int) by omega, ih k (i + 1) (n / 256) _ (by omega) (by omega) (by omega) (by simp [hx]) (by omega)]
    rw [List.map_append, List.append_assoc]
    rfl

theorem bytesN_len : ∀ k n, (bytesN k n).length = k
  | 0, n => rfl
  | k + 1, n => by simp [bytesN, bytesN_len k]

def bytesS (n : Nat) : ByteArray := ⟨(bytesN 8 n).toArray⟩
theorem bytesS_size (n : Nat) : (bytesS n).size = 8 := by
  show (bytesN 8 n).toArray.size = 8
  rw [List.size_toArray, bytesN_len]
theorem bytesS_list (n : Nat) : (bytesS n).data.toList = bytesN 8 n := rfl

theorem reight_ev (n : Nat) (hn : n < 18446744073709551616) : Ev (fun k => corebankref08_eight.f k (n : Int)) (bytesS n) :=
  ⟨9, fun k hk => by
    have := reight_l0 8 k 0 n [] (by omega) (by omega) hn rfl (by omega)
    unfold corebankref08_eight.f
    exact this⟩

def chainS (n : Nat) (l : List UInt8) : Int := fnv (fnv 14695981039346656037 (bytesN 8 n)) l

theorem chain_ev (n : Nat) (hn : n < 18446744073709551616) (x : ByteArray) (hx : x.size ≤ 140737488351300) : Ev (fun k => digest_Chain.f k (n : Int) x) (chainS n x.data.toList) := by
  obtain ⟨K1, h1⟩ := eight_ev n hn 14695981039346656037
  obtain ⟨K2, h2⟩ := extend_ev x hx (fnv 14695981039346656037 (bytesN 8 n))
  refine ⟨K1 + K2, fun k hk => ?_⟩
  have e1 : digest_eight.f k 14695981039346656037 (n : Int) = _ := h1 k (by omega)
  have e2 : digest_extend.f k (fnv 14695981039346656037 (bytesN 8 n)) x = _ := h2 k (by omega)
  show digest_Chain.f k (n : Int) x = _
  unfold digest_Chain.f
  rw [e1]
  simp only [Option.bind_some]
  rw [e2]
  rfl

theorem rchain_ev (n : Nat) (hn : n < 18446744073709551616) (x : ByteArray) (hx : x.size ≤ 140737488351300) : Ev (fun k => corebankref08_Chain.f k (n : Int) x) (chainS n x.data.toList) := by
  obtain ⟨K1, h1⟩ := reight_ev n hn
  obtain ⟨K2, h2⟩ := rhash_ev (bytesS n) (by rw [bytesS_size]; omega)
  obtain ⟨K3, h3⟩ := rextend_ev x hx (hashS (bytesS n))
  refine ⟨K1 + K2 + K3, fun k hk => ?_⟩
  have e1 : corebankref08_eight.f k (n : Int) = _ := h1 k (by omega)
  have e2 : corebankref08_Hash.f k (bytesS n) = _ := h2 k (by omega)
  have e3 : corebankref08_Extend.f k (hashS (bytesS n)) x = _ := h3 k (by omega)
  show corebankref08_Chain.f k (n : Int) x = _
  unfold corebankref08_Chain.f
  rw [e1]
  simp only [Option.bind_some]
  rw [e2]
  simp only [Option.bind_some]
  rw [e3]
  rfl

theorem pair_ev (n m : Nat) (hn : n < 18446744073709551616) (hm : m < 18446744073709551616) : Ev (fun k => digest_Pair.f k (n : Int) (m : Int)) (chainS n (bytesN 8 m)) := by
  obtain ⟨K1, h1⟩ := eight_ev n hn 14695981039346656037
  obtain ⟨K2, h2⟩ := eight_ev m hm (fnv 14695981039346656037 (bytesN 8 n))
  refine ⟨K1 + K2, fun k hk => ?_⟩
  have e1 : digest_eight.f k 14695981039346656037 (n : Int) = _ := h1 k (by omega)
  have e2 : digest_eight.f k (fnv 14695981039346656037 (bytesN 8 n)) (m : Int) = _ := h2 k (by omega)
  show digest_Pair.f k (n : Int) (m : Int) = _
  unfold digest_Pair.f
  rw [e1]
  simp only [Option.bind_some]
  rw [e2]
  rfl

theorem rpair_ev (n m : Nat) (hn : n < 18446744073709551616) (hm : m < 18446744073709551616) : Ev (fun k => corebankref08_Pair.f k (n : Int) (m : Int)) (chainS n (bytesN 8 m)) := by
  obtain ⟨K1, h1⟩ := reight_ev m hm
  obtain ⟨K2, h2⟩ := rchain_ev n hn (bytesS m) (by rw [bytesS_size]; omega)
  refine ⟨K1 + K2, fun k hk => ?_⟩
  have e1 : corebankref08_eight.f k (m : Int) = _ := h1 k (by omega)
  have e2 : corebankref08_Chain.f k (n : Int) (bytesS m) = _ := h2 k (by omega)
  show corebankref08_Pair.f k (n : Int) (m : Int) = _
  unfold corebankref08_Pair.f
  rw [e1]
  simp only [Option.bind_some]
  rw [e2]
  rfl

theorem hashes_j1 (n : Nat) (hn : n < 18446744073709551616) (x y : ByteArray) (hx : x.size ≤ 2000) (hy : y.size ≤ 2000) : Ev (fun k => corebanklaw08_DigestHashes.j1 k (n : Int) x y false) true := by
  have hz : (x ++ y).size = x.size + y.size := ByteArray.size_append
  obtain ⟨K0, h0⟩ := live_ev
  obtain ⟨K1, h1⟩ := hash_ev (x ++ y) (by omega)
  obtain ⟨K2, h2⟩ := hash_ev x (by omega)
  obtain ⟨K3, h3⟩ := rextend_ev y (by omega) (hashS x)
  obtain ⟨K4, h4⟩ := chain_ev n hn (x ++ y) (by omega)
  obtain ⟨K5, h5⟩ := chain_ev n hn x (by omega)
  obtain ⟨K6, h6⟩ := rextend_ev y (by omega) (chainS n x.data.toList)
  refine ⟨K0 + K1 + K2 + K3 + K4 + K5 + K6 + 1, fun k hk => ?_⟩
  obtain ⟨k, rfl⟩ : ∃ m, k = m + 1 := ⟨k - 1, by omega⟩
  have e0 : corebanklaw08_live.f k = _ := h0 k (by omega)
  have e1 : digest_Hash.f k (x ++ y) = _ := h1 k (by omega)
  have e2 : digest_Hash.f k x = _ := h2 k (by omega)
  have e3 : corebankref08_Extend.f k (hashS x) y = _ := h3 k (by omega)
  have e4 : digest_Chain.f k (n : Int) (x ++ y) = _ := h4 k (by omega)
  have e5 : digest_Chain.f k (n : Int) x = _ := h5 k (by omega)
  have e6 : corebankref08_Extend.f k (chainS n x.data.toList) y = _ := h6 k (by omega)
  have g1 : hashS (x ++ y) = fnv (hashS x) y.data.toList := by unfold hashS; rw [app_data, fnv_app]
  have g2 : chainS n (x ++ y).data.toList = fnv (chainS n x.data.toList) y.data.toList := by unfold chainS; rw [app_data, fnv_app]
  show corebanklaw08_DigestHashes.j1 (k + 1) (n : Int) x y false = _
  simp only [corebanklaw08_DigestHashes.j1]
  rw [if_neg (by simp), if_pos (by omega), e1]
  simp only [Option.bind_some]
  rw [e2]
  simp only [Option.bind_some]
  rw [e3]
  simp only [Option.bind_some]
  rw [if_pos g1, e4]
  simp only [Option.bind_some]
  rw [e5]
  simp only [Option.bind_some]
  rw [e6]
  simp only [Option.bind_some]
  rw [if_pos g2, e0]
  rfl

theorem hashes_j0 (n : Nat) (hn : n < 18446744073709551616) (x y : ByteArray) (hx : x.size ≤ 2000) (hy : y.size ≤ 2000) : Ev (fun k => corebanklaw08_DigestHashes.j0 k (n : Int) x y false) true := by
  obtain ⟨K0, h0⟩ := hashes_j1 n hn x y hx hy
  obtain ⟨m, hm⟩ : ∃ m : Nat, hashS y = (m : Int) := ⟨(hashS y).toNat, by have := (fnv_isU y.data.toList _ isU_off).1; unfold hashS; omega⟩
  have hm2 : m < 18446744073709551616 := by have := (fnv_isU y.data.toList _ isU_off).2; unfold hashS at hm; omega
  obtain ⟨K1, h1⟩ := hash_ev x (by omega)
  obtain ⟨K2, h2⟩ := rhash_ev x (by omega)
  obtain ⟨K3, h3⟩ := chain_ev n hn x (by omega)
  obtain ⟨K4, h4⟩ := rchain_ev n hn x (by omega)
  obtain ⟨K5, h5⟩ := hash_ev y (by omega)
  obtain ⟨K6, h6⟩ := pair_ev n m hn hm2
  obtain ⟨K7, h7⟩ := rhash_ev y (by omega)
  obtain ⟨K8, h8⟩ := rpair_ev n m hn hm2
  refine ⟨K0 + K1 + K2 + K3 + K4 + K5 + K6 + K7 + K8 + 1, fun k hk => ?_⟩
  obtain ⟨k, rfl⟩ : ∃ m, k = m + 1 := ⟨k - 1, by omega⟩
  have e0 : corebanklaw08_DigestHashes.j1 k (n : Int) x y false = _ := h0 k (by omega)
  have e1 : digest_Hash.f k x = _ := h1 k (by omega)
  have e2 : corebankref08_Hash.f k x = _ := h2 k (by omega)
  have e3 : digest_Chain.f k (n : Int) x = _ := h3 k (by omega)
  have e4 : corebankref08_Chain.f k (n : Int) x = _ := h4 k (by omega)
  have e5 : digest_Hash.f k y = _ := h5 k (by omega)
  have e6 : digest_Pair.f k (n : Int) (m : Int) = _ := h6 k (by omega)
  have e7 : corebankref08_Hash.f k y = _ := h7 k (by omega)
  have e8 : corebankref08_Pair.f k (n : Int) (m : Int) = _ := h8 k (by omega)
  rw [hm] at e5 e7
  show corebanklaw08_DigestHashes.j0 (k + 1) (n : Int) x y false = _
  simp only [corebanklaw08_DigestHashes.j0]
  rw [if_neg (by simp), e1]
  simp only [Option.bind_some]
  rw [e2]
  simp only [Option.bind_some]
  rw [if_pos trivial, e3]
  simp only [Option.bind_some]
  rw [e4]
  simp only [Option.bind_some]
  rw [if_pos trivial, e5]
  simp only [Option.bind_some]
  rw [e6]
  simp only [Option.bind_some]
  rw [e7]
  simp only [Option.bind_some]
  rw [e8]
  simp only [Option.bind_some, bne_self_eq_false]
  exact e0

theorem hashes_out (n : Int) (x y : ByteArray) : Ev (fun k => corebanklaw08_DigestHashes.j0 k n x y true) true := by
  obtain ⟨K0, h0⟩ := live_ev
  refine ⟨K0 + 1, fun k hk => ?_⟩
  obtain ⟨k, rfl⟩ : ∃ m, k = m + 1 := ⟨k - 1, by omega⟩
  have e0 : corebanklaw08_live.f k = _ := h0 k (by omega)
  show corebanklaw08_DigestHashes.j0 (k + 1) n x y true = _
  simp only [corebanklaw08_DigestHashes.j0]
  rw [if_pos trivial, e0]
  rfl

theorem DigestHashes : ∀ (a0 : Int) (a1 : ByteArray) (a2 : ByteArray), (Lit.int .u64 a0).wf = true → a1.size ≤ 140737488351232 → a2.size ≤ 140737488351232 → ∃ k, QD.corebanklaw08_DigestHashes.f k a0 a1 a2 = some true := by
  intro a0 x y h0 hx hy
  obtain ⟨g0, g1⟩ := wf64 h0
  obtain ⟨n, rfl⟩ : ∃ n : Nat, a0 = (n : Int) := ⟨a0.toNat, by omega⟩
  obtain ⟨K, hK⟩ := hashes_out (n : Int) x y
  by_cases c1 : (x.size : Int) > 2000
  · exact ⟨K, by unfold corebanklaw08_DigestHashes.f; rw [if_pos c1]; exact hK K (Nat.le_refl _)⟩
  by_cases c2 : (y.size : Int) > 2000
  · exact ⟨K, by unfold corebanklaw08_DigestHashes.f; rw [if_neg c1, decide_eq_true c2]; exact hK K (Nat.le_refl _)⟩
  obtain ⟨K1, h1⟩ := hashes_j0 n (by omega) x y (by omega) (by omega)
  exact ⟨K1, by unfold corebanklaw08_DigestHashes.f; rw [if_neg c1, decide_eq_false c2]; exact h1 K1 (Nat.le_refl _)⟩
end Go.Proofs.YtmloobkgnefgcaaDoor.Pure
