/- The program's PutLittle answers as the reference's at every two numbers. -/
import Derived.Test.YtmnjomglpkbifaaPFnExactPutLittlex1
import Derived.Test.YtmnjomglpkbifaaNumD
namespace Go.Proofs.Ytmnjomglpkbifaa.Pure
open Go.RowKit Go.Proofs.Ytmnjomglpkbifaa.PFnExactPutLittle Go.Proofs.YtmnjomglpkbifaaW.PrintWords Go.Proofs.YtmnjomglpkbifaaW.PrintLast Go.Proofs.YtmnjomglpkbifaaW.PrintMore Go.Proofs.Ytmnjomglpkbifaa.Num

theorem size_spec (s : Int) : spec_l01Size.f s = some (decide (Sz s)) := by
  unfold spec_l01Size.f Sz
  by_cases h1 : s = 1 <;> by_cases h2 : s = 2 <;> by_cases h4 : s = 4 <;> by_cases h8 : s = 8 <;> simp_all
theorem size_impl (s : Int) : impl_isSize.f s = some (decide (Sz s)) := size_spec s
theorem put_loop (a : Int) (n : Nat) (hn : n ≤ 8) : ∀ (d k i : Nat), i + d = n → d < k →
    spec_l01Little.l0 k a (n : Int) (lowBytes a i) (i : Int) = some (strOfNums (lowBytes a n))
  | d, 0, _, _, hk => by omega
  | 0, k + 1, i, hi, _ => by
    simp only [spec_l01Little.l0]
    obtain rfl : i = n := by omega
    rw [if_neg (by omega)]
  | d + 1, k + 1, i, hi, hk => by
    simp only [spec_l01Little.l0]
    rw [if_pos (by omega), w64_in (n := 8 * (i : Int)) (by omega) (by omega), if_pos (by rw [u64_in] <;> omega), if_pos (by rw [lowBytes_length]; omega), lowByte_un (by omega), w64_in (n := (i : Int) + 1) (by omega) (by omega)]
    exact put_loop a n hn d k (i + 1) (by omega) (by omega)
theorem little_spec {a z : Int} (hz : Sz z) {k : Nat} (hk : 8 < k) : spec_l01Little.f k a z = some (strOfNums (lowBytes a z.toNat)) := by
  unfold spec_l01Little.f
  have h8 : 1 ≤ z ∧ z ≤ 8 := by rcases hz with rfl | rfl | rfl | rfl <;> omega
  have h := put_loop a z.toNat (by omega) z.toNat k 0 (by omega) (by omega)
  rw [show ((z.toNat : Nat) : Int) = z by omega] at h
  exact h
theorem puti_loop (a : Int) (n : Nat) (hn : n ≤ 8) : ∀ (d k i : Nat), i + d = n → d < k →
    impl_little.l0 k a (lowBytes a i ++ List.replicate d 0) (n : Int) (i : Int) = some (strOfNums (lowBytes a n))
  | d, 0, _, _, hk => by omega
  | 0, k + 1, i, hi, _ => by
    simp only [impl_little.l0]
    obtain rfl : i = n := by omega
    rw [if_neg (by omega)]
    simp
  | d + 1, k + 1, i, hi, hk => by
    simp only [impl_little.l0]
    have hl := lowBytes_length a i
    rw [if_pos (by omega), w64_in (n := 8 * (i : Int)) (by omega) (by omega), if_pos (by omega), if_pos (by omega), if_pos (by simp [hl]; omega), lowByte_shr (by omega), w64_in (n := (i : Int) + 1) (by omega) (by omega)]
    have e := set_next (lowBytes a i) d (lowByte a i)
    rw [hl] at e
    rw [Int.toNat_natCast, e]
    exact puti_loop a n hn d k (i + 1) (by omega) (by omega)
theorem little_impl {a z : Int} (hz : Sz z) {k : Nat} (hk : 8 < k) : impl_little.f k a z = some (strOfNums (lowBytes a z.toNat)) := by
  unfold impl_little.f
  have h8 : 1 ≤ z ∧ z ≤ 8 := by rcases hz with rfl | rfl | rfl | rfl <;> omega
  have h := puti_loop a z.toNat (by omega) z.toNat k 0 (by omega) (by omega)
  rw [if_pos (by omega), if_pos (by omega)]
  simp only [Option.bind_some, List.length_replicate]
  exact h
theorem both {k : Nat} {a z : Int} {p : ByteArray × Int} (h1 : spec_PutLittle.f k a z = some p) (h2 : impl_PutLittle.f k a z = some p) : laws_FnExactPutLittle.f k a z = some true := by
  unfold laws_FnExactPutLittle.f
  rw [h1, h2]
  simp only [Option.bind_some, if_true]
theorem FnExactPutLittle : laws_FnExactPutLittle.Pure := by
  intro a z _ _
  refine ⟨9, ?_⟩
  by_cases hz : Sz z
  · refine both (p := (strOfNums (lowBytes a z.toNat), 0)) ?_ ?_
    · unfold spec_PutLittle.f
      rw [size_spec, little_spec hz (by omega)]
      simp [hz]
    · unfold impl_PutLittle.f
      rw [size_impl, little_impl hz (by omega)]
      simp [hz]
  · refine both (p := (⟨#[]⟩, 4)) ?_ ?_
    · unfold spec_PutLittle.f
      rw [size_spec]
      simp [hz]
    · unfold impl_PutLittle.f
      rw [size_impl]
      simp [hz]

end Go.Proofs.Ytmnjomglpkbifaa.Pure
