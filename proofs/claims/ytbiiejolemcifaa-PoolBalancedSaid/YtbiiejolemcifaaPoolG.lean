/- pool.Charge, whole. -/
import Derived.Test.YtbiiejolemcifaaPoolF
namespace Go.Proofs.Ytbiiejolemcifaa
open Go.RowKit

theorem asked_ok {bs : List Int} {c d k am : Int} (h : askedE bs c d am [k] = 0) : rightP bs c d = true ∧ 1 ≤ k ∧ k ≤ bs.length ∧ 0 ≤ am ∧ am ≤ 1000000000000000 := by
  unfold askedE at h
  cases hr : rightP bs c d with
  | false => rw [hr] at h; simp at h
  | true =>
    rw [hr] at h
    cases hb : badK bs.length [k] with
    | true => rw [hb] at h; simp at h
    | false =>
      rw [hb] at h
      cases hm : may0 am with
      | false => rw [hm] at h; simp at h
      | true =>
        have := may0_iff.1 hm
        simp [badK] at hb
        exact ⟨rfl, by omega, by omega, this.1, this.2⟩

theorem poolChargeN_any (v : Value) (bs : List Int) (c d k am : Int) (s : List Int × Int × Int × Int) (hs : Hid (chargeS bs c d k am = s)) (hlen : bs.length ≤ 1000) (w : World) (hv : Sl .i64 w v bs) :
    Calls Try.prog 16 #[.agg #[v, .int .i64 c, .int .i64 d], .int .i64 k, .int .i64 am] w (RetPosN s w) := by
  have hs := hs.out
  subst hs
  unfold chargeS
  by_cases he : askedE bs c d am [k] = 0
  · rw [if_neg (by simpa using he)]
    obtain ⟨hr, hk1, hk2, ha1, ha2⟩ := asked_ok he
    obtain ⟨i, rfl⟩ : ∃ i : Nat, k = (i : Int) + 1 := ⟨(k - 1).toNat, by omega⟩
    have hi : i < bs.length := by omega
    have hit : ((i : Int) + 1 - 1).toNat = i := by omega
    rw [hit]
    obtain ⟨⟨hc1, hc2⟩, hm⟩ := rightP_may hr
    obtain ⟨hy1, hy2⟩ := hm i hi
    obtain ⟨y, hy⟩ : ∃ y, bs.getD i 0 = y := ⟨_, rfl⟩
    rw [hy] at hy1 hy2 ⊢
    by_cases hle : am ≤ c
    · have e1 : min am c = am := Int.min_eq_left hle
      rw [e1, show y + (am - am) = y by omega]
      cases hq : rightP (bs.set i y) (c - am) d with
      | true => exact poolCharge_small_ok v bs c d i am y (c - am) he hi hy hle rfl (IntWalk.wrap64_in _ ⟨by omega, by omega⟩) (IntWalk.wrap64_in _ ⟨by omega, by omega⟩) hq hlen w hv
      | false => exact poolCharge_small_bad v bs c d i am y (c - am) he hi hy hle rfl (IntWalk.wrap64_in _ ⟨by omega, by omega⟩) (IntWalk.wrap64_in _ ⟨by omega, by omega⟩) hq hlen w hv
    · have e1 : min am c = c := Int.min_eq_right (by omega)
      rw [e1, show c - c = 0 by omega]
      cases hq : rightP (bs.set i (y + (am - c))) 0 d with
      | true => exact poolCharge_great_ok v bs c d i am y (am - c) (y + (am - c)) he hi hy hle rfl rfl (IntWalk.wrap64_in _ ⟨by omega, by omega⟩) (IntWalk.wrap64_in _ ⟨by omega, by omega⟩) hq hlen w hv
      | false => exact poolCharge_great_bad v bs c d i am y (am - c) (y + (am - c)) he hi hy hle rfl rfl (IntWalk.wrap64_in _ ⟨by omega, by omega⟩) (IntWalk.wrap64_in _ ⟨by omega, by omega⟩) hq hlen w hv
  · rw [if_pos (by simpa using he)]
    exact poolCharge_no v bs c d k am _ rfl (by simpa using he) hlen w hv
theorem poolCharge_any (v : Value) (bs : List Int) (c d k am : Int) (s : List Int × Int × Int × Int) (hs : Hid (chargeS bs c d k am = s)) (hlen : bs.length ≤ 1000) (w : World) (hv : Sl .i64 w v bs) :
    Calls Try.prog 16 #[.agg #[v, .int .i64 c, .int .i64 d], .int .i64 k, .int .i64 am] w (RetPos s w) :=
  (poolChargeN_any v bs c d k am s hs hlen w hv).mono fun _ _ ⟨u, h1, h2, h3⟩ => ⟨u, h1, h2.1, h3⟩
end Go.Proofs.Ytbiiejolemcifaa
