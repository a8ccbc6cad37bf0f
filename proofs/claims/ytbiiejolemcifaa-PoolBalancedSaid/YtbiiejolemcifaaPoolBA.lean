/- pool.asked. -/
import Derived.Test.YtbiiejolemcifaaPoolB
namespace Go.Proofs.Ytbiiejolemcifaa
open Go.RowKit


/-- Is one of some numbers no tranche? -/
def badK (n : Nat) (ks : List Int) : Bool := ks.any fun k => decide (k < 1) || decide ((n : Int) < k)
/-- What is wrong with what is asked. -/
def askedE (bs : List Int) (c d am : Int) (ks : List Int) : Int := if rightP bs c d = false then 1 else if badK bs.length ks = true then 7 else if may0 am = false then 8 else 0
set_option maxHeartbeats 800000 in
theorem asked_any (v : Value) (bs : List Int) (c d am : Int) (u : Value) (ks : List Int) (e : Int) (he : Hid (askedE bs c d am ks = e)) (hlen : bs.length ≤ 1000000) (hlk : ks.length ≤ 1000000) (w : World) (hv : Sl .i64 w v bs) (hu : Sl .i64 w u ks) :
    Calls Try.prog 43 #[.agg #[v, .int .i64 c, .int .i64 d], .int .i64 am, u] w (RetB (.int .i64 e) w) := by
  have HV := Lib.hid hv
  have HU := Lib.hid hu
  obtain ⟨ao, cap, rfl, h1, ⟨h2, _⟩, h3⟩ := hv
  obtain ⟨bo, bcap, rfl, h1', ⟨h2', _⟩, h3'⟩ := hu
  clear h3 h3'
  unfold maxLen at h2 h2'
  obtain ⟨q, hq⟩ : ∃ q, rightP bs c d = q := ⟨_, rfl⟩
  have HQ := Lib.hid hq
  have HP := Lib.hid (PB.new w 25 (.slice ao bs.length cap) c d)
  obtain ⟨p0, p1, p2⟩ := HP.out
  have hb0 : Below w.heap.size w (w.alloc (.cells #[.slice ao bs.length cap, .int .i64 c, .int .i64 d] 25)) := bl_al (Below.refl _ _) _
  cases q with
  | false =>
    obtain rfl : 1 = e := by rw [← he.out]; unfold askedE; rw [if_pos hq]
    clear he hq
    go_enter Try.func43, Try.ntmps43
    go_wp2_with fail
    refine (poolRight_any _ bs c d _ HQ hlen _ (HV.out.below hb0)).mono ?_
    rintro _ w1 ⟨rfl, hb1⟩
    go_wp2
    go_ret
    exact ⟨rfl, bl_tr hb0 hb1⟩
  | true =>
    have he2 : (if badK bs.length ks = true then 7 else if may0 am = false then (8 : Int) else 0) = e := by rw [← he.out]; unfold askedE; simp only [hq, Bool.true_eq_false, if_false]
    have HE := Lib.hid he2
    clear he hq he2
    go_enter Try.func43, Try.ntmps43
    go_wp2_with fail
    refine (poolRight_any _ bs c d _ HQ hlen _ (HV.out.below hb0)).mono ?_
    rintro _ w1 ⟨rfl, hb1⟩
    obtain ⟨q0, q1, q2⟩ := HP.out.below hb1
    have hb2 := bl_tr hb0 hb1
    have HU2 := Lib.hid (HU.out.below hb2)
    clear p0 p1 p2 hb0 hb1
    go_wp2_with fail
    go_loopg [14] ks.length (fun g i wr => ∃ (k : Nat), k + g = ks.length ∧ i = .int .i64 k ∧ Hid (badK bs.length (ks.drop k) = badK bs.length ks) ∧ w1 = wr)
    case atStart => exact ⟨0, by omega, rfl, rfl, rfl⟩
    case round =>
      obtain ⟨k, hkg, rfl, hA, rfl⟩ := hrel
      cases gk with
      | zero =>
        have hlt : ¬ ((k : Int) < (ks.length : Int)) := by omega
        have hbad : badK bs.length ks = false := by
          rw [← hA.out, List.drop_of_length_le (by omega)]
          rfl
        have HE2 := HE.out
        rw [hbad, if_neg (by simp)] at HE2
        obtain ⟨m, hm⟩ : ∃ m, may0 am = m := ⟨_, rfl⟩
        have HM := Lib.hid hm
        have HE3 := Lib.hid HE2
        rw [hm] at HE3
        clear hA HE2 hbad HE hm
        cases m with
        | false =>
          obtain rfl : 8 = e := HE3.out
          go_wp2_with fail
          refine (poolMay_is HM.out _).mono ?_
          rintro _ w2 ⟨rfl, rfl⟩
          go_wp2
          go_ret
          exact ⟨rfl, hb2⟩
        | true =>
          obtain rfl : 0 = e := HE3.out
          go_wp2_with fail
          refine (poolMay_is HM.out _).mono ?_
          rintro _ w2 ⟨rfl, rfl⟩
          go_wp2
          go_ret
          exact ⟨rfl, hb2⟩
      | succ g =>
        have hlt : (k : Int) < (ks.length : Int) := by omega
        obtain ⟨b, o, y, rfl, hcell, HX⟩ := HU2.out.get (i := k) (by omega)
        have hk : k < ks.length := by omega
        have hst : badK bs.length (ks.drop k) = ((decide (y < 1) || decide ((bs.length : Int) < y)) || badK bs.length (ks.drop (k + 1))) := by
          unfold badK
          rw [List.drop_eq_getElem_cons hk, List.any_cons]
          have e1 : ks[k] = y := by rw [← HX.out]; simp [List.getD, hk]
          rw [e1]
        rw [hA.out] at hst
        have HST := Lib.hid hst
        clear hst hA
        by_cases y1 : y < 1
        · obtain rfl : 7 = e := by rw [← HE.out, HST.out]; simp [y1]
          clear HST HE
          go_wp2
          go_ret
          exact ⟨rfl, hb2⟩
        · by_cases y2 : (bs.length : Int) < y
          · obtain rfl : 7 = e := by rw [← HE.out, HST.out]; simp [y2]
            clear HST HE
            go_wp2
            go_ret
            exact ⟨rfl, hb2⟩
          · have hA2 : Hid (badK bs.length (ks.drop (k + 1)) = badK bs.length ks) := by
              have := HST.out
              simp only [y1, y2, decide_false, Bool.or_self, Bool.false_or] at this
              exact this.symm
            clear HST
            go_wp2
            go_roundg g
            case measure => omega
            case rel => exact ⟨k + 1, by omega, by go_num, hA2, rfl⟩
end Go.Proofs.Ytbiiejolemcifaa
