/- InterestTells. -/
import Derived.Test.YtllblmoojohffaaRef13B
import Derived.Test.YtllblmoojohffaaOwn64
import Derived.Test.YtllblmoojohffaaKept64
namespace Go.Proofs.Ytllblmoojohffaa
open Go.RowKit EvM

set_option maxRecDepth 100000 in
set_option maxHeartbeats 3200000 in
theorem interestTells_any (v u : Value) (bs rs : List Int) (w : World) (hv : Sl .i64 w v bs) (hu : Sl .i64 w u rs) :
    Calls Try.prog 8 #[v, u] w (RetB (.bool true) w) := by
  have HV := Lib.hid hv
  have HU := Lib.hid hu
  obtain ⟨ao, cap, rfl, h1, ⟨h2, _⟩, h3⟩ := hv
  obtain ⟨ao', cap', rfl, h1', ⟨h2', _⟩, h3'⟩ := hu
  clear h3 h3'
  unfold maxLen at h2 h2'
  by_cases hn1 : bs.length ≤ 300
  · have d1 : ¬ (300 : Int) < (bs.length : Int) := by omega
    have d1' : decide ((300 : Int) < (bs.length : Int)) = false := decide_eq_false d1
    by_cases hn2 : rs.length ≤ 300
    · have d2' : decide ((300 : Int) < (rs.length : Int)) = false := by simp; omega
      obtain ⟨hi, lo, e, hE⟩ : ∃ hi lo e, exactR bs rs = (hi, lo, e) := ⟨_, _, _, rfl⟩
      obtain ⟨x, f, hI⟩ : ∃ x f, interR bs rs = (x, f) := ⟨_, _, rfl⟩
      obtain ⟨y, g, hA⟩ : ∃ y g, averR bs = (y, g) := ⟨_, _, rfl⟩
      have HE := Lib.hid hE
      have HI := Lib.hid hI
      have HA := Lib.hid hA
      have HN := Lib.hid (And.intro hn1 hn2)
      clear hE hI hA hn1 hn2 d1
      go_enter Try.func8, Try.ntmps8
      go_wp2_with fail
      refine (own64_any _ bs 71 _ HV.out (by have := HN.out.1; omega)).mono ?_
      rintro _ w1 ⟨p, rfl, hp1, hb1⟩
      have HP1 := Lib.hid hp1
      have HB1 := Lib.hid hb1
      clear hp1 hb1
      go_wp2_with fail
      refine (own64_any _ rs 71 _ (HU.out.below HB1.out) (by have := HN.out.2; omega)).mono ?_
      rintro _ w2 ⟨q, rfl, hq2, hb2⟩
      have HB2 := Lib.hid (bl_tr HB1.out hb2)
      have HP2 := Lib.hid (HP1.out.below hb2)
      have HQ2 := Lib.hid hq2
      clear hq2 hb2 HB1 HP1
      go_wp2_with fail
      refine (interExact_any _ _ bs rs hi lo e HE _ HP2.out.sl HQ2.out.sl).mono ?_
      rintro _ w3 ⟨rfl, hb3⟩
      have HB3 := Lib.hid (bl_tr HB2.out hb3)
      have HP3 := Lib.hid (HP2.out.below hb3)
      have HQ3 := Lib.hid (HQ2.out.below hb3)
      clear hb3 HB2 HP2 HQ2
      go_wp2_with fail
      refine (refExact13_any _ _ bs rs hi lo e HE _ (HV.out.below HB3.out) (HU.out.below HB3.out)).mono ?_
      rintro _ w4 ⟨rfl, hb4⟩
      have HB4 := Lib.hid (bl_tr HB3.out hb4)
      have HP4 := Lib.hid (HP3.out.below hb4)
      have HQ4 := Lib.hid (HQ3.out.below hb4)
      clear hb4 HB3 HP3 HQ3
      go_wp2_with fail
      refine (interOf_any _ _ bs rs x f HI _ HP4.out.sl HQ4.out.sl).mono ?_
      rintro _ w5 ⟨rfl, hb5⟩
      have HB5 := Lib.hid (bl_tr HB4.out hb5)
      have HP5 := Lib.hid (HP4.out.below hb5)
      have HQ5 := Lib.hid (HQ4.out.below hb5)
      clear hb5 HB4 HP4 HQ4
      go_wp2_with fail
      refine (refOf13_any _ _ bs rs x f HI _ (HV.out.below HB5.out) (HU.out.below HB5.out)).mono ?_
      rintro _ w6 ⟨rfl, hb6⟩
      have HB6 := Lib.hid (bl_tr HB5.out hb6)
      have HP6 := Lib.hid (HP5.out.below hb6)
      have HQ6 := Lib.hid (HQ5.out.below hb6)
      clear hb6 HB5 HP5 HQ5
      go_wp2_with fail
      refine (interAver_any _ bs y g (by have := HN.out.1; omega) HA _ HP6.out.sl).mono ?_
      rintro _ w7 ⟨rfl, hb7⟩
      have HB7 := Lib.hid (bl_tr HB6.out hb7)
      have HP7 := Lib.hid (HP6.out.below hb7)
      have HQ7 := Lib.hid (HQ6.out.below hb7)
      clear hb7 HB6 HP6 HQ6
      go_wp2_with fail
      refine (refAver13_any _ bs y g (by have := HN.out.1; omega) HA _ (HV.out.below HB7.out)).mono ?_
      rintro _ w8 ⟨rfl, hb8⟩
      have HB8 := Lib.hid (bl_tr HB7.out hb8)
      have HP8 := Lib.hid (HP7.out.below hb8)
      have HQ8 := Lib.hid (HQ7.out.below hb8)
      clear hb8 HB7 HP7 HQ7
      go_wp2_with fail
      refine (awake13_any _).mono ?_
      rintro _ w9 ⟨rfl, hb9⟩
      have HB9 := Lib.hid (bl_tr HB8.out hb9)
      have HP9 := Lib.hid (HP8.out.below hb9)
      have HQ9 := Lib.hid (HQ8.out.below hb9)
      clear hb9 HB8 HP8 HQ8
      go_wp2_with fail
      refine (kept64_true _ _ bs 71 _ HP9.out (HV.out.below HB9.out) (by have := HN.out.1; omega)).mono ?_
      rintro _ w10 ⟨rfl, hb10⟩
      have HB10 := Lib.hid (bl_tr HB9.out hb10)
      have HQ10 := Lib.hid (HQ9.out.below hb10)
      clear hb10 HB9 HP9 HQ9
      go_wp2_with fail
      refine (kept64_true _ _ rs 71 _ HQ10.out (HU.out.below HB10.out) (by have := HN.out.2; omega)).mono ?_
      rintro _ w11 ⟨rfl, hb11⟩
      have hbf := bl_tr HB10.out hb11
      clear hb11 HB10 HQ10 HV HU HE HI HA HN
      go_wp2
      go_ret
      exact ⟨rfl, hbf⟩
    · have d2' : decide ((300 : Int) < (rs.length : Int)) = true := by simp; omega
      go_enter Try.func8, Try.ntmps8
      go_wp2_with fail
      refine (awake13_any _).mono ?_
      rintro _ w9 ⟨rfl, hb9⟩
      go_wp2
      go_ret
      exact ⟨rfl, hb9⟩
  · have d1 : (300 : Int) < (bs.length : Int) := by omega
    have d1' : decide ((300 : Int) < (bs.length : Int)) = true := decide_eq_true d1
    go_enter Try.func8, Try.ntmps8
    go_wp2_with fail
    refine (awake13_any _).mono ?_
    rintro _ w9 ⟨rfl, hb9⟩
    go_wp2
    go_ret
    exact ⟨rfl, hb9⟩
end Go.Proofs.Ytllblmoojohffaa
