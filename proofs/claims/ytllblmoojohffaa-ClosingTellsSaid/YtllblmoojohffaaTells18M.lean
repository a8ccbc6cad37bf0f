/- closing.Close and the document's answer say the same, whatever comes in. -/
import Derived.Test.YtllblmoojohffaaRefCloseB
namespace Go.Proofs.Ytllblmoojohffaa
open Go.RowKit

/-- A statement, a position, and the reason. -/
structure CloseA where
  n : Int
  fr : Int
  til : Int
  du : Int
  ls : List (Int × Int × Int)
  tot : Int
  cr : Int
  mn : Int
  g : Bool
  bs : List Int
  pc : Int
  pd : Int
  e : Int
def RetA (a : CloseA) : World → Ending → World → Prop := RetCloseN a.n a.fr a.til a.du a.ls a.tot a.cr a.mn a.g a.bs a.pc a.pd a.e
theorem close_both (v : Value) (ts : List (Int × Bool)) (lim cyc dued minf minp start n fr til : Int) (bv : Value) (bs : List Int) (c d : Int) (rv : Value) (rs : List Int) (nv : Value) (ns : List Int) (g : Bool) (HLT : ts.length ≤ 12) : ∃ a : CloseA,
    (∀ w, TrS w v ts → Sl .i64 w bv bs → Sl .i64 w rv rs → Sl .i64 w nv ns → Calls Try.prog 27 #[.agg #[.int .i64 lim, v, .int .i64 cyc, .int .i64 dued, .int .i64 minf, .int .i64 minp, .int .i64 start], .int .i64 n, .agg #[.int .i64 fr, .int .i64 til], .agg #[bv, .int .i64 c, .int .i64 d], rv, nv, .bool g] w (RetA a w)) ∧
    (∀ w, TrS w v ts → Sl .i64 w bv bs → Sl .i64 w rv rs → Sl .i64 w nv ns → Calls Try.prog 36 #[.agg #[.int .i64 lim, v, .int .i64 cyc, .int .i64 dued, .int .i64 minf, .int .i64 minp, .int .i64 start], .int .i64 n, .agg #[.int .i64 fr, .int .i64 til], .agg #[bv, .int .i64 c, .int .i64 d], rv, nv, .bool g] w (RetA a w)) := by
  have no : ∀ E, CloseNo ts lim cyc dued minf minp start n fr til bs c d rs ns E → ∃ a : CloseA,
    (∀ w, TrS w v ts → Sl .i64 w bv bs → Sl .i64 w rv rs → Sl .i64 w nv ns → Calls Try.prog 27 #[.agg #[.int .i64 lim, v, .int .i64 cyc, .int .i64 dued, .int .i64 minf, .int .i64 minp, .int .i64 start], .int .i64 n, .agg #[.int .i64 fr, .int .i64 til], .agg #[bv, .int .i64 c, .int .i64 d], rv, nv, .bool g] w (RetA a w)) ∧
    (∀ w, TrS w v ts → Sl .i64 w bv bs → Sl .i64 w rv rs → Sl .i64 w nv ns → Calls Try.prog 36 #[.agg #[.int .i64 lim, v, .int .i64 cyc, .int .i64 dued, .int .i64 minf, .int .i64 minp, .int .i64 start], .int .i64 n, .agg #[.int .i64 fr, .int .i64 til], .agg #[bv, .int .i64 c, .int .i64 d], rv, nv, .bool g] w (RetA a w)) := fun E hE =>
    ⟨⟨0, 0, 0, 0, [], 0, 0, 0, false, [], 0, 0, E⟩,
     fun w hv hb hr hn => close_noN v ts lim cyc dued minf minp start n fr til bv bs c d rv rs nv ns g (by omega) E hE w hv hb hr hn,
     fun w hv hb hr hn => refClose_noN v ts lim cyc dued minf minp start n fr til bv bs c d rv rs nv ns g (by omega) E hE w hv hb hr hn⟩
  cases hrt : rightT lim ts cyc dued minf minp start with
  | false => exact no 6 (.inl ⟨hrt, rfl⟩)
  | true =>
    cases ha : argsOk ts.length n fr til bs.length rs.length with
    | false => exact no 1 (.inr (.inl ⟨hrt, ha, rfl⟩))
    | true =>
      cases hra : rs.any rateBad with
      | true => exact no 1 (.inr (.inr ⟨⟨hrt, ha⟩, .inl ⟨hra, rfl⟩⟩))
      | false =>
        obtain ⟨L, C, D, E, hbs⟩ : ∃ L C D E, bearS bs c d ns = (L, C, D, E) := ⟨_, _, _, _, rfl⟩
        by_cases hE : E = 0
        · subst hE
          have hlen : L.length = bs.length ∧ ns.length = bs.length := by
            unfold bearS at hbs
            split at hbs
            · injection hbs with _ h; injection h with _ h; injection h with _ h; cases h
            · split at hbs
              · injection hbs with _ h; injection h with _ h; injection h with _ h; cases h
              · rename_i hln
                split at hbs
                · injection hbs with _ h; injection h with _ h; injection h with _ h; cases h
                · split at hbs
                  · injection hbs with h _
                    exact ⟨by rw [← h, bearSt_len], by simpa using hln⟩
                  · injection hbs with _ h; injection h with _ h; injection h with _ h; cases h
          obtain ⟨mn, x, hmn⟩ : ∃ mn x, leastR (rightT lim ts cyc dued minf minp start) minf minp (totalP L C D) = (mn, x) := ⟨_, _, rfl⟩
          have hdu : -9000000000 ≤ til + dued ∧ til + dued ≤ 9000000000 := by
            obtain ⟨_, _, _, h4, _⟩ := argsOk_iff.1 ha
            have h5 := hrt
            unfold rightT at h5
            simp only [Bool.and_eq_true, betw_iff] at h5
            unfold dayB at h4
            simp at h4
            omega
          exact ⟨⟨n, fr, til, til + dued, zip3 L ns rs, totalP L C D, C, mn, g, L, C, mn, 0⟩,
            fun w hv hb hr hn => close_yesN v ts lim cyc dued minf minp start n fr til bv bs c d rv rs nv ns g (by omega) hrt ha hra L C D hbs hlen.1 hlen.2 _ rfl mn x hmn _ rfl hdu w hv hb hr hn,
            fun w hv hb hr hn => refClose_yesN v ts lim cyc dued minf minp start n fr til bv bs c d rv rs nv ns g (by omega) hrt ha hra L C D hbs hlen.1 hlen.2 _ rfl mn x hmn _ rfl hdu w hv hb hr hn⟩
        · exact no E (.inr (.inr ⟨⟨hrt, ha⟩, .inr ⟨hra, hE, L, C, D, hbs⟩⟩))
end Go.Proofs.Ytllblmoojohffaa
