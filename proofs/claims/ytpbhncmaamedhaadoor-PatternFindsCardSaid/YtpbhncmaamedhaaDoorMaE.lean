import Derived.Test.YtpbhncmaamedhaaDoorMaD
import Derived.Lib.Strings
namespace Go.Proofs.YtpbhncmaamedhaaDoor
open Go.RowKit Go.Proofs.Lexi

theorem bytesOf_extract (s : ByteArray) (a b : Nat) : bytesOf (s.extract a b) = ((bytesOf s).drop a).take (b - a) := by
  unfold bytesOf
  rw [← Lib.toList_data, Lib.extract_toList, ← List.map_drop, ← List.map_take]
theorem bytesOf_inj {s t : ByteArray} (h : bytesOf s = bytesOf t) : s = t := by
  have h2 : s.data.toList = t.data.toList := by
    have inj : ∀ (a b : List UInt8), a.map UInt8.toNat = b.map UInt8.toNat → a = b := by
      intro a
      induction a with
      | nil => intro b h; cases b with | nil => rfl | cons _ _ => cases h
      | cons x a ih =>
        intro b h
        cases b with
        | nil => cases h
        | cons y b =>
          simp only [List.map_cons, List.cons.injEq] at h
          rw [UInt8.toNat_inj.1 h.1, ih b h.2]
    exact inj _ _ h
  exact ByteArray.ext (Array.toList_inj.1 h2)
/-- Does the string s begin with t? -/
def prefB (s t : ByteArray) : Bool := (bytesOf t).isPrefixOf (bytesOf s)
theorem isPrefixOf_map (a b : List UInt8) : (a.map UInt8.toNat).isPrefixOf (b.map UInt8.toNat) = a.isPrefixOf b := by
  induction a generalizing b with
  | nil => cases b <;> rfl
  | cons x a ih =>
    cases b with
    | nil => rfl
    | cons y b =>
      simp only [List.map_cons, List.isPrefixOf]
      rw [ih]
      congr 1
      rw [Bool.eq_iff_iff]
      simp only [beq_iff_eq]
      exact UInt8.toNat_inj
theorem prefB_raw (s p : ByteArray) : prefB s p = Lib.hasPrefix s.data.toList p.data.toList := by
  unfold prefB bytesOf Lib.hasPrefix
  exact isPrefixOf_map _ _
set_option maxHeartbeats 1000000 in
theorem prefix_in (s p : ByteArray) (w : World) : Calls Tryd.prog 91 #[.string s, .string p] w fun e w' => e = .returned (.bool (prefB s p)) ∧ w = w' := by
  rw [prefB_raw, ← Lib.hasPrefix_raw]
  go_enter Tryd.func91, Tryd.ntmps91
  go_wp2
  · rename_i h
    go_ret
    refine ⟨?_, rfl⟩
    simp [h]
  · rename_i h
    go_ret
    refine ⟨?_, rfl⟩
    simp [h]
set_option maxHeartbeats 1000000 in
theorem prefix_c (s p : ByteArray) (w : World) : Calls Tryd.prog 72 #[.string s, .string p] w fun e w' => e = .returned (.bool (prefB s p)) ∧ w = w' := by
  go_enter Tryd.func72, Tryd.ntmps72
  go_wp2_with (go_at_call 91; refine (prefix_in _ _ _).mono ?_; rintro e w' ⟨rfl, rfl⟩)
  go_ret
  exact ⟨rfl, rfl⟩

set_option maxRecDepth 100000 in
set_option maxHeartbeats 4000000 in
theorem single_m {E : MEnv} (ok : MOK E) (hwf : WfItems E.K st0 E.items) {j : Nat} (hj : j < E.items.length) (hs : (itemAt E j).sets = true) (hm : MatchOK E (j + 1)) {w : World} {n : Nat} {cs : List ACap} (h : MSt E w n cs) (hn : n ≤ maxSteps) (a b : Int) (i : Nat) (hi : i ≤ E.s.size) (ha : a = j) (hb : b = i) (hco : CapW E (j + 1) i cs)
    (R : MR) (hR : R = singleRun (bytesOf E.s) (itemAt E j).one (itemAt E j).how (nextM E j) i (n, cs)) :
    Calls Tryd.prog 73 #[.pointer (some ⟨E.mb, 0, none⟩), .int .i64 a, .int .i64 b] w (MPost E w R) := by
  subst ha hb
  obtain ⟨g, cap, hv, hg, hcell⟩ := ok.row hj
  have m0 : w.cell? ⟨E.mb, 0, none⟩ = some (.slice (some ⟨g, 0, none⟩) E.items.length cap) := by rw [cell_of_heap h.hm, hv]; rfl
  have hl := ok.len
  have hsl := ok.sl
  obtain ⟨hw, hhw⟩ : ∃ hw, hw = (itemAt E j).how := ⟨_, rfl⟩
  have c5 : w.cell? ⟨g, j * 6 + 5, none⟩ = some (.int .u8 hw) := by have := hcell w n cs h 5 (by omega); rw [hhw]; exact this
  rw [← hhw] at hR
  have HB := Lib.hid (belongs_c ok hj hs h (j : Int) (i : Int) i rfl rfl)
  have H := Lib.hid h
  have HS := Lib.hid hs
  have HCO := Lib.hid hco
  have HWF := Lib.hid hwf
  clear hv hcell h hs hhw hco hwf
  by_cases e42 : hw = 42
  · have t42 : ((hw : Int) == 42) = true := by rw [e42]; rfl
    have HR := Lib.hid (show R = manyM (bytesOf E.s) (itemAt E j).one (nextM E j) i 0 (n, cs) from by rw [hR]; unfold singleRun; rw [if_pos e42])
    clear hR e42
    go_enter Tryd.func73, Tryd.ntmps73
    go_wp2_with fail
    refine (many_c ok HWF.out hj HS.out hm H.out hn _ _ _ i 0 hi rfl rfl rfl (by omega) HCO.out R HR.out).mono ?_
    intro e w9 hpost
    obtain ⟨x, bb, rfl⟩ := hpost.shape
    have HPO := Lib.hid hpost
    clear hpost
    go_wp2
    go_ret2
    exact HPO.out
  · have t42 : ((hw : Int) == 42) = false := by rw [beq_eq_false_iff_ne]; omega
    by_cases e43 : hw = 43
    · have t43 : ((hw : Int) == 43) = true := by rw [e43]; rfl
      have HR := Lib.hid (show R = manyM (bytesOf E.s) (itemAt E j).one (nextM E j) i 1 (n, cs) from by rw [hR]; unfold singleRun; rw [if_neg e42, if_pos e43])
      clear hR e42 e43
      go_enter Tryd.func73, Tryd.ntmps73
      go_wp2_with fail
      refine (many_c ok HWF.out hj HS.out hm H.out hn _ _ _ i 1 hi rfl rfl rfl (by omega) HCO.out R HR.out).mono ?_
      intro e w9 hpost
      obtain ⟨x, bb, rfl⟩ := hpost.shape
      have HPO := Lib.hid hpost
      clear hpost
      go_wp2
      go_ret2
      exact HPO.out
    · have t43 : ((hw : Int) == 43) = false := by rw [beq_eq_false_iff_ne]; omega
      by_cases e45 : hw = 45
      · have t45 : ((hw : Int) == 45) = true := by rw [e45]; rfl
        have HR := Lib.hid (show R = fewM (itemAt E j).one (nextM E j) ((bytesOf E.s).drop i) i (n, cs) from by rw [hR]; unfold singleRun; rw [if_neg e42, if_neg e43, if_pos e45])
        clear hR e42 e43 e45
        go_enter Tryd.func73, Tryd.ntmps73
        go_wp2_with fail
        refine (few_c ok HWF.out hj HS.out hm H.out hn _ _ i hi rfl rfl HCO.out R HR.out).mono ?_
        intro e w9 hpost
        obtain ⟨x, bb, rfl⟩ := hpost.shape
        have HPO := Lib.hid hpost
        clear hpost
        go_wp2
        go_ret2
        exact HPO.out
      · have t45 : ((hw : Int) == 45) = false := by rw [beq_eq_false_iff_ne]; omega
        by_cases e63 : hw = 63
        · have t63 : ((hw : Int) == 63) = true := by rw [e63]; rfl
          have HR := Lib.hid (show R = optM (bytesOf E.s) (itemAt E j).one (nextM E j) i (n, cs) from by rw [hR]; unfold singleRun; rw [if_neg e42, if_neg e43, if_neg e45, if_pos e63])
          clear hR e42 e43 e45 e63
          cases hbl : belongsM (bytesOf E.s) (itemAt E j).one i with
          | true =>
            rw [hbl] at HB
            have hlt : i < E.s.size := by have := belongsM_lt hbl; rw [bytesOf_length] at this; exact this
            have HBL := Lib.hid hbl
            clear hbl
            go_enter Tryd.func73, Tryd.ntmps73
            go_wp2_with (go_at_call 94; refine HB.out.mono ?_; rintro e w' ⟨rfl, rfl⟩)
            refine (hm _ n cs _ _ (i + 1) H.out.drew hn (by omega) (HCO.out.mono (by omega)) (by omega) (by omega)).mono ?_
            rintro e w1 ⟨hF2, hp⟩
            have HF2 := Lib.hid ((Fr.refl E w).drew.trans hF2)
            clear hF2
            cases hr : nextM E j (i + 1) (n, cs) with
            | none =>
              rw [show matchM (bytesOf E.s) E.fin (E.items.drop (j + 1)) (i + 1) (n, cs) = none from hr] at hp
              obtain ⟨x, n', cs', rfl, hn3, hn4, h2⟩ := hp
              have HG := Lib.hid (show R = none from by rw [HR.out]; unfold optM; rw [HBL.out, hr]; rfl)
              have m7 : w1.cell? ⟨E.mb, 7, none⟩ = some (.func (.func 53) #[] #[.pointer (some ⟨E.nb, 0, none⟩)]) := by rw [cell_of_heap h2.hm]; rfl
              have H2 := Lib.hid h2
              have HV := Lib.hid (over_c h2)
              have HDD := Lib.hid (decide_eq_true hn3)
              clear hr h2
              go_wp2_with (go_at_call 53; refine HV.out.mono ?_; rintro e w' ⟨rfl, rfl⟩; rw [HDD.out])
              go_ret2
              exact mp_over HG.out HF2.out hn3 hn4 H2.out
            | some qq =>
              obtain ⟨o, n', cs'⟩ := qq
              rw [show matchM (bytesOf E.s) E.fin (E.items.drop (j + 1)) (i + 1) (n, cs) = some (o, (n', cs')) from hr] at hp
              cases o with
              | some e =>
                obtain ⟨rfl, hn3, hk2, h2⟩ := hp
                have HG := Lib.hid (show R = some (some e, (n', cs')) from by rw [HR.out]; unfold optM; rw [HBL.out, hr]; rfl)
                have H2 := Lib.hid h2
                clear hr h2
                go_wp2
                go_ret2
                exact mp_yes HG.out HF2.out hn3 hk2 H2.out
              | none =>
                obtain ⟨x, rfl, hn3, h2⟩ := hp
                have hcs := next_same HWF.out (by omega) (HCO.out.mono (by omega)) hr
                subst hcs
                have HG := Lib.hid (show R = nextM E j i (n', cs) from by rw [HR.out]; unfold optM; rw [HBL.out, hr]; rfl)
                have m7 : w1.cell? ⟨E.mb, 7, none⟩ = some (.func (.func 53) #[] #[.pointer (some ⟨E.nb, 0, none⟩)]) := by rw [cell_of_heap h2.hm]; rfl
                have H2 := Lib.hid h2
                have HV := Lib.hid (over_c h2)
                have HDD := Lib.hid (decide_eq_false (show ¬ maxSteps < n' by omega))
                clear hr h2
                go_wp2_with (go_at_call 53; refine HV.out.mono ?_; rintro e w' ⟨rfl, rfl⟩; rw [HDD.out])
                refine (hm _ n' cs _ _ i H2.out hn3 hi HCO.out (by omega) rfl).mono ?_
                intro e w9 hpost
                obtain ⟨x, bb, rfl⟩ := hpost.shape
                have HPO := Lib.hid hpost
                clear hpost
                go_wp2
                go_ret2
                exact (by rw [HG.out]; exact HPO.out.after HF2.out)
          | false =>
            rw [hbl] at HB
            have HG := Lib.hid (show R = nextM E j i (n, cs) from by rw [HR.out]; unfold optM; rw [hbl]; rfl)
            clear hbl
            go_enter Tryd.func73, Tryd.ntmps73
            go_wp2_with (go_at_call 94; refine HB.out.mono ?_; rintro e w' ⟨rfl, rfl⟩)
            refine (hm _ n cs _ _ i H.out.drew hn hi HCO.out (by omega) rfl).mono ?_
            intro e w9 hpost
            obtain ⟨x, bb, rfl⟩ := hpost.shape
            have HPO := Lib.hid hpost
            clear hpost
            go_wp2
            go_ret2
            exact (by rw [HG.out]; exact HPO.out.after (Fr.refl E w).drew)
        · have t63 : ((hw : Int) == 63) = false := by rw [beq_eq_false_iff_ne]; omega
          have HR := Lib.hid (show R = if belongsM (bytesOf E.s) (itemAt E j).one i then nextM E j (i + 1) (n, cs) else some (none, (n, cs)) from by rw [hR]; unfold singleRun; rw [if_neg e42, if_neg e43, if_neg e45, if_neg e63])
          clear hR e42 e43 e45 e63
          cases hbl : belongsM (bytesOf E.s) (itemAt E j).one i with
          | true =>
            rw [hbl] at HB
            have hlt : i < E.s.size := by have := belongsM_lt hbl; rw [bytesOf_length] at this; exact this
            have HG := Lib.hid (show R = nextM E j (i + 1) (n, cs) from by rw [HR.out, hbl]; rfl)
            clear hbl
            go_enter Tryd.func73, Tryd.ntmps73
            go_wp2_with (go_at_call 94; refine HB.out.mono ?_; rintro e w' ⟨rfl, rfl⟩)
            refine (hm _ n cs _ _ (i + 1) H.out.drew hn (by omega) (HCO.out.mono (by omega)) (by omega) (by omega)).mono ?_
            intro e w9 hpost
            obtain ⟨x, bb, rfl⟩ := hpost.shape
            have HPO := Lib.hid hpost
            clear hpost
            go_wp2
            go_ret2
            exact (by rw [HG.out]; exact HPO.out.after (Fr.refl E w).drew)
          | false =>
            rw [hbl] at HB
            have HG := Lib.hid (show R = some (none, (n, cs)) from by rw [HR.out, hbl]; rfl)
            clear hbl
            go_enter Tryd.func73, Tryd.ntmps73
            go_wp2_with (go_at_call 94; refine HB.out.mono ?_; rintro e w' ⟨rfl, rfl⟩)
            go_ret2
            exact mp_no HG.out (Fr.refl E w).drew hn H.out.drew
end Go.Proofs.YtpbhncmaamedhaaDoor
