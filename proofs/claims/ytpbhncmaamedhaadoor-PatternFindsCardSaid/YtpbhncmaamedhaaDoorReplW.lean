import Derived.Test.YtpbhncmaamedhaaDoorRepl
namespace Go.Proofs.YtpbhncmaamedhaaDoor
open Go.RowKit Go.Proofs.Lexi

theorem all_err_of {w w' : World} {R : Except Nat (List AM)} {c : Nat} {e : Ending} (h : AllPost w R e w') (hR : R = .error c) : Below w.heap.size w w' ∧ e = .returned (.tuple #[.slice none 0 0, .int .i64 (c : Int)]) := by subst hR; exact h
theorem all_ok_of {w w' : World} {R : Except Nat (List AM)} {l : List AM} {e : Ending} (h : AllPost w R e w') (hR : R = .ok l) : Below w.heap.size w w' ∧ ∃ ao cap us, e = .returned (.tuple #[.slice ao l.length cap, .int .i64 0]) ∧ MatchesV w' w.heap.size (.slice ao l.length cap) l us := by subst hR; exact h
theorem cut_len {most : Int} {ms : List AM} : (cutM most ms).length ≤ ms.length := by
  unfold cutM; split
  · rw [List.length_take]; omega
  · exact Nat.le_refl _
theorem cut_get {most : Int} {ms : List AM} {k : Nat} (hk : k < (cutM most ms).length) : (cutM most ms).getD k zeroAM = ms.getD k zeroAM := by
  unfold cutM at *
  split
  · rename_i h
    rw [if_pos h] at hk
    simp at hk
    rw [List.getD_eq_getElem?_getD, List.getElem?_take_of_lt (by omega), List.getD_eq_getElem?_getD]
  · rfl
theorem cut_zero (ms : List AM) : (cutM 0 ms).length = 0 := by
  unfold cutM
  split
  · simp
  · rename_i h
    cases ms with
    | nil => rfl
    | cons m ms => exact absurd ⟨Int.le_refl _, by simp⟩ h
def afterF (k : List Nat → Except Nat (List Nat)) : Except Nat (List Nat) → Except Nat (List Nat)
  | .error e => .error e
  | .ok T => k T
theorem replGo_cons (l repl : List Nat) (m : AM) (r : List AM) (at_ : Int) (out : List Nat) : replGo l repl (m :: r) at_ out = afterF (fun T => replGo l repl r m.t (out ++ subM l at_ m.f ++ T)) (fillM l repl m) := by
  conv => lhs; unfold replGo
  cases fillM l repl m <;> rfl
theorem cut_ord {len : Int} {a : Int} {most : Int} {ms : List AM} (h : OrdM len a ms) : OrdM len a (cutM most ms) := by
  unfold cutM; split
  · exact h.take _
  · exact h
set_option maxRecDepth 100000 in
set_option maxHeartbeats 4000000 in
theorem Replace_c (s p repl : ByteArray) (most : Int) (w : World) (hp : p.size ≤ 5000) (hs : s.size ≤ 10000) (hrs : repl.size ≤ 100000000 ∨ most = 0) (htab : Tab w) (R : Except Nat (List Nat × Nat)) (hR : R = replM (bytesOf s) (bytesOf p) (bytesOf repl) most) :
    Calls Tryd.prog 26 #[.string s, .string p, .string repl, .int .i64 most] w (ReplPost w R) := by
  obtain ⟨RA, hRA⟩ : ∃ RA, RA = allM (bytesOf s) (bytesOf p) := ⟨_, rfl⟩
  have HA := Lib.hid (All_c s p w hp (by omega) RA hRA)
  unfold replM at hR
  rw [← hRA] at hR
  have HTAB := Lib.hid htab
  clear htab
  cases hra : RA with
  | error c =>
    have hc : ((c : Int) != 0) = true := by rw [hra] at hRA; have := allM_err hRA.symm; rw [bne_iff_ne]; omega
    have HR := Lib.hid (show R = .error c from by rw [hR, hra])
    have HRA := Lib.hid hra
    clear hR hRA hra
    go_enter Tryd.func26, Tryd.ntmps26
    go_wp2_with fail
    refine HA.out.mono ?_
    intro e w1 hpo
    obtain ⟨hb1, rfl⟩ := all_err_of hpo HRA.out
    have HB := Lib.hid hb1
    clear hpo hb1
    go_wp2
    go_ret3
    exact rep_err HR.out HB.out
  | ok ms =>
    have hgood : ∀ m ∈ ms, GoodAM s.size m := by have := allM_good (l := bytesOf s) (p := bytesOf p) (ms := ms) (by rw [← hRA, hra]); rw [bytesOf_length] at this; exact this
    have HGOOD := Lib.hid hgood
    clear hgood
    have hord := allM_ord (l := bytesOf s) (p := bytesOf p) (ms := ms) (by rw [← hRA, hra])
    rw [bytesOf_length] at hord
    obtain ⟨ho, hml⟩ := hord
    obtain ⟨cut, hcut⟩ : ∃ cut, cut = cutM most ms := ⟨_, rfl⟩
    have hcl : cut.length ≤ ms.length := by rw [hcut]; exact cut_len
    have hcg : ∀ k, k < cut.length → cut.getD k zeroAM = ms.getD k zeroAM := fun k hk => by rw [hcut] at hk ⊢; exact cut_get hk
    have hco : OrdM s.size 0 cut := by rw [hcut]; exact cut_ord ho
    have hfew : repl.size ≤ 100000000 ∨ cut.length = 0 := hrs.imp id (fun h => by rw [hcut, h]; exact cut_zero ms)
    have hR2 : R = (replGo (bytesOf s) (bytesOf repl) cut 0 []).map fun o => (o, cut.length) := by rw [hR, hra, hcut]
    obtain ⟨RG, hRG⟩ : ∃ RG, replGo (bytesOf s) (bytesOf repl) cut 0 [] = RG := ⟨_, rfl⟩
    rw [hRG] at hR2
    have HR := Lib.hid hR2
    have HRG := Lib.hid hRG
    have HRA := Lib.hid hra
    have HCG := Lib.hid hcg
    have HCO := Lib.hid hco
    have HCUT := Lib.hid hcut
    clear hR hRA hra hR2 hRG ho hcg hco hcut hrs
    -- the walk up to the loop, both ways
    have main : ∀ (w1 : World) (ao : Option Addr) (cap : Nat) (us : List Value), Below w.heap.size w w1 → MatchesV w1 w.heap.size (.slice ao ms.length cap) ms us → Hid (Tab w1) ∧ Hid (Below w.heap.size w w1) ∧ Hid (MatchesV w1 w.heap.size (.slice ao ms.length cap) ms us) ∧ Hid (ReplRel w1 s (bytesOf repl) cut RG cut.length (.int .i64 0) (.int .i64 0) (w1.alloc (.cells #[.pointer none, .slice none 0 0] 75))) := fun w1 ao cap us h1 h2 =>
      ⟨HTAB.out.mono h1 (Nat.le_refl _), h1, h2, ⟨0, 0, [], rfl, rfl, rfl, Nat.zero_le _, Nat.zero_le _, (Below.refl _ _).alloc (Nat.le_refl _) _, isB_new w1, by simp, HCO.out, HRG.out⟩⟩
    have MAIN := Lib.hid main
    clear main
    by_cases hc0 : 0 ≤ most ∧ most < (ms.length : Int)
    · obtain ⟨hc1, hc2⟩ := hc0
      obtain ⟨mo, rfl⟩ : ∃ mo : Nat, most = mo := ⟨most.toNat, by omega⟩
      have hmo : mo < ms.length := by omega
      have hcn : cut.length = mo := by rw [HCUT.out]; unfold cutM; rw [if_pos ⟨by omega, by omega⟩]; simp; omega
      have HCN := Lib.hid hcn
      clear hcn hc1 hc2
      go_enter Tryd.func26, Tryd.ntmps26
      go_wp2_with fail
      refine HA.out.mono ?_
      intro e w1 hpo
      obtain ⟨hb1, ao, cap, us, rfl, hmv⟩ := all_ok_of hpo HRA.out
      obtain ⟨HT1, HB1, HMV, HS0⟩ := MAIN.out w1 ao cap us hb1 hmv
      have hcap : ms.length ≤ cap := by
        rcases hmv.own.2 with ⟨h1, h2⟩ | ⟨_, _, _, h1, _, _, h2, _⟩
        · omega
        · injection h1 with _ _ h3; omega
      obtain ⟨g, rfl⟩ : ∃ g, ao = some ⟨g, 0, none⟩ := by
        rcases hmv.own.2 with ⟨h1, h2⟩ | ⟨g, _, _, h1, _⟩
        · omega
        · injection h1 with h1; exact ⟨g, h1⟩
      have hsz1 := hb1.size
      clear hpo hb1 hmv
      go_wp2
      go_loopg [41, 14] cut.length (fun gg vk va wr => ReplRel w1 s (bytesOf repl) cut RG gg vk va wr)
      case atStart => exact HS0.out
      case round =>
        clear HS0 MAIN
        obtain ⟨k, at_, out, rfl, rfl, rfl, hk, hat, hb, hbl, hol, hord, hgo⟩ := hrel
        have hszr := hb.size
        have hmvr := HMV.out.keep (w' := wr) (fun b h1 h2 => hb.block b h2)
        have HB := Lib.hid hb
        have HBW := Lib.hid (HB1.out.trans (hb.mono hsz1))
        have HBL := Lib.hid hbl
        have hcn := HCN.out
        have HMVR := Lib.hid hmvr
        clear hb hbl hmvr
        by_cases hlt : k < cut.length
        · have hkm : k < mo := by omega
          obtain ⟨g', ao', cap', hao, hg, hu, c0, c1, c2, hcr⟩ := HMVR.out.read (k := k) (by omega)
          have hgg : g' = g := by injection hao with hao; injection hao with hao; exact hao.symm
          subst hgg
          clear hao
          rw [drop_getD hlt, HCG.out k hlt] at hord hgo
          obtain ⟨m, hm⟩ : ∃ m, m = ms.getD k zeroAM := ⟨_, rfl⟩
          rw [← hm] at c0 c1 c2 hcr hord hgo
          have hgm : GoodAM s.size m := HGOOD.out m (by rw [hm]; simp [List.getD_eq_getElem?_getD, show k < ms.length by omega])
          have hcl16 := hgm.n16
          obtain ⟨ho1, ho2, ho3, ho4⟩ := hord
          obtain ⟨f, hf⟩ : ∃ f : Nat, m.f = f := ⟨m.f.toNat, by omega⟩
          obtain ⟨t, ht⟩ : ∃ t : Nat, m.t = t := ⟨m.t.toNat, by omega⟩
          have hrz : repl.size ≤ 100000000 := hfew.elim id (fun h => by omega)
          obtain ⟨RF, hRF⟩ : ∃ RF, RF = fillM (bytesOf s) (bytesOf repl) m := ⟨_, rfl⟩
          have hba : Below wr.heap.size wr (wr.alloc (.cells #[.int .i64 (f : Int), .int .i64 (t : Int), .slice ao' m.caps.length cap'] 29)) := (Below.refl _ _).alloc (Nat.le_refl _) _
          have hfill := Fill_c s repl (by omega) hrz m (.slice ao' m.caps.length cap') (wr.alloc (.cells #[.int .i64 (f : Int), .int .i64 (t : Int), .slice ao' m.caps.length cap'] 29)) (hcr.mono hba (Nat.le_refl _)) (by omega) ((HT1.out.mono HB.out (Nat.le_refl _)).mono hba (Nat.le_refl _)) RF hRF
          simp only [hf, ht] at hfill c0 c1 ho1 ho2 ho3 ho4
          have hgo2 : RG = afterF (fun T => replGo (bytesOf s) (bytesOf repl) (cut.drop (k + 1)) t (natsOf out ++ subM (bytesOf s) at_ f ++ T)) RF := by
            rw [hRF, ← hgo, ← hf, ← ht]; exact replGo_cons _ _ _ _ _ _
          have HFILL := Lib.hid hfill
          have HO4 := Lib.hid ho4
          have hatf : at_ ≤ f := by omega
          have hfs : f ≤ s.size := by omega
          have hts : t ≤ s.size := by omega
          have hsl := slice_run s (at_ : Int) (f : Int) at_ f rfl rfl hatf hfs
          have hss : (s.extract at_ f).size ≤ 10000 := by rw [← bytesOf_length, bytesOf_extract]; simp [bytesOf_length]; omega
          have HSS := Lib.hid hss
          have HSB := Lib.hid (sub_bytes s at_ f)
          have HRFE := Lib.hid hRF
          have HCOPY := Lib.hid (heap_new wr (.cells #[.int .i64 (f : Int), .int .i64 (t : Int), .slice ao' m.caps.length cap'] 29))
          clear hu hcr hgo hm hgm hf ht hfill ho1 ho2 ho3 ho4 hRF hba hss
          cases hrf : RF with
          | error c =>
            have tc : ((c : Int) != 0) = true := by have := HRFE.out; rw [hrf] at this; have := fillM_err this.symm; rw [bne_iff_ne]; omega
            have HRR := Lib.hid (show R = .error c from by rw [HR.out, hgo2, hrf]; rfl)
            have HRF := Lib.hid hrf
            clear hrf hgo2
            go_wp2_with fail
            refine HFILL.out.mono ?_
            intro e w2 hpo
            obtain ⟨hb2, rfl⟩ := str_err_of hpo HRF.out
            have HB2 := Lib.hid ((HBW.out.alloc (by omega) _).trans (hb2.mono (by simp; omega)))
            clear hb2 hpo
            go_wp2
            go_ret3
            exact rep_err HRR.out HB2.out
          | ok T =>
            have hT : T.length ≤ 4096 := by have := HRFE.out; rw [hrf] at this; exact fillM_small this.symm
            have HGO := Lib.hid (show replGo (bytesOf s) (bytesOf repl) (cut.drop (k + 1)) t (natsOf out ++ subM (bytesOf s) at_ f ++ T) = RG from by rw [hgo2, hrf]; rfl)
            have HRF := Lib.hid hrf
            clear hrf hgo2
            go_wp2_with fail
            refine HFILL.out.mono ?_
            intro e w2 hpo
            obtain ⟨hb2, r, hr, rfl⟩ := str_ok_of hpo HRF.out
            have hz2 := hb2.size
            simp only [World.size_alloc] at hz2
            have hcp2 : w2.heap[wr.heap.size]? = some (.cells #[.int .i64 (f : Int), .int .i64 (t : Int), .slice ao' m.caps.length cap'] 29) := (hb2.block _ (by simp)).trans HCOPY.out
            have y0 : w2.cell? ⟨wr.heap.size, 0, none⟩ = some (.int .i64 (f : Int)) := by rw [cell_of_heap hcp2]; rfl
            have hbb : Below wr.heap.size wr w2 := ((Below.refl _ _).alloc (Nat.le_refl _) _).trans (hb2.mono (by simp))
            have hbl2 := isB_ext HBL.out hbb (Nat.le_refl _)
            have hrsz := size_bytes hr
            have W1 := Lib.hid (writeString_k w1.heap.size w1.heap.size (Lib.byteCells out) (s.extract at_ f) w2 hbl2 (by rw [Lib.byteCells_length]; have := HSS.out; omega) (by omega))
            have HCP2 := Lib.hid hcp2
            have HBB := Lib.hid hbb
            have HRB := Lib.hid hr
            have HRSZ := Lib.hid hrsz
            clear hb2 hpo hcp2 hbb hbl2 hr hrsz
            go_wp2_with fail
            refine W1.out.mono ?_
            rintro e w3 ⟨⟨rfl, hbl3, hb3⟩, hk3⟩
            have hcp3 := hk3 _ _ _ _ HCP2.out (by decide) (by decide)
            have hz3 := hb3.size
            have hbl3' : Lib.IsBuilder 75 5 w1.heap.size w1.heap.size (Lib.byteCells (out ++ (s.extract at_ f).data.toList)) w3 := by rw [Lib.byteCells_append]; exact hbl3
            have hol3 : (out ++ (s.extract at_ f).data.toList).length ≤ k * 20000 + 10000 := by rw [List.length_append, data_len]; have := HSS.out; omega
            have W2 := Lib.hid (writeString_k w1.heap.size w1.heap.size (Lib.byteCells (out ++ (s.extract at_ f).data.toList)) r w3 hbl3' (by rw [Lib.byteCells_length]; have := HRSZ.out; omega) (by omega))
            have HCP3 := Lib.hid hcp3
            have HB3 := Lib.hid ((HBB.out.mono hszr).trans hb3)
            clear hbl3 hbl3' hb3 hk3 hcp3 y0
            go_wp2_with fail
            refine W2.out.mono ?_
            rintro e w4 ⟨⟨rfl, hbl4, hb4⟩, hk4⟩
            have hcp4 := hk4 _ _ _ _ HCP3.out (by decide) (by decide)
            have y1 : w4.cell? ⟨wr.heap.size, 1, none⟩ = some (.int .i64 (t : Int)) := by rw [cell_of_heap hcp4]; rfl
            have HN := Lib.hid (show ReplRel w1 s (bytesOf repl) cut RG (cut.length - (k + 1)) (.int .i64 ((k : Int) + 1)) (.int .i64 (t : Int)) w4 from
              ⟨k + 1, t, out ++ (s.extract at_ f).data.toList ++ r.data.toList, rfl, rfl, rfl, by omega, hts, HB.out.trans (HB3.out.trans hb4), by rw [Lib.byteCells_append]; exact hbl4, by rw [List.length_append, data_len]; have := HRSZ.out; omega, HO4.out, by rw [natsOf_append, natsOf_append, HSB.out, HRB.out]; exact HGO.out⟩)
            clear hbl4 hb4 hk4 hcp4
            go_wp2
            go_roundg (cut.length - (k + 1))
            case measure => omega
            case rel => exact HN.out
        · have hkm : ¬ ((k : Int) < (mo : Int)) := by omega
          have hgo2 := hgo
          rw [List.drop_eq_nil_of_le (by omega)] at hgo2
          have hgo3 : RG = if 4096 < (natsOf out ++ (bytesOf s).drop at_).length then .error 14 else .ok (natsOf out ++ (bytesOf s).drop at_) := by rw [← hgo2]; rfl
          have hex : bytesOf (s.extract at_ s.size) = (bytesOf s).drop at_ := by rw [bytesOf_extract, List.take_of_length_le (by rw [List.length_drop, bytesOf_length]; omega)]
          have hesz : (s.extract at_ s.size).size ≤ 10000 := by rw [← bytesOf_length, hex, List.length_drop, bytesOf_length]; omega
          rw [← hex, ← natsOf_append] at hgo3
          have W1 := Lib.hid (writeString_k w1.heap.size w1.heap.size (Lib.byteCells out) (s.extract at_ s.size) wr HBL.out (by rw [Lib.byteCells_length]; omega) (by omega))
          have HG3 := Lib.hid hgo3
          have hkmo : k ≤ mo := by omega
          clear hord hgo hgo2 hgo3 hex hcn
          go_wp2_with fail
          refine W1.out.mono ?_
          rintro e w3 ⟨⟨rfl, hbl3, hb3⟩, hk3⟩
          have hz3 := hb3.size
          have hbl3' : Lib.IsBuilder 75 5 w1.heap.size w1.heap.size (Lib.byteCells (out ++ (s.extract at_ s.size).data.toList)) w3 := by rw [Lib.byteCells_append]; exact hbl3
          obtain ⟨fo, hfo⟩ : ∃ fo, fo = out ++ (s.extract at_ s.size).data.toList := ⟨_, rfl⟩
          rw [← hfo] at hbl3' HG3
          have hg3 := HG3.out
          have hfl : (natsOf fo).length = fo.length := by unfold natsOf; simp
          rw [hfl] at hg3
          have LEN := Lib.hid (Tryd.Builder_Len w1.heap.size w1.heap.size (Lib.byteCells fo) w3 hbl3')
          rw [Lib.byteCells_length] at LEN
          have HBL3 := Lib.hid hbl3'
          have HB3 := Lib.hid (HBW.out.trans (hb3.mono hsz1))
          have hflen : fo.length ≤ 1000000000 := by rw [hfo, List.length_append, data_len]; omega
          clear hbl3 hbl3' hb3 hk3 hfo hfl
          by_cases hlong : 4096 < fo.length
          · have HRR := Lib.hid (show R = .error 14 from by rw [HR.out, hg3, if_pos hlong]; rfl)
            clear hg3
            go_wp2_with (first | (go_at_call 36; refine LEN.out.mono ?_; rintro e w' ⟨rfl, hw⟩; rw [hw]))
            go_ret3
            exact rep_err HRR.out HB3.out
          · have HRR := Lib.hid (show R = .ok (natsOf fo, mo) from by rw [HR.out, hg3, if_neg hlong, HCN.out]; rfl)
            clear hg3
            go_wp2_with (first | (go_at_call 36; refine LEN.out.mono ?_; rintro e w' ⟨rfl, hw⟩; rw [hw]))
            refine (Tryd.Builder_String_any w1.heap.size w1.heap.size fo _ HBL3.out (by omega)).mono ?_
            rintro e w5 ⟨rfl, hb5⟩
            have HB5 := Lib.hid (HB3.out.trans (hb5.mono hsz1))
            clear hb5
            go_wp2
            go_ret3
            exact rep_ok HRR.out (bytesOf_list fo) HB5.out
    · have hcn : cut.length = ms.length := by rw [HCUT.out]; unfold cutM; rw [if_neg hc0]
      obtain ⟨mo, hmo⟩ : ∃ mo, mo = ms.length := ⟨_, rfl⟩
      rw [← hmo] at hcn
      have HCN := Lib.hid hcn
      clear hcn
      by_cases hneg : 0 ≤ most
      all_goals
        have hge : ¬ (0 ≤ most ∧ most < (mo : Int)) := by rw [hmo]; exact hc0
        go_enter Tryd.func26, Tryd.ntmps26
        go_wp2_with fail
        refine HA.out.mono ?_
        intro e w1 hpo
        obtain ⟨hb1, ao, cap, us, rfl, hmv⟩ := all_ok_of hpo HRA.out
        obtain ⟨HT1, HB1, HMV, HS0⟩ := MAIN.out w1 ao cap us hb1 hmv
        have hsz1 := hb1.size
        rw [← hmo]
        have hmol : mo ≤ ms.length := by omega
        have hmol2 : ms.length ≤ mo := by omega
        have hlt2 : 0 ≤ most → ¬ most < (mo : Int) := fun h h2 => hge ⟨h, h2⟩
        have HMO := Lib.hid hmo
        rw [← hmo] at HMV
        clear hpo hb1 hmv hmo
        go_wp2
        go_loopg [41, 14] cut.length (fun gg vk va wr => ReplRel w1 s (bytesOf repl) cut RG gg vk va wr)
        case atStart => exact HS0.out
        case round =>
          clear HS0 MAIN
          obtain ⟨k, at_, out, rfl, rfl, rfl, hk, hat, hb, hbl, hol, hord, hgo⟩ := hrel
          have hszr := hb.size
          have hmvr := HMV.out.keep (w' := wr) (fun b h1 h2 => hb.block b h2)
          have HB := Lib.hid hb
          have HBW := Lib.hid (HB1.out.trans (hb.mono hsz1))
          have HBL := Lib.hid hbl
          have hcn := HCN.out
          have HMVR := Lib.hid hmvr
          clear hb hbl hmvr
          by_cases hlt : k < cut.length
          · have hkm : k < mo := by omega
            obtain ⟨g', ao', cap', hao, hg, hu, c0, c1, c2, hcr⟩ := HMVR.out.read (k := k) (by omega)
            subst hao
            rw [drop_getD hlt, HCG.out k hlt] at hord hgo
            obtain ⟨m, hm⟩ : ∃ m, m = ms.getD k zeroAM := ⟨_, rfl⟩
            rw [← hm] at c0 c1 c2 hcr hord hgo
            have hgm : GoodAM s.size m := HGOOD.out m (by rw [hm]; simp [List.getD_eq_getElem?_getD, show k < ms.length by omega])
            have hcl16 := hgm.n16
            obtain ⟨ho1, ho2, ho3, ho4⟩ := hord
            obtain ⟨f, hf⟩ : ∃ f : Nat, m.f = f := ⟨m.f.toNat, by omega⟩
            obtain ⟨t, ht⟩ : ∃ t : Nat, m.t = t := ⟨m.t.toNat, by omega⟩
            have hrz : repl.size ≤ 100000000 := hfew.elim id (fun h => by omega)
            obtain ⟨RF, hRF⟩ : ∃ RF, RF = fillM (bytesOf s) (bytesOf repl) m := ⟨_, rfl⟩
            have hba : Below wr.heap.size wr (wr.alloc (.cells #[.int .i64 (f : Int), .int .i64 (t : Int), .slice ao' m.caps.length cap'] 29)) := (Below.refl _ _).alloc (Nat.le_refl _) _
            have hfill := Fill_c s repl (by omega) hrz m (.slice ao' m.caps.length cap') (wr.alloc (.cells #[.int .i64 (f : Int), .int .i64 (t : Int), .slice ao' m.caps.length cap'] 29)) (hcr.mono hba (Nat.le_refl _)) (by omega) ((HT1.out.mono HB.out (Nat.le_refl _)).mono hba (Nat.le_refl _)) RF hRF
            simp only [hf, ht] at hfill c0 c1 ho1 ho2 ho3 ho4
            have hgo2 : RG = afterF (fun T => replGo (bytesOf s) (bytesOf repl) (cut.drop (k + 1)) t (natsOf out ++ subM (bytesOf s) at_ f ++ T)) RF := by
              rw [hRF, ← hgo, ← hf, ← ht]; exact replGo_cons _ _ _ _ _ _
            have HFILL := Lib.hid hfill
            have HO4 := Lib.hid ho4
            have hatf : at_ ≤ f := by omega
            have hfs : f ≤ s.size := by omega
            have hts : t ≤ s.size := by omega
            have hsl := slice_run s (at_ : Int) (f : Int) at_ f rfl rfl hatf hfs
            have hss : (s.extract at_ f).size ≤ 10000 := by rw [← bytesOf_length, bytesOf_extract]; simp [bytesOf_length]; omega
            have HSS := Lib.hid hss
            have HSB := Lib.hid (sub_bytes s at_ f)
            have HRFE := Lib.hid hRF
            have HCOPY := Lib.hid (heap_new wr (.cells #[.int .i64 (f : Int), .int .i64 (t : Int), .slice ao' m.caps.length cap'] 29))
            clear hu hcr hgo hm hgm hf ht hfill ho1 ho2 ho3 ho4 hRF hba hss
            cases hrf : RF with
            | error c =>
              have tc : ((c : Int) != 0) = true := by have := HRFE.out; rw [hrf] at this; have := fillM_err this.symm; rw [bne_iff_ne]; omega
              have HRR := Lib.hid (show R = .error c from by rw [HR.out, hgo2, hrf]; rfl)
              have HRF := Lib.hid hrf
              clear hrf hgo2
              go_wp2_with fail
              refine HFILL.out.mono ?_
              intro e w2 hpo
              obtain ⟨hb2, rfl⟩ := str_err_of hpo HRF.out
              have HB2 := Lib.hid ((HBW.out.alloc (by omega) _).trans (hb2.mono (by simp; omega)))
              clear hb2 hpo
              go_wp2
              go_ret3
              exact rep_err HRR.out HB2.out
            | ok T =>
              have hT : T.length ≤ 4096 := by have := HRFE.out; rw [hrf] at this; exact fillM_small this.symm
              have HGO := Lib.hid (show replGo (bytesOf s) (bytesOf repl) (cut.drop (k + 1)) t (natsOf out ++ subM (bytesOf s) at_ f ++ T) = RG from by rw [hgo2, hrf]; rfl)
              have HRF := Lib.hid hrf
              clear hrf hgo2
              go_wp2_with fail
              refine HFILL.out.mono ?_
              intro e w2 hpo
              obtain ⟨hb2, r, hr, rfl⟩ := str_ok_of hpo HRF.out
              have hz2 := hb2.size
              simp only [World.size_alloc] at hz2
              have hcp2 : w2.heap[wr.heap.size]? = some (.cells #[.int .i64 (f : Int), .int .i64 (t : Int), .slice ao' m.caps.length cap'] 29) := (hb2.block _ (by simp)).trans HCOPY.out
              have y0 : w2.cell? ⟨wr.heap.size, 0, none⟩ = some (.int .i64 (f : Int)) := by rw [cell_of_heap hcp2]; rfl
              have hbb : Below wr.heap.size wr w2 := ((Below.refl _ _).alloc (Nat.le_refl _) _).trans (hb2.mono (by simp))
              have hbl2 := isB_ext HBL.out hbb (Nat.le_refl _)
              have hrsz := size_bytes hr
              have W1 := Lib.hid (writeString_k w1.heap.size w1.heap.size (Lib.byteCells out) (s.extract at_ f) w2 hbl2 (by rw [Lib.byteCells_length]; have := HSS.out; omega) (by omega))
              have HCP2 := Lib.hid hcp2
              have HBB := Lib.hid hbb
              have HRB := Lib.hid hr
              have HRSZ := Lib.hid hrsz
              clear hb2 hpo hcp2 hbb hbl2 hr hrsz
              go_wp2_with fail
              refine W1.out.mono ?_
              rintro e w3 ⟨⟨rfl, hbl3, hb3⟩, hk3⟩
              have hcp3 := hk3 _ _ _ _ HCP2.out (by decide) (by decide)
              have hz3 := hb3.size
              have hbl3' : Lib.IsBuilder 75 5 w1.heap.size w1.heap.size (Lib.byteCells (out ++ (s.extract at_ f).data.toList)) w3 := by rw [Lib.byteCells_append]; exact hbl3
              have hol3 : (out ++ (s.extract at_ f).data.toList).length ≤ k * 20000 + 10000 := by rw [List.length_append, data_len]; have := HSS.out; omega
              have W2 := Lib.hid (writeString_k w1.heap.size w1.heap.size (Lib.byteCells (out ++ (s.extract at_ f).data.toList)) r w3 hbl3' (by rw [Lib.byteCells_length]; have := HRSZ.out; omega) (by omega))
              have HCP3 := Lib.hid hcp3
              have HB3 := Lib.hid ((HBB.out.mono hszr).trans hb3)
              clear hbl3 hbl3' hb3 hk3 hcp3 y0
              go_wp2_with fail
              refine W2.out.mono ?_
              rintro e w4 ⟨⟨rfl, hbl4, hb4⟩, hk4⟩
              have hcp4 := hk4 _ _ _ _ HCP3.out (by decide) (by decide)
              have y1 : w4.cell? ⟨wr.heap.size, 1, none⟩ = some (.int .i64 (t : Int)) := by rw [cell_of_heap hcp4]; rfl
              have HN := Lib.hid (show ReplRel w1 s (bytesOf repl) cut RG (cut.length - (k + 1)) (.int .i64 ((k : Int) + 1)) (.int .i64 (t : Int)) w4 from
                ⟨k + 1, t, out ++ (s.extract at_ f).data.toList ++ r.data.toList, rfl, rfl, rfl, by omega, hts, HB.out.trans (HB3.out.trans hb4), by rw [Lib.byteCells_append]; exact hbl4, by rw [List.length_append, data_len]; have := HRSZ.out; omega, HO4.out, by rw [natsOf_append, natsOf_append, HSB.out, HRB.out]; exact HGO.out⟩)
              clear hbl4 hb4 hk4 hcp4
              go_wp2
              go_roundg (cut.length - (k + 1))
              case measure => omega
              case rel => exact HN.out
          · have hkm : ¬ ((k : Int) < (mo : Int)) := by omega
            have hgo2 := hgo
            rw [List.drop_eq_nil_of_le (by omega)] at hgo2
            have hgo3 : RG = if 4096 < (natsOf out ++ (bytesOf s).drop at_).length then .error 14 else .ok (natsOf out ++ (bytesOf s).drop at_) := by rw [← hgo2]; rfl
            have hex : bytesOf (s.extract at_ s.size) = (bytesOf s).drop at_ := by rw [bytesOf_extract, List.take_of_length_le (by rw [List.length_drop, bytesOf_length]; omega)]
            have hesz : (s.extract at_ s.size).size ≤ 10000 := by rw [← bytesOf_length, hex, List.length_drop, bytesOf_length]; omega
            rw [← hex, ← natsOf_append] at hgo3
            have W1 := Lib.hid (writeString_k w1.heap.size w1.heap.size (Lib.byteCells out) (s.extract at_ s.size) wr HBL.out (by rw [Lib.byteCells_length]; omega) (by omega))
            have HG3 := Lib.hid hgo3
            have hkmo : k ≤ mo := by omega
            clear hord hgo hgo2 hgo3 hex hcn
            go_wp2_with fail
            refine W1.out.mono ?_
            rintro e w3 ⟨⟨rfl, hbl3, hb3⟩, hk3⟩
            have hz3 := hb3.size
            have hbl3' : Lib.IsBuilder 75 5 w1.heap.size w1.heap.size (Lib.byteCells (out ++ (s.extract at_ s.size).data.toList)) w3 := by rw [Lib.byteCells_append]; exact hbl3
            obtain ⟨fo, hfo⟩ : ∃ fo, fo = out ++ (s.extract at_ s.size).data.toList := ⟨_, rfl⟩
            rw [← hfo] at hbl3' HG3
            have hg3 := HG3.out
            have hfl : (natsOf fo).length = fo.length := by unfold natsOf; simp
            rw [hfl] at hg3
            have LEN := Lib.hid (Tryd.Builder_Len w1.heap.size w1.heap.size (Lib.byteCells fo) w3 hbl3')
            rw [Lib.byteCells_length] at LEN
            have HBL3 := Lib.hid hbl3'
            have HB3 := Lib.hid (HBW.out.trans (hb3.mono hsz1))
            have hflen : fo.length ≤ 1000000000 := by rw [hfo, List.length_append, data_len]; omega
            clear hbl3 hbl3' hb3 hk3 hfo hfl
            by_cases hlong : 4096 < fo.length
            · have HRR := Lib.hid (show R = .error 14 from by rw [HR.out, hg3, if_pos hlong]; rfl)
              clear hg3
              go_wp2_with (first | (go_at_call 36; refine LEN.out.mono ?_; rintro e w' ⟨rfl, hw⟩; rw [hw]))
              go_ret3
              exact rep_err HRR.out HB3.out
            · have HRR := Lib.hid (show R = .ok (natsOf fo, mo) from by rw [HR.out, hg3, if_neg hlong, HCN.out]; rfl)
              clear hg3
              go_wp2_with (first | (go_at_call 36; refine LEN.out.mono ?_; rintro e w' ⟨rfl, hw⟩; rw [hw]))
              refine (Tryd.Builder_String_any w1.heap.size w1.heap.size fo _ HBL3.out (by omega)).mono ?_
              rintro e w5 ⟨rfl, hb5⟩
              have HB5 := Lib.hid (HB3.out.trans (hb5.mono hsz1))
              clear hb5
              go_wp2
              go_ret3
              exact rep_ok HRR.out (bytesOf_list fo) HB5.out
end Go.Proofs.YtpbhncmaamedhaaDoor
