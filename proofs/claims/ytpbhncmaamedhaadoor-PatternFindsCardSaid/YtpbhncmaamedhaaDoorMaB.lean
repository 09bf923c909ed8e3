import Derived.Test.YtpbhncmaamedhaaDoorMaA
namespace Go.Proofs.YtpbhncmaamedhaaDoor
open Go.RowKit Go.Proofs.Lexi

def SpendPost (E : MEnv) (w : World) (n : Nat) (cs : List ACap) (e : Ending) (w' : World) : Prop := e = .returned (.bool (decide (n + 1 ≤ maxSteps))) ∧ MSt E w' (n + 1) cs ∧ Fr E w w'
theorem spend_m {E : MEnv} (ok : MOK E) {w : World} {n : Nat} {cs : List ACap} (h : MSt E w n cs) (hn : n ≤ maxSteps) : Calls Tryd.prog 52 #[.int .i64 1, .pointer (some ⟨E.nb, 0, none⟩)] w (SpendPost E w n cs) := by
  refine (spend_c ok h (by unfold maxSteps at hn; omega)).mono ?_
  rintro e w' ⟨rfl, rfl⟩
  exact ⟨rfl, h.setn ok (n + 1), (Fr.refl E w).setn _ _⟩
theorem getD_byte (p : ByteArray) (i : Nat) (h : i < p.size) : (bytesOf p).getD i 0 = p[i].toNat := by
  have := bytesOf_drop p i h
  have e : ((bytesOf p).drop i)[0]? = some p[i].toNat := by rw [this]; rfl
  rw [List.getElem?_drop] at e
  simp only [Nat.add_zero] at e
  rw [List.getD_eq_getElem?_getD, e]; rfl
theorem getD_past (p : ByteArray) (i : Nat) (h : p.size ≤ i) : (bytesOf p).getD i 0 = 0 := by
  rw [List.getD_eq_getElem?_getD, List.getElem?_eq_none (by rw [bytesOf_length]; exact h)]; rfl
theorem pred_i {f : FuncId} {caps : Array Value} {W : World} {S : Nat → Bool} (hp : ∀ c : Nat, c < 256 → Calls Tryd.prog f (#[.int .u8 c] ++ caps) W fun e w' => e = .returned (.bool (S c)) ∧ W = w') (a : Int) (c : Nat) (ha : a = c) (hc : c < 256) :
    Calls Tryd.prog f (#[.int .u8 a] ++ caps) W fun e w' => e = .returned (.bool (S c)) ∧ W = w' := by subst ha; exact hp c hc

theorem MPost.shape {E : MEnv} {w w' : World} {R : MR} {e : Ending} (h : MPost E w R e w') : ∃ (x : Int) (b : Bool), e = .returned (.tuple #[.int .i64 x, .bool b]) := by
  obtain ⟨_, h⟩ := h
  match R, h with
  | none, ⟨x, _, _, he, _⟩ => exact ⟨x, false, he⟩
  | some (some k, (_, _)), ⟨he, _⟩ => exact ⟨k, true, he⟩
  | some (none, (_, _)), ⟨x, he, _⟩ => exact ⟨x, false, he⟩
theorem MPost.after {E : MEnv} {w w1 w' : World} {R : MR} {e : Ending} (hf : Fr E w w1) (h : MPost E w1 R e w') : MPost E w R e w' := ⟨hf.trans h.1, h.2⟩
set_option maxRecDepth 100000 in
set_option maxHeartbeats 2000000 in
theorem frontier_c {E : MEnv} (ok : MOK E) {j : Nat} (hj : j < E.items.length) (hs : (itemAt E j).sets = true) (hm : MatchOK E (j + 1)) {w : World} {n : Nat} {cs : List ACap} (h : MSt E w n cs) (hn : n ≤ maxSteps) (a b : Int) (i : Nat) (hi : i ≤ E.s.size) (ha : a = j) (hb : b = i)
    (hco : CapW E (j + 1) i cs)
    (R : MR) (hR : R = if frontM (bytesOf E.s) (itemAt E j).one i then nextM E j i (n, cs) else some (none, (n, cs))) :
    Calls Tryd.prog 71 #[.pointer (some ⟨E.mb, 0, none⟩), .int .i64 a, .int .i64 b] w (MPost E w R) := by
  subst ha hb
  obtain ⟨g, cap, hv, hg, hcell⟩ := ok.row hj
  have m0 : w.cell? ⟨E.mb, 0, none⟩ = some (.slice (some ⟨g, 0, none⟩) E.items.length cap) := by rw [cell_of_heap h.hm, hv]; rfl
  have m4 : w.cell? ⟨E.mb, 4, none⟩ = some (.string E.s) := by rw [cell_of_heap h.hm]; rfl
  have hl := ok.len
  have hsl := ok.sl
  have HR := Lib.hid hR
  clear hR
  obtain ⟨f, caps, hval, hcf, hp⟩ := ok.pred hj hs h.below
  have HP := Lib.hid hp
  have c4 : w.cell? ⟨g, j * 6 + 4, none⟩ = some (.func (.func f) #[] caps) := by rw [hcell w n cs h 4 (by omega), ← hval]; rfl
  obtain ⟨cb, hcb⟩ : ∃ cb, cb = if i = 0 then 0 else (bytesOf E.s).getD (i - 1) 0 := ⟨_, rfl⟩
  obtain ⟨ca, hca⟩ : ∃ ca, ca = (bytesOf E.s).getD i 0 := ⟨_, rfl⟩
  have hfr : frontM (bytesOf E.s) (itemAt E j).one i = (!(itemAt E j).one cb && (itemAt E j).one ca) := by rw [hcb, hca]; rfl
  have bcb : cb < 256 := by
    rw [hcb]; split
    · omega
    · rw [getD_byte E.s (i - 1) (by omega)]; exact UInt8.toNat_lt _
  have bca : ca < 256 := by
    rw [hca]
    by_cases h : i < E.s.size
    · rw [getD_byte E.s i h]; exact UInt8.toNat_lt _
    · rw [getD_past E.s i (by omega)]; omega
  have HB := Lib.hid hcb
  have HA := Lib.hid hca
  have HFR := Lib.hid hfr
  have H := Lib.hid h
  clear hv hcell hval hp h hs hcb hca hfr
  have h00 : 0 < i → (0 : Int) ≤ (i : Int) - 1 := fun h => by omega
  by_cases h0 : i = 0
  · have EB := Lib.hid (show (0 : Int) = (cb : Int) by rw [HB.out, if_pos h0]; rfl)
    have hi0 : i ≤ 0 := by omega
    clear h0 h00
    by_cases h1 : i < E.s.size
    · have EA := Lib.hid (show ((E.s[i]).toNat : Int) = (ca : Int) by rw [HA.out, getD_byte E.s i h1])
      go_enter Tryd.func71, Tryd.ntmps71
      go_wp2_with fail
      refine (pred_i HP.out _ cb EB.out bcb).mono ?_
      rintro e w1 ⟨rfl, rfl⟩
      cases hsb : (itemAt E j).one cb with
      | true =>
        have HQ := Lib.hid (show R = some (none, (n, cs)) from by rw [HR.out, HFR.out, hsb]; rfl)
        clear hsb
        go_wp2
        go_ret2
        exact mp_no HQ.out (Fr.refl _ _) hn H.out
      | false =>
        have HSB := Lib.hid hsb
        clear hsb
        go_wp2_with fail
        refine (pred_i HP.out _ ca EA.out bca).mono ?_
        rintro e w1 ⟨rfl, rfl⟩
        cases hsa : (itemAt E j).one ca with
        | false =>
          have HQ := Lib.hid (show R = some (none, (n, cs)) from by rw [HR.out, HFR.out, HSB.out, hsa]; rfl)
          clear hsa
          go_wp2
          go_ret2
          exact mp_no HQ.out (Fr.refl _ _) hn H.out
        | true =>
          have HQ := Lib.hid (show R = nextM E j i (n, cs) from by rw [HR.out, HFR.out, HSB.out, hsa]; rfl)
          clear hsa
          go_wp2_with fail
          refine (hm _ n cs _ _ i H.out hn hi hco (by omega) rfl).mono ?_
          intro e w9 hpost
          obtain ⟨x, bb, rfl⟩ := hpost.shape
          have HPO := Lib.hid hpost
          clear hpost
          go_wp2
          go_ret2
          exact (by rw [HQ.out]; exact HPO.out)
    · have EA := Lib.hid (show (0 : Int) = (ca : Int) by rw [HA.out, getD_past E.s i (by omega)]; rfl)
      go_enter Tryd.func71, Tryd.ntmps71
      go_wp2_with fail
      refine (pred_i HP.out _ cb EB.out bcb).mono ?_
      rintro e w1 ⟨rfl, rfl⟩
      cases hsb : (itemAt E j).one cb with
      | true =>
        have HQ := Lib.hid (show R = some (none, (n, cs)) from by rw [HR.out, HFR.out, hsb]; rfl)
        clear hsb
        go_wp2
        go_ret2
        exact mp_no HQ.out (Fr.refl _ _) hn H.out
      | false =>
        have HSB := Lib.hid hsb
        clear hsb
        go_wp2_with fail
        refine (pred_i HP.out _ ca EA.out bca).mono ?_
        rintro e w1 ⟨rfl, rfl⟩
        cases hsa : (itemAt E j).one ca with
        | false =>
          have HQ := Lib.hid (show R = some (none, (n, cs)) from by rw [HR.out, HFR.out, HSB.out, hsa]; rfl)
          clear hsa
          go_wp2
          go_ret2
          exact mp_no HQ.out (Fr.refl _ _) hn H.out
        | true =>
          have HQ := Lib.hid (show R = nextM E j i (n, cs) from by rw [HR.out, HFR.out, HSB.out, hsa]; rfl)
          clear hsa
          go_wp2_with fail
          refine (hm _ n cs _ _ i H.out hn hi hco (by omega) rfl).mono ?_
          intro e w9 hpost
          obtain ⟨x, bb, rfl⟩ := hpost.shape
          have HPO := Lib.hid hpost
          clear hpost
          go_wp2
          go_ret2
          exact (by rw [HQ.out]; exact HPO.out)
  · have h0' : 0 < i := by omega
    have h00 := h00 h0'
    have EB := Lib.hid (show ((E.s[i - 1]'(by omega)).toNat : Int) = (cb : Int) by rw [HB.out, if_neg h0, getD_byte E.s (i - 1) (by omega)])
    clear h0
    by_cases h1 : i < E.s.size
    · have EA := Lib.hid (show ((E.s[i]).toNat : Int) = (ca : Int) by rw [HA.out, getD_byte E.s i h1])
      go_enter Tryd.func71, Tryd.ntmps71
      go_wp2_with fail
      refine (pred_i HP.out _ cb EB.out bcb).mono ?_
      rintro e w1 ⟨rfl, rfl⟩
      cases hsb : (itemAt E j).one cb with
      | true =>
        have HQ := Lib.hid (show R = some (none, (n, cs)) from by rw [HR.out, HFR.out, hsb]; rfl)
        clear hsb
        go_wp2
        go_ret2
        exact mp_no HQ.out (Fr.refl _ _) hn H.out
      | false =>
        have HSB := Lib.hid hsb
        clear hsb
        go_wp2_with fail
        refine (pred_i HP.out _ ca EA.out bca).mono ?_
        rintro e w1 ⟨rfl, rfl⟩
        cases hsa : (itemAt E j).one ca with
        | false =>
          have HQ := Lib.hid (show R = some (none, (n, cs)) from by rw [HR.out, HFR.out, HSB.out, hsa]; rfl)
          clear hsa
          go_wp2
          go_ret2
          exact mp_no HQ.out (Fr.refl _ _) hn H.out
        | true =>
          have HQ := Lib.hid (show R = nextM E j i (n, cs) from by rw [HR.out, HFR.out, HSB.out, hsa]; rfl)
          clear hsa
          go_wp2_with fail
          refine (hm _ n cs _ _ i H.out hn hi hco (by omega) rfl).mono ?_
          intro e w9 hpost
          obtain ⟨x, bb, rfl⟩ := hpost.shape
          have HPO := Lib.hid hpost
          clear hpost
          go_wp2
          go_ret2
          exact (by rw [HQ.out]; exact HPO.out)
    · have EA := Lib.hid (show (0 : Int) = (ca : Int) by rw [HA.out, getD_past E.s i (by omega)]; rfl)
      go_enter Tryd.func71, Tryd.ntmps71
      go_wp2_with fail
      refine (pred_i HP.out _ cb EB.out bcb).mono ?_
      rintro e w1 ⟨rfl, rfl⟩
      cases hsb : (itemAt E j).one cb with
      | true =>
        have HQ := Lib.hid (show R = some (none, (n, cs)) from by rw [HR.out, HFR.out, hsb]; rfl)
        clear hsb
        go_wp2
        go_ret2
        exact mp_no HQ.out (Fr.refl _ _) hn H.out
      | false =>
        have HSB := Lib.hid hsb
        clear hsb
        go_wp2_with fail
        refine (pred_i HP.out _ ca EA.out bca).mono ?_
        rintro e w1 ⟨rfl, rfl⟩
        cases hsa : (itemAt E j).one ca with
        | false =>
          have HQ := Lib.hid (show R = some (none, (n, cs)) from by rw [HR.out, HFR.out, HSB.out, hsa]; rfl)
          clear hsa
          go_wp2
          go_ret2
          exact mp_no HQ.out (Fr.refl _ _) hn H.out
        | true =>
          have HQ := Lib.hid (show R = nextM E j i (n, cs) from by rw [HR.out, HFR.out, HSB.out, hsa]; rfl)
          clear hsa
          go_wp2_with fail
          refine (hm _ n cs _ _ i H.out hn hi hco (by omega) rfl).mono ?_
          intro e w9 hpost
          obtain ⟨x, bb, rfl⟩ := hpost.shape
          have HPO := Lib.hid hpost
          clear hpost
          go_wp2
          go_ret2
          exact (by rw [HQ.out]; exact HPO.out)

theorem bal_cons (x y : Nat) (f : Nat → MS → MR) (c : Nat) (r : List Nat) (k count n : Nat) (cs : List ACap) : balM x y f (c :: r) k count (n, cs) = if n + 1 ≤ maxSteps then
    (if c = y then (if count = 1 then f (k + 1) (n + 1, cs) else balM x y f r (k + 1) (count - 1) (n + 1, cs)) else if c = x then balM x y f r (k + 1) (count + 1) (n + 1, cs) else balM x y f r (k + 1) count (n + 1, cs)) else none := rfl
def BalRel (E : MEnv) (w : World) (x y : Nat) (f : Nat → MS → MR) (R : MR) (xc : Array Value) (i : Nat) (cs : List ACap) (gg : Nat) (count k : Value) (wr : World) : Prop :=
  ∃ (q m : Nat) (n : Nat), i ≤ q ∧ gg = E.s.size - q ∧ count = .int .i64 (m : Int) ∧ k = .int .i64 (q : Int) ∧ 1 ≤ m ∧ m ≤ q ∧ q ≤ E.s.size ∧ MSt E wr n cs ∧ n ≤ maxSteps ∧ Fr E w wr ∧ wr.heap[w.heap.size]? = some (.cells xc 106 (0, 0)) ∧ w.heap.size < wr.heap.size ∧ balM x y f ((bytesOf E.s).drop q) q m (n, cs) = R
set_option maxRecDepth 100000 in
set_option maxHeartbeats 2000000 in
theorem balance_c {E : MEnv} (ok : MOK E) {j : Nat} (hj : j < E.items.length) (_hs : (itemAt E j).sets = false) (hm : MatchOK E (j + 1)) {w : World} {n : Nat} {cs : List ACap} (h : MSt E w n cs) (hn : n ≤ maxSteps) (a b : Int) (i : Nat) (hi : i ≤ E.s.size) (ha : a = j) (hb : b = i)
    (hco : CapW E (j + 1) i cs)
    (R : MR) (hR : R = match (bytesOf E.s).drop i with | c :: r => if c = (itemAt E j).x then balM (itemAt E j).x (itemAt E j).y (nextM E j) r (i + 1) 1 (n, cs) else some (none, (n, cs)) | [] => some (none, (n, cs))) (hv5 : E.vs.getD j .nilFunc = .nilFunc) :
    Calls Tryd.prog 70 #[.pointer (some ⟨E.mb, 0, none⟩), .int .i64 a, .int .i64 b] w (MPost E w R) := by
  subst ha hb
  obtain ⟨g, cap, hv, hg, hcell⟩ := ok.row hj
  have m0 : w.cell? ⟨E.mb, 0, none⟩ = some (.slice (some ⟨g, 0, none⟩) E.items.length cap) := by rw [cell_of_heap h.hm, hv]; rfl
  have m4 : w.cell? ⟨E.mb, 4, none⟩ = some (.string E.s) := by rw [cell_of_heap h.hm]; rfl
  have hl := ok.len
  have hsl := ok.sl
  have HR := Lib.hid hR
  clear hR
  obtain ⟨it, hit⟩ : ∃ it, it = itemAt E j := ⟨_, rfl⟩
  rw [← hit] at HR
  have c0 : w.cell? ⟨g, j * 6, none⟩ = some (.int .i64 it.kind) := by have := hcell w n cs h 0 (by omega); rw [hv5, ← hit] at this; exact this
  have c1 : w.cell? ⟨g, j * 6 + 1, none⟩ = some (.int .i64 it.n) := by have := hcell w n cs h 1 (by omega); rw [hv5, ← hit] at this; exact this
  have c2 : w.cell? ⟨g, j * 6 + 2, none⟩ = some (.int .u8 it.x) := by have := hcell w n cs h 2 (by omega); rw [hv5, ← hit] at this; exact this
  have c3 : w.cell? ⟨g, j * 6 + 3, none⟩ = some (.int .u8 it.y) := by have := hcell w n cs h 3 (by omega); rw [hv5, ← hit] at this; exact this
  have c4 : w.cell? ⟨g, j * 6 + 4, none⟩ = some .nilFunc := by have := hcell w n cs h 4 (by omega); rw [hv5, ← hit] at this; exact this
  have c5 : w.cell? ⟨g, j * 6 + 5, none⟩ = some (.int .u8 it.how) := by have := hcell w n cs h 5 (by omega); rw [hv5, ← hit] at this; exact this
  have hmb : E.mb < w.heap.size := (Array.getElem?_eq_some_iff.1 h.hm).1
  have H := Lib.hid h
  clear hv hcell h _hs hv5 hit
  obtain ⟨XC, hXC⟩ : ∃ XC : Array Value, XC = #[.int .i64 it.kind, .int .i64 it.n, .int .u8 it.x, .int .u8 it.y, .nilFunc, .int .u8 it.how] := ⟨_, rfl⟩
  have hbw : Below w.heap.size w (w.alloc (.cells #[.int .i64 it.kind, .int .i64 it.n, .int .u8 it.x, .int .u8 it.y, .nilFunc, .int .u8 it.how] 106)).drew := ((Below.refl _ _).alloc (Nat.le_refl _) _).drew
  have HBW := Lib.hid hbw
  have HXC := Lib.hid hXC
  clear hbw hXC
  by_cases hi1 : i < E.s.size
  · have hd : decide ((E.s.size : Int) ≤ (i : Int)) = false := by simp; omega
    have hd' : decide (E.s.size ≤ i) = false := by simp; omega
    by_cases hx : E.s[i].toNat = it.x
    · have tx : ((E.s[i].toNat : Int) != (it.x : Int)) = false := by rw [hx]; simp
      have hst : BalRel E w it.x it.y (nextM E j) R XC i cs (E.s.size - (i + 1)) (.int .i64 1) (.int .i64 ((i : Int) + 1)) (w.alloc (.cells #[.int .i64 it.kind, .int .i64 it.n, .int .u8 it.x, .int .u8 it.y, .nilFunc, .int .u8 it.how] 106)).drew := by
        refine ⟨i + 1, 1, n, by omega, rfl, rfl, rfl, Nat.le_refl _, by omega, by omega, H.out.grow HBW.out, hn, Fr.below HBW.out, ?_, by simp, ?_⟩
        · rw [HXC.out]; exact heap_new _ _
        · rw [HR.out, bytesOf_drop E.s i hi1]
          simp only [hx, if_true]
      have HST := Lib.hid hst
      clear hst hx
      go_enter Tryd.func70, Tryd.ntmps70
      go_wp2
      refine wp_region_lex mixed (by kernel_rfl) ?_
      go_wp2
      refine ⟨by kernel_rfl, ?_⟩
      go_wp2
      go_loopg [9, 10] (E.s.size - (i + 1)) (fun gg count k wr => BalRel E w it.x it.y (nextM E j) R XC i cs gg count k wr)
      case atStart => exact HST.out
      case round =>
        clear HST m0 m4 c0 c1 c2 c3 c4 c5 tx hd
        obtain ⟨q, m, n1, hiq, rfl, rfl, rfl, hm1, hmq, hq, h1, hn1, hF1, hxb, hxs, hgo⟩ := hrel
        have m4 : wr.cell? ⟨E.mb, 4, none⟩ = some (.string E.s) := by rw [cell_of_heap h1.hm]; rfl
        have m6 : wr.cell? ⟨E.mb, 6, none⟩ = some (.func (.func 52) #[] #[.pointer (some ⟨E.nb, 0, none⟩)]) := by rw [cell_of_heap h1.hm]; rfl
        have HGO := Lib.hid hgo
        have H1 := Lib.hid h1
        have HF1 := Lib.hid hF1
        have HXB := Lib.hid hxb
        clear hgo h1 hF1 hxb
        by_cases hlt : q < E.s.size
        · go_wp2_with fail
          refine (spend_m ok H1.out hn1).mono ?_
          rintro e w1 ⟨rfl, h2, hF2⟩
          have hgo := HGO.out
          rw [bytesOf_drop E.s q hlt, bal_cons] at hgo
          have hnb := H.out.hn
          have hxb2 : w1.heap[w.heap.size]? = some (.cells XC 106 (0, 0)) := (hF2.block _ hxs (by have := (Array.getElem?_eq_some_iff.1 H.out.hn).1; omega) (by have := (Array.getElem?_eq_some_iff.1 H.out.hc).1; omega)).trans HXB.out
          have hxs2 : w.heap.size < w1.heap.size := (Array.getElem?_eq_some_iff.1 hxb2).1
          by_cases hlim : n1 + 1 ≤ maxSteps
          · rw [decide_eq_true hlim]
            rw [if_pos hlim] at hgo
            have p4 : w1.cell? ⟨E.mb, 4, none⟩ = some (.string E.s) := by rw [cell_of_heap h2.hm]; rfl
            have x2 : w1.cell? ⟨w.heap.size, 2, none⟩ = some (.int .u8 it.x) := by rw [cell_of_heap hxb2, HXC.out]; rfl
            have x3 : w1.cell? ⟨w.heap.size, 3, none⟩ = some (.int .u8 it.y) := by rw [cell_of_heap hxb2, HXC.out]; rfl
            have H2 := Lib.hid h2
            have HF2 := Lib.hid (HF1.out.trans hF2)
            have HX2 := Lib.hid hxb2
            clear h2 hF2 hxb2 hnb
            by_cases hy : E.s[q].toNat = it.y
            · have ty : ((E.s[q].toNat : Int) == (it.y : Int)) = true := by rw [hy]; simp
              rw [if_pos hy] at hgo
              clear hy
              by_cases hm2 : m = 1
              · rw [if_pos hm2] at hgo
                have hml : m ≤ 1 := by omega
                have HG := Lib.hid hgo
                clear hgo hm2
                go_wp2_with fail
                refine (hm _ (n1 + 1) cs _ _ (q + 1) H2.out hlim (by omega) (hco.mono (by omega)) (by omega) (by omega)).mono ?_
                intro e w9 hpost
                obtain ⟨x, bb, rfl⟩ := hpost.shape
                have HPO := Lib.hid hpost
                clear hpost
                go_wp2
                go_ret2
                exact (by rw [← HG.out]; exact (HPO.out).after HF2.out)
              · rw [if_neg hm2] at hgo
                have hml : 2 ≤ m := by omega
                have HN := Lib.hid (show BalRel E w it.x it.y (nextM E j) R XC i cs (E.s.size - (q + 1)) (.int .i64 ((m : Int) - 1)) (.int .i64 ((q : Int) + 1)) w1 from ⟨q + 1, m - 1, n1 + 1, by omega, rfl, by congr 1; omega, rfl, by omega, by omega, by omega, H2.out, hlim, HF2.out, HX2.out, hxs2, hgo⟩)
                clear hgo hm2
                go_wp2
                go_roundg (E.s.size - (q + 1))
                case measure => omega
                case rel => exact HN.out
            · have ty : ((E.s[q].toNat : Int) == (it.y : Int)) = false := by rw [beq_eq_false_iff_ne]; omega
              rw [if_neg hy] at hgo
              clear hy
              by_cases hx : E.s[q].toNat = it.x
              · have tx : ((E.s[q].toNat : Int) == (it.x : Int)) = true := by rw [hx]; simp
                rw [if_pos hx] at hgo
                have HN := Lib.hid (show BalRel E w it.x it.y (nextM E j) R XC i cs (E.s.size - (q + 1)) (.int .i64 ((m : Int) + 1)) (.int .i64 ((q : Int) + 1)) w1 from ⟨q + 1, m + 1, n1 + 1, by omega, rfl, rfl, rfl, by omega, by omega, by omega, H2.out, hlim, HF2.out, HX2.out, hxs2, hgo⟩)
                clear hgo hx
                go_wp2
                go_roundg (E.s.size - (q + 1))
                case measure => omega
                case rel => exact HN.out
              · have tx : ((E.s[q].toNat : Int) == (it.x : Int)) = false := by rw [beq_eq_false_iff_ne]; omega
                rw [if_neg hx] at hgo
                have HN := Lib.hid (show BalRel E w it.x it.y (nextM E j) R XC i cs (E.s.size - (q + 1)) (.int .i64 (m : Int)) (.int .i64 ((q : Int) + 1)) w1 from ⟨q + 1, m, n1 + 1, by omega, rfl, rfl, rfl, by omega, by omega, by omega, H2.out, hlim, HF2.out, HX2.out, hxs2, hgo⟩)
                clear hgo hx
                go_wp2
                go_roundg (E.s.size - (q + 1))
                case measure => omega
                case rel => exact HN.out
          · rw [decide_eq_false hlim]
            rw [if_neg hlim] at hgo
            have HG := Lib.hid hgo.symm
            have H2 := Lib.hid h2
            have HF2 := Lib.hid (HF1.out.trans hF2)
            clear h2 hF2 hxb2 hnb hgo
            go_wp2
            go_ret2
            exact mp_over HG.out HF2.out (by omega) (by omega) H2.out
        · have HG := Lib.hid (show R = some (none, (n1, cs)) from by rw [← HGO.out, bytesOf_end E.s q (by omega)]; rfl)
          go_wp2
          go_ret2
          exact mp_no HG.out HF1.out hn1 H1.out
    · have tx : ((E.s[i].toNat : Int) != (it.x : Int)) = true := by rw [bne_iff_ne]; omega
      have HQ := Lib.hid (show R = some (none, (n, cs)) from by rw [HR.out, bytesOf_drop E.s i hi1]; simp only [hx, if_false])
      clear hx
      go_enter Tryd.func70, Tryd.ntmps70
      go_wp2
      refine wp_region_lex mixed (by kernel_rfl) ?_
      go_wp2
      refine ⟨by kernel_rfl, ?_⟩
      go_wp2
      go_ret2
      exact mp_no HQ.out (Fr.below HBW.out) hn (H.out.grow HBW.out)
  · have hd : decide ((E.s.size : Int) ≤ (i : Int)) = true := by simp; omega
    have hd' : decide (E.s.size ≤ i) = true := by simp; omega
    have HQ := Lib.hid (show R = some (none, (n, cs)) from by rw [HR.out, bytesOf_end E.s i (by omega)])
    go_enter Tryd.func70, Tryd.ntmps70
    go_wp2
    refine wp_region_lex mixed (by kernel_rfl) ?_
    go_wp2
    refine ⟨by kernel_rfl, ?_⟩
    go_wp2
    go_ret2
    exact mp_no HQ.out (Fr.below HBW.out) hn (H.out.grow HBW.out)
end Go.Proofs.YtpbhncmaamedhaaDoor
