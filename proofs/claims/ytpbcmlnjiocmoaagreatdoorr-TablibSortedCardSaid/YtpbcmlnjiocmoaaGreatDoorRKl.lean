import Derived.Test.YtpbcmlnjiocmoaaGreatDoorRBp
import Derived.Test.YtpbcmlnjiocmoaaGreatDoorRRatB
import Derived.Test.YtpbcmlnjiocmoaaGreatDoorRPlnD
import Derived.WalkMore
set_option linter.unusedVariables false
set_option linter.unusedSimpArgs false
set_option maxRecDepth 100000
set_option maxHeartbeats 40000000
namespace Go.Proofs.YtpbcmlnjiocmoaaGreatDoorR
open Go.RowKit Go.Proofs.Lexi
/-- A sort under way: the heap, the call, the sorter, all since world w0. -/
structure SRun (base n0 : Nat) (O0 : Nat → Prop) (w0 : World) (h c sb : Nat) (nm : ByteArray) (av : Value) (M : LH) (AA : List (List V)) (ti : Nat) (f : V) (Ls : List Int) (n wd lo i j : Int) (O : Nat → Prop) (w : World) : Prop where
  hp : PHp base n0 w h M (AA.set ti (Ls.map nI)) O
  qs : QS base O0 w0 O w
  hc : Held w O c (oCt h nm av)
  hs : Held w O sb (oSo c ti f n wd lo i j)
section
variable {base n0 : Nat} {O0 : Nat → Prop} {w0 : World} {h c sb : Nat} {nm : ByteArray} {av : Value} {M : LH} {AA : List (List V)} {ti : Nat} {f : V} {Ls : List Int} {n wd lo i j : Int} {O : Nat → Prop} {w : World}
theorem SRun.below (S : SRun base n0 O0 w0 h c sb nm av M AA ti f Ls n wd lo i j O w) {w' : World} (hb : Below w.heap.size w w') : SRun base n0 O0 w0 h c sb nm av M AA ti f Ls n wd lo i j O w' := ⟨S.hp.below hb, S.qs.trans (QS.of_below hb), S.hc.below hb, S.hs.below hb⟩
theorem SRun.store (S : SRun base n0 O0 w0 h c sb nm av M AA ti f Ls n wd lo i j O w) (hsb : w0.heap.size ≤ sb) (hcb : c ≠ sb) {w' : World} {n' wd' lo' i' j' : Int} (ho : Only sb w w') (hn : w'.heap[sb]? = some (oSo c ti f n' wd' lo' i' j')) : SRun base n0 O0 w0 h c sb nm av M AA ti f Ls n' wd' lo' i' j' O w' :=
  ⟨S.hp.modsS S.hs.1 (npb (by decide)) S.hs.2 (Only.mods ho), S.qs.only hsb ho, ⟨(ho.block c hcb (Array.getElem?_eq_some_iff.1 S.hc.1).1).trans S.hc.1, S.hc.2⟩, ⟨hn, S.hs.2⟩⟩
theorem SRun.heavy (S : SRun base n0 O0 w0 h c sb nm av M AA ti f Ls n wd lo i j O w) {w' : World} {Ls' : List Int} {O' : Nat → Prop} (hP : PHp base n0 w' h M (AA.set ti (Ls'.map nI)) O') (hq : QS base O w O' w') : SRun base n0 O0 w0 h c sb nm av M AA ti f Ls' n wd lo i j O' w' :=
  ⟨hP, S.qs.trans hq, S.hc.qs hq (npb (by decide)), S.hs.qs hq (npb (by decide))⟩
theorem SRun.base_le (S : SRun base n0 O0 w0 h c sb nm av M AA ti f Ls n wd lo i j O w) (hb : base ≤ w0.heap.size) : base ≤ w.heap.size := Nat.le_trans hb S.qs.size
end
/-- Blocks that a sort leaves alone. -/
def KeepX (sb : Nat) (O : Nat → Prop) (w : World) (O' : Nat → Prop) (w' : World) : Prop := ∀ (b : Nat) (o : Obj), w.heap[b]? = some o → ¬ PB o → ¬ O b → b ≠ sb → w'.heap[b]? = some o ∧ ¬ O' b
theorem KeepX.refl (sb : Nat) (O : Nat → Prop) (w : World) : KeepX sb O w O w := fun _ _ h _ hO _ => ⟨h, hO⟩
theorem KeepX.below {sb : Nat} {O O' : Nat → Prop} {w w1 w2 : World} (h : KeepX sb O w O' w1) (hb : Below w1.heap.size w1 w2) : KeepX sb O w O' w2 := fun b o h1 h2 h3 h4 => ⟨hkeep hb (h b o h1 h2 h3 h4).1, (h b o h1 h2 h3 h4).2⟩
theorem KeepX.qs {sb base : Nat} {O O1 O2 : Nat → Prop} {w w1 w2 : World} (h : KeepX sb O w O1 w1) (hq : QS base O1 w1 O2 w2) : KeepX sb O w O2 w2 := fun b o h1 h2 h3 h4 => hq.keep (h b o h1 h2 h3 h4).1 h2 (h b o h1 h2 h3 h4).2
theorem KeepX.only {sb : Nat} {O O' : Nat → Prop} {w w1 w2 : World} (h : KeepX sb O w O' w1) (ho : Only sb w1 w2) : KeepX sb O w O' w2 := fun b o h1 h2 h3 h4 => ⟨(ho.block b h4 (Array.getElem?_eq_some_iff.1 (h b o h1 h2 h3 h4).1).1).trans (h b o h1 h2 h3 h4).1, (h b o h1 h2 h3 h4).2⟩
end Go.Proofs.YtpbcmlnjiocmoaaGreatDoorR
namespace Go.Proofs.YtpbcmlnjiocmoaaGreatDoorR
open Go.RowKit Go.Proofs.Lexi
/-- Where a run is: the list, the width, the pair of runs, its beginning, the two places. -/
def RunI (base n0 : Nat) (O0 : Nat → Prop) (w0 : World) (h c sb : Nat) (nm : ByteArray) (so : Option Addr) (na ca : Nat) (M : LH) (AA : List (List V)) (ti : Nat) (Os : Nat → Prop) (ws : World) (L0 : List Int) (b2 : Nat) (Ls : List Int) (wd p lo i j : Nat) (O : Nat → Prop) (wr : World) : Prop :=
  MInv Ls wd p lo i j ∧ List.Perm Ls L0 ∧ SRun base n0 O0 w0 h c sb nm (.slice so na ca) M AA ti V.nil Ls (L0.length : Int) (wd : Int) ((lo : Int) + 1) ((i : Int) + 1) ((j : Int) + 1) O wr ∧ Held wr O b2 oAc ∧ KeepX sb Os ws O wr
section
variable {base n0 : Nat} {O0 : Nat → Prop} {w0 : World} {h c sb : Nat} {nm : ByteArray} {so : Option Addr} {na ca : Nat} {M : LH} {AA : List (List V)} {ti : Nat} {Os : Nat → Prop} {ws : World} {L0 : List Int} {b2 : Nat} {Ls : List Int} {wd p lo i j : Nat} {O : Nat → Prop} {wr : World}
theorem RunI.below (hr : RunI base n0 O0 w0 h c sb nm so na ca M AA ti Os ws L0 b2 Ls wd p lo i j O wr) {w' : World} (hb : Below wr.heap.size wr w') : RunI base n0 O0 w0 h c sb nm so na ca M AA ti Os ws L0 b2 Ls wd p lo i j O w' := ⟨hr.1, hr.2.1, hr.2.2.1.below hb, hr.2.2.2.1.below hb, hr.2.2.2.2.below hb⟩
theorem RunI.len (hr : RunI base n0 O0 w0 h c sb nm so na ca M AA ti Os ws L0 b2 Ls wd p lo i j O wr) : Ls.length = L0.length := hr.2.1.length_eq
theorem RunI.box (hr : RunI base n0 O0 w0 h c sb nm so na ca M AA ti Os ws L0 b2 Ls wd p lo i j O wr) : wr.heap[sb]? = some (.cells #[.pointer (some ⟨c, 0, none⟩), .int .i64 4, .int .i64 0, .int .i64 0, .string ⟨#[]⟩, .int .i64 ((ti : Int) + 1), .int .i64 0, .int .i64 0, .int .i64 0, .string ⟨#[]⟩, .int .i64 0, .int .i64 (L0.length : Int), .int .i64 (wd : Int), .int .i64 ((lo : Int) + 1), .int .i64 ((i : Int) + 1), .int .i64 ((j : Int) + 1)] 116) := hr.2.2.1.hs.1
end
theorem KeepX.trans {sb : Nat} {O O1 O2 : Nat → Prop} {w w1 w2 : World} (h : KeepX sb O w O1 w1) (k : KeepX sb O1 w1 O2 w2) : KeepX sb O w O2 w2 := fun b o h1 h2 h3 h4 => k b o (h b o h1 h2 h3 h4).1 h2 (h b o h1 h2 h3 h4).2 h4
end Go.Proofs.YtpbcmlnjiocmoaaGreatDoorR
namespace Go.Proofs.YtpbcmlnjiocmoaaGreatDoorR
open Go.RowKit Go.Proofs.Lexi
theorem two_vals {W : World} {m : Nat} {a b : V} (h : W.heap[m]? = some (.cells #[.int .i64 a.k, .int .i64 a.p, .int .i64 a.q, .string a.s, .int .i64 a.r, .int .i64 b.k, .int .i64 b.p, .int .i64 b.q, .string b.s, .int .i64 b.r] 30)) : Vals W (.slice (some ⟨m, 0, none⟩) 2 2) [a, b] := by
  have hr : W.ownsRow 0 30 5 (.slice (some ⟨m, 0, none⟩) [a, b].length 2) [a, b].length (rowV [a, b]) := ⟨rfl, .inr ⟨m, 2, _, rfl, Nat.zero_le _, h, Nat.le_refl _, by unfold maxLen; omega, rfl, rfl⟩⟩
  exact Vals.of_row hr
theorem row_one {w : World} {B cap : Nat} {so : Option Addr} {v : V} (h : w.ownsRow B 30 5 (.slice so 1 cap) 1 (rowV [v])) : ∃ g, so = some ⟨g, 0, none⟩ ∧ g < w.heap.size ∧ 1 ≤ cap ∧ ∀ W, Below w.heap.size w W → W.cell? ⟨g, 0, none⟩ = some (.int .i64 v.k) ∧ W.cell? ⟨g, 1, none⟩ = some (.int .i64 v.p) ∧ W.cell? ⟨g, 2, none⟩ = some (.int .i64 v.q) ∧ W.cell? ⟨g, 3, none⟩ = some (.string v.s) ∧ W.cell? ⟨g, 4, none⟩ = some (.int .i64 v.r) := by
  have hv : Vals w (.slice so 1 cap) [v] := Vals.of_row (A := [v]) h
  rcases h.2 with ⟨e, e2⟩ | ⟨g, cap', cur, e, _, hg, hc, _⟩
  · exact absurd e2 (by decide)
  · injection e with e1 _ e2
    subst e1 e2
    refine ⟨g, rfl, (Array.getElem?_eq_some_iff.1 hg).1, hc, fun W hb => ?_⟩
    have := Vals.at_ (Vals.below hv hb) (i := 0) (v := v) rfl
    simpa using this.2
def oneL : List V := [⟨2, 1, 1, ⟨#[]⟩, 0⟩, ⟨2, 2, 1, ⟨#[]⟩, 0⟩, ⟨2, 3, 1, ⟨#[]⟩, 0⟩]
theorem oneL_ok : ∀ v ∈ oneL, v.k ≠ 0 ∧ validV v = true ∧ WfV v := by
  intro v hv
  simp only [oneL, List.mem_cons, List.not_mem_nil, or_false] at hv
  rcases hv with rfl | rfl | rfl <;> exact ⟨by decide, by kernel_rfl, ⟨by decide, by decide⟩, ⟨by decide, by decide⟩, ⟨by decide, by decide⟩, by decide, ⟨by decide, by decide⟩⟩
theorem oneL_txt : ∀ v ∈ oneL, sE (strOf v) = 0 ∧ (txt v).size ≤ 4096 := by
  intro v hv
  simp only [oneL, List.mem_cons, List.not_mem_nil, or_false] at hv
  rcases hv with rfl | rfl | rfl <;> exact ⟨by kernel_rfl, of_decide_eq_true (by kernel_rfl)⟩
theorem oneL_con : [49, 45, 50, 45, 51] = conP oneL ⟨#[45]⟩ oneL.length := by kernel_rfl
theorem prjK5 {c0 c1 c2 c3 c4 p : Prop} (h : c0 ∧ c1 ∧ c2 ∧ c3 ∧ c4 ∧ Hid p) : p := (h.2.2.2.2.2).out
theorem prjK7 {c0 c1 c2 c3 c4 c5 c6 p : Prop} (h : c0 ∧ c1 ∧ c2 ∧ c3 ∧ c4 ∧ c5 ∧ c6 ∧ Hid p) : p := (h.2.2.2.2.2.2.2).out
def cntV (A : List V) (v : V) : Nat := A.countP fun u => eqV u v
theorem cntV_snoc {A : List V} {i : Nat} {u v : V} (h : A[i]? = some u) : cntV (A.take (i + 1)) v = cntV (A.take i) v + if eqV u v then 1 else 0 := by
  unfold cntV
  rw [List.take_add_one, h, Option.toList_some, List.countP_append, List.countP_singleton]
theorem cntV_le (A : List V) (v : V) : cntV A v ≤ A.length := List.countP_le_length
def sumL : List Int → Int
  | [] => 0
  | x :: l => x + sumL l
theorem sumL_append : ∀ (a b : List Int), sumL (a ++ b) = sumL a + sumL b
  | [], b => by simp [sumL]
  | x :: a, b => by simp only [List.cons_append, sumL, sumL_append a b]; omega
theorem sumL_snoc {A : List Int} {i : Nat} {x : Int} (h : A[i]? = some x) : sumL (A.take (i + 1)) = sumL (A.take i) + x := by
  rw [List.take_add_one, h, Option.toList_some, sumL_append]
  simp [sumL]
theorem sumL_perm {A B : List Int} (h : List.Perm A B) : sumL A = sumL B := by
  induction h with
  | nil => rfl
  | cons x _ ih => simp only [sumL, ih]
  | swap x y l => simp only [sumL]; omega
  | trans _ _ i1 i2 => rw [i1, i2]
theorem sumL_bd {A : List Int} (h : ∀ x ∈ A, -32768 ≤ x ∧ x ≤ 32767) : -(32768 * (A.length : Int)) ≤ sumL A ∧ sumL A ≤ 32768 * (A.length : Int) := by
  induction A with
  | nil => simp [sumL]
  | cons x l ih =>
    have h1 := ih (fun y hy => h y (List.mem_cons_of_mem _ hy))
    have h2 := h x List.mem_cons_self
    simp only [sumL, List.length_cons]
    push_cast
    omega
def Shorts (w : World) (so : Option Addr) (l : List Int) : Prop := l = [] ∨ ∃ g o, so = some ⟨g, o, none⟩ ∧ ∀ (i : Nat) x, l[i]? = some x → w.cell? ⟨g, o + i, none⟩ = some (.int .i16 x)
/-- Where the law's first loop is. -/
def LiS (w1 : World) (l : List Int) (i : Nat) (sv : Value) (wr : World) : Prop :=
  wr.ownsRow w1.heap.size 30 5 sv i (rowV ((l.map nI).take i)) ∧ Below w1.heap.size w1 wr
theorem nI_ok {l : List Int} (h : ∀ x ∈ l, -32768 ≤ x ∧ x ≤ 32767) : ∀ v ∈ l.map nI, v.k ≠ 0 ∧ validV v = true ∧ WfV v := by
  intro v hv
  obtain ⟨x, hx, rfl⟩ := List.mem_map.1 hv
  have := h x hx
  exact ⟨(by decide : (2 : Int) ≠ 0), valid_num (by omega) (by omega), wf_num (by omega) (by omega)⟩
set_option maxRecDepth 100000 in
set_option maxHeartbeats 2000000 in
theorem tint_c (w : World) (k p q : Int) (s : ByteArray) (r : Int) : Calls Tryz.prog 77 #[.agg #[.int .i64 k, .int .i64 p, .int .i64 q, .string s, .int .i64 r]] w (IntBool w p (intB ⟨k, p, q, s, r⟩)) := by
  have HV := Lib.hid (fun W => pvalidV_c W k p q s r)
  obtain ⟨T, hT⟩ : ∃ T, T = validV ⟨k, p, q, s, r⟩ := ⟨_, rfl⟩
  rw [← hT] at HV
  have hI : intB ⟨k, p, q, s, r⟩ = ((k == 2) && ((q == 1) && T)) := by unfold intB; rw [hT]
  obtain ⟨R, hR⟩ : ∃ R, R = intB ⟨k, p, q, s, r⟩ := ⟨_, rfl⟩
  rw [← hR]
  rw [← hR] at hI
  have HI := Lib.hid (hI)
  clear hT hI hR
  by_cases hk : k = 2
  · have ek : (k == 2) = true := beq_iff_eq.2 hk
    by_cases hq : q = 1
    · have eq : (q == 1) = true := beq_iff_eq.2 hq
      clear hk hq
      go_enter Tryz.func77, Tryz.ntmps77
      go_wp2
      obtain ⟨B, hB⟩ : ∃ B, B = w.alloc (oV k p q s r) := ⟨_, rfl⟩
      rw [← hB]
      have HW0 := Lib.hid (show Below w.heap.size w B by rw [hB]; exact below1 _ _)
      have Hf0 := Lib.hid (show B.heap[w.heap.size]? = some (oV k p q s r) by rw [hB]; exact heap1 _ _)
      clear hB
      have SO := Lib.hid (fun (W : World) (hb : Below B.heap.size B W) => (show W.cell? ⟨w.heap.size, 0, none⟩ = some (.int .i64 k) ∧ W.cell? ⟨w.heap.size, 1, none⟩ = some (.int .i64 p) ∧ W.cell? ⟨w.heap.size, 2, none⟩ = some (.int .i64 q) ∧ W.cell? ⟨w.heap.size, 3, none⟩ = some (.string s) ∧ W.cell? ⟨w.heap.size, 4, none⟩ = some (.int .i64 r) ∧ Hid (Below B.heap.size B W) from ⟨(cells5 (hkeep hb Hf0.out)).1, (cells5 (hkeep hb Hf0.out)).2.1, (cells5 (hkeep hb Hf0.out)).2.2.1, (cells5 (hkeep hb Hf0.out)).2.2.2.1, (cells5 (hkeep hb Hf0.out)).2.2.2.2, Lib.hid hb⟩))
      have hbR : Below B.heap.size B B := Below.refl _ _
      have hbD : Below B.heap.size B B.drew := (Below.refl _ _).drew
      go_region_held3 (fun w' => w'.cell? ⟨w.heap.size, 0, none⟩ = some (.int .i64 k) ∧ w'.cell? ⟨w.heap.size, 1, none⟩ = some (.int .i64 p) ∧ w'.cell? ⟨w.heap.size, 2, none⟩ = some (.int .i64 q) ∧ w'.cell? ⟨w.heap.size, 3, none⟩ = some (.string s) ∧ w'.cell? ⟨w.heap.size, 4, none⟩ = some (.int .i64 r) ∧ Hid (Below B.heap.size B w'))
        (with_reducible exact SO.out _ (by assumption))
        (first | (go_at_call 43; (with_reducible refine (HV.out _).mono ?_); rintro e w1 ⟨rfl, hb⟩; have hb1 := below_next (prj5a (by assumption)) hb; clear hb))
      go_wp2
      go_ret2
      exact ⟨by rw [HI.out]; simp [ek, eq], below_next HW0.out hb1⟩
    · have eq : (q == 1) = false := beq_eq_false_iff_ne.2 hq
      clear hk hq
      go_enter Tryz.func77, Tryz.ntmps77
      go_wp2
      go_quiet (fail)
      go_wp2
      go_ret2
      exact ⟨by rw [HI.out]; simp [ek, eq], bdn (below1 _ _) _⟩
  · have ek : (k == 2) = false := beq_eq_false_iff_ne.2 hk
    clear hk
    go_enter Tryz.func77, Tryz.ntmps77
    go_wp2
    go_quiet (fail)
    go_wp2
    go_ret2
    exact ⟨by rw [HI.out]; simp [ek], bdn (below1 _ _) _⟩
set_option maxRecDepth 100000 in
set_option maxHeartbeats 2000000 in
theorem twGet_in (w : World) (t m g : Nat) (sv : Value) (L : List Sl) (av : Value) (A : List V) (hT : TabW w t m g sv L av A) (hl : A.length ≤ 100000) (i : Nat) (v : V) (hi : A[i]? = some v) (x : Int) (hx : x = (i : Int) + 1) (s : ByteArray) (r : Int) (hk : validV ⟨2, x, 1, s, r⟩ = true) :
    Calls Tryz.prog 40 #[.pointer (some ⟨t, 0, none⟩), .agg #[.int .i64 2, .int .i64 x, .int .i64 1, .string s, .int .i64 r]] w (ValPost w v) := by
  subst hx
  obtain ⟨ht, hrow, _, _⟩ := hT
  have hlt : i < A.length := (List.getElem?_eq_some_iff.1 hi).1
  obtain ⟨ga, cap, rfl, hga, hcap⟩ := listW_some hrow (fun h => by rw [h] at hlt; simp at hlt)
  have HV := Lib.hid (fun W => (show Calls Tryz.prog 43 #[.agg #[.int .i64 2, .int .i64 ((i : Int) + 1), .int .i64 1, .string s, .int .i64 r]] W (BoolPost W true) from by have h := pvalidV_c W 2 ((i : Int) + 1) 1 s r; rw [hk] at h; exact h))
  have HI := Lib.hid (fun W => (show Calls Tryz.prog 77 #[.agg #[.int .i64 2, .int .i64 ((i : Int) + 1), .int .i64 1, .string s, .int .i64 r]] W (IntBool W ((i : Int) + 1) true) from by have h := tint_c W 2 ((i : Int) + 1) 1 s r; rw [show intB ⟨2, (i : Int) + 1, 1, s, r⟩ = true from by unfold intB; rw [hk]; rfl] at h; exact h))
  have HT := Lib.hid (ht)
  have HR := Lib.hid (hrow)
  have HIV := Lib.hid (hi)
  have htl : t < w.heap.size := (Array.getElem?_eq_some_iff.1 ht).1
  have d1 : decide (((i : Int) + 1) ≥ 1) = true := decide_eq_true (by omega)
  have d2 : decide (((i : Int) + 1) ≤ (A.length : Int)) = true := decide_eq_true (by omega)
  have d3 : (i : Int) < (A.length : Int) := by omega
  clear ht hrow hi hk
  go_enter Tryz.func40, Tryz.ntmps40
  go_wp2_with fail
  refine (HV.out _).mono ?_
  rintro e w1 ⟨rfl, hb⟩
  have Ha1 := Lib.hid (hkeep hb (heap2_a w (oV 2 ((i : Int) + 1) 1 s r) (oV 0 0 0 ⟨#[]⟩ 0)))
  have Hb1 := Lib.hid (hkeep hb (heap2_b w (oV 2 ((i : Int) + 1) 1 s r) (oV 0 0 0 ⟨#[]⟩ 0)))
  have HW1 := Lib.hid (below_next (below2w _ _ _) hb)
  clear hb
  obtain ⟨a0, a1, a2, a3, a4⟩ := cells5 Ha1.out
  obtain ⟨fa0, fa1, fa2, fa3, fa4⟩ := froz5 Ha1.out
  go_wp2_with fail
  refine (HI.out _).mono ?_
  rintro e w2 ⟨rfl, hb⟩
  have Hb2 := Lib.hid (hkeep hb Hb1.out)
  have HW2 := Lib.hid (below_next HW1.out hb)
  clear hb a0 a1 a2 a3 a4 fa0 fa1 fa2 fa3 fa4
  have t0 : w2.cell? ⟨t, 0, none⟩ = some (.slice (some ⟨ga, 0, none⟩) A.length cap) := by rw [cell_of_heap (hkeep HW2.out HT.out)]; rfl
  obtain ⟨c0, c1, c2, c3, c4⟩ := listW_five (listW_below HR.out HW2.out) HIV.out
  have hz2 := HW2.out.size
  have hya : w.heap.size + 1 < w2.heap.size := (Array.getElem?_eq_some_iff.1 Hb2.out).1
  obtain ⟨b0, b1, b2, b3, b4⟩ := cells5 Hb2.out
  obtain ⟨fb0, fb1, fb2, fb3, fb4⟩ := froz5 Hb2.out
  go_wp2
  refine bodyPost_ret (by simp [results, Tryz.results40, go_sem, hya, b0, b1, b2, b3, b4]; first | done | rfl) rfl ?_
  exact val_done rfl (below_five HW2.out (by omega) _ _ _ _ _)
set_option maxRecDepth 100000 in
set_option maxHeartbeats 2000000 in
theorem twGet_out (w : World) (t m g : Nat) (sv : Value) (L : List Sl) (av : Value) (A : List V) (hT : TabW w t m g sv L av A) (hl : A.length ≤ 100000) (hL : L.length ≤ 1000) (k p q : Int) (s : ByteArray) (r : Int) (hk : validV ⟨k, p, q, s, r⟩ = true) (hw : WfV ⟨k, p, q, s, r⟩) (ho : intB ⟨k, p, q, s, r⟩ = false ∨ intB ⟨k, p, q, s, r⟩ = true ∧ (p < 1 ∨ (A.length : Int) < p)) :
    Calls Tryz.prog 40 #[.pointer (some ⟨t, 0, none⟩), .agg #[.int .i64 k, .int .i64 p, .int .i64 q, .string s, .int .i64 r]] w (ValPost w (getM L ⟨k, p, q, s, r⟩)) := by
  obtain ⟨ht, hrow, _, hO⟩ := hT
  obtain ⟨so, cap, rfl, hcap⟩ := listW_shape hrow
  have HV := Lib.hid (fun W => (show Calls Tryz.prog 43 #[.agg #[.int .i64 k, .int .i64 p, .int .i64 q, .string s, .int .i64 r]] W (BoolPost W true) from by have h := pvalidV_c W k p q s r; rw [hk] at h; exact h))
  have HI := Lib.hid (fun W => tint_c W k p q s r)
  have HT := Lib.hid (ht)
  have HO := Lib.hid (hO)
  have htl : t < w.heap.size := (Array.getElem?_eq_some_iff.1 ht).1
  obtain ⟨R, hR⟩ : ∃ R, R = getM L ⟨k, p, q, s, r⟩ := ⟨_, rfl⟩
  rw [← hR]
  have hget : ∀ W, OMap W m g sv L → Calls Tryz.prog 78 #[.pointer (some ⟨m, 0, none⟩), .agg #[.int .i64 k, .int .i64 p, .int .i64 q, .string s, .int .i64 r]] W (ValPost W R) := fun W h => by rw [hR]; exact pomGet_c W m g sv L h hL k p q s r hw
  have HG := Lib.hid (hget)
  obtain ⟨b, hb⟩ : ∃ b, b = intB ⟨k, p, q, s, r⟩ := ⟨_, rfl⟩
  rw [← hb] at HI ho
  have ways : (b = false ∧ True ∧ True) ∨ (b = true ∧ decide (p ≥ 1) = false ∧ True) ∨ (b = true ∧ decide (p ≥ 1) = true ∧ decide (p ≤ (A.length : Int)) = false) := by
    rcases ho with ho | ⟨ho, h1⟩
    · exact .inl ⟨ho, trivial, trivial⟩
    · by_cases h2 : p < 1
      · exact .inr (.inl ⟨ho, decide_eq_false (by omega), trivial⟩)
      · exact .inr (.inr ⟨ho, decide_eq_true (by omega), decide_eq_false (by omega)⟩)
  clear ht hrow hO hR hget hk hb ho
  rcases ways with ⟨rfl, d1, d2⟩ | ⟨rfl, d1, d2⟩ | ⟨rfl, d1, d2⟩
  all_goals
    go_enter Tryz.func40, Tryz.ntmps40
    go_wp2_with fail
    refine (HV.out _).mono ?_
    rintro e w1 ⟨rfl, hb⟩
    have Ha1 := Lib.hid (hkeep hb (heap2_a w (oV k p q s r) (oV 0 0 0 ⟨#[]⟩ 0)))
    have Hb1 := Lib.hid (hkeep hb (heap2_b w (oV k p q s r) (oV 0 0 0 ⟨#[]⟩ 0)))
    have HW1 := Lib.hid (below_next (below2w _ _ _) hb)
    clear hb
    obtain ⟨a0, a1, a2, a3, a4⟩ := cells5 Ha1.out
    obtain ⟨fa0, fa1, fa2, fa3, fa4⟩ := froz5 Ha1.out
    go_wp2_with fail
    refine (HI.out _).mono ?_
    rintro e w2 ⟨rfl, hb⟩
    have Ha2 := Lib.hid (hkeep hb Ha1.out)
    have Hb2 := Lib.hid (hkeep hb Hb1.out)
    have HW2 := Lib.hid (below_next HW1.out hb)
    clear hb a0 a1 a2 a3 a4 fa0 fa1 fa2 fa3 fa4
    have t0 : w2.cell? ⟨t, 0, none⟩ = some (.slice so A.length cap) := by rw [cell_of_heap (hkeep HW2.out HT.out)]; rfl
    have t1 : w2.cell? ⟨t, 1, none⟩ = some (.pointer (some ⟨m, 0, none⟩)) := by rw [cell_of_heap (hkeep HW2.out HT.out)]; rfl
    have hz2 := HW2.out.size
    have hyt : t < w2.heap.size := by omega
    have hya : w.heap.size < w2.heap.size := (Array.getElem?_eq_some_iff.1 Ha2.out).1
    have hyb : w.heap.size + 1 < w2.heap.size := (Array.getElem?_eq_some_iff.1 Hb2.out).1
    obtain ⟨a0, a1, a2, a3, a4⟩ := cells5 Ha2.out
    obtain ⟨fa0, fa1, fa2, fa3, fa4⟩ := froz5 Ha2.out
    obtain ⟨b0, b1, b2, b3, b4⟩ := cells5 Hb2.out
    obtain ⟨fb0, fb1, fb2, fb3, fb4⟩ := froz5 Hb2.out
    go_wp2
    refine wp_region_lex mixed (by kernel_rfl) ?_
    go_wp2_with fail
    refine (HG.out _ (om_keep_below HO.out HW2.out.drew)).mono ?_
    rintro e w3 ⟨rfl, hb⟩
    have Hb3 := Lib.hid (hkeep hb Hb2.out)
    have HW3 := Lib.hid (below_next HW2.out.drew hb)
    clear hb hya hyb hyt t0 t1 a0 a1 a2 a3 a4 fa0 fa1 fa2 fa3 fa4 b0 b1 b2 b3 b4 fb0 fb1 fb2 fb3 fb4
    have hyb : w.heap.size + 1 < w3.heap.size := (Array.getElem?_eq_some_iff.1 Hb3.out).1
    obtain ⟨b0, b1, b2, b3, b4⟩ := cells5 Hb3.out
    obtain ⟨fb0, fb1, fb2, fb3, fb4⟩ := froz5 Hb3.out
    go_wp2
    refine ⟨by kernel_rfl, ?_⟩
    go_wp2
    refine bodyPost_ret (by simp [results, Tryz.results40, go_sem, hyb, b0, b1, b2, b3, b4]; first | done | rfl) rfl ?_
    exact val_done rfl (below_five HW3.out (by omega) _ _ _ _ _)
set_option maxRecDepth 100000 in
set_option maxHeartbeats 2000000 in
theorem twSet_in (w : World) (t m g : Nat) (sv : Value) (L : List Sl) (av : Value) (A : List V) (hT : TabW w t m g sv L av A) (hl : A.length ≤ 100000) (i : Nat) (hi : i < A.length) (x : Int) (hx : x = (i : Int) + 1) (s : ByteArray) (r : Int) (hk : validV ⟨2, x, 1, s, r⟩ = true)
    (k2 p2 q2 : Int) (s2 : ByteArray) (r2 : Int) (hv : validV ⟨k2, p2, q2, s2, r2⟩ = true) (hw : WfV ⟨k2, p2, q2, s2, r2⟩) :
    Calls Tryz.prog 46 #[.pointer (some ⟨t, 0, none⟩), .agg #[.int .i64 2, .int .i64 x, .int .i64 1, .string s, .int .i64 r], .agg #[.int .i64 k2, .int .i64 p2, .int .i64 q2, .string s2, .int .i64 r2]] w (TSetPost w t m g sv L av (setInM A i ⟨k2, p2, q2, s2, r2⟩)) := by
  subst hx
  obtain ⟨ga, cap, rfl, hga, hcap⟩ := listW_some hT.lw (fun h => by rw [h] at hi; simp at hi)
  have HV1 := Lib.hid (fun W => (show Calls Tryz.prog 43 #[.agg #[.int .i64 2, .int .i64 ((i : Int) + 1), .int .i64 1, .string s, .int .i64 r]] W (BoolPost W true) from by have h := pvalidV_c W 2 ((i : Int) + 1) 1 s r; rw [hk] at h; exact h))
  have HV2 := Lib.hid (fun W => (show Calls Tryz.prog 43 #[.agg #[.int .i64 k2, .int .i64 p2, .int .i64 q2, .string s2, .int .i64 r2]] W (BoolPost W true) from by have h := pvalidV_c W k2 p2 q2 s2 r2; rw [hv] at h; exact h))
  have HI := Lib.hid (fun W => (show Calls Tryz.prog 77 #[.agg #[.int .i64 2, .int .i64 ((i : Int) + 1), .int .i64 1, .string s, .int .i64 r]] W (IntBool W ((i : Int) + 1) true) from by have h := tint_c W 2 ((i : Int) + 1) 1 s r; rw [show intB ⟨2, (i : Int) + 1, 1, s, r⟩ = true from by unfold intB; rw [hk]; rfl] at h; exact h))
  have HT := Lib.hid (hT)
  have HX := Lib.hid ((⟨hw, hv⟩ : WfV ⟨k2, p2, q2, s2, r2⟩ ∧ validV ⟨k2, p2, q2, s2, r2⟩ = true))
  have htl : t < w.heap.size := (Array.getElem?_eq_some_iff.1 hT.ht).1
  have d1 : decide (((i : Int) + 1) ≥ 1) = true := decide_eq_true (by omega)
  have d2 : decide (((i : Int) + 1) ≤ (A.length : Int)) = true := decide_eq_true (by omega)
  have d3 : (i : Int) < (A.length : Int) := by omega
  obtain ⟨R, hR⟩ : ∃ R, R = setInM A i ⟨k2, p2, q2, s2, r2⟩ := ⟨_, rfl⟩
  rw [← hR]
  have hR1 : i + 1 = A.length → shrinkM (A.set i ⟨k2, p2, q2, s2, r2⟩) = R := fun h => by rw [hR]; unfold setInM; rw [if_pos h]
  have hR2 : ¬ i + 1 = A.length → A.set i ⟨k2, p2, q2, s2, r2⟩ = R := fun h => by rw [hR]; unfold setInM; rw [if_neg h]
  have HR1 := Lib.hid (hR1)
  have HR2 := Lib.hid (hR2)
  clear hT hk hv hw hR hR1 hR2
  go_enter Tryz.func46, Tryz.ntmps46
  go_wp2_with fail
  refine (HV1.out _).mono ?_
  rintro e w1 ⟨rfl, hb⟩
  have Ha1 := Lib.hid (hkeep hb (heap2_a w (oV 2 ((i : Int) + 1) 1 s r) (oV k2 p2 q2 s2 r2)))
  have Hb1 := Lib.hid (hkeep hb (heap2_b w (oV 2 ((i : Int) + 1) 1 s r) (oV k2 p2 q2 s2 r2)))
  have HW1 := Lib.hid (below_next (below2w _ _ _) hb)
  clear hb
  obtain ⟨b0, b1, b2, b3, b4⟩ := cells5 Hb1.out
  obtain ⟨fb0, fb1, fb2, fb3, fb4⟩ := froz5 Hb1.out
  go_wp2_with fail
  refine (HV2.out _).mono ?_
  rintro e w2 ⟨rfl, hb⟩
  have Ha2 := Lib.hid (hkeep hb Ha1.out)
  have Hb2 := Lib.hid (hkeep hb Hb1.out)
  have HW2 := Lib.hid (below_next HW1.out hb)
  clear hb b0 b1 b2 b3 b4 fb0 fb1 fb2 fb3 fb4
  obtain ⟨a0, a1, a2, a3, a4⟩ := cells5 Ha2.out
  obtain ⟨fa0, fa1, fa2, fa3, fa4⟩ := froz5 Ha2.out
  go_wp2_with fail
  refine (HI.out _).mono ?_
  rintro e w3 ⟨rfl, hb⟩
  have Hb3 := Lib.hid (hkeep hb Hb2.out)
  have HW3 := Lib.hid (below_next HW2.out hb)
  clear hb a0 a1 a2 a3 a4 fa0 fa1 fa2 fa3 fa4
  have HT3 := Lib.hid (tabW_below HT.out HW3.out.drew)
  have HTH := Lib.hid (listW_there HT3.out.lw hi)
  have t0 : w3.cell? ⟨t, 0, none⟩ = some (.slice (some ⟨ga, 0, none⟩) A.length cap) := by rw [cell_of_heap (hkeep HW3.out HT.out.ht)]; rfl
  have hz3 := HW3.out.size
  have hyb : w.heap.size + 1 < w3.heap.size := (Array.getElem?_eq_some_iff.1 Hb3.out).1
  have hyt : t < w3.heap.size := by omega
  obtain ⟨b0, b1, b2, b3, b4⟩ := cells5 Hb3.out
  obtain ⟨fb0, fb1, fb2, fb3, fb4⟩ := froz5 Hb3.out
  go_wp2
  refine wp_region_lex mixed (by kernel_rfl) ?_
  go_wp2_with (refine wpList_store_mid rfl 30 _ _ rfl ga (i * 5) _ rfl rfl HTH.out info25 (by simp [Value.oneCell']) ?_)
  refine ⟨by kernel_rfl, ?_⟩
  have hput := tabW_put HT3.out hi HX.out
  change TabW (w3.drew.setCells ga (i * 5) (vCells ⟨k2, p2, q2, s2, r2⟩)) _ _ _ _ _ _ _ ∧ _ at hput
  have hsz : w3.heap.size ≤ (w3.drew.setCells ga (i * 5) (vCells ⟨k2, p2, q2, s2, r2⟩)).heap.size := hput.2.size
  obtain ⟨W4, hW4⟩ : ∃ W4, W4 = w3.drew.setCells ga (i * 5) (vCells ⟨k2, p2, q2, s2, r2⟩) := ⟨_, rfl⟩
  rw [← hW4] at hput hsz
  have hgoal : w3.drew.setCells ga (i * 5) [.int .i64 k2, .int .i64 p2, .int .i64 q2, .string s2, .int .i64 r2] = W4 := hW4.symm
  try simp only [hgoal]
  clear hW4 hgoal
  have HP4 := Lib.hid (hput.1)
  have HM4 := Lib.hid (Mods.trans (Mods.of_below (F := TbF t (.slice (some ⟨ga, 0, none⟩) A.length cap)) HW3.out.drew) hput.2)
  clear hput t0 b0 b1 b2 b3 b4 fb0 fb1 fb2 fb3 fb4 hyb
  have t0 : W4.cell? ⟨t, 0, none⟩ = some (.slice (some ⟨ga, 0, none⟩) A.length cap) := by rw [cell_of_heap HP4.out.ht]; rfl
  have hyt : t < W4.heap.size := by omega
  have hlen : (A.set i ⟨k2, p2, q2, s2, r2⟩).length = A.length := List.length_set
  have HLEN := Lib.hid (hlen)
  clear hlen
  by_cases he : i + 1 = A.length
  · have ee : ((i : Int) + 1 == (A.length : Int)) = true := beq_iff_eq.2 (by omega)
    have HE := Lib.hid (HR1.out he)
    clear he
    go_wp2_with fail
    refine (tshrink_c W4 t m g sv L (.slice (some ⟨ga, 0, none⟩) A.length cap) (A.set i ⟨k2, p2, q2, s2, r2⟩) HP4.out (by rw [HLEN.out]; exact hl)).mono ?_
    rintro e w5 ⟨rfl, av', hA', hsub, hmd⟩
    have HA5 := Lib.hid (hA')
    have HM5 := Lib.hid (Mods.trans HM4.out (Mods.mono hmd (fun b _ hb => .inl hb)))
    have HS5 := Lib.hid (hsub)
    clear hA' hsub hmd
    go_wp2
    go_ret
    refine ⟨rfl, av', ?_, fun b hb => .inl (HS5.out b hb), HM5.out⟩
    rw [← HE.out]
    exact HA5.out
  · have ee : ((i : Int) + 1 == (A.length : Int)) = false := beq_eq_false_iff_ne.2 (by omega)
    have HE := Lib.hid (HR2.out he)
    clear he
    go_wp2
    go_ret
    refine ⟨rfl, _, ?_, fun b hb => .inl hb, HM4.out⟩
    rw [← HE.out]
    exact HP4.out
set_option maxRecDepth 100000 in
set_option maxHeartbeats 2000000 in
theorem pomNext_miss (w : World) (m g : Nat) (sv : Value) (L : List Sl) (hO : OMap w m g sv L) (k p q : Int) (s : ByteArray) (r : Int) (hk : WfV ⟨k, p, q, s, r⟩) (hne : eqV ⟨k, p, q, s, r⟩ V.nil = false) (ha : ∀ x ∈ L, x.k ≠ ⟨k, p, q, s, r⟩) :
    Calls Tryz.prog 99 #[.pointer (some ⟨m, 0, none⟩), .agg #[.int .i64 k, .int .i64 p, .int .i64 q, .string s, .int .i64 r]] w (NextPost w V.nil V.nil false 13) := by
  have hlt : m < w.heap.size := (Array.getElem?_eq_some_iff.1 hO.hm).1
  have hgl : g < w.heap.size := by obtain ⟨E, f, hE, _⟩ := hO.map; exact hE.lt
  have HM := Lib.hid (hkeep (below3w w (oV k p q s r) (oV 0 0 0 ⟨#[]⟩ 0) (oV 0 0 0 ⟨#[]⟩ 0)) hO.hm)
  have m1 : (((w.alloc (oV k p q s r)).alloc (oV 0 0 0 ⟨#[]⟩ 0)).alloc (oV 0 0 0 ⟨#[]⟩ 0)).cell? ⟨m, 1, none⟩ = some (.map (some g)) := by rw [cell_of_heap HM.out]; rfl
  have NE : ∀ W, (binOp .neq 30 (.agg #[.int .i64 k, .int .i64 p, .int .i64 q, .string s, .int .i64 r]) (.agg #[.int .i64 0, .int .i64 0, .int .i64 0, .string ⟨#[]⟩, .int .i64 0])).run Tryz.prog W = .ok (.bool true) W := fun W => by
    have h := neq_run W k p q s r 0 0 0 ⟨#[]⟩ 0
    rw [show eqV ⟨k, p, q, s, r⟩ ⟨0, 0, 0, ⟨#[]⟩, 0⟩ = false from hne] at h
    exact h
  have HLK := Lib.hid (fun (W : World) (h : W.heap[g]? = w.heap[g]?) => (show (Instr.lookup 142 (.map (some g)) (.agg #[.int .i64 k, .int .i64 p, .int .i64 q, .string s, .int .i64 r]) true).run Tryz.prog W = .ok (.tuple #[.int .i64 0, .bool false]) W from om_absent hO hk ha W h))
  have key : ∀ W : World, W.heap = (((w.alloc (oV k p q s r)).alloc (oV 0 0 0 ⟨#[]⟩ 0)).alloc (oV 0 0 0 ⟨#[]⟩ 0)).heap → W.heap[g]? = w.heap[g]? := fun W h => by rw [h]; exact (below3w w _ _ _).block g hgl
  have KEY := Lib.hid (key)
  clear hO hk ha hne key
  go_enter Tryz.func99, Tryz.ntmps99
  go_wp2
  refine wp_region_lex mixed (by kernel_rfl) ?_
  go_wp2_with (at_lookup; refine wpList_look_map _ rfl _ _ _ _ rfl _ _ _ rfl rfl (HLK.out _ (KEY.out _ rfl)) ?_)
  refine ⟨by kernel_rfl, ?_⟩
  go_wp2
  refine bodyPost_ret (by simp [results, Tryz.results99, go_sem]; first | done | rfl) rfl ?_
  exact ⟨rfl, by first | exact (below3w _ _ _ _).drew | exact below3w _ _ _ _⟩
theorem wpList_append_one {w : World} {ops : Array Oper} {rest : List Oper} {o : Oper} {a : Act} {Q : Exit → Act → World → Prop} (hgd : o.guard = none) (s y : Operand)
    (ho : o.op = .call { callee := .builtin .append, args := #[s, y], argTypes := #[26, 26] }) (v : Value) (A : List V) (hs : a.eval s = v) (hv : ListW w v A) (hl : A.length ≤ 1000000)
    (ad : Addr) (c : Nat) (x : V) (hy : a.eval y = .slice (some ad) 1 c) (hx : ∀ j u, (vCells x)[j]? = some u → w.cell? (ad.add j) = some u)
    (h : ∀ v' w', ListW w' v' (A ++ [x]) → w.grownBy w' v.ownBlock → (v'.ownBlock = v.ownBlock ∨ v'.ownBlock = some w.heap.size) → wpList Tryz.prog ops Q rest (a.put o.dst v') w') :
    wpList Tryz.prog ops Q (o :: rest) a w := by
  refine wpList_plain hgd fun K hK => ?_
  obtain ⟨v', w', hr, h2, h3, h4⟩ := append_one hv hl ad c x hx o.type
  unfold Oper.wp
  simp [execOp, ho, resolve, invoke, builtin, hs, hy, hr, Result.andThen]
  exact hK _ _ (h v' w' h2 h3 h4)
set_option maxRecDepth 100000 in
set_option maxHeartbeats 40000000 in
theorem tadd_c (w : World) (t m g : Nat) (sv : Value) (L : List Sl) (av : Value) (A : List V) (hT : TabW w t m g sv L av A) (hl : A.length ≤ 100000) (hL : L.length ≤ 1000) (k p q : Int) (s : ByteArray) (r : Int) (hv : validV ⟨k, p, q, s, r⟩ = true) (hw : WfV ⟨k, p, q, s, r⟩) (hk : k ≠ 0)
    (ha1 : ∀ x ∈ L, x.k ≠ ⟨2, (A.length : Int) + 1, 1, ⟨#[]⟩, 0⟩) (ha2 : getM L ⟨2, (A.length : Int) + 1 + 1, 1, ⟨#[]⟩, 0⟩ = V.nil) :
    Calls Tryz.prog 82 #[.pointer (some ⟨t, 0, none⟩), .agg #[.int .i64 k, .int .i64 p, .int .i64 q, .string s, .int .i64 r]] w (TAddPost w t m g sv L av (A ++ [⟨k, p, q, s, r⟩])) := by
  obtain ⟨so, cap, rfl, hcap⟩ := listW_shape hT.lw
  have htl : t < w.heap.size := (Array.getElem?_eq_some_iff.1 hT.ht).1
  have ek : (k == 0) = false := beq_eq_false_iff_ne.2 hk
  have ek2 : (k != 0) = true := bne_iff_ne.2 hk
  have HT := Lib.hid (hT)
  have HX := Lib.hid ((⟨hw, hv⟩ : WfV ⟨k, p, q, s, r⟩ ∧ validV ⟨k, p, q, s, r⟩ = true))
  have HA1 := Lib.hid (ha1)
  have HA2 := Lib.hid (ha2)
  have HCAP := Lib.hid (hcap)
  clear hT hv hw hk ha1 ha2 hcap
  go_enter Tryz.func82, Tryz.ntmps82
  go_wp2
  go_loopg [4] 1 (fun gg s4 wr => s4 = .bool false ∧ Hid (AddR w t m g sv L (.slice so A.length cap) A ⟨k, p, q, s, r⟩ gg wr))
  case atStart => exact ⟨rfl, Lib.hid (.inl ⟨rfl, heap1 _ _, below1 _ _⟩)⟩
  case round =>
    obtain ⟨rfl, HR⟩ := hrel
    rcases HR.out with ⟨rfl, hbox, hbw⟩ | ⟨rfl, hbox, av', hT', hsub, hmd⟩
    · have Hv0 := Lib.hid (hbox)
      have HW0 := Lib.hid (hbw)
      clear hbox hbw HR
      have HT0 := Lib.hid (tabW_below HT.out HW0.out)
      have hz0 := HW0.out.size
      have hyt : t < wr.heap.size := by omega
      have hyv : w.heap.size < wr.heap.size := (Array.getElem?_eq_some_iff.1 Hv0.out).1
      have t0 : wr.cell? ⟨t, 0, none⟩ = some (.slice so A.length cap) := by rw [cell_of_heap HT0.out.ht]; rfl
      have ft0 : wr.frozen? ⟨t, 0, none⟩ = false := frozen_of_heap HT0.out.ht _
      obtain ⟨v0, v1, v2, v3, v4⟩ := cells5 Hv0.out
      obtain ⟨fv0, fv1, fv2, fv3, fv4⟩ := froz5 Hv0.out
      go_wp2
      refine wp_region_lex mixed (by kernel_rfl) ?_
      go_wp2_with (at_builtin; refine wpList_append_one rfl (.tmp 21) (.tmp 23) rfl (.slice so A.length cap) A rfl (listW_below HT0.out.lw ((Below.refl _ _).drew.alloc (Nat.le_refl _) _)) (by omega) _ 1 ⟨k, p, q, s, r⟩ rfl (cell_one _ ⟨k, p, q, s, r⟩) ?_)
      intro v' w' h2 h3 h4
      have hlen : (A ++ [(⟨k, p, q, s, r⟩ : V)]).length = A.length + 1 := by simp
      obtain ⟨so2, cap2, e2, hcap2⟩ := listW_shape h2
      rw [hlen] at e2
      subst e2
      clear hlen
      have hgrow := tabW_grow (tabW_below HT0.out ((Below.refl _ _).drew.alloc (Nat.le_refl _) _)) HX.out h2 h3
      have hsz3 := h3.size
      simp at hsz3
      have HG := Lib.hid (hgrow)
      have hbz : w'.heap[w.heap.size]? = some (oV k p q s r) := (h3.block w.heap.size (by simp; omega) (fun e => by have := listW_lt HT.out.lw e.symm; omega)).trans (heap1_old (w := wr.drew) Hv0.out _)
      have HBZ := Lib.hid (hbz)
      have HSUB := Lib.hid (sub_of h4 (show w.heap.size ≤ _ by omega))
      have HNE := Lib.hid (own_ne (b := w.heap.size) h4 (fun g hg => listW_lt HT.out.lw hg) (by omega))
      clear h2 h3 h4 hgrow hbz v0 v1 v2 v3 v4 fv0 fv1 fv2 fv3 fv4 t0 ft0 hyt hyv
      have t0 : w'.cell? ⟨t, 0, none⟩ = some (.slice so A.length cap) := by rw [cell_of_heap HG.out.2.2]; rfl
      have ft0 : w'.frozen? ⟨t, 0, none⟩ = false := frozen_of_heap HG.out.2.2 _
      have hyt : t < w'.heap.size := by omega
      go_wp2
      refine ⟨by kernel_rfl, ?_⟩
      obtain ⟨W3, hW3⟩ : ∃ W3, W3 = w'.setCell ⟨t, 0, none⟩ (.slice so2 (A.length + 1) cap2) := ⟨_, rfl⟩
      have HT3 := Lib.hid ((show TabW W3 t m g sv L (.slice so2 (A.length + 1) cap2) (A ++ [(⟨k, p, q, s, r⟩ : V)]) by rw [hW3]; exact HG.out.1))
      have HM3 := Lib.hid ((show Mods (TbF t (.slice so A.length cap)) w W3 by rw [hW3]; exact Mods.trans (Mods.of_below (HW0.out.drew.alloc HW0.out.size _)) HG.out.2.1))
      have HV3 := Lib.hid ((show W3.heap[w.heap.size]? = some (oV k p q s r) by rw [hW3, Below.heap_setCell _ _ _ _ (show w.heap.size ≠ t by omega)]; exact HBZ.out))
      have hz3 : wr.heap.size ≤ W3.heap.size := by rw [hW3]; simp; omega
      rw [show w'.setCell ⟨t, 0, none⟩ (.slice so2 (A.length + 1) cap2) = W3 from hW3.symm]
      clear hW3 t0 ft0 hyt
      have HN1 := Lib.hid (fun W (hb : Below W3.heap.size W3 W) => pomNext_miss W m g sv L (om_keep_below HT3.out.om hb) 2 ((A.length : Int) + 1) 1 ⟨#[]⟩ 0 (wf_num (by omega) (by omega)) (eqv_num _) HA1.out)
      have HOI := Lib.hid (fun W => pOfInt_top W ((A.length : Int) + 1) (by omega) (by omega))
      go_upto_region 4 with fail
      go_cut [4, 8] (fun s4 s8 wx => s4 = .bool false ∧ s8 = .int .i64 13 ∧ Hid (Below W3.heap.size W3 wx))
      case first =>
        have SO := Lib.hid (fun (W : World) (hb : Below W3.heap.size W3 W) => (show W.cell? ⟨t, 0, none⟩ = some (.slice so2 (A.length + 1) cap2) ∧ W.cell? ⟨t, 1, none⟩ = some (.pointer (some ⟨m, 0, none⟩)) ∧ Hid (Below W3.heap.size W3 W) from ⟨(cells2 (hkeep hb HT3.out.ht)).1, (cells2 (hkeep hb HT3.out.ht)).2, Lib.hid hb⟩))
        have BA := Lib.hid (fun (W : World) (o : Obj) (hb : Below W3.heap.size W3 W) => (show Below W3.heap.size W3 (W.alloc o) from hb.alloc hb.size o))
        have BD := Lib.hid (fun (W : World) (hb : Below W3.heap.size W3 W) => (show Below W3.heap.size W3 W.drew from hb.drew))
        have B5 := Lib.hid (fun (W : World) (b : Nat) (c0 c1 c2 c3 c4 : Value) (hb : Below W3.heap.size W3 W) (hbb : W3.heap.size ≤ b) => below_five hb hbb c0 c1 c2 c3 c4)
        have hbR : Below W3.heap.size W3 W3 := Below.refl _ _
        have hbD : Below W3.heap.size W3 W3.drew := (Below.refl _ _).drew
        go_region_held3 (fun w' => w'.cell? ⟨t, 0, none⟩ = some (.slice so2 (A.length + 1) cap2) ∧ w'.cell? ⟨t, 1, none⟩ = some (.pointer (some ⟨m, 0, none⟩)) ∧ Hid (Below W3.heap.size W3 w'))
          (with_reducible refine SO.out _ ?_; repeat (first | with_reducible assumption | (with_reducible refine BA.out _ _ ?_) | (with_reducible refine BD.out _ ?_) | (with_reducible refine B5.out _ _ _ _ _ _ _ ?_ ?_) | omega))
          (first | (go_at_call 54; (with_reducible refine (HOI.out _).mono ?_); rintro e nw1 ⟨rfl, hb⟩; have hb1 := below_next (prj2a (by assumption)) hb; have hz1 := hb1.size; (first | (with_reducible have Hza := Lib.hid (hkeep hb (heap_newD W3 oZ))) | (with_reducible have Hza := Lib.hid (hkeep hb (heap_new W3 oZ))) | (with_reducible have Hza := Lib.hid (hkeep hb (heap2_aD W3 oZ oZ))) | (with_reducible have Hza := Lib.hid (hkeep hb (heap2_a W3 oZ oZ))) | skip); (first | (with_reducible have Hzb := Lib.hid (hkeep hb (heap2_bD W3 oZ oZ))) | (with_reducible have Hzb := Lib.hid (hkeep hb (heap2_b W3 oZ oZ))) | skip); (try have hza1 := (Array.getElem?_eq_some_iff.1 Hza.out).1); (try have hzb1 := (Array.getElem?_eq_some_iff.1 Hzb.out).1); clear hb) | (go_at_call 99; (with_reducible refine (HN1.out _ (prj2a (by assumption))).mono ?_); rintro e nw2 ⟨rfl, hb⟩; have hb2 := below_next (prj2a (by assumption)) hb; have hz2 := hb2.size; (first | ((with_reducible have Hqp := Lib.hid (hkeep hb (Hza.out))); (obtain ⟨plt, pa0, pa1, pa2, pa3, pa4, pf0, pf1, pf2, pf3, pf4⟩ := box5 Hqp.out)) | ((with_reducible have Hqp := Lib.hid (hkeep hb (heap1_old Hza.out _))); (obtain ⟨plt, pa0, pa1, pa2, pa3, pa4, pf0, pf1, pf2, pf3, pf4⟩ := box5 Hqp.out)) | ((with_reducible have Hqp := Lib.hid (hkeep hb (heap1_old (heap1_old Hza.out _) _))); (obtain ⟨plt, pa0, pa1, pa2, pa3, pa4, pf0, pf1, pf2, pf3, pf4⟩ := box5 Hqp.out)) | skip); (first | ((with_reducible have Hqq := Lib.hid (hkeep hb (Hzb.out))); (obtain ⟨qlt, qa0, qa1, qa2, qa3, qa4, qf0, qf1, qf2, qf3, qf4⟩ := box5 Hqq.out)) | ((with_reducible have Hqq := Lib.hid (hkeep hb (heap1_old Hzb.out _))); (obtain ⟨qlt, qa0, qa1, qa2, qa3, qa4, qf0, qf1, qf2, qf3, qf4⟩ := box5 Hqq.out)) | ((with_reducible have Hqq := Lib.hid (hkeep hb (heap1_old (heap1_old Hzb.out _) _))); (obtain ⟨qlt, qa0, qa1, qa2, qa3, qa4, qf0, qf1, qf2, qf3, qf4⟩ := box5 Hqq.out)) | skip); (first | ((with_reducible have Hqu := Lib.hid (hkeep hb (heap_new nw1 oZ))); (obtain ⟨ult, ua0, ua1, ua2, ua3, ua4, uf0, uf1, uf2, uf3, uf4⟩ := box5 Hqu.out)) | ((with_reducible have Hqu := Lib.hid (hkeep hb (heap2_a nw1 oZ oZ))); (obtain ⟨ult, ua0, ua1, ua2, ua3, ua4, uf0, uf1, uf2, uf3, uf4⟩ := box5 Hqu.out)) | skip); (first | ((with_reducible have Hqv := Lib.hid (hkeep hb (heap2_b nw1 oZ oZ))); (obtain ⟨vlt, va0, va1, va2, va3, va4, vf0, vf1, vf2, vf3, vf4⟩ := box5 Hqv.out)) | skip); clear hb))
        all_goals
          go_wp2_with fail
          go_meet
          exact ⟨rfl, rfl, Lib.hid (prj2a (by assumption))⟩
      case rest =>
        obtain ⟨rfl, rfl, hbx⟩ := hcut
        have HT4 := Lib.hid (tabW_below HT3.out hbx.out)
        have HV4 := Lib.hid (hkeep hbx.out HV3.out)
        have HM4 := Lib.hid (Mods.trans HM3.out (Mods.of_below hbx.out))
        have hz4 := hbx.out.size
        clear hbx
        have HG4 := Lib.hid (fun W (hb : OMap W m g sv L) => (show Calls Tryz.prog 78 #[.pointer (some ⟨m, 0, none⟩), .agg #[.int .i64 2, .int .i64 ((A.length : Int) + 1 + 1), .int .i64 1, .string ⟨#[]⟩, .int .i64 0]] W (fun e w' => e = .returned (.agg #[.int .i64 0, .int .i64 0, .int .i64 0, .string ⟨#[]⟩, .int .i64 0]) ∧ Below W.heap.size W w') from by have h := pomGet_c W m g sv L hb hL 2 ((A.length : Int) + 1 + 1) 1 ⟨#[]⟩ 0 (wf_num (by omega) (by omega)); rw [HA2.out] at h; exact h))
        have HOJ := Lib.hid (fun W => (show Calls Tryz.prog 54 #[.int .i64 (IntKind.i64.wrap ((A.length : Int) + 1 + 1))] W (fun e w' => e = .returned (.agg #[.int .i64 2, .int .i64 ((A.length : Int) + 1 + 1), .int .i64 1, .string ⟨#[]⟩, .int .i64 0]) ∧ Below W.heap.size W w') from by rw [w64_in (by omega) (by omega)]; exact pOfInt_top W ((A.length : Int) + 1 + 1) (by omega) (by omega)))
        have SO := Lib.hid (fun (W : World) (hb : Mods (fun b => b = w.heap.size) wc W) => (show W.cell? ⟨t, 0, none⟩ = some (.slice so2 (A.length + 1) cap2) ∧ W.cell? ⟨t, 1, none⟩ = some (.pointer (some ⟨m, 0, none⟩)) ∧ Hid (Mods (fun b => b = w.heap.size) wc W) from ⟨(cells2 (mkeep hb HT4.out.ht (by omega))).1, (cells2 (mkeep hb HT4.out.ht (by omega))).2, Lib.hid hb⟩))
        have SO5 := Lib.hid (fun (W : World) (c0 c1 c2 c3 c4 : Value) (hb : Mods (fun b => b = w.heap.size) wc W) => SO.out _ (mods_setCell (mods_setCell (mods_setCell (mods_setCell (mods_setCell hb (.inl rfl) c0 (o := 0)) (.inl rfl) c1 (o := 1)) (.inl rfl) c2 (o := 2)) (.inl rfl) c3 (o := 3)) (.inl rfl) c4 (o := 4)))
        have TO := Lib.hid (fun (W : World) (hb : Mods (fun b => b = w.heap.size) wc W) => (tabW_mods HT4.out HV4.out HNE.out hb).om)
        have hbR : Mods (fun b => b = w.heap.size) wc wc := Mods.refl _ _
        have hbD : Mods (fun b => b = w.heap.size) wc wc.drew := Mods.of_below (Below.refl _ _).drew
        go_wp2
        go_region_held3 (fun w' => w'.cell? ⟨t, 0, none⟩ = some (.slice so2 (A.length + 1) cap2) ∧ w'.cell? ⟨t, 1, none⟩ = some (.pointer (some ⟨m, 0, none⟩)) ∧ Hid (Mods (fun b => b = w.heap.size) wc w'))
          (first | with_reducible exact SO.out _ (by assumption) | with_reducible exact SO5.out _ _ _ _ _ _ (by assumption))
          (first | (go_at_call 54; (with_reducible refine (HOJ.out _).mono ?_); rintro e nw3 ⟨rfl, hb⟩; have hb3 := mods_next (prj2a (by assumption)) hb; have HV5 := Lib.hid (hkeep hb HV4.out); clear hb) | (go_at_call 78; (with_reducible refine (HG4.out _ (TO.out _ (prj2a (by assumption)))).mono ?_); rintro e nw4 ⟨rfl, hb⟩; have hb4 := mods_next (prj2a (by assumption)) hb; have HV6 := Lib.hid (hkeep hb HV5.out); (obtain ⟨v0, v1, v2, v3, v4⟩ := cells5 HV6.out); (obtain ⟨fv0, fv1, fv2, fv3, fv4⟩ := froz5 HV6.out); clear hb))
        go_wp2
        go_roundg 0
        case measure => omega
        case rel =>
          refine ⟨rfl, Lib.hid (.inr ⟨rfl, heap_five_at HV6.out _ _ _ _ _, _, tabW_mods HT4.out HV4.out HNE.out (mods_setCell (mods_setCell (mods_setCell (mods_setCell (mods_setCell hb4 (.inl rfl) _) (.inl rfl) _) (.inl rfl) _) (.inl rfl) _) (.inl rfl) _), HSUB.out, ?_⟩)⟩
          exact mods_new HM4.out (Nat.le_refl _) (mods_setCell (mods_setCell (mods_setCell (mods_setCell (mods_setCell hb4 (.inl rfl) _) (.inl rfl) _) (.inl rfl) _) (.inl rfl) _) (.inl rfl) _)
    · have Hv0 := Lib.hid (hbox)
      have HT0 := Lib.hid (hT')
      have HS0 := Lib.hid (hsub)
      have HM0 := Lib.hid (hmd)
      clear hbox hT' hsub hmd HR
      have hyv : w.heap.size < wr.heap.size := (Array.getElem?_eq_some_iff.1 Hv0.out).1
      obtain ⟨v0, v1, v2, v3, v4⟩ := cells5 Hv0.out
      obtain ⟨fv0, fv1, fv2, fv3, fv4⟩ := froz5 Hv0.out
      go_wp2
      refine bodyPost_ret (by simp [results, Tryz.results82, go_sem]; first | done | rfl) rfl ?_
      exact ⟨rfl, av', HT0.out, HS0.out, HM0.out⟩
set_option maxRecDepth 100000 in
set_option maxHeartbeats 2000000 in
theorem twSet_push (w : World) (t m g : Nat) (sv : Value) (L : List Sl) (av : Value) (A : List V) (hT : TabW w t m g sv L av A) (hl : A.length ≤ 100000) (hL : L.length ≤ 1000) (x : Int) (hx : x = (A.length : Int) + 1) (s : ByteArray) (r : Int) (hk : validV ⟨2, x, 1, s, r⟩ = true)
    (k2 p2 q2 : Int) (s2 : ByteArray) (r2 : Int) (hv : validV ⟨k2, p2, q2, s2, r2⟩ = true) (hw : WfV ⟨k2, p2, q2, s2, r2⟩) (hn : k2 ≠ 0)
    (ha1 : ∀ x ∈ L, x.k ≠ ⟨2, (A.length : Int) + 1, 1, ⟨#[]⟩, 0⟩) (ha2 : getM L ⟨2, (A.length : Int) + 1 + 1, 1, ⟨#[]⟩, 0⟩ = V.nil) :
    Calls Tryz.prog 46 #[.pointer (some ⟨t, 0, none⟩), .agg #[.int .i64 2, .int .i64 x, .int .i64 1, .string s, .int .i64 r], .agg #[.int .i64 k2, .int .i64 p2, .int .i64 q2, .string s2, .int .i64 r2]] w (TSetPost w t m g sv L av (A ++ [⟨k2, p2, q2, s2, r2⟩])) := by
  subst hx
  obtain ⟨so, cap, rfl, hcap⟩ := listW_shape hT.lw
  have HV1 := Lib.hid (fun W => (show Calls Tryz.prog 43 #[.agg #[.int .i64 2, .int .i64 ((A.length : Int) + 1), .int .i64 1, .string s, .int .i64 r]] W (BoolPost W true) from by have h := pvalidV_c W 2 ((A.length : Int) + 1) 1 s r; rw [hk] at h; exact h))
  have HV2 := Lib.hid (fun W => (show Calls Tryz.prog 43 #[.agg #[.int .i64 k2, .int .i64 p2, .int .i64 q2, .string s2, .int .i64 r2]] W (BoolPost W true) from by have h := pvalidV_c W k2 p2 q2 s2 r2; rw [hv] at h; exact h))
  have HI := Lib.hid (fun W => (show Calls Tryz.prog 77 #[.agg #[.int .i64 2, .int .i64 ((A.length : Int) + 1), .int .i64 1, .string s, .int .i64 r]] W (IntBool W ((A.length : Int) + 1) true) from by have h := tint_c W 2 ((A.length : Int) + 1) 1 s r; rw [show intB ⟨2, (A.length : Int) + 1, 1, s, r⟩ = true from by unfold intB; rw [hk]; rfl] at h; exact h))
  have HADD := Lib.hid (fun W (hb : Below w.heap.size w W) => tadd_c W t m g sv L _ A (tabW_below hT hb) hl hL k2 p2 q2 s2 r2 hv hw hn ha1 ha2)
  have HT := Lib.hid (hT)
  have htl : t < w.heap.size := (Array.getElem?_eq_some_iff.1 hT.ht).1
  have d1 : decide (((A.length : Int) + 1) ≥ 1) = true := decide_eq_true (by omega)
  have d2 : decide (((A.length : Int) + 1) ≤ (A.length : Int)) = false := decide_eq_false (by omega)
  have d3 : ¬ ((A.length : Int) + 1) ≤ (A.length : Int) := by omega
  have d4 : (k2 != 0) = true := bne_iff_ne.2 hn
  have d5 : (A.length : Int) ≤ 100000 := by omega
  clear hT hk hv hw hn ha1 ha2
  go_enter Tryz.func46, Tryz.ntmps46
  go_wp2_with fail
  refine (HV1.out _).mono ?_
  rintro e w1 ⟨rfl, hb⟩
  have Ha1 := Lib.hid (hkeep hb (heap2_a w (oV 2 ((A.length : Int) + 1) 1 s r) (oV k2 p2 q2 s2 r2)))
  have Hb1 := Lib.hid (hkeep hb (heap2_b w (oV 2 ((A.length : Int) + 1) 1 s r) (oV k2 p2 q2 s2 r2)))
  have HW1 := Lib.hid (below_next (below2w _ _ _) hb)
  clear hb
  obtain ⟨b0, b1, b2, b3, b4⟩ := cells5 Hb1.out
  obtain ⟨fb0, fb1, fb2, fb3, fb4⟩ := froz5 Hb1.out
  go_wp2_with fail
  refine (HV2.out _).mono ?_
  rintro e w2 ⟨rfl, hb⟩
  have Ha2 := Lib.hid (hkeep hb Ha1.out)
  have Hb2 := Lib.hid (hkeep hb Hb1.out)
  have HW2 := Lib.hid (below_next HW1.out hb)
  clear hb b0 b1 b2 b3 b4 fb0 fb1 fb2 fb3 fb4
  obtain ⟨a0, a1, a2, a3, a4⟩ := cells5 Ha2.out
  obtain ⟨fa0, fa1, fa2, fa3, fa4⟩ := froz5 Ha2.out
  go_wp2_with fail
  refine (HI.out _).mono ?_
  rintro e w3 ⟨rfl, hb⟩
  have Hb3 := Lib.hid (hkeep hb Hb2.out)
  have HW3 := Lib.hid (below_next HW2.out hb)
  clear hb a0 a1 a2 a3 a4 fa0 fa1 fa2 fa3 fa4
  have t0 : w3.cell? ⟨t, 0, none⟩ = some (.slice so A.length cap) := by rw [cell_of_heap (hkeep HW3.out HT.out.ht)]; rfl
  have hz3 := HW3.out.size
  have hyb : w.heap.size + 1 < w3.heap.size := (Array.getElem?_eq_some_iff.1 Hb3.out).1
  have hyt : t < w3.heap.size := by omega
  obtain ⟨b0, b1, b2, b3, b4⟩ := cells5 Hb3.out
  obtain ⟨fb0, fb1, fb2, fb3, fb4⟩ := froz5 Hb3.out
  go_wp2_with fail
  refine (HADD.out _ HW3.out).mono ?_
  rintro e w4 ⟨rfl, av', hT', hsub, hmd⟩
  have HT4 := Lib.hid (hT')
  have HS4 := Lib.hid (hsub)
  have HM4 := Lib.hid (Mods.trans (Mods.of_below HW3.out) hmd)
  clear hT' hsub hmd t0 b0 b1 b2 b3 b4 fb0 fb1 fb2 fb3 fb4
  go_wp2
  go_ret
  exact ⟨rfl, av', HT4.out, fun b hb => (HS4.out b hb).imp id (fun h => by omega), HM4.out⟩
/-- Get at any valid key. -/
theorem twGet_c (w : World) (t m g : Nat) (sv : Value) (L : List Sl) (av : Value) (A : List V) (hT : TabW w t m g sv L av A) (hl : A.length ≤ 100000) (hL : L.length ≤ 1000) (k p q : Int) (s : ByteArray) (r : Int) (hk : validV ⟨k, p, q, s, r⟩ = true) (hw : WfV ⟨k, p, q, s, r⟩) :
    Calls Tryz.prog 40 #[.pointer (some ⟨t, 0, none⟩), .agg #[.int .i64 k, .int .i64 p, .int .i64 q, .string s, .int .i64 r]] w (ValPost w (tgetM A L ⟨k, p, q, s, r⟩)) := by
  unfold tgetM inA
  by_cases hi : intB ⟨k, p, q, s, r⟩ = true
  · rw [hi, Bool.true_and]
    by_cases hp : 1 ≤ p ∧ p ≤ A.length
    · rw [if_pos (decide_eq_true hp)]
      obtain ⟨h2, h1, _⟩ := intB_iff.1 hi
      have h2 : k = 2 := h2
      have h1 : q = 1 := h1
      subst h2 h1
      obtain ⟨i, hi2⟩ : ∃ i : Nat, p = (i : Int) + 1 := ⟨(p - 1).toNat, by omega⟩
      have hlt : i < A.length := by omega
      rw [show A.getD (p.toNat - 1) V.nil = A[i] from by rw [show p.toNat - 1 = i by omega, List.getD_eq_getElem?_getD, List.getElem?_eq_getElem hlt]; rfl]
      exact twGet_in w t m g sv L av A hT hl i _ (List.getElem?_eq_getElem hlt) p hi2 s r hk
    · rw [if_neg (fun h => hp (of_decide_eq_true h))]
      exact twGet_out w t m g sv L av A hT hl hL k p q s r hk hw (.inr ⟨hi, by omega⟩)
  · have hi : intB ⟨k, p, q, s, r⟩ = false := by simpa using hi
    rw [hi, Bool.false_and, if_neg (by simp)]
    exact twGet_out w t m g sv L av A hT hl hL k p q s r hk hw (.inl hi)
set_option maxRecDepth 100000 in
set_option maxHeartbeats 2000000 in
theorem twLen_c (w : World) (t m : Nat) (so : Option Addr) (n cap : Nat) (ht : w.heap[t]? = some (.cells #[.slice so n cap, .pointer (some ⟨m, 0, none⟩)] 126)) : Calls Tryz.prog 38 #[.pointer (some ⟨t, 0, none⟩)] w (fun e w' => e = .returned (.int .i64 (n : Nat)) ∧ w' = w) := by
  have t0 : w.cell? ⟨t, 0, none⟩ = some (.slice so n cap) := by rw [cell_of_heap ht]; rfl
  have harr : Calls Tryz.prog 74 #[.pointer (some ⟨t, 0, none⟩)] w (fun e w' => e = .returned (.int .i64 (n : Nat)) ∧ w' = w) := by
    clear ht
    go_enter Tryz.func74, Tryz.ntmps74
    go_wp2
    go_ret
    exact ⟨rfl, rfl⟩
  have HA := Lib.hid harr
  clear harr ht t0
  go_enter Tryz.func38, Tryz.ntmps38
  go_wp2_with fail
  refine HA.out.mono ?_
  rintro e w1 ⟨rfl, rfl⟩
  go_wp2
  go_ret
  exact ⟨rfl, rfl⟩
end Go.Proofs.YtpbcmlnjiocmoaaGreatDoorR
