import Derived.Test.YtpbcmlnjiocmoaaGreatDoorROmG
set_option linter.unusedVariables false
set_option linter.unusedSimpArgs false
set_option maxRecDepth 100000
set_option maxHeartbeats 2000000
namespace Go.Proofs.YtpbcmlnjiocmoaaGreatDoorR
open Go.RowKit Go.Proofs.Lexi
theorem pw_iff {α : Type} {R : α → α → Prop} {l : List α} : l.Pairwise R ↔ ∀ (a b : Nat) (x y : α), a < b → l[a]? = some x → l[b]? = some y → R x y := by
  rw [List.pairwise_iff_getElem]
  constructor
  · intro h a b x y hab ha hb
    obtain ⟨h1, h2⟩ := List.getElem?_eq_some_iff.1 ha
    obtain ⟨h3, h4⟩ := List.getElem?_eq_some_iff.1 hb
    rw [← h2, ← h4]
    exact h a b h1 h3 hab
  · intro h a b ha hb hab
    exact h a b _ _ hab (List.getElem?_eq_getElem ha) (List.getElem?_eq_getElem hb)
theorem PSep.symm {x y : PO} (h : PSep x y) : PSep y x := by
  refine ⟨fun e => h.1 e.symm, fun a b => ?_⟩
  obtain ⟨h1, h2, h3, h4, h5⟩ := h.2 b a
  exact ⟨fun e => h1 e.symm, fun e => h2 e.symm, fun c hc hd => h3 c hd hc, fun e => h4 e.symm, fun c hc hd => h5 c hd hc⟩
theorem sep_at {H : List PO} (hs : H.Pairwise PSep) {i j : Nat} {x y : PO} (hi : H[i]? = some x) (hj : H[j]? = some y) (hij : i ≠ j) : PSep x y := by
  rcases Nat.lt_or_gt_of_ne hij with h | h
  · exact pw_iff.1 hs i j x y h hi hj
  · exact (pw_iff.1 hs j i y x h hj hi).symm
def HpF (h bo bt : Nat) (H : List PO) (b : Nat) : Prop := b = h ∨ b = bo ∨ b = bt ∨ ∃ x ∈ H, b = x.o ∨ (x.kind = 4 ∧ TwF x.t x.m x.g x.sv x.av b)
theorem tabW_keep {w w' : World} {t m g : Nat} {sv av : Value} {L : List Sl} {A : List V} (h : TabW w t m g sv L av A) (hk : ∀ b, TwF t m g sv av b → w'.heap[b]? = w.heap[b]?) : TabW w' t m g sv L av A :=
  ⟨(hk _ (.inl rfl)).trans h.ht, ListW.kept h.lw (fun b hb => hk _ (.inr (.inr hb))), h.wfA, h.om.keep (hk _ (.inr (.inl (.inl rfl)))) (hk _ (.inr (.inl (.inr (.inl rfl))))) (fun b hb => hk _ (.inr (.inl (.inr (.inr hb)))))⟩
theorem hp_pb {w : World} {h bo bt : Nat} {H : List PO} (hH : HpAt w h bo bt H) {b : Nat} (hb : HpF h bo bt H b) : (∃ o, w.heap[b]? = some o ∧ PB o) ∨ ∃ x ∈ H, x.kind = 4 ∧ x.av.ownBlock = some b ∧ ∃ cur, w.heap[b]? = some (.cells cur 30 (0, 0)) := by
  rcases hb with rfl | rfl | rfl | ⟨x, hx, rfl | ⟨h4, rfl | hF | hF⟩⟩
  · exact .inl ⟨_, hH.hh, .inr (.inr (.inr (.inr rfl)))⟩
  · obtain ⟨es, c, h1⟩ := hH.objs.obj; exact .inl ⟨_, h1, trivial⟩
  · obtain ⟨E, hE⟩ := hH.touched; obtain ⟨es, c, h1⟩ := hE.obj; exact .inl ⟨_, h1, trivial⟩
  · exact .inl ⟨_, (hH.one x hx).ho, .inr (.inr (.inr (.inl rfl)))⟩
  · exact .inl ⟨_, ((hH.one x hx).tb h4).ht, .inr (.inr (.inl rfl))⟩
  · have hO := ((hH.one x hx).tb h4).om
    rcases hF with rfl | rfl | hF
    · exact .inl ⟨_, hO.hm, .inl rfl⟩
    · obtain ⟨E, f, hE, _⟩ := hO.map; obtain ⟨es, c, h1⟩ := hE.obj; exact .inl ⟨_, h1, trivial⟩
    · obtain ⟨cs, hc⟩ := row_block hO.row hF; exact .inl ⟨_, hc, .inr (.inl rfl)⟩
  · exact .inr ⟨x, hx, h4, hF, listW_block ((hH.one x hx).tb h4).lw hF⟩
theorem hp_lt {w : World} {h bo bt : Nat} {H : List PO} (hH : HpAt w h bo bt H) {b : Nat} (hb : HpF h bo bt H b) : b < w.heap.size := by
  rcases hp_pb hH hb with ⟨o, h1, _⟩ | ⟨_, _, _, _, _, h1⟩
  · exact (Array.getElem?_eq_some_iff.1 h1).1
  · exact (Array.getElem?_eq_some_iff.1 h1).1
/-- What a table's blocks are not. -/
theorem tw_cells {w : World} {t m g : Nat} {sv av : Value} {L : List Sl} {A : List V} (h : TabW w t m g sv L av A) {b : Nat} {cs : Array Value} {ty : TypeId} {fz : Nat × Nat} (hb : w.heap[b]? = some (.cells cs ty fz)) (h1 : ty ≠ 126) (h2 : ty ≠ 144) (h3 : ty ≠ 146) (h4 : ty ≠ 30) : ¬ TwF t m g sv av b := by
  rintro (e | e | e)
  · exact ne_of_types hb h.ht h1 e
  · exact not_omF h.om hb h2 h3 e
  · obtain ⟨cur, hc⟩ := listW_block h.lw e
    exact ne_of_types hb hc h4 rfl
theorem tw_map {w : World} {t m g : Nat} {sv av : Value} {L : List Sl} {A : List V} (h : TabW w t m g sv L av A) {b : Nat} {es : Array MapEntry} {c : Nat} (hb : w.heap[b]? = some (.map es c)) (h1 : g ≠ b) : ¬ TwF t m g sv av b := by
  rintro (e | e | e)
  · exact ne_map h.ht hb e.symm
  · exact not_omF_map h.om hb h1 e
  · obtain ⟨cur, hc⟩ := listW_block h.lw e
    exact ne_map hc hb rfl
/-- The blocks of two tables of a heap. -/
theorem tw_apart {w : World} {x y : PO} (hx : TabW w x.t x.m x.g x.sv x.L x.av x.A) (hy : TabW w y.t y.m y.g y.sv y.L y.av y.A) (hs : x.m ≠ y.m ∧ x.g ≠ y.g ∧ (∀ b, x.sv.ownBlock = some b → y.sv.ownBlock ≠ some b) ∧ x.t ≠ y.t ∧ ∀ b, x.av.ownBlock = some b → y.av.ownBlock ≠ some b) {b : Nat} (hb : TwF y.t y.m y.g y.sv y.av b) : ¬ TwF x.t x.m x.g x.sv x.av b := by
  obtain ⟨s1, s2, s3, s4, s5⟩ := hs
  have kO : ∀ {cs : Array Value} {ty : TypeId} {fz : Nat × Nat}, w.heap[b]? = some (.cells cs ty fz) → ty ≠ 144 → ty ≠ 146 → ¬ OmF x.m x.g x.sv b := fun hb h1 h2 => not_omF hx.om hb h1 h2
  rcases hb with rfl | (rfl | rfl | hb) | hb
  · rintro (e | e | e)
    · exact s4 e.symm
    · exact kO hy.ht (by decide) (by decide) e
    · obtain ⟨cur, hc⟩ := listW_block hx.lw e
      exact ne_of_types hy.ht hc (by decide) rfl
  · have hb2 := hy.om.hm
    rintro (e | (e | e | e) | e)
    · exact ne_of_types hb2 hx.ht (by decide) e
    · exact s1 e.symm
    · obtain ⟨E3, f3, hE3, _⟩ := hx.om.map
      obtain ⟨es3, c3, h3⟩ := hE3.obj
      exact ne_map hb2 h3 e
    · obtain ⟨c3, h3⟩ := row_block hx.om.row e
      exact ne_of_types hb2 h3 (by decide) rfl
    · obtain ⟨cur, hc⟩ := listW_block hx.lw e
      exact ne_of_types hb2 hc (by decide) rfl
  · obtain ⟨E3, f3, hE3, _⟩ := hy.om.map
    obtain ⟨es3, c3, h3⟩ := hE3.obj
    exact tw_map hx h3 s2
  · obtain ⟨c3, hb2⟩ := row_block hy.om.row hb
    rintro (e | (e | e | e) | e)
    · exact ne_of_types hb2 hx.ht (by decide) e
    · exact ne_of_types hb2 hx.om.hm (by decide) e
    · obtain ⟨E3, f3, hE3, _⟩ := hx.om.map
      obtain ⟨es3, c3, h3⟩ := hE3.obj
      exact ne_map hb2 h3 e
    · exact s3 _ e hb
    · obtain ⟨cur, hc⟩ := listW_block hx.lw e
      exact ne_of_types hb2 hc (by decide) rfl
  · obtain ⟨cur, hb2⟩ := listW_block hy.lw hb
    rintro (e | e | e)
    · exact ne_of_types hb2 hx.ht (by decide) e
    · exact kO hb2 (by decide) (by decide) e
    · exact s5 _ e hb
theorem PObj.keep {w w' : World} {x : PO} (h : PObj w x) (h1 : w'.heap[x.o]? = w.heap[x.o]?) (h2 : x.kind = 4 → ∀ b, TwF x.t x.m x.g x.sv x.av b → w'.heap[b]? = w.heap[b]?) : PObj w' x :=
  ⟨h1.trans h.ho, h.kd, h.wm, h.fm, fun h4 => tabW_keep (h.tb h4) (h2 h4)⟩
theorem HpAt.touch {w w' : World} {h bo bt : Nat} {H : List PO} (hH : HpAt w h bo bt H) (hM : Mods (· = bt) w w') (ht : ∃ E, MapAt Tryz.prog 3 w' bt E) : HpAt w' h bo bt H := by
  have hk : ∀ b, HpF h bo bt H b → b ≠ bt → w'.heap[b]? = w.heap[b]? := fun b hb hne => hM.block b (hp_lt hH hb) hne
  obtain ⟨E, hE⟩ := hH.touched
  obtain ⟨es, c, hbt⟩ := hE.obj
  refine ⟨(hk h (.inl rfl) (ne_map hH.hh hbt)).trans hH.hh, hH.objs.keep (hk _ (.inr (.inl rfl)) hH.ot), ht, fun x hx => ?_, hH.sep, hH.ot, hH.gs⟩
  refine (hH.one x hx).keep (hk _ (.inr (.inr (.inr ⟨x, hx, .inl rfl⟩))) (ne_map (hH.one x hx).ho hbt)) (fun h4 b hb => hk _ (.inr (.inr (.inr ⟨x, hx, .inr ⟨h4, hb⟩⟩))) ?_)
  rintro rfl
  exact tw_map ((hH.one x hx).tb h4) hbt (hH.gs x hx h4).2 hb
theorem objE_set {H : List PO} {i : Nat} {x x' : PO} (hi : H[i]? = some x) (ho : x'.o = x.o) : objE (H.set i x') = objE H := by
  apply List.ext_getElem?
  intro j
  rw [objE_get, objE_get, List.getElem?_set]
  split
  · rename_i e
    subst e
    rw [if_pos (List.getElem?_eq_some_iff.1 hi).1, hi, Option.map_some, Option.map_some, ho]
  · rfl
theorem sep_set {H : List PO} (hs : H.Pairwise PSep) {i : Nat} {x x' : PO} (hi : H[i]? = some x) (h : ∀ j y, H[j]? = some y → j ≠ i → PSep x' y) : (H.set i x').Pairwise PSep := by
  rw [pw_iff]
  intro a b y z hab ha hb
  rw [List.getElem?_set] at ha hb
  split at ha
  · rename_i e
    subst e
    rw [if_neg (by omega)] at hb
    rw [if_pos (List.getElem?_eq_some_iff.1 hi).1] at ha
    injection ha with ha
    subst ha
    exact h b z hb (by omega)
  · split at hb
    · rename_i e
      subst e
      rw [if_pos (List.getElem?_eq_some_iff.1 hi).1] at hb
      injection hb with hb
      subst hb
      exact (h a y ha (by omega)).symm
    · exact pw_iff.1 hs a b y z hab ha hb
theorem mem_set_at {H : List PO} {i : Nat} {x' y : PO} (hy : y ∈ H.set i x') : y = x' ∨ ∃ j, j ≠ i ∧ H[j]? = some y := by
  obtain ⟨j, hj⟩ := List.getElem?_of_mem hy
  rw [List.getElem?_set] at hj
  split at hj
  · rename_i e
    split at hj
    · injection hj with hj; exact .inl hj.symm
    · cases hj
  · rename_i e
    exact .inr ⟨j, fun e2 => e e2.symm, hj⟩
theorem HpAt.setTab {w w' : World} {h bo bt : Nat} {H : List PO} {i : Nat} {x : PO} {m' g' : Nat} {sv' av' : Value} {L' : List Sl} {A' : List V} (hH : HpAt w h bo bt H) (hi : H[i]? = some x) (h4 : x.kind = 4) (hT : TabW w' x.t m' g' sv' L' av' A')
    (hM : Mods (TwF x.t x.m x.g x.sv x.av) w w') (hown : TOwn w x.m x.g x.sv x.av m' g' sv' av') : HpAt w' h bo bt (H.set i { x with m := m', g := g', sv := sv', L := L', av := av', A := A' }) := by
  have hxm := List.mem_of_getElem? hi
  have hx := hH.one x hxm
  have hT0 := hx.tb h4
  obtain ⟨o1, o2, o3, o4⟩ := hown
  obtain ⟨E, hE⟩ := hH.touched
  obtain ⟨es, c, hbt⟩ := hE.obj
  obtain ⟨es2, c2, hbo⟩ := hH.objs.obj
  have kc : ∀ {b : Nat} {cs : Array Value} {t : TypeId} {fz : Nat × Nat}, w.heap[b]? = some (.cells cs t fz) → t ≠ 126 → t ≠ 144 → t ≠ 146 → t ≠ 30 → w'.heap[b]? = w.heap[b]? := fun hb h0 h1 h2 h3 => hM.block _ (Array.getElem?_eq_some_iff.1 hb).1 (tw_cells hT0 hb h0 h1 h2 h3)
  have km : ∀ {b : Nat} {es : Array MapEntry} {c : Nat}, w.heap[b]? = some (.map es c) → x.g ≠ b → w'.heap[b]? = w.heap[b]? := fun hb h1 => hM.block _ (Array.getElem?_eq_some_iff.1 hb).1 (tw_map hT0 hb h1)
  have hbtl : bt < w.heap.size := hE.lt
  have hbol : bo < w.heap.size := hH.objs.lt
  refine ⟨?_, ?_, ⟨E, hE.keep (km hbt (hH.gs x hxm h4).2)⟩, fun y hy => ?_, ?_, hH.ot, fun y hy hy4 => ?_⟩
  · rw [List.length_set]; exact (kc hH.hh (by decide) (by decide) (by decide) (by decide)).trans hH.hh
  · rw [objE_set (x' := { x with m := m', g := g', sv := sv', L := L', av := av', A := A' }) hi rfl]; exact hH.objs.keep (km hbo (hH.gs x hxm h4).1)
  · rcases mem_set_at hy with rfl | ⟨j, hj, hjy⟩
    · exact ⟨by refine (kc hx.ho (by decide) (by decide) (by decide) (by decide)).trans ?_; exact hx.ho, hx.kd, hx.wm, fun h5 => hx.fm h5, fun _ => hT⟩
    · have hym := List.mem_of_getElem? hjy
      have hyo := hH.one y hym
      have hsp := sep_at hH.sep hi hjy (fun e => hj e.symm)
      refine hyo.keep (kc hyo.ho (by decide) (by decide) (by decide) (by decide)) (fun hy4 b hb => ?_)
      refine hM.block _ ?_ (tw_apart hT0 (hyo.tb hy4) (hsp.2 h4 hy4) hb)
      exact hp_lt hH (.inr (.inr (.inr ⟨y, hym, .inr ⟨hy4, hb⟩⟩)))
  · refine sep_set hH.sep hi (fun j y hjy hj => ?_)
    have hsp := sep_at hH.sep hi hjy (fun e => hj e.symm)
    refine ⟨hsp.1, fun a b => ?_⟩
    obtain ⟨s1, s2, s3, s4, s5⟩ := hsp.2 h4 b
    have hyT := (hH.one y (List.mem_of_getElem? hjy)).tb b
    have lt : ∀ c, TwF y.t y.m y.g y.sv y.av c → c < w.heap.size := fun c hc => hp_lt hH (.inr (.inr (.inr ⟨y, List.mem_of_getElem? hjy, .inr ⟨b, hc⟩⟩)))
    refine ⟨fun e => ?_, fun e => ?_, fun c hc hd => ?_, s4, fun c hc hd => ?_⟩
    · have l := lt _ (.inr (.inl (.inl rfl)))
      rcases o1 with o1 | o1
      · exact s1 (o1 ▸ e)
      · have e : m' = y.m := e
        omega
    · have l := lt _ (.inr (.inl (.inr (.inl rfl))))
      rcases o2 with o2 | o2
      · exact s2 (o2 ▸ e)
      · have e : g' = y.g := e
        omega
    · have l := lt _ (.inr (.inl (.inr (.inr hd))))
      rcases o3 c hc with h1 | h1
      · exact s3 c h1 hd
      · omega
    · have l := lt _ (.inr (.inr hd))
      rcases o4 c hc with h1 | h1
      · exact s5 c h1 hd
      · omega
  · rcases mem_set_at hy with rfl | ⟨j, hj, hjy⟩
    · obtain ⟨g1, g2⟩ := hH.gs x hxm h4
      rcases o2 with o2 | o2
      · rw [show ({ x with m := m', g := g', sv := sv', L := L', av := av', A := A' } : PO).g = x.g from o2]; exact ⟨g1, g2⟩
      · refine ⟨fun e => ?_, fun e => ?_⟩
        · have e : g' = bo := e
          omega
        · have e : g' = bt := e
          omega
    · exact hH.gs y (List.mem_of_getElem? hjy) hy4
/-- An object is added. -/
theorem HpAt.add {w w' : World} {h bo bt : Nat} {H : List PO} {x : PO} (hH : HpAt w h bo bt H) (hM : Mods (fun b => b = h ∨ b = bo ∨ b = bt) w w')
    (hh : w'.heap[h]? = some (.cells #[.map (some bo), .int .i64 ((H.length + 1 : Nat) : Int), .map (some bt)] 63)) (hbo : MapAt Tryz.prog 3 w' bo (objE H ++ [(.int .i64 ((H.length + 1 : Nat) : Int), .pointer (some ⟨x.o, 0, none⟩))])) (hbt : ∃ E, MapAt Tryz.prog 3 w' bt E)
    (hx : PObj w x) (hsep : ∀ y ∈ H, PSep y x) (hg : x.kind = 4 → x.g ≠ bo ∧ x.g ≠ bt) : HpAt w' h bo bt (H ++ [x]) := by
  obtain ⟨E0, hE0⟩ := hH.touched
  obtain ⟨es, c, hbt0⟩ := hE0.obj
  obtain ⟨es2, c2, hbo0⟩ := hH.objs.obj
  have kc : ∀ {b : Nat} {cs : Array Value} {t : TypeId} {fz : Nat × Nat}, w.heap[b]? = some (.cells cs t fz) → t ≠ 63 → w'.heap[b]? = w.heap[b]? := fun hb h1 => hM.block _ (Array.getElem?_eq_some_iff.1 hb).1 (fun e => by
    rcases e with e | e | e
    · exact ne_of_types hb hH.hh h1 e
    · exact ne_map hb hbo0 e
    · exact ne_map hb hbt0 e)
  have keep : ∀ y : PO, PObj w y → (y.kind = 4 → y.g ≠ bo ∧ y.g ≠ bt) → PObj w' y := fun y hyo hgy => by
    refine hyo.keep (kc hyo.ho (by decide)) (fun hy4 b hb => ?_)
    have hT := hyo.tb hy4
    rcases hb with rfl | (rfl | rfl | hb) | hb
    · exact kc hT.ht (by decide)
    · exact kc hT.om.hm (by decide)
    · obtain ⟨E3, f3, hE3, _⟩ := hT.om.map
      obtain ⟨es3, c3, h3⟩ := hE3.obj
      refine hM.block _ hE3.lt (fun e => ?_)
      rcases e with e | e | e
      · exact ne_map hH.hh h3 e.symm
      · exact (hgy hy4).1 e
      · exact (hgy hy4).2 e
    · obtain ⟨c3, h3⟩ := row_block hT.om.row hb
      exact kc h3 (by decide)
    · obtain ⟨c3, h3⟩ := listW_block hT.lw hb
      exact kc h3 (by decide)
  refine ⟨?_, ?_, hbt, fun y hy => ?_, ?_, hH.ot, fun y hy hy4 => ?_⟩
  · rw [List.length_append]; exact hh
  · have : objE (H ++ [x]) = objE H ++ [(.int .i64 ((H.length + 1 : Nat) : Int), .pointer (some ⟨x.o, 0, none⟩))] := by
      unfold objE
      rw [List.mapIdx_append]
      simp
    rw [this]; exact hbo
  · rcases List.mem_append.1 hy with hy | hy
    · exact keep y (hH.one y hy) (hH.gs y hy)
    · rw [List.mem_singleton] at hy
      subst hy
      exact keep y hx hg
  · rw [List.pairwise_append]
    refine ⟨hH.sep, List.pairwise_singleton _ _, fun y hy z hz => ?_⟩
    rw [List.mem_singleton] at hz
    subst hz
    exact hsep y hy
  · rcases List.mem_append.1 hy with hy | hy
    · exact hH.gs y hy hy4
    · rw [List.mem_singleton] at hy
      subst hy
      exact hg hy4
theorem sep_new {w : World} {h bo bt : Nat} {H : List PO} {x : PO} (hH : HpAt w h bo bt H) (ho : w.heap.size ≤ x.o) (hm : x.kind = 4 → w.heap.size ≤ x.m ∧ w.heap.size ≤ x.g ∧ w.heap.size ≤ x.t) (hnone : x.sv.ownBlock = none) (hnone2 : x.av.ownBlock = none) : (∀ y ∈ H, PSep y x) ∧ (x.kind = 4 → x.g ≠ bo ∧ x.g ≠ bt) := by
  refine ⟨fun y hy => ?_, fun h4 => ?_⟩
  · have hyo := hH.one y hy
    refine ⟨fun e => ?_, fun hy4 hz4 => ⟨fun e => ?_, fun e => ?_, fun b hb hc => ?_, fun e => ?_, fun b hb hc => ?_⟩⟩
    · have := (Array.getElem?_eq_some_iff.1 hyo.ho).1
      omega
    · have := (hm hz4).1
      have := (Array.getElem?_eq_some_iff.1 (hyo.tb hy4).om.hm).1
      omega
    · have := (hm hz4).2.1
      obtain ⟨E3, f3, hE3, _⟩ := (hyo.tb hy4).om.map
      have := hE3.lt
      omega
    · rw [hnone] at hc; cases hc
    · have := (hm hz4).2.2
      have := (Array.getElem?_eq_some_iff.1 (hyo.tb hy4).ht).1
      omega
    · rw [hnone2] at hc; cases hc
  · obtain ⟨E, hE⟩ := hH.touched
    have := (hm h4).2.1
    have := hE.lt
    have := hH.objs.lt
    exact ⟨by omega, by omega⟩
def elemM (v : V) : Int := if v.k = 3 ∧ 4096 < v.s.size then 14 else if validV v = true then 0 else 2
theorem elem_valid {v : V} (h : validV v = true) : elemM v = 0 := by
  have := validV_size h
  unfold elemM
  rw [if_neg (by omega), if_pos h]
def TouchR (W : World) (bt : Nat) (w' : World) : Prop := (∃ E', MapAt Tryz.prog 3 w' bt E') ∧ Mods (· = bt) W w' ∧ W.heap.size ≤ w'.heap.size
theorem touch_at {w : World} {bt : Nat} (hE : ∃ E, MapAt Tryz.prog 3 w bt E) {r : Int} (hr : i64 r) (W : World) (hW : W.heap[bt]? = w.heap[bt]?) :
    ∃ w', (Instr.mapUpdate 61 (.map (some bt)) (.int .i64 r) (.bool true)).run Tryz.prog W = .ok () w' ∧ TouchR W bt w' := by
  obtain ⟨E, hE⟩ := hE
  obtain ⟨l, hl⟩ := keyI hr
  obtain ⟨w', E', h1, h2, h3, h4, _⟩ := (hE.keep hW).store keyedI (e := 4) (t := 61) (by kernel_rfl) hl (.bool true)
  exact ⟨w', h1, ⟨E', h2⟩, h3, Nat.le_of_eq h4.symm⟩
def TouchPost (w : World) (h bo bt : Nat) (H : List PO) (e : Ending) (w' : World) : Prop := e = .returned (.int .i64 0) ∧ HpAt w' h bo bt H ∧ Mods (· = bt) w w'
theorem len_at {w : World} {b : Nat} {E : List (Value × Value)} (hE : MapAt Tryz.prog 3 w b E) (W : World) (hW : W.heap[b]? = w.heap[b]?) (ty : TypeId) :
    (Builtin.len_ #[60] ty #[.map (some b)]).run Tryz.prog W = .ok (.int .i64 (E.length : Nat)) W := by
  obtain ⟨es, c, hb, he, _⟩ := hE.keep hW
  have h1 := run_len_map (P := Tryz.prog) W 60 ty b es c (by kernel_rfl) hb
  rw [h1]
  have : es.size = E.length := by rw [← he, List.length_map, Array.length_toList]
  rw [this]
  rfl
def PutO (W : World) (bo : Nat) (E : List (Value × Value)) (w' : World) : Prop := MapAt Tryz.prog 3 w' bo E ∧ Mods (· = bo) W w' ∧ W.heap.size ≤ w'.heap.size
theorem putO_at {w : World} {bo : Nat} {H : List PO} (hE : MapAt Tryz.prog 3 w bo (objE H)) (hl : H.length ≤ 1000) (o : Nat) (W : World) (hW : W.heap[bo]? = w.heap[bo]?) :
    ∃ w', (Instr.mapUpdate 60 (.map (some bo)) (.int .i64 ((H.length : Int) + 1)) (.pointer (some ⟨o, 0, none⟩))).run Tryz.prog W = .ok () w' ∧
      PutO W bo (objE H ++ [(.int .i64 ((H.length + 1 : Nat) : Int), .pointer (some ⟨o, 0, none⟩))]) w' := by
  have hr : i64 ((H.length : Int) + 1) := ⟨by omega, by omega⟩
  obtain ⟨l, hl⟩ := keyI hr
  obtain ⟨w', E', h1, h2, h3, h4, _, h6⟩ := (hE.keep hW).store keyedI (e := 91) (t := 60) (by kernel_rfl) hl (.pointer (some ⟨o, 0, none⟩))
  have h7 : E' = _ := h6 (fun p hp => by
    obtain ⟨i, x, hi, rfl⟩ := objE_mem.1 hp
    have := (List.getElem?_eq_some_iff.1 hi).1
    intro e
    injection e with _ e
    omega)
  subst h7
  exact ⟨w', h1, h2, h3, Nat.le_of_eq h4.symm⟩
/-- A new object hung into the heap. -/
def AddPost (w : World) (h bo bt : Nat) (H : List PO) (x : PO) (e : Ending) (w' : World) : Prop :=
  e = .returned (.tuple #[.agg #[.int .i64 x.kind, .int .i64 0, .int .i64 0, .string ⟨#[]⟩, .int .i64 ((H.length : Int) + 1)], .int .i64 0]) ∧ HpAt w' h bo bt (H ++ [x]) ∧ Mods (fun b => b = h ∨ b = bo ∨ b = bt) w w'
def BM (base : Nat) (S : Obj → Prop) (w w' : World) : Prop := Mods (fun b => base ≤ b ∧ ∃ o, w.heap[b]? = some o ∧ S o) w w'
theorem BM.trans {base : Nat} {S : Obj → Prop} {a b c : World} (h : BM base S a b) (k : BM base S b c) : BM base S a c := by
  refine ⟨k.os.trans h.os, k.tape.trans h.tape, k.output.trans h.output, Nat.le_trans h.size k.size, fun i hi hF => ?_⟩
  have h1 := h.block i hi hF
  exact (k.block i (Nat.lt_of_lt_of_le hi h.size) (fun ⟨hb, o, h2, h3⟩ => hF ⟨hb, o, h1 ▸ h2, h3⟩)).trans h1
theorem BM.below {base : Nat} {S : Obj → Prop} {w w' : World} (h : BM base S w w') (hb : base ≤ w.heap.size) : Below base w w' := Mods.below h hb (fun k hk hF => by have := hF.1; omega)
theorem BM.keep {base : Nat} {S : Obj → Prop} {w w' : World} (h : BM base S w w') {b : Nat} {o : Obj} (hb : w.heap[b]? = some o) (hS : ¬ S o) : w'.heap[b]? = some o :=
  (h.block b (Array.getElem?_eq_some_iff.1 hb).1 (fun ⟨_, o2, h1, h2⟩ => hS (by rw [hb] at h1; injection h1 with h1; rw [h1]; exact h2))).trans hb
theorem BM.mono {base : Nat} {S S' : Obj → Prop} {w w' : World} (h : BM base S w w') (hS : ∀ o, S o → S' o) : BM base S' w w' := Mods.mono h (fun k _ ⟨h1, o, h2, h3⟩ => ⟨h1, o, h2, hS o h3⟩)
/-- What a call of the heap changes: blocks of the heap's types from a base on, and the arrays O of its tables; O' are those after it. -/
def QS (base : Nat) (O : Nat → Prop) (w : World) (O' : Nat → Prop) (w' : World) : Prop := Mods (fun b => base ≤ b ∧ ((∃ o, w.heap[b]? = some o ∧ PB o) ∨ O b)) w w' ∧ ∀ b, O' b → O b ∨ w.heap.size ≤ b
theorem QS.of_below {base : Nat} {O : Nat → Prop} {w w' : World} (h : Below w.heap.size w w') : QS base O w O w' := ⟨Mods.of_below h, fun _ h => .inl h⟩
theorem QS.trans {base : Nat} {O O1 O2 : Nat → Prop} {a b c : World} (h : QS base O a O1 b) (k : QS base O1 b O2 c) : QS base O a O2 c := by
  obtain ⟨h, ho⟩ := h
  obtain ⟨k, ko⟩ := k
  refine ⟨⟨k.os.trans h.os, k.tape.trans h.tape, k.output.trans h.output, Nat.le_trans h.size k.size, fun i hi hF => ?_⟩, fun i hi => ?_⟩
  · have h1 := h.block i hi hF
    refine (k.block i (Nat.lt_of_lt_of_le hi h.size) (fun ⟨hb, h2⟩ => hF ⟨hb, ?_⟩)).trans h1
    rcases h2 with ⟨o, h2, h3⟩ | h2
    · exact .inl ⟨o, h1 ▸ h2, h3⟩
    · exact (ho i h2).elim .inr (fun h => by omega)
  · rcases ko i hi with h1 | h1
    · exact ho i h1
    · exact .inr (Nat.le_trans h.size h1)
theorem QS.below {base : Nat} {O O' : Nat → Prop} {w w' : World} (h : QS base O w O' w') (hb : base ≤ w.heap.size) : Below base w w' := Mods.below h.1 hb (fun k hk hF => by have := hF.1; omega)
/-- A block that is no array of the heap, and none of its types. -/
theorem QS.keep {base : Nat} {O O' : Nat → Prop} {w w' : World} (h : QS base O w O' w') {b : Nat} {o : Obj} (hb : w.heap[b]? = some o) (hS : ¬ PB o) (hO : ¬ O b) : w'.heap[b]? = some o ∧ ¬ O' b := by
  have hl := (Array.getElem?_eq_some_iff.1 hb).1
  refine ⟨(h.1.block b hl (fun ⟨_, h1⟩ => ?_)).trans hb, fun h1 => ?_⟩
  · rcases h1 with ⟨o2, h1, h2⟩ | h1
    · rw [hb] at h1; injection h1 with h1; exact hS (h1 ▸ h2)
    · exact hO h1
  · rcases h.2 b h1 with h2 | h2
    · exact hO h2
    · omega
theorem QS.of_mods {base : Nat} {O O' : Nat → Prop} {F : Nat → Prop} {w w' : World} (h : Mods F w w') (hF : ∀ b, F b → base ≤ b ∧ ((∃ o, w.heap[b]? = some o ∧ PB o) ∨ O b)) (hO : ∀ b, O' b → O b ∨ w.heap.size ≤ b) : QS base O w O' w' := ⟨h.mono (fun k _ hk => hF k hk), hO⟩
theorem QS.size {base : Nat} {O O' : Nat → Prop} {w w' : World} (h : QS base O w O' w') : w.heap.size ≤ w'.heap.size := h.1.size
/-- The program's heap, packed: what its objects are (M), the lists of its tables (AA), their arrays (O). -/
structure PHp (base n : Nat) (w : World) (h : Nat) (M : LH) (AA : List (List V)) (O : Nat → Prop) : Prop where
  ex : ∃ bo bt H, HpAt w h bo bt H ∧ lh H = M ∧ H.map PO.A = AA ∧ Small n H ∧ (∀ b, HpF h bo bt H b → base ≤ b) ∧ ∀ x ∈ H, x.kind = 4 → ∀ b, x.av.ownBlock = some b → O b
  lt : ∀ b, O b → b < w.heap.size
theorem PHp.below {base n : Nat} {w w' : World} {h : Nat} {M : LH} {AA : List (List V)} {O : Nat → Prop} (hP : PHp base n w h M AA O) (hb : Below w.heap.size w w') : PHp base n w' h M AA O := by
  obtain ⟨⟨bo, bt, H, h1, h2, h3⟩, h4⟩ := hP
  exact ⟨⟨bo, bt, H, h1.below hb, h2, h3⟩, fun b h => Nat.lt_of_lt_of_le (h4 b h) hb.size⟩
theorem HpAt.keepF {w w' : World} {h bo bt : Nat} {H : List PO} (hH : HpAt w h bo bt H) (hk : ∀ b, HpF h bo bt H b → w'.heap[b]? = w.heap[b]?) : HpAt w' h bo bt H := by
  obtain ⟨E, hE⟩ := hH.touched
  exact ⟨(hk h (.inl rfl)).trans hH.hh, hH.objs.keep (hk _ (.inr (.inl rfl))), ⟨E, hE.keep (hk _ (.inr (.inr (.inl rfl))))⟩, fun x hx => (hH.one x hx).keep (hk _ (.inr (.inr (.inr ⟨x, hx, .inl rfl⟩)))) (fun h4 b hb => hk _ (.inr (.inr (.inr ⟨x, hx, .inr ⟨h4, hb⟩⟩)))), hH.sep, hH.ot, hH.gs⟩
theorem PHp.up {base n m : Nat} {w : World} {h : Nat} {M : LH} {AA : List (List V)} {O : Nat → Prop} (hP : PHp base n w h M AA O) (hn : n ≤ m) : PHp base m w h M AA O := by
  obtain ⟨⟨bo, bt, H, h1, h2, h3, h4, h5⟩, h6⟩ := hP
  exact ⟨⟨bo, bt, H, h1, h2, h3, fun x hx => ⟨Nat.le_trans (h4 x hx).1 hn, Nat.le_trans (h4 x hx).2 hn⟩, h5⟩, h6⟩
structure RO where
  kind : Int
  tag : Int
  name : ByteArray
  mt : V
  user : Value
  refs : Value
  t : Nat
  m : Nat
  sv : Value
  L : List Sl
def RO.lo (x : RO) : LO := ⟨x.kind, x.mt, if x.kind = 4 then x.L else []⟩
def RO.tv (x : RO) : Value := if x.kind = 4 then .pointer (some ⟨x.t, 0, none⟩) else .pointer none
abbrev RO.cells (x : RO) : List Value := [.int .i64 x.kind, .int .i64 x.tag, .string x.name, x.tv, .int .i64 x.mt.k, .int .i64 x.mt.p, .int .i64 x.mt.q, .string x.mt.s, .int .i64 x.mt.r, x.user, x.refs]
def RSep (x y : RO) : Prop := x.kind = 4 → y.kind = 4 → x.m ≠ y.m ∧ ∀ b, x.sv.ownBlock = some b → y.sv.ownBlock ≠ some b
def GrowPost (w : World) (h bo bt : Nat) (H : List PO) (o : LO) (e : Ending) (w' : World) : Prop :=
  e = .returned (.tuple #[.agg #[.int .i64 o.kind, .int .i64 0, .int .i64 0, .string ⟨#[]⟩, .int .i64 ((H.length : Int) + 1)], .int .i64 0]) ∧ ∃ x, HpAt w' h bo bt (H ++ [x]) ∧ x.lo = o ∧ (x.L = [] ∧ x.A = [] ∧ x.av.ownBlock = none) ∧ Mods (HpF h bo bt H) w w' ∧ ∀ b, (b = x.o ∨ (x.kind = 4 ∧ TwF x.t x.m x.g x.sv x.av b)) → w.heap.size ≤ b
theorem pb_own {w : World} {h bo bt : Nat} {H : List PO} {O : Nat → Prop} {base : Nat} (hH : HpAt w h bo bt H) (hO : ∀ x ∈ H, x.kind = 4 → ∀ b, x.av.ownBlock = some b → O b) (h4 : ∀ b, HpF h bo bt H b → base ≤ b) : ∀ b, HpF h bo bt H b → base ≤ b ∧ ((∃ o, w.heap[b]? = some o ∧ PB o) ∨ O b) := fun b hb => ⟨h4 b hb, by
  rcases hp_pb hH hb with h1 | ⟨x, hx, hk, ha, _⟩
  · exact .inl h1
  · exact .inr (hO x hx hk b ha)⟩
theorem grow_php {base n : Nat} {w : World} {h : Nat} {M : LH} {AA : List (List V)} {O : Nat → Prop} {o : LO} {f : FuncId} {args : Array Value} (hP : PHp base n w h M AA O) (hb : base ≤ w.heap.size) (hl : M.length ≤ 1000)
    (hc : ∀ bo bt H, HpAt w h bo bt H → H.length ≤ 1000 → Calls Tryz.prog f args w (GrowPost w h bo bt H o)) :
    Calls Tryz.prog f args w (fun e w' => e = .returned (.tuple #[.agg #[.int .i64 o.kind, .int .i64 0, .int .i64 0, .string ⟨#[]⟩, .int .i64 ((M.length : Int) + 1)], .int .i64 0]) ∧ PHp base n w' h (M ++ [o]) (AA ++ [[]]) O ∧ QS base O w O w') := by
  obtain ⟨⟨bo, bt, H, h1, h2, h2a, h3, h4, h5⟩, h6⟩ := hP
  have hH : H.length = M.length := by rw [← h2]; unfold lh; rw [List.length_map]
  refine (hc bo bt H h1 (by omega)).mono ?_
  rintro e w' ⟨he, x, e5, e6, ⟨e7, e7a, e7b⟩, e8, e9⟩
  refine ⟨by rw [he, hH], ⟨⟨bo, bt, H ++ [x], e5, ?_, ?_, ?_, ?_, ?_⟩, fun b hb2 => Nat.lt_of_lt_of_le (h6 b hb2) e8.size⟩, QS.of_mods e8 (pb_own h1 h5 h4) (fun _ h => .inl h)⟩
  · unfold lh; rw [List.map_append]; unfold lh at h2; rw [h2, List.map_singleton, e6]
  · rw [List.map_append, h2a, List.map_singleton, e7a]
  · intro y hy
    rcases List.mem_append.1 hy with hy | hy
    · exact h3 y hy
    · rw [List.mem_singleton] at hy; rw [hy, e7, e7a]; exact ⟨Nat.zero_le _, Nat.zero_le _⟩
  · rintro b (e | e | e | ⟨y, hy, hyb⟩)
    · exact h4 b (.inl e)
    · exact h4 b (.inr (.inl e))
    · exact h4 b (.inr (.inr (.inl e)))
    · rcases List.mem_append.1 hy with hy | hy
      · exact h4 b (.inr (.inr (.inr ⟨y, hy, hyb⟩)))
      · rw [List.mem_singleton] at hy
        subst hy
        have := e9 b hyb
        omega
  · intro y hy hy4 b hyb
    rcases List.mem_append.1 hy with hy | hy
    · exact h5 y hy hy4 b hyb
    · rw [List.mem_singleton] at hy
      subst hy
      rw [e7b] at hyb
      cases hyb
theorem box_kept {w3 W : World} {h bo bt : Nat} {H : List PO} {r : Nat} (hA : HpAt w3 h bo bt H) (hr : w3.heap[r]? = some (oV 0 0 0 ⟨#[]⟩ 0)) (hO : ∀ y ∈ H, y.kind = 4 → y.av.ownBlock ≠ some r) (hM : Mods (· = r) w3 W) : HpAt W h bo bt H :=
  hA.keepF (fun b hb => hM.block b (hp_lt hA hb) (fun e => by
    rcases hp_pb hA hb with ⟨o, h1, h2⟩ | ⟨y, hy, h4, h5, _⟩
    · rw [e, hr] at h1
      injection h1 with h1
      subst h1
      rcases h2 with h2 | h2 | h2 | h2 | h2 <;> exact absurd h2 (by decide)
    · exact hO y hy h4 (e ▸ h5)))
theorem mods_five {F : Nat → Prop} {a w : World} (h : Mods F a w) {b : Nat} (hb : F b ∨ a.heap.size ≤ b) (x y z u v : Value) : Mods F a (((((w.setCell ⟨b, 0, none⟩ x).setCell ⟨b, 1, none⟩ y).setCell ⟨b, 2, none⟩ z).setCell ⟨b, 3, none⟩ u).setCell ⟨b, 4, none⟩ v) :=
  mods_setCell (mods_setCell (mods_setCell (mods_setCell (mods_setCell h hb x) hb y) hb z) hb u) hb v
theorem grow_end {w W2 w3 W : World} {h bo bt : Nat} {H : List PO} {x : PO} {o : LO} (hH : HpAt w h bo bt H) (hb : Below w.heap.size w W2) (hA : HpAt w3 h bo bt (H ++ [x])) (hM : Mods (fun b => b = h ∨ b = bo ∨ b = bt) W2 w3) (hr : w3.heap[w.heap.size]? = some (oV 0 0 0 ⟨#[]⟩ 0))
    (hW : Mods (· = w.heap.size) w3 W) (ho : x.lo = o) (hL : x.L = [] ∧ x.A = [] ∧ x.av.ownBlock = none) (hn : ∀ b, (b = x.o ∨ (x.kind = 4 ∧ TwF x.t x.m x.g x.sv x.av b)) → w.heap.size ≤ b) (v : Value) (hv : v = .tuple #[.agg #[.int .i64 o.kind, .int .i64 0, .int .i64 0, .string ⟨#[]⟩, .int .i64 ((H.length : Int) + 1)], .int .i64 0]) : GrowPost w h bo bt H o (.returned v) W := by
  subst hv
  refine ⟨rfl, x, box_kept hA hr (fun y hy hy4 hyb => ?_) hW, ho, hL, ?_, hn⟩
  · rcases List.mem_append.1 hy with hy | hy
    · have := hp_lt hH (b := w.heap.size) (.inr (.inr (.inr ⟨y, hy, .inr ⟨hy4, .inr (.inr hyb)⟩⟩)))
      omega
    · rw [List.mem_singleton] at hy
      subst hy
      rw [hL.2.2] at hyb
      cases hyb
  have h1 : Mods (HpF h bo bt H) w w3 := (Mods.of_below hb).trans (hM.mono (fun k hk e => by
    rcases e with e | e | e
    · exact .inl e
    · exact .inr (.inl e)
    · exact .inr (.inr (.inl e))))
  exact ⟨hW.os.trans h1.os, hW.tape.trans h1.tape, hW.output.trans h1.output, Nat.le_trans h1.size hW.size, fun k hk hF => (hW.block k (Nat.lt_of_lt_of_le hk h1.size) (by omega)).trans (h1.block k hk hF)⟩
def HSetPost (w : World) (h bo bt : Nat) (H : List PO) (i : Nat) (x : PO) (L' : List Sl) (A' : List V) (e : Ending) (w' : World) : Prop :=
  e = .returned (.int .i64 0) ∧ ∃ m' g' sv' av', HpAt w' h bo bt (H.set i { x with m := m', g := g', sv := sv', L := L', av := av', A := A' }) ∧ Mods (HpF h bo bt H) w w' ∧ TOwn w x.m x.g x.sv x.av m' g' sv' av'
theorem set_same {α : Type} {l : List α} {i : Nat} {a : α} (h : l[i]? = some a) : l.set i a = l := by
  apply List.ext_getElem?
  intro j
  rw [List.getElem?_set]
  split
  · rename_i e
    subst e
    rw [if_pos (List.getElem?_eq_some_iff.1 h).1, h]
  · rfl
/-- An object of a packed heap. -/
theorem php_at {base n : Nat} {w : World} {h : Nat} {M : LH} {AA : List (List V)} {O : Nat → Prop} (hP : PHp base n w h M AA O) {i : Nat} {o : LO} {A : List V} (hi : M[i]? = some o) (hA : AA[i]? = some A) (h4 : o.kind = 4) {k1 p1 q1 : Int} {s1 : ByteArray} {r1 : Int} (hk1 : k1 = 4) (hr1 : r1 = (i : Int) + 1) :
    ∃ bo bt H x, HpAt w h bo bt H ∧ lh H = M ∧ H.map PO.A = AA ∧ Small n H ∧ (∀ b, HpF h bo bt H b → base ≤ b) ∧ (∀ x ∈ H, x.kind = 4 → ∀ b, x.av.ownBlock = some b → O b) ∧ H[i]? = some x ∧ x.kind = 4 ∧ x.mt = o.mt ∧ x.L = o.L ∧ x.A = A ∧ findP H ⟨k1, p1, q1, s1, r1⟩ = some x ∧ o.L.length ≤ n ∧ A.length ≤ n := by
  obtain ⟨⟨bo, bt, H, h1, h2, h2a, h3, h4a, h5⟩, h6⟩ := id hP
  subst h2 h2a hr1 hk1
  unfold lh at hi
  rw [List.getElem?_map] at hi hA
  cases hx : H[i]? with
  | none => rw [hx] at hi; cases hi
  | some x =>
    rw [hx] at hi hA
    injection hi with hi
    injection hA with hA
    subst hi hA
    have hk : x.kind = 4 := h4
    have hL : x.lo.L = x.L := by unfold PO.lo; exact if_pos hk
    have hs := h3 x (List.mem_of_getElem? hx)
    refine ⟨bo, bt, H, x, h1, rfl, rfl, h3, h4a, h5, hx, hk, rfl, hL.symm, rfl, ?_, by rw [hL]; exact hs.1, hs.2⟩
    unfold findP
    rw [if_pos (by show 1 ≤ (i : Int) + 1; omega), show ((i : Int) + 1).toNat - 1 = i by omega, hx]
    exact if_pos hk
/-- What a change of a table is in the packed heap. -/
def SetTPost (base n' : Nat) (w : World) (h : Nat) (M : LH) (AA : List (List V)) (O : Nat → Prop) (i : Nat) (o : LO) (L' : List Sl) (A' : List V) (e : Ending) (w' : World) : Prop :=
  e = .returned (.int .i64 0) ∧ ∃ O', PHp base n' w' h (M.set i ⟨4, o.mt, L'⟩) (AA.set i A') O' ∧ QS base O w O' w'
theorem php_set {base n n' : Nat} {w w' : World} {h bo bt : Nat} {H : List PO} {O : Nat → Prop} {i : Nat} {x : PO} {L' : List Sl} {A' : List V} {m' g' : Nat} {sv' av' : Value} (h1 : HpAt w h bo bt H) (h3 : Small n H) (h4 : ∀ b, HpF h bo bt H b → base ≤ b) (h5 : ∀ x ∈ H, x.kind = 4 → ∀ b, x.av.ownBlock = some b → O b) (h6 : ∀ b, O b → b < w.heap.size) (hb : base ≤ w.heap.size) (hn : n ≤ n') (hi : H[i]? = some x) (k4 : x.kind = 4) (hL' : L'.length ≤ n') (hA' : A'.length ≤ n')
    (hH' : HpAt w' h bo bt (H.set i { x with m := m', g := g', sv := sv', L := L', av := av', A := A' })) (hM' : Mods (HpF h bo bt H) w w') (hown : TOwn w x.m x.g x.sv x.av m' g' sv' av') :
    ∃ O', PHp base n' w' h ((lh H).set i ⟨4, x.mt, L'⟩) ((H.map PO.A).set i A') O' ∧ QS base O w O' w' := by
  obtain ⟨o1, o2, o3, o4⟩ := hown
  have hxm := List.mem_of_getElem? hi
  refine ⟨fun b => O b ∨ (w.heap.size ≤ b ∧ b < w'.heap.size), ⟨⟨bo, bt, _, hH', ?_, ?_, ?_, ?_, ?_⟩, ?_⟩, QS.of_mods hM' (pb_own h1 h5 h4) (fun b hb => hb.imp id (fun h => h.1))⟩
  · unfold lh
    rw [List.map_set]
    unfold PO.lo
    simp only [k4, if_true]
  · rw [List.map_set]
  · intro y hy
    rcases mem_set_at hy with rfl | ⟨j, hj, hjy⟩
    · exact ⟨hL', hA'⟩
    · exact ⟨Nat.le_trans (h3 y (List.mem_of_getElem? hjy)).1 hn, Nat.le_trans (h3 y (List.mem_of_getElem? hjy)).2 hn⟩
  · rintro b (e | e | e | ⟨y, hy, hyb⟩)
    · exact h4 b (.inl e)
    · exact h4 b (.inr (.inl e))
    · exact h4 b (.inr (.inr (.inl e)))
    · rcases mem_set_at hy with rfl | ⟨j, hj, hjy⟩
      · have old : ∀ c, TwF x.t x.m x.g x.sv x.av c → base ≤ c := fun c hc => h4 c (.inr (.inr (.inr ⟨x, hxm, .inr ⟨k4, hc⟩⟩)))
        rcases hyb with e | ⟨_, e | (e | e | e) | e⟩
        · exact h4 b (.inr (.inr (.inr ⟨x, hxm, .inl e⟩)))
        · exact old b (.inl e)
        · have e : b = m' := e
          rcases o1 with q | q
          · exact old b (.inr (.inl (.inl (e.trans q))))
          · omega
        · have e : b = g' := e
          rcases o2 with q | q
          · exact old b (.inr (.inl (.inr (.inl (e.trans q)))))
          · omega
        · rcases o3 b e with q | q
          · exact old b (.inr (.inl (.inr (.inr q))))
          · omega
        · rcases o4 b e with q | q
          · exact old b (.inr (.inr q))
          · omega
      · exact h4 b (.inr (.inr (.inr ⟨y, List.mem_of_getElem? hjy, hyb⟩)))
  · intro y hy hy4 b hyb
    rcases mem_set_at hy with rfl | ⟨j, hj, hjy⟩
    · rcases o4 b hyb with q | q
      · exact .inl (h5 x hxm k4 b q)
      · have := hp_lt hH' (.inr (.inr (.inr ⟨_, List.mem_of_getElem? (List.getElem?_set_self (List.getElem?_eq_some_iff.1 hi).1), .inr ⟨k4, .inr (.inr hyb)⟩⟩)))
        exact .inr ⟨q, this⟩
    · exact .inl (h5 y (List.mem_of_getElem? hjy) hy4 b hyb)
  · rintro b (q | ⟨_, q⟩)
    · exact Nat.lt_of_lt_of_le (h6 b q) hM'.size
    · exact q
def nK (j : Nat) : V := ⟨2, (j : Int) + 1, 1, ⟨#[]⟩, 0⟩
theorem nK_inj {i j : Nat} (h : nK i = nK j) : i = j := by
  have : ((i : Int) + 1) = (j : Int) + 1 := congrArg V.p h
  omega
/-- How many values stand ahead of the first nil. -/
def fstNil : List V → Nat
  | [] => 0
  | v :: vs => if v.k = 0 then 0 else fstNil vs + 1
theorem fstNil_le : ∀ vs : List V, fstNil vs ≤ vs.length
  | [] => Nat.le_refl _
  | v :: vs => by
    have := fstNil_le vs
    unfold fstNil
    rw [List.length_cons]
    split <;> omega
theorem fstNil_lt : ∀ {vs : List V} {i : Nat} {v : V}, vs[i]? = some v → i < fstNil vs → v.k ≠ 0
  | [], i, v, h, _ => by simp at h
  | u :: vs, 0, v, h, hl => by
    rw [List.getElem?_cons_zero] at h
    injection h with h
    subst h
    unfold fstNil at hl
    intro e
    rw [if_pos e] at hl
    omega
  | u :: vs, i + 1, v, h, hl => by
    rw [List.getElem?_cons_succ] at h
    unfold fstNil at hl
    split at hl
    · omega
    · exact fstNil_lt h (by omega)
theorem fstNil_at : ∀ {vs : List V} {v : V}, vs[fstNil vs]? = some v → v.k = 0
  | [], v, h => by simp [fstNil] at h
  | u :: vs, v, h => by
    unfold fstNil at h
    split at h
    · rename_i e
      rw [List.getElem?_cons_zero] at h
      injection h with h
      subst h
      exact e
    · rw [List.getElem?_cons_succ] at h
      exact fstNil_at h
def slN (vs : List V) (i : Nat) : Sl := ⟨nK i, vs.getD i V.nil, false⟩
/-- The map after i values: what stands behind the first nil. -/
def pkL (vs : List V) (m : Nat) : Nat → List Sl
  | 0 => []
  | i + 1 => if m ≤ i ∧ (vs.getD i V.nil).k ≠ 0 then pkL vs m i ++ [slN vs i] else pkL vs m i
theorem pkL_mem {vs : List V} {m : Nat} : ∀ {i : Nat} {s : Sl}, s ∈ pkL vs m i → s.g = false ∧ ∃ j, j < i ∧ s.k = nK j
  | 0, s, h => by cases h
  | i + 1, s, h => by
    unfold pkL at h
    split at h
    · rcases List.mem_append.1 h with h | h
      · obtain ⟨h1, j, h2, h3⟩ := pkL_mem h
        exact ⟨h1, j, by omega, h3⟩
      · rw [List.mem_singleton] at h
        subst h
        exact ⟨rfl, i, by omega, rfl⟩
    · obtain ⟨h1, j, h2, h3⟩ := pkL_mem h
      exact ⟨h1, j, by omega, h3⟩
theorem pkL_len (vs : List V) (m : Nat) : ∀ i, (pkL vs m i).length ≤ i
  | 0 => Nat.le_refl _
  | i + 1 => by
    have := pkL_len vs m i
    unfold pkL
    split
    · rw [List.length_append, List.length_singleton]; omega
    · omega
theorem pkL_low (vs : List V) (m : Nat) : ∀ i, i ≤ m → pkL vs m i = []
  | 0, _ => rfl
  | i + 1, h => by
    unfold pkL
    rw [if_neg (by omega)]
    exact pkL_low vs m i (by omega)
theorem pkL_hit {vs : List V} {m i j : Nat} (h : i ≤ j) : ∀ s ∈ pkL vs m i, Sl.hit (nK j) s = false := by
  intro s hs
  obtain ⟨_, a, h1, h2⟩ := pkL_mem hs
  cases hh : Sl.hit (nK j) s with
  | false => rfl
  | true =>
    have := (hit_iff.1 hh).2
    rw [h2] at this
    have := nK_inj this
    omega
theorem room_live {L : List Sl} (h : ∀ s ∈ L, s.g = false) : roomM L = L := by
  have e : liveN L = L.length := by
    unfold liveN
    rw [List.filter_eq_self.2 (fun s hs => by rw [h s hs]; rfl)]
  unfold roomM
  rw [e, if_neg (by omega)]
theorem set_fresh {L : List Sl} {k v : V} (h : ∀ s ∈ L, Sl.hit k s = false) (hg : ∀ s ∈ L, s.g = false) : setM L k v = if v.k = 0 then L else L ++ [⟨k, v, false⟩] := by
  unfold setM
  rw [(find_none h).2, room_live hg]
theorem pkL_set {vs : List V} {m i : Nat} (hm : m ≤ i) : setM (pkL vs m i) (nK i) (vs.getD i V.nil) = pkL vs m (i + 1) := by
  rw [set_fresh (pkL_hit (Nat.le_refl i)) (fun s hs => (pkL_mem hs).1)]
  show _ = if m ≤ i ∧ (vs.getD i V.nil).k ≠ 0 then pkL vs m i ++ [slN vs i] else pkL vs m i
  by_cases h : (vs.getD i V.nil).k = 0
  · rw [if_pos h, if_neg (fun e => e.2 h)]
  · rw [if_neg h, if_pos ⟨hm, h⟩]
    rfl
theorem get_snoc_other {L : List Sl} {s : Sl} {k : V} (h : s.k ≠ k) : getM (L ++ [s]) k = getM L k := by
  have e : ([s].find? (Sl.hit k)) = none := by
    rw [List.find?_eq_none]
    intro t ht hh
    rw [List.mem_singleton] at ht
    subst ht
    exact h (hit_iff.1 hh).2
  unfold getM
  rw [List.find?_append, e, Option.or_none]
theorem get_snoc_same {L : List Sl} {k v : V} (h : ∀ s ∈ L, Sl.hit k s = false) : getM (L ++ [⟨k, v, false⟩]) k = v := by
  have e : ([(⟨k, v, false⟩ : Sl)].find? (Sl.hit k)) = some ⟨k, v, false⟩ := by
    rw [List.find?_cons_of_pos]
    exact hit_iff.2 ⟨rfl, rfl⟩
  unfold getM
  rw [List.find?_append, (find_none h).1, e, Option.none_or]
theorem get_none {L : List Sl} {k : V} (h : ∀ s ∈ L, Sl.hit k s = false) : getM L k = V.nil := by
  unfold getM
  rw [(find_none h).1]
theorem pkL_get {vs : List V} {m : Nat} (hz : ∀ j, (vs.getD j V.nil).k = 0 → vs.getD j V.nil = V.nil) : ∀ {i j : Nat}, m ≤ j → j < i → getM (pkL vs m i) (nK j) = vs.getD j V.nil
  | 0, j, _, h => by omega
  | i + 1, j, hm, h => by
    by_cases hj : j = i
    · subst hj
      unfold pkL
      by_cases h0 : (vs.getD j V.nil).k = 0
      · rw [if_neg (fun e => e.2 h0), get_none (pkL_hit (Nat.le_refl j)), hz j h0]
      · rw [if_pos ⟨hm, h0⟩]
        exact get_snoc_same (pkL_hit (Nat.le_refl j))
    · have ih := pkL_get (vs := vs) (m := m) hz hm (show j < i by omega)
      unfold pkL
      split
      · rw [get_snoc_other (fun e => by have := nK_inj e; omega)]
        exact ih
      · exact ih
abbrev sN : ByteArray := ⟨#[110]⟩
/-- The map of the table that pack makes. -/
def pkE (vs : List V) : List Sl := pkL vs (fstNil vs) vs.length ++ [⟨strV sN, ⟨2, (vs.length : Nat), 1, ⟨#[]⟩, 0⟩, false⟩]
theorem strN_ne {j : Nat} : strV sN ≠ nK j := fun e => by
  have : (3 : Int) = 2 := congrArg V.k e
  omega
theorem hit_strN {vs : List V} {m i : Nat} : ∀ s ∈ pkL vs m i, Sl.hit (strV sN) s = false := by
  intro s hs
  obtain ⟨_, a, _, h2⟩ := pkL_mem hs
  cases hh : Sl.hit (strV sN) s with
  | false => rfl
  | true =>
    have := (hit_iff.1 hh).2
    rw [h2] at this
    exact absurd this.symm strN_ne
theorem pkE_set (vs : List V) : setM (pkL vs (fstNil vs) vs.length) (strV sN) ⟨2, (vs.length : Nat), 1, ⟨#[]⟩, 0⟩ = pkE vs := by
  rw [set_fresh hit_strN (fun s hs => (pkL_mem hs).1)]
  rfl
theorem pkE_n (vs : List V) : getM (pkE vs) (strV sN) = ⟨2, (vs.length : Nat), 1, ⟨#[]⟩, 0⟩ := get_snoc_same hit_strN
theorem nil_valid {v : V} (hv : validV v = true) (h : v.k = 0) : v = V.nil := by
  obtain ⟨k, p, q, s, r⟩ := v
  have h : k = 0 := h
  subst h
  unfold validV noNum noStr at hv
  simp at hv
  obtain ⟨⟨⟨h1, h2⟩, h3⟩, h4⟩ := hv
  subst h1 h2 h4
  rw [show s = (⟨#[]⟩ : ByteArray) from by first | exact h3 | exact eq_of_beq h3 | (apply ByteArray.ext; simpa using h3)]
  rfl
theorem inA_num {A : List V} {j : Nat} (hj : j ≤ 100000) : inA A (nK j) = decide (j < A.length) := by
  unfold inA nK
  rw [intB_iff.2 ⟨rfl, rfl, valid_num (by omega) (by omega)⟩, Bool.true_and]
  apply decide_eq_decide.2
  show (1 : Int) ≤ (j : Int) + 1 ∧ (j : Int) + 1 ≤ A.length ↔ _
  omega
theorem pk_tget {vs : List V} (hv : ∀ v ∈ vs, validV v = true) (hl : vs.length ≤ 1000) {j : Nat} {v : V} (hj : vs[j]? = some v) : tgetM (vs.take (fstNil vs)) (pkE vs) (nK j) = v := by
  have hlt : j < vs.length := (List.getElem?_eq_some_iff.1 hj).1
  have hd : vs.getD j V.nil = v := by rw [List.getD_eq_getElem?_getD, hj]; rfl
  have hml := fstNil_le vs
  unfold tgetM
  rw [inA_num (by omega), List.length_take, Nat.min_eq_left hml]
  by_cases h : j < fstNil vs
  · rw [if_pos (decide_eq_true h)]
    show (vs.take (fstNil vs)).getD (((j : Int) + 1).toNat - 1) V.nil = v
    rw [show ((j : Int) + 1).toNat - 1 = j by omega, List.getD_eq_getElem?_getD, List.getElem?_take_of_lt h, hj]
    rfl
  · rw [if_neg (by rw [decide_eq_true_eq]; exact h)]
    unfold pkE
    rw [get_snoc_other strN_ne, pkL_get (fun i h0 => ?_) (by omega) hlt, hd]
    by_cases hi : i < vs.length
    · have e : vs.getD i V.nil = vs[i] := by rw [List.getD_eq_getElem?_getD, List.getElem?_eq_getElem hi]; rfl
      rw [e] at h0 ⊢
      exact nil_valid (hv _ (List.getElem_mem hi)) h0
    · rw [List.getD_eq_getElem?_getD, List.getElem?_eq_none (by omega)]
      rfl
def ListPost (w : World) (A : List V) (e : Ending) (w' : World) : Prop :=
  ∃ so cap, e = .returned (.slice so A.length cap) ∧ w'.ownsRow w.heap.size 30 5 (.slice so A.length cap) A.length (rowV A) ∧ Below w.heap.size w w'
theorem row_shape {w : World} {base : Nat} {e : TypeId} {size n : Nat} {v : Value} {xs : List Value} (h : w.ownsRow base e size v n xs) : ∃ so cap, v = .slice so n cap := by
  rcases h.2 with ⟨rfl, rfl⟩ | ⟨g, cap, cur, rfl, _⟩
  · exact ⟨_, _, rfl⟩
  · exact ⟨_, _, rfl⟩
theorem grown_below {w w' : World} (h : w.grownBy w' none) : Below w.heap.size w w' := ⟨h.os, h.tape, h.output, h.size, fun k hk => h.block k hk (by simp)⟩
/-- An action in parts. -/
abbrev acV (kind op : Int) (f : V) (vs : Value) (s : ByteArray) (level next : Int) (ks : Value) : Value :=
  .agg #[.int .i64 kind, .int .i64 op, .int .i64 f.k, .int .i64 f.p, .int .i64 f.q, .string f.s, .int .i64 f.r, vs, .string s, .int .i64 level, .int .i64 next, ks]
abbrev oAc : Obj := .cells #[.int .i64 0, .int .i64 0, .int .i64 0, .int .i64 0, .int .i64 0, .string ⟨#[]⟩, .int .i64 0, .slice none 0 0, .string ⟨#[]⟩, .int .i64 0, .int .i64 0, .slice none 0 0] 35
theorem cells12 {w : World} {b : Nat} {c0 c1 c2 c3 c4 c5 c6 c7 c8 c9 c10 c11 : Value} {t : TypeId} {fz : Nat × Nat} (h : w.heap[b]? = some (.cells #[c0, c1, c2, c3, c4, c5, c6, c7, c8, c9, c10, c11] t fz)) :
    w.cell? ⟨b, 0, none⟩ = some c0 ∧ w.cell? ⟨b, 1, none⟩ = some c1 ∧ w.cell? ⟨b, 2, none⟩ = some c2 ∧ w.cell? ⟨b, 3, none⟩ = some c3 ∧ w.cell? ⟨b, 4, none⟩ = some c4 ∧ w.cell? ⟨b, 5, none⟩ = some c5 ∧ w.cell? ⟨b, 6, none⟩ = some c6 ∧ w.cell? ⟨b, 7, none⟩ = some c7 ∧ w.cell? ⟨b, 8, none⟩ = some c8 ∧ w.cell? ⟨b, 9, none⟩ = some c9 ∧ w.cell? ⟨b, 10, none⟩ = some c10 ∧ w.cell? ⟨b, 11, none⟩ = some c11 := by
  refine ⟨?_, ?_, ?_, ?_, ?_, ?_, ?_, ?_, ?_, ?_, ?_, ?_⟩ <;> (rw [cell_of_heap h]; rfl)
theorem froz12 {w : World} {b : Nat} {cs : Array Value} {t : TypeId} (h : w.heap[b]? = some (.cells cs t (0, 0))) :
    w.frozen? ⟨b, 0, none⟩ = false ∧ w.frozen? ⟨b, 1, none⟩ = false ∧ w.frozen? ⟨b, 2, none⟩ = false ∧ w.frozen? ⟨b, 3, none⟩ = false ∧ w.frozen? ⟨b, 4, none⟩ = false ∧ w.frozen? ⟨b, 5, none⟩ = false ∧ w.frozen? ⟨b, 6, none⟩ = false ∧ w.frozen? ⟨b, 7, none⟩ = false ∧ w.frozen? ⟨b, 8, none⟩ = false ∧ w.frozen? ⟨b, 9, none⟩ = false ∧ w.frozen? ⟨b, 10, none⟩ = false ∧ w.frozen? ⟨b, 11, none⟩ = false := by
  refine ⟨?_, ?_, ?_, ?_, ?_, ?_, ?_, ?_, ?_, ?_, ?_, ?_⟩ <;> exact frozen_of_heap h _
theorem below_twelve {B : Nat} {a w : World} (h : Below B a w) {b : Nat} (hb : B ≤ b) (c0 c1 c2 c3 c4 c5 c6 c7 c8 c9 c10 c11 : Value) :
    Below B a ((((((((((((w.setCell ⟨b, 0, none⟩ c0).setCell ⟨b, 1, none⟩ c1).setCell ⟨b, 2, none⟩ c2).setCell ⟨b, 3, none⟩ c3).setCell ⟨b, 4, none⟩ c4).setCell ⟨b, 5, none⟩ c5).setCell ⟨b, 6, none⟩ c6).setCell ⟨b, 7, none⟩ c7).setCell ⟨b, 8, none⟩ c8).setCell ⟨b, 9, none⟩ c9).setCell ⟨b, 10, none⟩ c10).setCell ⟨b, 11, none⟩ c11) :=
  (((((((((((h.setCell (p := ⟨b, 0, none⟩) hb c0).setCell (p := ⟨b, 1, none⟩) hb c1).setCell (p := ⟨b, 2, none⟩) hb c2).setCell (p := ⟨b, 3, none⟩) hb c3).setCell (p := ⟨b, 4, none⟩) hb c4).setCell (p := ⟨b, 5, none⟩) hb c5).setCell (p := ⟨b, 6, none⟩) hb c6).setCell (p := ⟨b, 7, none⟩) hb c7).setCell (p := ⟨b, 8, none⟩) hb c8).setCell (p := ⟨b, 9, none⟩) hb c9).setCell (p := ⟨b, 10, none⟩) hb c10).setCell (p := ⟨b, 11, none⟩) hb c11
theorem row_twelve {w : World} {base : Nat} {e : TypeId} {size n : Nat} {v : Value} {xs : List Value} (ho : w.ownsRow base e size v n xs) {b : Nat} (hb : v.ownBlock ≠ some b) (c0 c1 c2 c3 c4 c5 c6 c7 c8 c9 c10 c11 : Value) :
    ((((((((((((w.setCell ⟨b, 0, none⟩ c0).setCell ⟨b, 1, none⟩ c1).setCell ⟨b, 2, none⟩ c2).setCell ⟨b, 3, none⟩ c3).setCell ⟨b, 4, none⟩ c4).setCell ⟨b, 5, none⟩ c5).setCell ⟨b, 6, none⟩ c6).setCell ⟨b, 7, none⟩ c7).setCell ⟨b, 8, none⟩ c8).setCell ⟨b, 9, none⟩ c9).setCell ⟨b, 10, none⟩ c10).setCell ⟨b, 11, none⟩ c11).ownsRow base e size v n xs := by
  have h : ∀ j, v.ownBlock ≠ some (⟨b, j, none⟩ : Addr).block := fun _ => hb
  exact (ownsRow_set (ownsRow_set (ownsRow_set (ownsRow_set (ownsRow_set (ownsRow_set (ownsRow_set (ownsRow_set (ownsRow_set (ownsRow_set (ownsRow_set (ownsRow_set ho (h _) c0) (h _) c1) (h _) c2) (h _) c3) (h _) c4) (h _) c5) (h _) c6) (h _) c7) (h _) c8) (h _) c9) (h _) c10) (h _) c11)
def RetPost (w : World) (A : List V) (e : Ending) (w' : World) : Prop :=
  ∃ so cap, e = .returned (acV 1 0 V.nil (.slice so A.length cap) ⟨#[]⟩ 0 0 (.slice none 0 0)) ∧ w'.ownsRow w.heap.size 30 5 (.slice so A.length cap) A.length (rowV A) ∧ Below w.heap.size w w'
theorem RSep.symm {x y : RO} (h : RSep x y) : RSep y x := fun a b => by
  obtain ⟨h3, h5⟩ := h b a
  exact ⟨fun e => h3 e.symm, fun c hc hd => h5 c hd hc⟩
theorem vals_one (w : World) (v : V) : Vals (w.alloc (.cells #[.int .i64 v.k, .int .i64 v.p, .int .i64 v.q, .string v.s, .int .i64 v.r] 30)) (.slice (some ⟨w.heap.size, 0, none⟩) 1 1) [v] := by
  refine ⟨some ⟨w.heap.size, 0, none⟩, 1, rfl, Nat.le_refl _, (fun h => by cases h), .inr ⟨w.heap.size, 0, rfl, by simp, fun j u hj => ?_⟩⟩
  rw [cell_of_heap (heap_new w _), Nat.zero_add]
  have h5 : j < 5 := by
    have := (List.getElem?_eq_some_iff.1 hj).1
    rw [rowV_len] at this
    simpa using this
  rw [← hj]
  match j, h5 with
  | 0, _ => rfl
  | 1, _ => rfl
  | 2, _ => rfl
  | 3, _ => rfl
  | 4, _ => rfl
def FailPost (w : World) (v : V) (level : Int) (e : Ending) (w' : World) : Prop :=
  ∃ so cap, e = .returned (acV 2 0 V.nil (.slice so 1 cap) ⟨#[]⟩ level 0 (.slice none 0 0)) ∧ w'.ownsRow w.heap.size 30 5 (.slice so 1 cap) 1 (rowV [v]) ∧ Below w.heap.size w w'
theorem Vals.some_of {w : World} {so : Option Addr} {n cap : Nat} {A : List V} (h : Vals w (.slice so n cap) A) (hne : A ≠ []) : ∃ g o, so = some ⟨g, o, none⟩ := by
  obtain ⟨s, c, e, _, _, h⟩ := h
  injection e with e _ _
  rcases h with h | ⟨g, o, h, _⟩
  · exact absurd h hne
  · exact ⟨g, o, e.trans h⟩
def ActPost (F : Nat → Prop) (w : World) (kind op : Int) (f : V) (A : List V) (s : ByteArray) (level next : Int) (K : List V) (e : Ending) (w' : World) : Prop :=
  ∃ so cap sk ck, e = .returned (acV kind op f (.slice so A.length cap) s level next (.slice sk K.length ck)) ∧ w'.ownsRow w.heap.size 30 5 (.slice so A.length cap) A.length (rowV A) ∧ w'.ownsRow w.heap.size 30 5 (.slice sk K.length ck) K.length (rowV K) ∧ Mods F w w'
def NoF (_ : Nat) : Prop := False
theorem mods_below {w w' : World} (h : Mods NoF w w') : Below w.heap.size w w' := Mods.below h (Nat.le_refl _) (fun _ _ h => h)
theorem mods_alloc {F : Nat → Prop} {a b : World} (h : Mods F a b) (o : Obj) : Mods F a (b.alloc o) := mods_next h (below1 b o)
theorem mods_twelve {F : Nat → Prop} {a w : World} (h : Mods F a w) {b : Nat} (hb : F b ∨ a.heap.size ≤ b) (o0 o1 o2 o3 o4 o5 o6 o7 o8 o9 o10 o11 : Nat) (c0 c1 c2 c3 c4 c5 c6 c7 c8 c9 c10 c11 : Value) :
    Mods F a ((((((((((((w.setCell ⟨b, o0, none⟩ c0).setCell ⟨b, o1, none⟩ c1).setCell ⟨b, o2, none⟩ c2).setCell ⟨b, o3, none⟩ c3).setCell ⟨b, o4, none⟩ c4).setCell ⟨b, o5, none⟩ c5).setCell ⟨b, o6, none⟩ c6).setCell ⟨b, o7, none⟩ c7).setCell ⟨b, o8, none⟩ c8).setCell ⟨b, o9, none⟩ c9).setCell ⟨b, o10, none⟩ c10).setCell ⟨b, o11, none⟩ c11) := by
  exact mods_setCell (mods_setCell (mods_setCell (mods_setCell (mods_setCell (mods_setCell (mods_setCell (mods_setCell (mods_setCell (mods_setCell (mods_setCell (mods_setCell h hb c0) hb c1) hb c2) hb c3) hb c4) hb c5) hb c6) hb c7) hb c8) hb c9) hb c10) hb c11
theorem row_away {w : World} {B e size n : Nat} {v : Value} {xs : List Value} (ho : w.ownsRow B e size v n xs) {b : Nat} (hb : b < B) : v.ownBlock ≠ some b := fun h => by
  have := (ownBlock_lt ho h).1
  omega
theorem act_end {F : Nat → Prop} {w W : World} {b B : Nat} {A K : List V} {so sk : Option Addr} {cap ck : Nat} {kind op level next : Int} {f : V} {s : ByteArray}
    (ho : W.ownsRow B 30 5 (.slice so A.length cap) A.length (rowV A)) (hk : W.ownsRow B 30 5 (.slice sk K.length ck) K.length (rowV K)) (hm : Mods F w W) (hw : w.heap.size ≤ b) (hb : b < B) (c0 c1 c2 c3 c4 c5 c6 c7 c8 c9 c10 c11 : Value) :
    ActPost F w kind op f A s level next K (.returned (acV kind op f (.slice so A.length cap) s level next (.slice sk K.length ck))) ((((((((((((W.setCell ⟨b, 0, none⟩ c0).setCell ⟨b, 1, none⟩ c1).setCell ⟨b, 2, none⟩ c2).setCell ⟨b, 3, none⟩ c3).setCell ⟨b, 4, none⟩ c4).setCell ⟨b, 5, none⟩ c5).setCell ⟨b, 6, none⟩ c6).setCell ⟨b, 7, none⟩ c7).setCell ⟨b, 8, none⟩ c8).setCell ⟨b, 9, none⟩ c9).setCell ⟨b, 10, none⟩ c10).setCell ⟨b, 11, none⟩ c11) :=
  ⟨so, cap, sk, ck, rfl, ownsRow_base (row_twelve ho (row_away ho hb) _ _ _ _ _ _ _ _ _ _ _ _) (by omega), ownsRow_base (row_twelve hk (row_away hk hb) _ _ _ _ _ _ _ _ _ _ _ _) (by omega), mods_twelve hm (.inr hw) 0 1 2 3 4 5 6 7 8 9 10 11 _ _ _ _ _ _ _ _ _ _ _ _⟩
theorem cells16 {w : World} {b : Nat} {c0 c1 c2 c3 c4 c5 c6 c7 c8 c9 c10 c11 c12 c13 c14 c15 : Value} {t : TypeId} {fz : Nat × Nat} (h : w.heap[b]? = some (.cells #[c0, c1, c2, c3, c4, c5, c6, c7, c8, c9, c10, c11, c12, c13, c14, c15] t fz)) :
    w.cell? ⟨b, 0, none⟩ = some c0 ∧ w.cell? ⟨b, 1, none⟩ = some c1 ∧ w.cell? ⟨b, 2, none⟩ = some c2 ∧ w.cell? ⟨b, 3, none⟩ = some c3 ∧ w.cell? ⟨b, 4, none⟩ = some c4 ∧ w.cell? ⟨b, 5, none⟩ = some c5 ∧ w.cell? ⟨b, 6, none⟩ = some c6 ∧ w.cell? ⟨b, 7, none⟩ = some c7 ∧ w.cell? ⟨b, 8, none⟩ = some c8 ∧ w.cell? ⟨b, 9, none⟩ = some c9 ∧ w.cell? ⟨b, 10, none⟩ = some c10 ∧ w.cell? ⟨b, 11, none⟩ = some c11 ∧ w.cell? ⟨b, 12, none⟩ = some c12 ∧ w.cell? ⟨b, 13, none⟩ = some c13 ∧ w.cell? ⟨b, 14, none⟩ = some c14 ∧ w.cell? ⟨b, 15, none⟩ = some c15 := by
  refine ⟨?_, ?_, ?_, ?_, ?_, ?_, ?_, ?_, ?_, ?_, ?_, ?_, ?_, ?_, ?_, ?_⟩ <;> (rw [cell_of_heap h]; rfl)
theorem froz16 {w : World} {b : Nat} {cs : Array Value} {t : TypeId} (h : w.heap[b]? = some (.cells cs t (0, 0))) :
    w.frozen? ⟨b, 0, none⟩ = false ∧ w.frozen? ⟨b, 1, none⟩ = false ∧ w.frozen? ⟨b, 2, none⟩ = false ∧ w.frozen? ⟨b, 3, none⟩ = false ∧ w.frozen? ⟨b, 4, none⟩ = false ∧ w.frozen? ⟨b, 5, none⟩ = false ∧ w.frozen? ⟨b, 6, none⟩ = false ∧ w.frozen? ⟨b, 7, none⟩ = false ∧ w.frozen? ⟨b, 8, none⟩ = false ∧ w.frozen? ⟨b, 9, none⟩ = false ∧ w.frozen? ⟨b, 10, none⟩ = false ∧ w.frozen? ⟨b, 11, none⟩ = false ∧ w.frozen? ⟨b, 12, none⟩ = false ∧ w.frozen? ⟨b, 13, none⟩ = false ∧ w.frozen? ⟨b, 14, none⟩ = false ∧ w.frozen? ⟨b, 15, none⟩ = false := by
  refine ⟨?_, ?_, ?_, ?_, ?_, ?_, ?_, ?_, ?_, ?_, ?_, ?_, ?_, ?_, ?_, ?_⟩ <;> exact frozen_of_heap h _
def tooLong : ByteArray := ⟨#[115, 116, 114, 105, 110, 103, 32, 116, 111, 111, 32, 108, 111, 110, 103]⟩
/-- An action in memory, of blocks from a world on. -/
def ActR (w : World) (kind : Int) (f : V) (A : List V) (s : ByteArray) (level next : Int) (K : List V) (e : Ending) (w' : World) : Prop :=
  ∃ so cap sk ck, e = .returned (acV kind 0 f (.slice so A.length cap) s level next (.slice sk K.length ck)) ∧ w'.ownsRow w.heap.size 30 5 (.slice so A.length cap) A.length (rowV A) ∧ w'.ownsRow w.heap.size 30 5 (.slice sk K.length ck) K.length (rowV K)
theorem ActPost.r {F : Nat → Prop} {w : World} {kind : Int} {f : V} {A : List V} {s : ByteArray} {level next : Int} {K : List V} {e : Ending} {w' : World} (h : ActPost F w kind 0 f A s level next K e w') : ActR w kind f A s level next K e w' ∧ Mods F w w' := by
  obtain ⟨so, cap, sk, ck, h1, h2, h3, h4⟩ := h
  exact ⟨⟨so, cap, sk, ck, h1, h2, h3⟩, h4⟩
theorem grown_refl (w : World) (r : Option Nat) : w.grownBy w r := ⟨rfl, rfl, rfl, Nat.le_refl _, fun _ _ _ => rfl⟩
theorem below_grown {B : Nat} {a W w' : World} {r : Option Nat} (h : Below B a W) (k : W.grownBy w' r) (hB : B ≤ W.heap.size) (hr : ∀ g, r = some g → B ≤ g) : Below B a w' :=
  ⟨k.os.trans h.os, k.tape.trans h.tape, k.output.trans h.output, Nat.le_trans h.size k.size, fun i hi => (k.block i (by omega) (fun e => by have := hr i e.symm; omega)).trans (h.block i hi)⟩
set_option maxRecDepth 100000 in
set_option maxHeartbeats 2000000 in
theorem row_lit (w : World) (A : List V) (hl : A.length ≤ 1000000) : (w.alloc (.cells (rowV A).toArray 30)).ownsRow w.heap.size 30 5 (.slice (some ⟨w.heap.size, 0, none⟩) A.length A.length) A.length (rowV A) := by
  refine ⟨rowV_len A, .inr ⟨w.heap.size, A.length, (rowV A).toArray, rfl, Nat.le_refl _, heap_new w _, Nat.le_refl _, by unfold maxLen; omega, by rw [List.size_toArray, rowV_len], ?_⟩⟩
  show (rowV A).take (A.length * 5) = rowV A
  rw [← rowV_len, List.take_length]
theorem size_data (s : ByteArray) : s.data.toList.length = s.size := by simp
abbrev oCt (h : Nat) (nm : ByteArray) (av : Value) : Obj := .cells #[.pointer (some ⟨h, 0, none⟩), .string nm, av, .int .i64 0, .int .i64 0, .int .i64 0, .int .i64 0, .int .i64 0, .string ⟨#[]⟩, .int .i64 0, .slice none 0 0, .string ⟨#[]⟩, .int .i64 0, .int .i64 0, .slice none 0 0, .bool false] 69
abbrev tabA (ti : Nat) : Value := .agg #[.int .i64 4, .int .i64 0, .int .i64 0, .string ⟨#[]⟩, .int .i64 ((ti : Int) + 1)]
end Go.Proofs.YtpbcmlnjiocmoaaGreatDoorR
