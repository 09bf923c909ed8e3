import Derived.Test.YtpbcmlnjiocmoaaGreatDoorRMapL
set_option linter.unusedVariables false
set_option linter.unusedSimpArgs false
set_option maxRecDepth 100000
set_option maxHeartbeats 2000000
namespace Go.Proofs.YtpbcmlnjiocmoaaGreatDoorR
open Go.RowKit Go.Proofs.Lexi
theorem tabW_below {w w' : World} {t m g : Nat} {sv av : Value} {L : List Sl} {A : List V} (h : TabW w t m g sv L av A) (hb : Below w.heap.size w w') : TabW w' t m g sv L av A :=
  ⟨hkeep hb h.ht, listW_below h.lw hb, h.wfA, om_keep_below h.om hb⟩
theorem tabW_put {w : World} {t m g ga n cap : Nat} {sv : Value} {L : List Sl} {A : List V} (hT : TabW w t m g sv L (.slice (some ⟨ga, 0, none⟩) n cap) A) {i : Nat} (hi : i < A.length) {x : V} (hx : WfV x ∧ validV x = true) :
    TabW (w.setCells ga (i * 5) (vCells x)) t m g sv L (.slice (some ⟨ga, 0, none⟩) n cap) (A.set i x) ∧ Mods (TbF t (.slice (some ⟨ga, 0, none⟩) n cap)) w (w.setCells ga (i * 5) (vCells x)) := by
  have hm : Mods (TbF t (.slice (some ⟨ga, 0, none⟩) n cap)) w (w.setCells ga (i * 5) (vCells x)) := by
    rw [kit_setCells]
    exact mods_setCells (.inl (.inr rfl)) _ _ _ (Mods.refl _ _)
  obtain ⟨cur, hc⟩ := listW_block hT.lw (show (Value.slice (some ⟨ga, 0, none⟩) n cap).ownBlock = some ga from rfl)
  refine ⟨⟨?_, listW_set hT.lw hi x, fun v hv => ?_, om_keepF hT.om hT.ht hT.lw hm⟩, hm⟩
  · rw [kit_setCells, setCells_other (obj_ne hT.ht hc (cells_ne (by decide)))]
    exact hT.ht
  · rcases List.mem_or_eq_of_mem_set hv with h | h
    · exact hT.wfA v h
    · rw [h]; exact hx
def TSetPost (w : World) (t m g : Nat) (sv : Value) (L : List Sl) (av : Value) (A : List V) (e : Ending) (w' : World) : Prop :=
  e = .returned (.int .i64 0) ∧ ∃ av', TabW w' t m g sv L av' A ∧ (∀ b, av'.ownBlock = some b → av.ownBlock = some b ∨ w.heap.size ≤ b) ∧ Mods (TbF t av) w w'
def setInM (A : List V) (i : Nat) (v : V) : List V := if i + 1 = A.length then shrinkM (A.set i v) else A.set i v
theorem cell_one (w : World) (x : V) : ∀ j u, (vCells x)[j]? = some u → (w.alloc (.cells #[.int .i64 x.k, .int .i64 x.p, .int .i64 x.q, .string x.s, .int .i64 x.r] 30)).cell? ((⟨w.heap.size, 0, none⟩ : Addr).add j) = some u := fun j u hj => by
  rw [add_none, Nat.zero_add, cell_of_heap (heap_new w _)]
  rw [← hj]
  exact List.getElem?_toArray
/-- The table behind an append to its list. -/
theorem tabW_grow {w w' : World} {t m g : Nat} {sv av v' : Value} {L : List Sl} {A : List V} {x : V} (hT : TabW w t m g sv L av A) (hx : WfV x ∧ validV x = true) (h2 : ListW w' v' (A ++ [x])) (h3 : w.grownBy w' av.ownBlock) :
    TabW (w'.setCell ⟨t, 0, none⟩ v') t m g sv L v' (A ++ [x]) ∧ Mods (TbF t av) w (w'.setCell ⟨t, 0, none⟩ v') ∧ w'.heap[t]? = some (.cells #[av, .pointer (some ⟨m, 0, none⟩)] 126) := by
  have hm0 : Mods (TbF t av) w w' := ⟨h3.os, h3.tape, h3.output, h3.size, fun k hk hF => h3.block k hk (fun e => hF (.inr e.symm))⟩
  have hm : Mods (TbF t av) w (w'.setCell ⟨t, 0, none⟩ v') := mods_setCell hm0 (.inl (.inl rfl)) _
  have htl : t < w.heap.size := (Array.getElem?_eq_some_iff.1 hT.ht).1
  have ht' : w'.heap[t]? = some (.cells #[av, .pointer (some ⟨m, 0, none⟩)] 126) := (h3.block t htl (fun e => by
    obtain ⟨cur, hc⟩ := listW_block hT.lw e.symm
    exact obj_ne hc hT.ht (cells_ne (by decide)) rfl)).trans hT.ht
  refine ⟨⟨heap_setCell_same ht' 0 v', ListW.kept h2 (fun b hb => Below.heap_setCell _ _ _ _ ?_), fun y hy => ?_, om_keepF hT.om hT.ht hT.lw hm⟩, hm, ht'⟩
  · obtain ⟨cur, hc⟩ := listW_block h2 hb
    exact obj_ne hc ht' (cells_ne (by decide))
  · rcases List.mem_append.1 hy with h | h
    · exact hT.wfA y h
    · rw [List.mem_singleton.1 h]; exact hx
theorem sub_of {av v' : Value} {n base : Nat} (h4 : v'.ownBlock = av.ownBlock ∨ v'.ownBlock = some n) (hn : base ≤ n) : ∀ b, v'.ownBlock = some b → av.ownBlock = some b ∨ base ≤ b := by
  intro b hb
  rcases h4 with h4 | h4
  · exact .inl (h4 ▸ hb)
  · rw [h4] at hb
    injection hb with hb
    exact .inr (by omega)
theorem prj2a {c0 c1 p : Prop} (h : c0 ∧ c1 ∧ Hid p) : p := h.2.2.out
theorem cells2 {w : World} {b : Nat} {c0 c1 : Value} {t : TypeId} {fz : Nat × Nat} (h : w.heap[b]? = some (.cells #[c0, c1] t fz)) : w.cell? ⟨b, 0, none⟩ = some c0 ∧ w.cell? ⟨b, 1, none⟩ = some c1 := by
  refine ⟨?_, ?_⟩ <;> (rw [cell_of_heap h]; rfl)
theorem wf_num {n : Int} (h1 : -2147483647 ≤ n) (h2 : n ≤ 2147483647) : WfV ⟨2, n, 1, ⟨#[]⟩, 0⟩ := by
  have a : i64 2 ∧ i64 1 ∧ i64 0 := ⟨⟨by decide, by decide⟩, ⟨by decide, by decide⟩, ⟨by decide, by decide⟩⟩
  have b : i64 n := ⟨by omega, by omega⟩
  exact ⟨a.1, b, a.2.1, by show (⟨#[]⟩ : ByteArray).size ≤ maxLen; unfold maxLen; decide, a.2.2⟩
theorem eqv_num (n : Int) : eqV ⟨2, n, 1, ⟨#[]⟩, 0⟩ V.nil = false := by
  unfold eqV V.nil
  simp
theorem w64_in {n : Int} (h1 : 0 ≤ n) (h2 : n ≤ 4294967296) : IntKind.i64.wrap n = n := by
  simp [IntKind.wrap, IntKind.bits, IntKind.signed]
  omega
abbrev oZ : Obj := .cells #[.int .i64 0, .int .i64 0, .int .i64 0, .string ⟨#[]⟩, .int .i64 0] 30
theorem heap2_aD (w : World) (o p : Obj) : ((w.drew.alloc o).alloc p).heap[w.heap.size]? = some o := heap2_a w.drew o p
theorem heap2_bD (w : World) (o p : Obj) : ((w.drew.alloc o).alloc p).heap[w.heap.size + 1]? = some p := heap2_b w.drew o p
theorem box5 {w : World} {b : Nat} (h : w.heap[b]? = some oZ) : b < w.heap.size ∧ w.cell? ⟨b, 0, none⟩ = some (.int .i64 0) ∧ w.cell? ⟨b, 1, none⟩ = some (.int .i64 0) ∧ w.cell? ⟨b, 2, none⟩ = some (.int .i64 0) ∧ w.cell? ⟨b, 3, none⟩ = some (.string ⟨#[]⟩) ∧ w.cell? ⟨b, 4, none⟩ = some (.int .i64 0) ∧ w.frozen? ⟨b, 0, none⟩ = false ∧ w.frozen? ⟨b, 1, none⟩ = false ∧ w.frozen? ⟨b, 2, none⟩ = false ∧ w.frozen? ⟨b, 3, none⟩ = false ∧ w.frozen? ⟨b, 4, none⟩ = false := by
  obtain ⟨a0, a1, a2, a3, a4⟩ := cells5 h
  obtain ⟨f0, f1, f2, f3, f4⟩ := froz5 h
  exact ⟨(Array.getElem?_eq_some_iff.1 h).1, a0, a1, a2, a3, a4, f0, f1, f2, f3, f4⟩
theorem own_ne {av v' : Value} {n b : Nat} (h4 : v'.ownBlock = av.ownBlock ∨ v'.ownBlock = some n) (h1 : ∀ g, av.ownBlock = some g → g < b) (h2 : b < n) : v'.ownBlock ≠ some b := fun h => by
  rcases h4 with h4 | h4
  · have := h1 b (h4 ▸ h); omega
  · rw [h4] at h
    injection h with h
    omega
theorem mods_new {F : Nat → Prop} {w v W : World} {b : Nat} (h : Mods F w v) (hb : w.heap.size ≤ b) (k : Mods (fun x => x = b) v W) : Mods F w W :=
  ⟨k.os.trans h.os, k.tape.trans h.tape, k.output.trans h.output, Nat.le_trans h.size k.size, fun i hi hF => (k.block i (Nat.lt_of_lt_of_le hi h.size) (fun e => by subst e; omega)).trans (h.block i hi hF)⟩
theorem tabW_mods {w w' : World} {t m g b : Nat} {sv av : Value} {L : List Sl} {A : List V} {cs : Array Value} (hT : TabW w t m g sv L av A) (hb : w.heap[b]? = some (.cells cs 30 (0, 0))) (hne : av.ownBlock ≠ some b) (hm : Mods (fun x => x = b) w w') : TabW w' t m g sv L av A := by
  refine ⟨mkeep hm hT.ht (obj_ne hT.ht hb (cells_ne (by decide))), ListW.kept hT.lw (fun x hx => hm.block x (listW_lt hT.lw hx) (fun e => hne (e ▸ hx))), hT.wfA, om_keepT hT.om (fun x hx => ⟨fun c hc => ?_, fun es c hc => ?_, fun c hc => ?_⟩)⟩
  · exact hm.block x hx (obj_ne hc hb (cells_ne (by decide)))
  · exact hm.block x hx (obj_ne hc hb (fun e => by cases e))
  · exact hm.block x hx (obj_ne hc hb (cells_ne (by decide)))
def TAddPost (w : World) (t m g : Nat) (sv : Value) (L : List Sl) (av : Value) (A : List V) (e : Ending) (w' : World) : Prop :=
  e = .returned (.tuple #[]) ∧ ∃ av', TabW w' t m g sv L av' A ∧ (∀ b, av'.ownBlock = some b → av.ownBlock = some b ∨ w.heap.size ≤ b) ∧ Mods (TbF t av) w w'
def AddR (w : World) (t m g : Nat) (sv : Value) (L : List Sl) (av : Value) (A : List V) (x : V) (gg : Nat) (wr : World) : Prop :=
  (gg = 1 ∧ wr.heap[w.heap.size]? = some (oV x.k x.p x.q x.s x.r) ∧ Below w.heap.size w wr) ∨
  (gg = 0 ∧ wr.heap[w.heap.size]? = some (oV 0 0 0 ⟨#[]⟩ 0) ∧ ∃ av', TabW wr t m g sv L av' (A ++ [x]) ∧ (∀ b, av'.ownBlock = some b → av.ownBlock = some b ∨ w.heap.size ≤ b) ∧ Mods (TbF t av) w wr)
def TwF (t m g : Nat) (sv av : Value) (b : Nat) : Prop := b = t ∨ OmF m g sv b ∨ av.ownBlock = some b
def TOwn (w : World) (m g : Nat) (sv av : Value) (m' g' : Nat) (sv' av' : Value) : Prop :=
  (m' = m ∨ w.heap.size ≤ m') ∧ (g' = g ∨ w.heap.size ≤ g') ∧ (∀ b, sv'.ownBlock = some b → sv.ownBlock = some b ∨ w.heap.size ≤ b) ∧ ∀ b, av'.ownBlock = some b → av.ownBlock = some b ∨ w.heap.size ≤ b
/-- What a change of a table does. -/
def TWPost (w : World) (t m g : Nat) (sv av : Value) (L' : List Sl) (A' : List V) (e : Ending) (w' : World) : Prop :=
  e = .returned (.int .i64 0) ∧ ∃ m' g' sv' av', TabW w' t m' g' sv' L' av' A' ∧ TOwn w m g sv av m' g' sv' av' ∧ Mods (TwF t m g sv av) w w'
theorem TSetPost.tw {w : World} {t m g : Nat} {sv : Value} {L : List Sl} {av : Value} {A : List V} {e : Ending} {w' : World} (h : TSetPost w t m g sv L av A e w') : TWPost w t m g sv av L A e w' := by
  obtain ⟨h1, av', h2, h3, h4⟩ := h
  exact ⟨h1, m, g, sv, av', h2, ⟨.inl rfl, .inl rfl, fun _ h => .inl h, h3⟩, h4.mono (fun b _ hb => hb.elim .inl (fun h => .inr (.inr h)))⟩
theorem intB_iff {v : V} : intB v = true ↔ v.k = 2 ∧ v.q = 1 ∧ validV v = true := by
  unfold intB
  simp [Bool.and_eq_true, and_assoc]
theorem tabW_of {w : World} {t m g : Nat} {sv : Value} {L : List Sl} (h : TabAt w t m g sv L) : TabW w t m g sv L (.slice none 0 0) [] :=
  ⟨h.ht, listW_nil w, fun v hv => (by cases hv), h.om⟩
structure LO where
  kind : Int
  mt : V
  L : List Sl
abbrev LH := List LO
/-- An object of the program's heap: where it lies, and what it is. -/
structure PO where
  kind : Int
  tag : Int
  name : ByteArray
  mt : V
  vals : Value
  o : Nat
  t : Nat
  m : Nat
  g : Nat
  sv : Value
  L : List Sl
  av : Value
  A : List V
def PO.lo (x : PO) : LO := ⟨x.kind, x.mt, if x.kind = 4 then x.L else []⟩
def PO.tabv (x : PO) : Value := if x.kind = 4 then .pointer (some ⟨x.t, 0, none⟩) else .pointer none
abbrev PO.cells (x : PO) : Array Value := #[.int .i64 x.kind, .int .i64 x.tag, .string x.name, x.tabv, .int .i64 x.mt.k, .int .i64 x.mt.p, .int .i64 x.mt.q, .string x.mt.s, .int .i64 x.mt.r, x.vals]
structure PObj (w : World) (x : PO) : Prop where
  ho : w.heap[x.o]? = some (.cells x.cells 94)
  kd : x.kind = 4 ∨ x.kind = 5 ∨ x.kind = 8
  wm : WfV x.mt
  fm : x.kind = 5 → x.mt = V.nil ∧ x.vals = .slice none 0 0
  tb : x.kind = 4 → TabW w x.t x.m x.g x.sv x.L x.av x.A
def PSep (x y : PO) : Prop := x.o ≠ y.o ∧ (x.kind = 4 → y.kind = 4 → x.m ≠ y.m ∧ x.g ≠ y.g ∧ (∀ b, x.sv.ownBlock = some b → y.sv.ownBlock ≠ some b) ∧ x.t ≠ y.t ∧ ∀ b, x.av.ownBlock = some b → y.av.ownBlock ≠ some b)
def objE (H : List PO) : List (Value × Value) := H.mapIdx fun i x => (.int .i64 ((i + 1 : Nat) : Int), .pointer (some ⟨x.o, 0, none⟩))
structure HpAt (w : World) (h bo bt : Nat) (H : List PO) : Prop where
  hh : w.heap[h]? = some (.cells #[.map (some bo), .int .i64 (H.length : Nat), .map (some bt)] 63)
  objs : MapAt Tryz.prog 3 w bo (objE H)
  touched : ∃ E, MapAt Tryz.prog 3 w bt E
  one : ∀ x ∈ H, PObj w x
  sep : H.Pairwise PSep
  ot : bo ≠ bt
  gs : ∀ x ∈ H, x.kind = 4 → x.g ≠ bo ∧ x.g ≠ bt
def lh (H : List PO) : LH := H.map PO.lo
def Small (n : Nat) (H : List PO) : Prop := ∀ x ∈ H, x.L.length ≤ n ∧ x.A.length ≤ n
def findP (H : List PO) (v : V) : Option PO :=
  if 1 ≤ v.r then (match H[v.r.toNat - 1]? with | some o => if o.kind = v.k then some o else none | none => none) else none
theorem find_at {H : List PO} {v : V} {x : PO} (h : findP H v = some x) : ∃ i, H[i]? = some x ∧ x.kind = v.k ∧ v.r = ((i + 1 : Nat) : Int) ∧ x ∈ H := by
  unfold findP at h
  split at h
  · rename_i h1
    cases ho : H[v.r.toNat - 1]? with
    | none => rw [ho] at h; cases h
    | some o =>
      rw [ho] at h
      simp only at h
      split at h
      · rename_i hk
        injection h with h
        subst h
        exact ⟨_, ho, hk, by omega, List.mem_of_getElem? ho⟩
      · cases h
  · cases h
theorem objE_len (H : List PO) : (objE H).length = H.length := by unfold objE; rw [List.length_mapIdx]
theorem objE_get (H : List PO) (i : Nat) : (objE H)[i]? = (H[i]?).map fun x => (.int .i64 ((i + 1 : Nat) : Int), .pointer (some ⟨x.o, 0, none⟩)) := by
  unfold objE
  rw [List.getElem?_mapIdx]
theorem objE_mem {H : List PO} {p : Value × Value} : p ∈ objE H ↔ ∃ i x, H[i]? = some x ∧ p = (.int .i64 ((i + 1 : Nat) : Int), .pointer (some ⟨x.o, 0, none⟩)) := by
  constructor
  · intro hp
    obtain ⟨i, hi⟩ := List.getElem?_of_mem hp
    rw [objE_get] at hi
    cases hx : H[i]? with
    | none => rw [hx] at hi; cases hi
    | some x => rw [hx] at hi; injection hi with hi; exact ⟨i, x, hx, hi.symm⟩
  · rintro ⟨i, x, hx, rfl⟩
    refine List.mem_of_getElem? (i := i) ?_
    rw [objE_get, hx]; rfl
/-- The object that a reference names. -/
def objAt (H : List PO) (r : Int) : Option PO := if 1 ≤ r then H[r.toNat - 1]? else none
def ptrO : Option PO → Value
  | some x => .pointer (some ⟨x.o, 0, none⟩)
  | none => .pointer none
theorem zero94 (w : World) : (zeroValue 91).run Tryz.prog w = .ok (.pointer none) w := Tryz.zeroValue91 w
set_option maxRecDepth 100000 in
theorem obj_look {w : World} {bo : Nat} {H : List PO} (hE : MapAt Tryz.prog 3 w bo (objE H)) {r : Int} (hr : i64 r) (W : World) (hW : W.heap[bo]? = w.heap[bo]?) :
    (Instr.lookup 60 (.map (some bo)) (.int .i64 r) false).run Tryz.prog W = .ok (ptrO (objAt H r)) W := by
  obtain ⟨l, hl⟩ := keyI hr
  rcases (hE.keep hW).look keyedI (e := 91) (t := 60) (by kernel_rfl) (zero94 W) hl with ⟨h1, h2⟩ | ⟨v, h1, h2⟩
  · have : objAt H r = none := by
      unfold objAt
      split
      · rename_i h
        cases ho : H[r.toNat - 1]? with
        | none => rfl
        | some x =>
          refine absurd ?_ (h1 _ (objE_mem.2 ⟨_, x, ho, rfl⟩))
          show Value.int .i64 _ = Value.int .i64 _
          congr 1
          omega
      · rfl
    rw [this]
    exact h2 false
  · obtain ⟨i, x, hx, he⟩ := objE_mem.1 h1
    simp only [Prod.mk.injEq, Value.int.injEq, true_and] at he
    obtain ⟨rfl, rfl⟩ := he
    have : objAt H ((i + 1 : Nat) : Int) = some x := by
      unfold objAt
      rw [if_pos (by omega), show ((i + 1 : Nat) : Int).toNat - 1 = i by omega, hx]
    rw [this]
    exact h2 false
def PtrPost (w : World) (v : Value) (e : Ending) (w' : World) : Prop := e = .returned v ∧ Below w.heap.size w w'
theorem HpAt.below {w w' : World} {h bo bt : Nat} {H : List PO} (hH : HpAt w h bo bt H) (hb : Below w.heap.size w w') : HpAt w' h bo bt H := by
  obtain ⟨a, b, ⟨E, c⟩, d, e, f, g⟩ := hH
  exact ⟨hkeep hb a, b.keep (hb.block _ b.lt), ⟨E, c.keep (hb.block _ c.lt)⟩, fun x hx => ⟨hkeep hb (d x hx).ho, (d x hx).kd, (d x hx).wm, (d x hx).fm, fun hk => tabW_below ((d x hx).tb hk) hb⟩, e, f, g⟩
theorem findP_none {H : List PO} {v : V} (h : objAt H v.r = none) : findP H v = none := by
  unfold findP
  unfold objAt at h
  split
  · rename_i h1; rw [if_pos h1] at h; rw [h]
  · rfl
theorem findP_some {H : List PO} {v : V} {x : PO} (h : objAt H v.r = some x) : findP H v = if x.kind = v.k then some x else none := by
  unfold findP
  unfold objAt at h
  split
  · rename_i h1; rw [if_pos h1] at h; rw [h]
  · rename_i h1; rw [if_neg h1] at h; cases h
theorem objAt_mem {H : List PO} {r : Int} {x : PO} (h : objAt H r = some x) : x ∈ H := by
  unfold objAt at h
  split at h
  · exact List.mem_of_getElem? h
  · cases h
def tabO : Option PO → Value
  | some x => x.tabv
  | none => .pointer none
/-- What Get of a heap gives at any valid key. -/
def getP (H : List PO) (v k : V) : VR := match findP H v with | some x => if x.kind = 4 then .ok (tgetM x.A x.L k) else .error 8 | none => .error 8
/-- A need as the model returns it; av: the slice of its arguments. -/
abbrev ndV (n : Nd) (av : Value) : Value := .agg #[.int .i64 n.k, .int .i64 n.v.k, .int .i64 n.v.p, .int .i64 n.v.q, .string n.v.s, .int .i64 n.v.r, .int .i64 n.f.k, .int .i64 n.f.p, .int .i64 n.f.q, .string n.f.s, .int .i64 n.f.r, av, .int .i64 n.after, .string n.s]
def ArgsAt (w : World) (base : Nat) (av : Value) (l : List V) : Prop :=
  (l = [] ∧ av = .slice none 0 0) ∨ ∃ (g : Nat) (a b : V), l = [a, b] ∧ av = .slice (some ⟨g, 0, none⟩) 2 2 ∧ base ≤ g ∧ w.heap[g]? = some (.cells #[.int .i64 a.k, .int .i64 a.p, .int .i64 a.q, .string a.s, .int .i64 a.r, .int .i64 b.k, .int .i64 b.p, .int .i64 b.q, .string b.s, .int .i64 b.r] 30)
def NdPost (w : World) (n : Nd) (e : Ending) (w' : World) : Prop := ∃ av, e = .returned (ndV n av) ∧ ArgsAt w' w.heap.size av n.args ∧ Below w.heap.size w w'
theorem ArgsAt.below {w w' : World} {base : Nat} {av : Value} {l : List V} (h : ArgsAt w base av l) (hb : Below w.heap.size w w') : ArgsAt w' base av l := by
  rcases h with h | ⟨g, a, b, h1, h2, h3, h4⟩
  · exact .inl h
  · exact .inr ⟨g, a, b, h1, h2, h3, hkeep hb h4⟩
theorem ArgsAt.base {w : World} {base base' : Nat} {av : Value} {l : List V} (h : ArgsAt w base av l) (hb : base' ≤ base) : ArgsAt w base' av l := by
  rcases h with h | ⟨g, a, b, h1, h2, h3, h4⟩
  · exact .inl h
  · exact .inr ⟨g, a, b, h1, h2, Nat.le_trans hb h3, h4⟩
theorem pw_iff {α : Type} {R : α → α → Prop} {l : List α} : l.Pairwise R ↔ ∀ (a b : Nat) (x y : α), a < b → l[a]? = some x → l[b]? = some y → R x y := by
  rw [List.pairwise_iff_getElem]
  constructor
  · intro h a b x y hab ha hb
    obtain ⟨h1, h2⟩ := List.getElem?_eq_some_iff.1 ha
    obtain ⟨h3, h4⟩ := List.getElem?_eq_some_iff.1 hb
    rw [← h2, ← h4]
    exact h a b h1 h3 hab
  · intro h a b ha hb hab
    exact h a b _ _ hab (List.getElem?_eq_getElem ha) (List.getElem?_eq_getElem hb)
theorem PSep.symm {x y : PO} (h : PSep x y) : PSep y x := by
  refine ⟨fun e => h.1 e.symm, fun a b => ?_⟩
  obtain ⟨h1, h2, h3, h4, h5⟩ := h.2 b a
  exact ⟨fun e => h1 e.symm, fun e => h2 e.symm, fun c hc hd => h3 c hd hc, fun e => h4 e.symm, fun c hc hd => h5 c hd hc⟩
theorem sep_at {H : List PO} (hs : H.Pairwise PSep) {i j : Nat} {x y : PO} (hi : H[i]? = some x) (hj : H[j]? = some y) (hij : i ≠ j) : PSep x y := by
  rcases Nat.lt_or_gt_of_ne hij with h | h
  · exact pw_iff.1 hs i j x y h hi hj
  · exact (pw_iff.1 hs j i y x h hj hi).symm
def HpF (h bo bt : Nat) (H : List PO) (b : Nat) : Prop := b = h ∨ b = bo ∨ b = bt ∨ ∃ x ∈ H, b = x.o ∨ (x.kind = 4 ∧ TwF x.t x.m x.g x.sv x.av b)
theorem tabW_keep {w w' : World} {t m g : Nat} {sv av : Value} {L : List Sl} {A : List V} (h : TabW w t m g sv L av A) (hk : ∀ b, TwF t m g sv av b → w'.heap[b]? = w.heap[b]?) : TabW w' t m g sv L av A :=
  ⟨(hk _ (.inl rfl)).trans h.ht, ListW.kept h.lw (fun b hb => hk _ (.inr (.inr hb))), h.wfA, h.om.keep (hk _ (.inr (.inl (.inl rfl)))) (hk _ (.inr (.inl (.inr (.inl rfl))))) (fun b hb => hk _ (.inr (.inl (.inr (.inr hb)))))⟩
theorem hp_pb {w : World} {h bo bt : Nat} {H : List PO} (hH : HpAt w h bo bt H) {b : Nat} (hb : HpF h bo bt H b) : (∃ o, w.heap[b]? = some o ∧ PB o) ∨ ∃ x ∈ H, x.kind = 4 ∧ x.av.ownBlock = some b ∧ ∃ cur, w.heap[b]? = some (.cells cur 30 (0, 0)) := by
  rcases hb with rfl | rfl | rfl | ⟨x, hx, rfl | ⟨h4, rfl | hF | hF⟩⟩
  · exact .inl ⟨_, hH.hh, .inr (.inr (.inr (.inr rfl)))⟩
  · obtain ⟨es, c, h1⟩ := hH.objs.obj; exact .inl ⟨_, h1, trivial⟩
  · obtain ⟨E, hE⟩ := hH.touched; obtain ⟨es, c, h1⟩ := hE.obj; exact .inl ⟨_, h1, trivial⟩
  · exact .inl ⟨_, (hH.one x hx).ho, .inr (.inr (.inr (.inl rfl)))⟩
  · exact .inl ⟨_, ((hH.one x hx).tb h4).ht, .inr (.inr (.inl rfl))⟩
  · have hO := ((hH.one x hx).tb h4).om
    rcases hF with rfl | rfl | hF
    · exact .inl ⟨_, hO.hm, .inl rfl⟩
    · obtain ⟨E, f, hE, _⟩ := hO.map; obtain ⟨es, c, h1⟩ := hE.obj; exact .inl ⟨_, h1, trivial⟩
    · obtain ⟨cs, hc⟩ := row_block hO.row hF; exact .inl ⟨_, hc, .inr (.inl rfl)⟩
  · exact .inr ⟨x, hx, h4, hF, listW_block ((hH.one x hx).tb h4).lw hF⟩
theorem hp_lt {w : World} {h bo bt : Nat} {H : List PO} (hH : HpAt w h bo bt H) {b : Nat} (hb : HpF h bo bt H b) : b < w.heap.size := by
  rcases hp_pb hH hb with ⟨o, h1, _⟩ | ⟨_, _, _, _, _, h1⟩
  · exact (Array.getElem?_eq_some_iff.1 h1).1
  · exact (Array.getElem?_eq_some_iff.1 h1).1
/-- What a table's blocks are not. -/
theorem tw_cells {w : World} {t m g : Nat} {sv av : Value} {L : List Sl} {A : List V} (h : TabW w t m g sv L av A) {b : Nat} {cs : Array Value} {ty : TypeId} {fz : Nat × Nat} (hb : w.heap[b]? = some (.cells cs ty fz)) (h1 : ty ≠ 126) (h2 : ty ≠ 144) (h3 : ty ≠ 146) (h4 : ty ≠ 30) : ¬ TwF t m g sv av b := by
  rintro (e | e | e)
  · exact ne_of_types hb h.ht h1 e
  · exact not_omF h.om hb h2 h3 e
  · obtain ⟨cur, hc⟩ := listW_block h.lw e
    exact ne_of_types hb hc h4 rfl
theorem tw_map {w : World} {t m g : Nat} {sv av : Value} {L : List Sl} {A : List V} (h : TabW w t m g sv L av A) {b : Nat} {es : Array MapEntry} {c : Nat} (hb : w.heap[b]? = some (.map es c)) (h1 : g ≠ b) : ¬ TwF t m g sv av b := by
  rintro (e | e | e)
  · exact ne_map h.ht hb e.symm
  · exact not_omF_map h.om hb h1 e
  · obtain ⟨cur, hc⟩ := listW_block h.lw e
    exact ne_map hc hb rfl
/-- The blocks of two tables of a heap. -/
theorem tw_apart {w : World} {x y : PO} (hx : TabW w x.t x.m x.g x.sv x.L x.av x.A) (hy : TabW w y.t y.m y.g y.sv y.L y.av y.A) (hs : x.m ≠ y.m ∧ x.g ≠ y.g ∧ (∀ b, x.sv.ownBlock = some b → y.sv.ownBlock ≠ some b) ∧ x.t ≠ y.t ∧ ∀ b, x.av.ownBlock = some b → y.av.ownBlock ≠ some b) {b : Nat} (hb : TwF y.t y.m y.g y.sv y.av b) : ¬ TwF x.t x.m x.g x.sv x.av b := by
  obtain ⟨s1, s2, s3, s4, s5⟩ := hs
  have kO : ∀ {cs : Array Value} {ty : TypeId} {fz : Nat × Nat}, w.heap[b]? = some (.cells cs ty fz) → ty ≠ 144 → ty ≠ 146 → ¬ OmF x.m x.g x.sv b := fun hb h1 h2 => not_omF hx.om hb h1 h2
  rcases hb with rfl | (rfl | rfl | hb) | hb
  · rintro (e | e | e)
    · exact s4 e.symm
    · exact kO hy.ht (by decide) (by decide) e
    · obtain ⟨cur, hc⟩ := listW_block hx.lw e
      exact ne_of_types hy.ht hc (by decide) rfl
  · have hb2 := hy.om.hm
    rintro (e | (e | e | e) | e)
    · exact ne_of_types hb2 hx.ht (by decide) e
    · exact s1 e.symm
    · obtain ⟨E3, f3, hE3, _⟩ := hx.om.map
      obtain ⟨es3, c3, h3⟩ := hE3.obj
      exact ne_map hb2 h3 e
    · obtain ⟨c3, h3⟩ := row_block hx.om.row e
      exact ne_of_types hb2 h3 (by decide) rfl
    · obtain ⟨cur, hc⟩ := listW_block hx.lw e
      exact ne_of_types hb2 hc (by decide) rfl
  · obtain ⟨E3, f3, hE3, _⟩ := hy.om.map
    obtain ⟨es3, c3, h3⟩ := hE3.obj
    exact tw_map hx h3 s2
  · obtain ⟨c3, hb2⟩ := row_block hy.om.row hb
    rintro (e | (e | e | e) | e)
    · exact ne_of_types hb2 hx.ht (by decide) e
    · exact ne_of_types hb2 hx.om.hm (by decide) e
    · obtain ⟨E3, f3, hE3, _⟩ := hx.om.map
      obtain ⟨es3, c3, h3⟩ := hE3.obj
      exact ne_map hb2 h3 e
    · exact s3 _ e hb
    · obtain ⟨cur, hc⟩ := listW_block hx.lw e
      exact ne_of_types hb2 hc (by decide) rfl
  · obtain ⟨cur, hb2⟩ := listW_block hy.lw hb
    rintro (e | e | e)
    · exact ne_of_types hb2 hx.ht (by decide) e
    · exact kO hb2 (by decide) (by decide) e
    · exact s5 _ e hb
theorem PObj.keep {w w' : World} {x : PO} (h : PObj w x) (h1 : w'.heap[x.o]? = w.heap[x.o]?) (h2 : x.kind = 4 → ∀ b, TwF x.t x.m x.g x.sv x.av b → w'.heap[b]? = w.heap[b]?) : PObj w' x :=
  ⟨h1.trans h.ho, h.kd, h.wm, h.fm, fun h4 => tabW_keep (h.tb h4) (h2 h4)⟩
theorem HpAt.touch {w w' : World} {h bo bt : Nat} {H : List PO} (hH : HpAt w h bo bt H) (hM : Mods (· = bt) w w') (ht : ∃ E, MapAt Tryz.prog 3 w' bt E) : HpAt w' h bo bt H := by
  have hk : ∀ b, HpF h bo bt H b → b ≠ bt → w'.heap[b]? = w.heap[b]? := fun b hb hne => hM.block b (hp_lt hH hb) hne
  obtain ⟨E, hE⟩ := hH.touched
  obtain ⟨es, c, hbt⟩ := hE.obj
  refine ⟨(hk h (.inl rfl) (ne_map hH.hh hbt)).trans hH.hh, hH.objs.keep (hk _ (.inr (.inl rfl)) hH.ot), ht, fun x hx => ?_, hH.sep, hH.ot, hH.gs⟩
  refine (hH.one x hx).keep (hk _ (.inr (.inr (.inr ⟨x, hx, .inl rfl⟩))) (ne_map (hH.one x hx).ho hbt)) (fun h4 b hb => hk _ (.inr (.inr (.inr ⟨x, hx, .inr ⟨h4, hb⟩⟩))) ?_)
  rintro rfl
  exact tw_map ((hH.one x hx).tb h4) hbt (hH.gs x hx h4).2 hb
theorem objE_set {H : List PO} {i : Nat} {x x' : PO} (hi : H[i]? = some x) (ho : x'.o = x.o) : objE (H.set i x') = objE H := by
  apply List.ext_getElem?
  intro j
  rw [objE_get, objE_get, List.getElem?_set]
  split
  · rename_i e
    subst e
    rw [if_pos (List.getElem?_eq_some_iff.1 hi).1, hi, Option.map_some, Option.map_some, ho]
  · rfl
theorem sep_set {H : List PO} (hs : H.Pairwise PSep) {i : Nat} {x x' : PO} (hi : H[i]? = some x) (h : ∀ j y, H[j]? = some y → j ≠ i → PSep x' y) : (H.set i x').Pairwise PSep := by
  rw [pw_iff]
  intro a b y z hab ha hb
  rw [List.getElem?_set] at ha hb
  split at ha
  · rename_i e
    subst e
    rw [if_neg (by omega)] at hb
    rw [if_pos (List.getElem?_eq_some_iff.1 hi).1] at ha
    injection ha with ha
    subst ha
    exact h b z hb (by omega)
  · split at hb
    · rename_i e
      subst e
      rw [if_pos (List.getElem?_eq_some_iff.1 hi).1] at hb
      injection hb with hb
      subst hb
      exact (h a y ha (by omega)).symm
    · exact pw_iff.1 hs a b y z hab ha hb
theorem mem_set_at {H : List PO} {i : Nat} {x' y : PO} (hy : y ∈ H.set i x') : y = x' ∨ ∃ j, j ≠ i ∧ H[j]? = some y := by
  obtain ⟨j, hj⟩ := List.getElem?_of_mem hy
  rw [List.getElem?_set] at hj
  split at hj
  · rename_i e
    split at hj
    · injection hj with hj; exact .inl hj.symm
    · cases hj
  · rename_i e
    exact .inr ⟨j, fun e2 => e e2.symm, hj⟩
theorem HpAt.setTab {w w' : World} {h bo bt : Nat} {H : List PO} {i : Nat} {x : PO} {m' g' : Nat} {sv' av' : Value} {L' : List Sl} {A' : List V} (hH : HpAt w h bo bt H) (hi : H[i]? = some x) (h4 : x.kind = 4) (hT : TabW w' x.t m' g' sv' L' av' A')
    (hM : Mods (TwF x.t x.m x.g x.sv x.av) w w') (hown : TOwn w x.m x.g x.sv x.av m' g' sv' av') : HpAt w' h bo bt (H.set i { x with m := m', g := g', sv := sv', L := L', av := av', A := A' }) := by
  have hxm := List.mem_of_getElem? hi
  have hx := hH.one x hxm
  have hT0 := hx.tb h4
  obtain ⟨o1, o2, o3, o4⟩ := hown
  obtain ⟨E, hE⟩ := hH.touched
  obtain ⟨es, c, hbt⟩ := hE.obj
  obtain ⟨es2, c2, hbo⟩ := hH.objs.obj
  have kc : ∀ {b : Nat} {cs : Array Value} {t : TypeId} {fz : Nat × Nat}, w.heap[b]? = some (.cells cs t fz) → t ≠ 126 → t ≠ 144 → t ≠ 146 → t ≠ 30 → w'.heap[b]? = w.heap[b]? := fun hb h0 h1 h2 h3 => hM.block _ (Array.getElem?_eq_some_iff.1 hb).1 (tw_cells hT0 hb h0 h1 h2 h3)
  have km : ∀ {b : Nat} {es : Array MapEntry} {c : Nat}, w.heap[b]? = some (.map es c) → x.g ≠ b → w'.heap[b]? = w.heap[b]? := fun hb h1 => hM.block _ (Array.getElem?_eq_some_iff.1 hb).1 (tw_map hT0 hb h1)
  have hbtl : bt < w.heap.size := hE.lt
  have hbol : bo < w.heap.size := hH.objs.lt
  refine ⟨?_, ?_, ⟨E, hE.keep (km hbt (hH.gs x hxm h4).2)⟩, fun y hy => ?_, ?_, hH.ot, fun y hy hy4 => ?_⟩
  · rw [List.length_set]; exact (kc hH.hh (by decide) (by decide) (by decide) (by decide)).trans hH.hh
  · rw [objE_set (x' := { x with m := m', g := g', sv := sv', L := L', av := av', A := A' }) hi rfl]; exact hH.objs.keep (km hbo (hH.gs x hxm h4).1)
  · rcases mem_set_at hy with rfl | ⟨j, hj, hjy⟩
    · exact ⟨by refine (kc hx.ho (by decide) (by decide) (by decide) (by decide)).trans ?_; exact hx.ho, hx.kd, hx.wm, fun h5 => hx.fm h5, fun _ => hT⟩
    · have hym := List.mem_of_getElem? hjy
      have hyo := hH.one y hym
      have hsp := sep_at hH.sep hi hjy (fun e => hj e.symm)
      refine hyo.keep (kc hyo.ho (by decide) (by decide) (by decide) (by decide)) (fun hy4 b hb => ?_)
      refine hM.block _ ?_ (tw_apart hT0 (hyo.tb hy4) (hsp.2 h4 hy4) hb)
      exact hp_lt hH (.inr (.inr (.inr ⟨y, hym, .inr ⟨hy4, hb⟩⟩)))
  · refine sep_set hH.sep hi (fun j y hjy hj => ?_)
    have hsp := sep_at hH.sep hi hjy (fun e => hj e.symm)
    refine ⟨hsp.1, fun a b => ?_⟩
    obtain ⟨s1, s2, s3, s4, s5⟩ := hsp.2 h4 b
    have hyT := (hH.one y (List.mem_of_getElem? hjy)).tb b
    have lt : ∀ c, TwF y.t y.m y.g y.sv y.av c → c < w.heap.size := fun c hc => hp_lt hH (.inr (.inr (.inr ⟨y, List.mem_of_getElem? hjy, .inr ⟨b, hc⟩⟩)))
    refine ⟨fun e => ?_, fun e => ?_, fun c hc hd => ?_, s4, fun c hc hd => ?_⟩
    · have l := lt _ (.inr (.inl (.inl rfl)))
      rcases o1 with o1 | o1
      · exact s1 (o1 ▸ e)
      · have e : m' = y.m := e
        omega
    · have l := lt _ (.inr (.inl (.inr (.inl rfl))))
      rcases o2 with o2 | o2
      · exact s2 (o2 ▸ e)
      · have e : g' = y.g := e
        omega
    · have l := lt _ (.inr (.inl (.inr (.inr hd))))
      rcases o3 c hc with h1 | h1
      · exact s3 c h1 hd
      · omega
    · have l := lt _ (.inr (.inr hd))
      rcases o4 c hc with h1 | h1
      · exact s5 c h1 hd
      · omega
  · rcases mem_set_at hy with rfl | ⟨j, hj, hjy⟩
    · obtain ⟨g1, g2⟩ := hH.gs x hxm h4
      rcases o2 with o2 | o2
      · rw [show ({ x with m := m', g := g', sv := sv', L := L', av := av', A := A' } : PO).g = x.g from o2]; exact ⟨g1, g2⟩
      · refine ⟨fun e => ?_, fun e => ?_⟩
        · have e : g' = bo := e
          omega
        · have e : g' = bt := e
          omega
    · exact hH.gs y (List.mem_of_getElem? hjy) hy4
/-- An object is added. -/
theorem HpAt.add {w w' : World} {h bo bt : Nat} {H : List PO} {x : PO} (hH : HpAt w h bo bt H) (hM : Mods (fun b => b = h ∨ b = bo ∨ b = bt) w w')
    (hh : w'.heap[h]? = some (.cells #[.map (some bo), .int .i64 ((H.length + 1 : Nat) : Int), .map (some bt)] 63)) (hbo : MapAt Tryz.prog 3 w' bo (objE H ++ [(.int .i64 ((H.length + 1 : Nat) : Int), .pointer (some ⟨x.o, 0, none⟩))])) (hbt : ∃ E, MapAt Tryz.prog 3 w' bt E)
    (hx : PObj w x) (hsep : ∀ y ∈ H, PSep y x) (hg : x.kind = 4 → x.g ≠ bo ∧ x.g ≠ bt) : HpAt w' h bo bt (H ++ [x]) := by
  obtain ⟨E0, hE0⟩ := hH.touched
  obtain ⟨es, c, hbt0⟩ := hE0.obj
  obtain ⟨es2, c2, hbo0⟩ := hH.objs.obj
  have kc : ∀ {b : Nat} {cs : Array Value} {t : TypeId} {fz : Nat × Nat}, w.heap[b]? = some (.cells cs t fz) → t ≠ 63 → w'.heap[b]? = w.heap[b]? := fun hb h1 => hM.block _ (Array.getElem?_eq_some_iff.1 hb).1 (fun e => by
    rcases e with e | e | e
    · exact ne_of_types hb hH.hh h1 e
    · exact ne_map hb hbo0 e
    · exact ne_map hb hbt0 e)
  have keep : ∀ y : PO, PObj w y → (y.kind = 4 → y.g ≠ bo ∧ y.g ≠ bt) → PObj w' y := fun y hyo hgy => by
    refine hyo.keep (kc hyo.ho (by decide)) (fun hy4 b hb => ?_)
    have hT := hyo.tb hy4
    rcases hb with rfl | (rfl | rfl | hb) | hb
    · exact kc hT.ht (by decide)
    · exact kc hT.om.hm (by decide)
    · obtain ⟨E3, f3, hE3, _⟩ := hT.om.map
      obtain ⟨es3, c3, h3⟩ := hE3.obj
      refine hM.block _ hE3.lt (fun e => ?_)
      rcases e with e | e | e
      · exact ne_map hH.hh h3 e.symm
      · exact (hgy hy4).1 e
      · exact (hgy hy4).2 e
    · obtain ⟨c3, h3⟩ := row_block hT.om.row hb
      exact kc h3 (by decide)
    · obtain ⟨c3, h3⟩ := listW_block hT.lw hb
      exact kc h3 (by decide)
  refine ⟨?_, ?_, hbt, fun y hy => ?_, ?_, hH.ot, fun y hy hy4 => ?_⟩
  · rw [List.length_append]; exact hh
  · have : objE (H ++ [x]) = objE H ++ [(.int .i64 ((H.length + 1 : Nat) : Int), .pointer (some ⟨x.o, 0, none⟩))] := by
      unfold objE
      rw [List.mapIdx_append]
      simp
    rw [this]; exact hbo
  · rcases List.mem_append.1 hy with hy | hy
    · exact keep y (hH.one y hy) (hH.gs y hy)
    · rw [List.mem_singleton] at hy
      subst hy
      exact keep y hx hg
  · rw [List.pairwise_append]
    refine ⟨hH.sep, List.pairwise_singleton _ _, fun y hy z hz => ?_⟩
    rw [List.mem_singleton] at hz
    subst hz
    exact hsep y hy
  · rcases List.mem_append.1 hy with hy | hy
    · exact hH.gs y hy hy4
    · rw [List.mem_singleton] at hy
      subst hy
      exact hg hy4
theorem sep_new {w : World} {h bo bt : Nat} {H : List PO} {x : PO} (hH : HpAt w h bo bt H) (ho : w.heap.size ≤ x.o) (hm : x.kind = 4 → w.heap.size ≤ x.m ∧ w.heap.size ≤ x.g ∧ w.heap.size ≤ x.t) (hnone : x.sv.ownBlock = none) (hnone2 : x.av.ownBlock = none) : (∀ y ∈ H, PSep y x) ∧ (x.kind = 4 → x.g ≠ bo ∧ x.g ≠ bt) := by
  refine ⟨fun y hy => ?_, fun h4 => ?_⟩
  · have hyo := hH.one y hy
    refine ⟨fun e => ?_, fun hy4 hz4 => ⟨fun e => ?_, fun e => ?_, fun b hb hc => ?_, fun e => ?_, fun b hb hc => ?_⟩⟩
    · have := (Array.getElem?_eq_some_iff.1 hyo.ho).1
      omega
    · have := (hm hz4).1
      have := (Array.getElem?_eq_some_iff.1 (hyo.tb hy4).om.hm).1
      omega
    · have := (hm hz4).2.1
      obtain ⟨E3, f3, hE3, _⟩ := (hyo.tb hy4).om.map
      have := hE3.lt
      omega
    · rw [hnone] at hc; cases hc
    · have := (hm hz4).2.2
      have := (Array.getElem?_eq_some_iff.1 (hyo.tb hy4).ht).1
      omega
    · rw [hnone2] at hc; cases hc
  · obtain ⟨E, hE⟩ := hH.touched
    have := (hm h4).2.1
    have := hE.lt
    have := hH.objs.lt
    exact ⟨by omega, by omega⟩
def elemM (v : V) : Int := if v.k = 3 ∧ 4096 < v.s.size then 14 else if validV v = true then 0 else 2
theorem elem_valid {v : V} (h : validV v = true) : elemM v = 0 := by
  have := validV_size h
  unfold elemM
  rw [if_neg (by omega), if_pos h]
def TouchR (W : World) (bt : Nat) (w' : World) : Prop := (∃ E', MapAt Tryz.prog 3 w' bt E') ∧ Mods (· = bt) W w' ∧ W.heap.size ≤ w'.heap.size
theorem touch_at {w : World} {bt : Nat} (hE : ∃ E, MapAt Tryz.prog 3 w bt E) {r : Int} (hr : i64 r) (W : World) (hW : W.heap[bt]? = w.heap[bt]?) :
    ∃ w', (Instr.mapUpdate 61 (.map (some bt)) (.int .i64 r) (.bool true)).run Tryz.prog W = .ok () w' ∧ TouchR W bt w' := by
  obtain ⟨E, hE⟩ := hE
  obtain ⟨l, hl⟩ := keyI hr
  obtain ⟨w', E', h1, h2, h3, h4, _⟩ := (hE.keep hW).store keyedI (e := 4) (t := 61) (by kernel_rfl) hl (.bool true)
  exact ⟨w', h1, ⟨E', h2⟩, h3, Nat.le_of_eq h4.symm⟩
def TouchPost (w : World) (h bo bt : Nat) (H : List PO) (e : Ending) (w' : World) : Prop := e = .returned (.int .i64 0) ∧ HpAt w' h bo bt H ∧ Mods (· = bt) w w'
theorem len_at {w : World} {b : Nat} {E : List (Value × Value)} (hE : MapAt Tryz.prog 3 w b E) (W : World) (hW : W.heap[b]? = w.heap[b]?) (ty : TypeId) :
    (Builtin.len_ #[60] ty #[.map (some b)]).run Tryz.prog W = .ok (.int .i64 (E.length : Nat)) W := by
  obtain ⟨es, c, hb, he, _⟩ := hE.keep hW
  have h1 := run_len_map (P := Tryz.prog) W 60 ty b es c (by kernel_rfl) hb
  rw [h1]
  have : es.size = E.length := by rw [← he, List.length_map, Array.length_toList]
  rw [this]
  rfl
def PutO (W : World) (bo : Nat) (E : List (Value × Value)) (w' : World) : Prop := MapAt Tryz.prog 3 w' bo E ∧ Mods (· = bo) W w' ∧ W.heap.size ≤ w'.heap.size
theorem putO_at {w : World} {bo : Nat} {H : List PO} (hE : MapAt Tryz.prog 3 w bo (objE H)) (hl : H.length ≤ 1000) (o : Nat) (W : World) (hW : W.heap[bo]? = w.heap[bo]?) :
    ∃ w', (Instr.mapUpdate 60 (.map (some bo)) (.int .i64 ((H.length : Int) + 1)) (.pointer (some ⟨o, 0, none⟩))).run Tryz.prog W = .ok () w' ∧
      PutO W bo (objE H ++ [(.int .i64 ((H.length + 1 : Nat) : Int), .pointer (some ⟨o, 0, none⟩))]) w' := by
  have hr : i64 ((H.length : Int) + 1) := ⟨by omega, by omega⟩
  obtain ⟨l, hl⟩ := keyI hr
  obtain ⟨w', E', h1, h2, h3, h4, _, h6⟩ := (hE.keep hW).store keyedI (e := 91) (t := 60) (by kernel_rfl) hl (.pointer (some ⟨o, 0, none⟩))
  have h7 : E' = _ := h6 (fun p hp => by
    obtain ⟨i, x, hi, rfl⟩ := objE_mem.1 hp
    have := (List.getElem?_eq_some_iff.1 hi).1
    intro e
    injection e with _ e
    omega)
  subst h7
  exact ⟨w', h1, h2, h3, Nat.le_of_eq h4.symm⟩
/-- A new object hung into the heap. -/
def AddPost (w : World) (h bo bt : Nat) (H : List PO) (x : PO) (e : Ending) (w' : World) : Prop :=
  e = .returned (.tuple #[.agg #[.int .i64 x.kind, .int .i64 0, .int .i64 0, .string ⟨#[]⟩, .int .i64 ((H.length : Int) + 1)], .int .i64 0]) ∧ HpAt w' h bo bt (H ++ [x]) ∧ Mods (fun b => b = h ∨ b = bo ∨ b = bt) w w'
def BM (base : Nat) (S : Obj → Prop) (w w' : World) : Prop := Mods (fun b => base ≤ b ∧ ∃ o, w.heap[b]? = some o ∧ S o) w w'
theorem BM.refl (base : Nat) (S : Obj → Prop) (w : World) : BM base S w w := Mods.refl _ _
theorem BM.trans {base : Nat} {S : Obj → Prop} {a b c : World} (h : BM base S a b) (k : BM base S b c) : BM base S a c := by
  refine ⟨k.os.trans h.os, k.tape.trans h.tape, k.output.trans h.output, Nat.le_trans h.size k.size, fun i hi hF => ?_⟩
  have h1 := h.block i hi hF
  exact (k.block i (Nat.lt_of_lt_of_le hi h.size) (fun ⟨hb, o, h2, h3⟩ => hF ⟨hb, o, h1 ▸ h2, h3⟩)).trans h1
theorem BM.below {base : Nat} {S : Obj → Prop} {w w' : World} (h : BM base S w w') (hb : base ≤ w.heap.size) : Below base w w' := Mods.below h hb (fun k hk hF => by have := hF.1; omega)
theorem BM.keep {base : Nat} {S : Obj → Prop} {w w' : World} (h : BM base S w w') {b : Nat} {o : Obj} (hb : w.heap[b]? = some o) (hS : ¬ S o) : w'.heap[b]? = some o :=
  (h.block b (Array.getElem?_eq_some_iff.1 hb).1 (fun ⟨_, o2, h1, h2⟩ => hS (by rw [hb] at h1; injection h1 with h1; rw [h1]; exact h2))).trans hb
theorem BM.mono {base : Nat} {S S' : Obj → Prop} {w w' : World} (h : BM base S w w') (hS : ∀ o, S o → S' o) : BM base S' w w' := Mods.mono h (fun k _ ⟨h1, o, h2, h3⟩ => ⟨h1, o, h2, hS o h3⟩)
/-- What a call of the heap changes: blocks of the heap's types from a base on, and the arrays O of its tables; O' are those after it. -/
def QS (base : Nat) (O : Nat → Prop) (w : World) (O' : Nat → Prop) (w' : World) : Prop := Mods (fun b => base ≤ b ∧ ((∃ o, w.heap[b]? = some o ∧ PB o) ∨ O b)) w w' ∧ ∀ b, O' b → O b ∨ w.heap.size ≤ b
theorem QS.of_below {base : Nat} {O : Nat → Prop} {w w' : World} (h : Below w.heap.size w w') : QS base O w O w' := ⟨Mods.of_below h, fun _ h => .inl h⟩
theorem QS.refl (base : Nat) (O : Nat → Prop) (w : World) : QS base O w O w := ⟨Mods.refl _ _, fun _ h => .inl h⟩
theorem QS.trans {base : Nat} {O O1 O2 : Nat → Prop} {a b c : World} (h : QS base O a O1 b) (k : QS base O1 b O2 c) : QS base O a O2 c := by
  obtain ⟨h, ho⟩ := h
  obtain ⟨k, ko⟩ := k
  refine ⟨⟨k.os.trans h.os, k.tape.trans h.tape, k.output.trans h.output, Nat.le_trans h.size k.size, fun i hi hF => ?_⟩, fun i hi => ?_⟩
  · have h1 := h.block i hi hF
    refine (k.block i (Nat.lt_of_lt_of_le hi h.size) (fun ⟨hb, h2⟩ => hF ⟨hb, ?_⟩)).trans h1
    rcases h2 with ⟨o, h2, h3⟩ | h2
    · exact .inl ⟨o, h1 ▸ h2, h3⟩
    · exact (ho i h2).elim .inr (fun h => by omega)
  · rcases ko i hi with h1 | h1
    · exact ho i h1
    · exact .inr (Nat.le_trans h.size h1)
theorem QS.below {base : Nat} {O O' : Nat → Prop} {w w' : World} (h : QS base O w O' w') (hb : base ≤ w.heap.size) : Below base w w' := Mods.below h.1 hb (fun k hk hF => by have := hF.1; omega)
/-- A block that is no array of the heap, and none of its types. -/
theorem QS.keep {base : Nat} {O O' : Nat → Prop} {w w' : World} (h : QS base O w O' w') {b : Nat} {o : Obj} (hb : w.heap[b]? = some o) (hS : ¬ PB o) (hO : ¬ O b) : w'.heap[b]? = some o ∧ ¬ O' b := by
  have hl := (Array.getElem?_eq_some_iff.1 hb).1
  refine ⟨(h.1.block b hl (fun ⟨_, h1⟩ => ?_)).trans hb, fun h1 => ?_⟩
  · rcases h1 with ⟨o2, h1, h2⟩ | h1
    · rw [hb] at h1; injection h1 with h1; exact hS (h1 ▸ h2)
    · exact hO h1
  · rcases h.2 b h1 with h2 | h2
    · exact hO h2
    · omega
theorem QS.of_mods {base : Nat} {O O' : Nat → Prop} {F : Nat → Prop} {w w' : World} (h : Mods F w w') (hF : ∀ b, F b → base ≤ b ∧ ((∃ o, w.heap[b]? = some o ∧ PB o) ∨ O b)) (hO : ∀ b, O' b → O b ∨ w.heap.size ≤ b) : QS base O w O' w' := ⟨h.mono (fun k _ hk => hF k hk), hO⟩
theorem QS.size {base : Nat} {O O' : Nat → Prop} {w w' : World} (h : QS base O w O' w') : w.heap.size ≤ w'.heap.size := h.1.size
/-- The program's heap, packed: what its objects are (M), the lists of its tables (AA), their arrays (O). -/
structure PHp (base n : Nat) (w : World) (h : Nat) (M : LH) (AA : List (List V)) (O : Nat → Prop) : Prop where
  ex : ∃ bo bt H, HpAt w h bo bt H ∧ lh H = M ∧ H.map PO.A = AA ∧ Small n H ∧ (∀ b, HpF h bo bt H b → base ≤ b) ∧ ∀ x ∈ H, x.kind = 4 → ∀ b, x.av.ownBlock = some b → O b
  lt : ∀ b, O b → b < w.heap.size
theorem PHp.below {base n : Nat} {w w' : World} {h : Nat} {M : LH} {AA : List (List V)} {O : Nat → Prop} (hP : PHp base n w h M AA O) (hb : Below w.heap.size w w') : PHp base n w' h M AA O := by
  obtain ⟨⟨bo, bt, H, h1, h2, h3⟩, h4⟩ := hP
  exact ⟨⟨bo, bt, H, h1.below hb, h2, h3⟩, fun b h => Nat.lt_of_lt_of_le (h4 b h) hb.size⟩
theorem HpAt.keepF {w w' : World} {h bo bt : Nat} {H : List PO} (hH : HpAt w h bo bt H) (hk : ∀ b, HpF h bo bt H b → w'.heap[b]? = w.heap[b]?) : HpAt w' h bo bt H := by
  obtain ⟨E, hE⟩ := hH.touched
  exact ⟨(hk h (.inl rfl)).trans hH.hh, hH.objs.keep (hk _ (.inr (.inl rfl))), ⟨E, hE.keep (hk _ (.inr (.inr (.inl rfl))))⟩, fun x hx => (hH.one x hx).keep (hk _ (.inr (.inr (.inr ⟨x, hx, .inl rfl⟩)))) (fun h4 b hb => hk _ (.inr (.inr (.inr ⟨x, hx, .inr ⟨h4, hb⟩⟩)))), hH.sep, hH.ot, hH.gs⟩
theorem PHp.up {base n m : Nat} {w : World} {h : Nat} {M : LH} {AA : List (List V)} {O : Nat → Prop} (hP : PHp base n w h M AA O) (hn : n ≤ m) : PHp base m w h M AA O := by
  obtain ⟨⟨bo, bt, H, h1, h2, h3, h4, h5⟩, h6⟩ := hP
  exact ⟨⟨bo, bt, H, h1, h2, h3, fun x hx => ⟨Nat.le_trans (h4 x hx).1 hn, Nat.le_trans (h4 x hx).2 hn⟩, h5⟩, h6⟩
structure RO where
  kind : Int
  tag : Int
  name : ByteArray
  mt : V
  user : Value
  refs : Value
  t : Nat
  m : Nat
  sv : Value
  L : List Sl
def RO.lo (x : RO) : LO := ⟨x.kind, x.mt, if x.kind = 4 then x.L else []⟩
def RO.tv (x : RO) : Value := if x.kind = 4 then .pointer (some ⟨x.t, 0, none⟩) else .pointer none
abbrev RO.cells (x : RO) : List Value := [.int .i64 x.kind, .int .i64 x.tag, .string x.name, x.tv, .int .i64 x.mt.k, .int .i64 x.mt.p, .int .i64 x.mt.q, .string x.mt.s, .int .i64 x.mt.r, x.user, x.refs]
def RSep (x y : RO) : Prop := x.kind = 4 → y.kind = 4 → x.m ≠ y.m ∧ ∀ b, x.sv.ownBlock = some b → y.sv.ownBlock ≠ some b
def GrowPost (w : World) (h bo bt : Nat) (H : List PO) (o : LO) (e : Ending) (w' : World) : Prop :=
  e = .returned (.tuple #[.agg #[.int .i64 o.kind, .int .i64 0, .int .i64 0, .string ⟨#[]⟩, .int .i64 ((H.length : Int) + 1)], .int .i64 0]) ∧ ∃ x, HpAt w' h bo bt (H ++ [x]) ∧ x.lo = o ∧ (x.L = [] ∧ x.A = [] ∧ x.av.ownBlock = none) ∧ Mods (HpF h bo bt H) w w' ∧ ∀ b, (b = x.o ∨ (x.kind = 4 ∧ TwF x.t x.m x.g x.sv x.av b)) → w.heap.size ≤ b
theorem pb_own {w : World} {h bo bt : Nat} {H : List PO} {O : Nat → Prop} {base : Nat} (hH : HpAt w h bo bt H) (hO : ∀ x ∈ H, x.kind = 4 → ∀ b, x.av.ownBlock = some b → O b) (h4 : ∀ b, HpF h bo bt H b → base ≤ b) : ∀ b, HpF h bo bt H b → base ≤ b ∧ ((∃ o, w.heap[b]? = some o ∧ PB o) ∨ O b) := fun b hb => ⟨h4 b hb, by
  rcases hp_pb hH hb with h1 | ⟨x, hx, hk, ha, _⟩
  · exact .inl h1
  · exact .inr (hO x hx hk b ha)⟩
theorem grow_php {base n : Nat} {w : World} {h : Nat} {M : LH} {AA : List (List V)} {O : Nat → Prop} {o : LO} {f : FuncId} {args : Array Value} (hP : PHp base n w h M AA O) (hb : base ≤ w.heap.size) (hl : M.length ≤ 1000)
    (hc : ∀ bo bt H, HpAt w h bo bt H → H.length ≤ 1000 → Calls Tryz.prog f args w (GrowPost w h bo bt H o)) :
    Calls Tryz.prog f args w (fun e w' => e = .returned (.tuple #[.agg #[.int .i64 o.kind, .int .i64 0, .int .i64 0, .string ⟨#[]⟩, .int .i64 ((M.length : Int) + 1)], .int .i64 0]) ∧ PHp base n w' h (M ++ [o]) (AA ++ [[]]) O ∧ QS base O w O w') := by
  obtain ⟨⟨bo, bt, H, h1, h2, h2a, h3, h4, h5⟩, h6⟩ := hP
  have hH : H.length = M.length := by rw [← h2]; unfold lh; rw [List.length_map]
  refine (hc bo bt H h1 (by omega)).mono ?_
  rintro e w' ⟨he, x, e5, e6, ⟨e7, e7a, e7b⟩, e8, e9⟩
  refine ⟨by rw [he, hH], ⟨⟨bo, bt, H ++ [x], e5, ?_, ?_, ?_, ?_, ?_⟩, fun b hb2 => Nat.lt_of_lt_of_le (h6 b hb2) e8.size⟩, QS.of_mods e8 (pb_own h1 h5 h4) (fun _ h => .inl h)⟩
  · unfold lh; rw [List.map_append]; unfold lh at h2; rw [h2, List.map_singleton, e6]
  · rw [List.map_append, h2a, List.map_singleton, e7a]
  · intro y hy
    rcases List.mem_append.1 hy with hy | hy
    · exact h3 y hy
    · rw [List.mem_singleton] at hy; rw [hy, e7, e7a]; exact ⟨Nat.zero_le _, Nat.zero_le _⟩
  · rintro b (e | e | e | ⟨y, hy, hyb⟩)
    · exact h4 b (.inl e)
    · exact h4 b (.inr (.inl e))
    · exact h4 b (.inr (.inr (.inl e)))
    · rcases List.mem_append.1 hy with hy | hy
      · exact h4 b (.inr (.inr (.inr ⟨y, hy, hyb⟩)))
      · rw [List.mem_singleton] at hy
        subst hy
        have := e9 b hyb
        omega
  · intro y hy hy4 b hyb
    rcases List.mem_append.1 hy with hy | hy
    · exact h5 y hy hy4 b hyb
    · rw [List.mem_singleton] at hy
      subst hy
      rw [e7b] at hyb
      cases hyb
theorem box_kept {w3 W : World} {h bo bt : Nat} {H : List PO} {r : Nat} (hA : HpAt w3 h bo bt H) (hr : w3.heap[r]? = some (oV 0 0 0 ⟨#[]⟩ 0)) (hO : ∀ y ∈ H, y.kind = 4 → y.av.ownBlock ≠ some r) (hM : Mods (· = r) w3 W) : HpAt W h bo bt H :=
  hA.keepF (fun b hb => hM.block b (hp_lt hA hb) (fun e => by
    rcases hp_pb hA hb with ⟨o, h1, h2⟩ | ⟨y, hy, h4, h5, _⟩
    · rw [e, hr] at h1
      injection h1 with h1
      subst h1
      rcases h2 with h2 | h2 | h2 | h2 | h2 <;> exact absurd h2 (by decide)
    · exact hO y hy h4 (e ▸ h5)))
theorem mods_five {F : Nat → Prop} {a w : World} (h : Mods F a w) {b : Nat} (hb : F b ∨ a.heap.size ≤ b) (x y z u v : Value) : Mods F a (((((w.setCell ⟨b, 0, none⟩ x).setCell ⟨b, 1, none⟩ y).setCell ⟨b, 2, none⟩ z).setCell ⟨b, 3, none⟩ u).setCell ⟨b, 4, none⟩ v) :=
  mods_setCell (mods_setCell (mods_setCell (mods_setCell (mods_setCell h hb x) hb y) hb z) hb u) hb v
theorem grow_end {w W2 w3 W : World} {h bo bt : Nat} {H : List PO} {x : PO} {o : LO} (hH : HpAt w h bo bt H) (hb : Below w.heap.size w W2) (hA : HpAt w3 h bo bt (H ++ [x])) (hM : Mods (fun b => b = h ∨ b = bo ∨ b = bt) W2 w3) (hr : w3.heap[w.heap.size]? = some (oV 0 0 0 ⟨#[]⟩ 0))
    (hW : Mods (· = w.heap.size) w3 W) (ho : x.lo = o) (hL : x.L = [] ∧ x.A = [] ∧ x.av.ownBlock = none) (hn : ∀ b, (b = x.o ∨ (x.kind = 4 ∧ TwF x.t x.m x.g x.sv x.av b)) → w.heap.size ≤ b) (v : Value) (hv : v = .tuple #[.agg #[.int .i64 o.kind, .int .i64 0, .int .i64 0, .string ⟨#[]⟩, .int .i64 ((H.length : Int) + 1)], .int .i64 0]) : GrowPost w h bo bt H o (.returned v) W := by
  subst hv
  refine ⟨rfl, x, box_kept hA hr (fun y hy hy4 hyb => ?_) hW, ho, hL, ?_, hn⟩
  · rcases List.mem_append.1 hy with hy | hy
    · have := hp_lt hH (b := w.heap.size) (.inr (.inr (.inr ⟨y, hy, .inr ⟨hy4, .inr (.inr hyb)⟩⟩)))
      omega
    · rw [List.mem_singleton] at hy
      subst hy
      rw [hL.2.2] at hyb
      cases hyb
  have h1 : Mods (HpF h bo bt H) w w3 := (Mods.of_below hb).trans (hM.mono (fun k hk e => by
    rcases e with e | e | e
    · exact .inl e
    · exact .inr (.inl e)
    · exact .inr (.inr (.inl e))))
  exact ⟨hW.os.trans h1.os, hW.tape.trans h1.tape, hW.output.trans h1.output, Nat.le_trans h1.size hW.size, fun k hk hF => (hW.block k (Nat.lt_of_lt_of_le hk h1.size) (by omega)).trans (h1.block k hk hF)⟩
/-- What Len of a heap gives. -/
def lenP (H : List PO) (v : V) : Value := match findP H v with | some x => if x.kind = 4 then .tuple #[.int .i64 (x.A.length : Nat), .int .i64 0] else .tuple #[.int .i64 0, .int .i64 8] | none => .tuple #[.int .i64 0, .int .i64 8]
theorem mods_fourteen {F : Nat → Prop} {a w : World} (h : Mods F a w) {b : Nat} (hb : F b ∨ a.heap.size ≤ b) (x0 x1 x2 x3 x4 x5 x6 x7 x8 x9 x10 x11 x12 x13 : Value) :
    Mods F a ((((((((((((((w.setCell ⟨b, 0, none⟩ x0).setCell ⟨b, 1, none⟩ x1).setCell ⟨b, 2, none⟩ x2).setCell ⟨b, 3, none⟩ x3).setCell ⟨b, 4, none⟩ x4).setCell ⟨b, 5, none⟩ x5).setCell ⟨b, 6, none⟩ x6).setCell ⟨b, 7, none⟩ x7).setCell ⟨b, 8, none⟩ x8).setCell ⟨b, 9, none⟩ x9).setCell ⟨b, 10, none⟩ x10).setCell ⟨b, 11, none⟩ x11).setCell ⟨b, 12, none⟩ x12).setCell ⟨b, 13, none⟩ x13) :=
  mods_setCell (mods_setCell (mods_setCell (mods_setCell (mods_setCell (mods_setCell (mods_setCell (mods_setCell (mods_setCell (mods_setCell (mods_setCell (mods_setCell (mods_setCell (mods_setCell h hb x0) hb x1) hb x2) hb x3) hb x4) hb x5) hb x6) hb x7) hb x8) hb x9) hb x10) hb x11) hb x12) hb x13
/-- A need is stored into the result's box. -/
theorem nd_done {w w2 W : World} {n : Nd} {av : Value} {base r : Nat} (hb : Below w.heap.size w w2) (hA : ArgsAt w2 base av n.args) (h1 : w.heap.size ≤ base) (h2 : w.heap.size ≤ r) (h3 : r < base) (hW : Mods (· = r) w2 W) : NdPost w n (.returned (ndV n av)) W := by
  refine ⟨av, rfl, ?_, ?_⟩
  · rcases hA with h | ⟨g, a, b, h4, h5, h6, h7⟩
    · exact .inl h
    · exact .inr ⟨g, a, b, h4, h5, by omega, (hW.block g (Array.getElem?_eq_some_iff.1 h7).1 (by omega)).trans h7⟩
  · exact ⟨hW.os.trans hb.os, hW.tape.trans hb.tape, hW.output.trans hb.output, Nat.le_trans hb.size hW.size, fun k hk => (hW.block k (Nat.lt_of_lt_of_le (Nat.lt_of_lt_of_le hk (Nat.le_refl _)) hb.size) (by omega)).trans (hb.block k hk)⟩
theorem ArgsAt.shape {w : World} {base : Nat} {av : Value} {l : List V} (h : ArgsAt w base av l) : ∃ so n cap, av = .slice so n cap := by
  rcases h with ⟨_, h⟩ | ⟨g, a, b, _, h, _⟩
  · exact ⟨none, 0, 0, h⟩
  · exact ⟨some ⟨g, 0, none⟩, 2, 2, h⟩
def HSetPost (w : World) (h bo bt : Nat) (H : List PO) (i : Nat) (x : PO) (L' : List Sl) (A' : List V) (e : Ending) (w' : World) : Prop :=
  e = .returned (.int .i64 0) ∧ ∃ m' g' sv' av', HpAt w' h bo bt (H.set i { x with m := m', g := g', sv := sv', L := L', av := av', A := A' }) ∧ Mods (HpF h bo bt H) w w' ∧ TOwn w x.m x.g x.sv x.av m' g' sv' av'
theorem set_same {α : Type} {l : List α} {i : Nat} {a : α} (h : l[i]? = some a) : l.set i a = l := by
  apply List.ext_getElem?
  intro j
  rw [List.getElem?_set]
  split
  · rename_i e
    subst e
    rw [if_pos (List.getElem?_eq_some_iff.1 h).1, h]
  · rfl
/-- An object of a packed heap. -/
theorem php_at {base n : Nat} {w : World} {h : Nat} {M : LH} {AA : List (List V)} {O : Nat → Prop} (hP : PHp base n w h M AA O) {i : Nat} {o : LO} {A : List V} (hi : M[i]? = some o) (hA : AA[i]? = some A) (h4 : o.kind = 4) {k1 p1 q1 : Int} {s1 : ByteArray} {r1 : Int} (hk1 : k1 = 4) (hr1 : r1 = (i : Int) + 1) :
    ∃ bo bt H x, HpAt w h bo bt H ∧ lh H = M ∧ H.map PO.A = AA ∧ Small n H ∧ (∀ b, HpF h bo bt H b → base ≤ b) ∧ (∀ x ∈ H, x.kind = 4 → ∀ b, x.av.ownBlock = some b → O b) ∧ H[i]? = some x ∧ x.kind = 4 ∧ x.mt = o.mt ∧ x.L = o.L ∧ x.A = A ∧ findP H ⟨k1, p1, q1, s1, r1⟩ = some x ∧ o.L.length ≤ n ∧ A.length ≤ n := by
  obtain ⟨⟨bo, bt, H, h1, h2, h2a, h3, h4a, h5⟩, h6⟩ := id hP
  subst h2 h2a hr1 hk1
  unfold lh at hi
  rw [List.getElem?_map] at hi hA
  cases hx : H[i]? with
  | none => rw [hx] at hi; cases hi
  | some x =>
    rw [hx] at hi hA
    injection hi with hi
    injection hA with hA
    subst hi hA
    have hk : x.kind = 4 := h4
    have hL : x.lo.L = x.L := by unfold PO.lo; exact if_pos hk
    have hs := h3 x (List.mem_of_getElem? hx)
    refine ⟨bo, bt, H, x, h1, rfl, rfl, h3, h4a, h5, hx, hk, rfl, hL.symm, rfl, ?_, by rw [hL]; exact hs.1, hs.2⟩
    unfold findP
    rw [if_pos (by show 1 ≤ (i : Int) + 1; omega), show ((i : Int) + 1).toNat - 1 = i by omega, hx]
    exact if_pos hk
/-- What a change of a table is in the packed heap. -/
def SetTPost (base n' : Nat) (w : World) (h : Nat) (M : LH) (AA : List (List V)) (O : Nat → Prop) (i : Nat) (o : LO) (L' : List Sl) (A' : List V) (e : Ending) (w' : World) : Prop :=
  e = .returned (.int .i64 0) ∧ ∃ O', PHp base n' w' h (M.set i ⟨4, o.mt, L'⟩) (AA.set i A') O' ∧ QS base O w O' w'
theorem php_set {base n n' : Nat} {w w' : World} {h bo bt : Nat} {H : List PO} {O : Nat → Prop} {i : Nat} {x : PO} {L' : List Sl} {A' : List V} {m' g' : Nat} {sv' av' : Value} (h1 : HpAt w h bo bt H) (h3 : Small n H) (h4 : ∀ b, HpF h bo bt H b → base ≤ b) (h5 : ∀ x ∈ H, x.kind = 4 → ∀ b, x.av.ownBlock = some b → O b) (h6 : ∀ b, O b → b < w.heap.size) (hb : base ≤ w.heap.size) (hn : n ≤ n') (hi : H[i]? = some x) (k4 : x.kind = 4) (hL' : L'.length ≤ n') (hA' : A'.length ≤ n')
    (hH' : HpAt w' h bo bt (H.set i { x with m := m', g := g', sv := sv', L := L', av := av', A := A' })) (hM' : Mods (HpF h bo bt H) w w') (hown : TOwn w x.m x.g x.sv x.av m' g' sv' av') :
    ∃ O', PHp base n' w' h ((lh H).set i ⟨4, x.mt, L'⟩) ((H.map PO.A).set i A') O' ∧ QS base O w O' w' := by
  obtain ⟨o1, o2, o3, o4⟩ := hown
  have hxm := List.mem_of_getElem? hi
  refine ⟨fun b => O b ∨ (w.heap.size ≤ b ∧ b < w'.heap.size), ⟨⟨bo, bt, _, hH', ?_, ?_, ?_, ?_, ?_⟩, ?_⟩, QS.of_mods hM' (pb_own h1 h5 h4) (fun b hb => hb.imp id (fun h => h.1))⟩
  · unfold lh
    rw [List.map_set]
    unfold PO.lo
    simp only [k4, if_true]
  · rw [List.map_set]
  · intro y hy
    rcases mem_set_at hy with rfl | ⟨j, hj, hjy⟩
    · exact ⟨hL', hA'⟩
    · exact ⟨Nat.le_trans (h3 y (List.mem_of_getElem? hjy)).1 hn, Nat.le_trans (h3 y (List.mem_of_getElem? hjy)).2 hn⟩
  · rintro b (e | e | e | ⟨y, hy, hyb⟩)
    · exact h4 b (.inl e)
    · exact h4 b (.inr (.inl e))
    · exact h4 b (.inr (.inr (.inl e)))
    · rcases mem_set_at hy with rfl | ⟨j, hj, hjy⟩
      · have old : ∀ c, TwF x.t x.m x.g x.sv x.av c → base ≤ c := fun c hc => h4 c (.inr (.inr (.inr ⟨x, hxm, .inr ⟨k4, hc⟩⟩)))
        rcases hyb with e | ⟨_, e | (e | e | e) | e⟩
        · exact h4 b (.inr (.inr (.inr ⟨x, hxm, .inl e⟩)))
        · exact old b (.inl e)
        · have e : b = m' := e
          rcases o1 with q | q
          · exact old b (.inr (.inl (.inl (e.trans q))))
          · omega
        · have e : b = g' := e
          rcases o2 with q | q
          · exact old b (.inr (.inl (.inr (.inl (e.trans q)))))
          · omega
        · rcases o3 b e with q | q
          · exact old b (.inr (.inl (.inr (.inr q))))
          · omega
        · rcases o4 b e with q | q
          · exact old b (.inr (.inr q))
          · omega
      · exact h4 b (.inr (.inr (.inr ⟨y, List.mem_of_getElem? hjy, hyb⟩)))
  · intro y hy hy4 b hyb
    rcases mem_set_at hy with rfl | ⟨j, hj, hjy⟩
    · rcases o4 b hyb with q | q
      · exact .inl (h5 x hxm k4 b q)
      · have := hp_lt hH' (.inr (.inr (.inr ⟨_, List.mem_of_getElem? (List.getElem?_set_self (List.getElem?_eq_some_iff.1 hi).1), .inr ⟨k4, .inr (.inr hyb)⟩⟩)))
        exact .inr ⟨q, this⟩
    · exact .inl (h5 y (List.mem_of_getElem? hjy) hy4 b hyb)
  · rintro b (q | ⟨_, q⟩)
    · exact Nat.lt_of_lt_of_le (h6 b q) hM'.size
    · exact q
theorem RSep.symm {x y : RO} (h : RSep x y) : RSep y x := fun a b => by
  obtain ⟨h3, h5⟩ := h b a
  exact ⟨fun e => h3 e.symm, fun c hc hd => h5 c hd hc⟩
theorem vals_one (w : World) (v : V) : Vals (w.alloc (.cells #[.int .i64 v.k, .int .i64 v.p, .int .i64 v.q, .string v.s, .int .i64 v.r] 30)) (.slice (some ⟨w.heap.size, 0, none⟩) 1 1) [v] := by
  refine ⟨some ⟨w.heap.size, 0, none⟩, 1, rfl, Nat.le_refl _, (fun h => by cases h), .inr ⟨w.heap.size, 0, rfl, by simp, fun j u hj => ?_⟩⟩
  rw [cell_of_heap (heap_new w _), Nat.zero_add]
  have h5 : j < 5 := by
    have := (List.getElem?_eq_some_iff.1 hj).1
    rw [rowV_len] at this
    simpa using this
  rw [← hj]
  match j, h5 with
  | 0, _ => rfl
  | 1, _ => rfl
  | 2, _ => rfl
  | 3, _ => rfl
  | 4, _ => rfl
theorem Vals.some_of {w : World} {so : Option Addr} {n cap : Nat} {A : List V} (h : Vals w (.slice so n cap) A) (hne : A ≠ []) : ∃ g o, so = some ⟨g, o, none⟩ := by
  obtain ⟨s, c, e, _, _, h⟩ := h
  injection e with e _ _
  rcases h with h | ⟨g, o, h, _⟩
  · exact absurd h hne
  · exact ⟨g, o, e.trans h⟩
theorem grown_refl (w : World) (r : Option Nat) : w.grownBy w r := ⟨rfl, rfl, rfl, Nat.le_refl _, fun _ _ _ => rfl⟩
theorem below_grown {B : Nat} {a W w' : World} {r : Option Nat} (h : Below B a W) (k : W.grownBy w' r) (hB : B ≤ W.heap.size) (hr : ∀ g, r = some g → B ≤ g) : Below B a w' :=
  ⟨k.os.trans h.os, k.tape.trans h.tape, k.output.trans h.output, Nat.le_trans h.size k.size, fun i hi => (k.block i (by omega) (fun e => by have := hr i e.symm; omega)).trans (h.block i hi)⟩
set_option maxRecDepth 100000 in
set_option maxHeartbeats 2000000 in
theorem row_lit (w : World) (A : List V) (hl : A.length ≤ 1000000) : (w.alloc (.cells (rowV A).toArray 30)).ownsRow w.heap.size 30 5 (.slice (some ⟨w.heap.size, 0, none⟩) A.length A.length) A.length (rowV A) := by
  refine ⟨rowV_len A, .inr ⟨w.heap.size, A.length, (rowV A).toArray, rfl, Nat.le_refl _, heap_new w _, Nat.le_refl _, by unfold maxLen; omega, by rw [List.size_toArray, rowV_len], ?_⟩⟩
  show (rowV A).take (A.length * 5) = rowV A
  rw [← rowV_len, List.take_length]
theorem size_data (s : ByteArray) : s.data.toList.length = s.size := by simp
end Go.Proofs.YtpbcmlnjiocmoaaGreatDoorR
