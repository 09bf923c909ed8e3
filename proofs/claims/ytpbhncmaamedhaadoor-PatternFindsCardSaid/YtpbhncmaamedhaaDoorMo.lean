import Derived.Test.YtpbhncmaamedhaaDoorAtB
namespace Go.Proofs.YtpbhncmaamedhaaDoor
open Go.RowKit Go.Proofs.Lexi

/-! The plain models of At, Find and All, and how their results lie in memory. -/
/-- A match: where it begins and ends, its captures. -/
structure AM where
  f : Int
  t : Int
  caps : List (Int × Int)
def capV (c : ACap) : Int × Int := (c.f, if c.o then 0 else c.t)
def pairP (c : Int × Int) : List Value := [.int .i64 c.1, .int .i64 c.2]
def CapsV (w : World) (base : Nat) (v : Value) (l : List (Int × Int)) : Prop := w.ownsRow base 43 2 v l.length (l.flatMap pairP)
def MatchV (w : World) (base : Nat) (v : Value) (m : AM) : Prop := ∃ u, v = .agg #[.int .i64 m.f, .int .i64 m.t, u] ∧ CapsV w base u m.caps
def zeroAM : AM := ⟨0, 0, []⟩
abbrev Out := Except Nat (Option AM)
def outM : Out → AM
  | .ok (some m) => m
  | _ => zeroAM
def outB : Out → Bool
  | .ok (some _) => true
  | _ => false
def outE : Out → Nat
  | .error e => e
  | .ok _ => 0
def runP (l : List Nat) (q : St × Bool × Bool) (i n : Nat) : MR := matchM l q.2.2 q.1.items i (n, List.replicate q.1.caps zeroCap)
def ofRun (i : Nat) : MR → Out
  | none => .error 3
  | some (some k, (_, cs)) => .ok (some ⟨i, k, cs.map capV⟩)
  | some (none, _) => .ok none
def atM (l p : List Nat) (a : Int) : Out :=
  match parseM p with
  | .error e => .error e
  | .ok q => if a < 0 ∨ (l.length : Int) < a then .error 6 else ofRun a.toNat (runP l q a.toNat 0)
def findGo (run : Nat → Nat → MR) (anc : Bool) : Nat → Nat → Nat → Out
  | 0, _, _ => .ok none
  | d + 1, i, n =>
    match run i n with
    | some (none, (n', _)) => if anc then .ok none else findGo run anc d (i + 1) n'
    | R => ofRun i R
def findM (l p : List Nat) (a : Int) : Out :=
  match parseM p with
  | .error e => .error e
  | .ok q => if a < 0 ∨ (l.length : Int) < a then .error 6 else findGo (runP l q) q.2.1 (l.length + 1 - a.toNat) a.toNat 0
def allGo (run : Nat → Nat → MR) (anc : Bool) (len : Nat) : Nat → Nat → Int → Nat → List AM → Except Nat (List AM)
  | 0, _, _, _, acc => .ok acc
  | f + 1, i, last, n, acc =>
    if i ≤ len then
      match run i n with
      | none => .error 3
      | some (some k, (n', cs)) =>
        if (k : Int) = last then (if anc then .ok acc else allGo run anc len f (i + 1) last n' acc)
        else if anc then .ok (acc ++ [⟨i, k, cs.map capV⟩]) else allGo run anc len f k k n' (acc ++ [⟨i, k, cs.map capV⟩])
      | some (none, (n', _)) => if anc then .ok acc else allGo run anc len f (i + 1) last n' acc
    else .ok acc
def allFuel (len i : Nat) (last : Int) : Nat := 2 * (len + 1 - i) + (if last = i then 0 else 1) + 1
def allM (l p : List Nat) : Except Nat (List AM) :=
  match parseM p with
  | .error e => .error e
  | .ok q => allGo (runP l q) q.2.1 l.length (allFuel l.length 0 (-1)) 0 (-1) 0 []

theorem capP_eq (c : ACap) : capP c = pairP (capV c) := rfl
theorem flat_map (cs : List ACap) : cs.flatMap capP = (cs.map capV).flatMap pairP := by rw [List.flatMap_map]; rfl
theorem capsV_of {w : World} {base : Nat} {v : Value} {cs : List ACap} (h : CapsIn w base v cs) : CapsV w base v (cs.map capV) := by
  unfold CapsV; rw [List.length_map, ← flat_map]; exact h
theorem capsV_nil (w : World) (base : Nat) : CapsV w base (.slice none 0 0) [] := World.ownsRow_nil _ _ _ _
theorem capsV_slice {w : World} {base : Nat} {v : Value} {l : List (Int × Int)} (h : CapsV w base v l) : ∃ ao cap, v = .slice ao l.length cap := by
  rcases h.2 with ⟨hv, hn⟩ | ⟨g, cap, cur, hv, _⟩
  · exact ⟨none, 0, by rw [hv, hn]⟩
  · exact ⟨_, _, hv⟩
/-- What At and Find leave. -/
def OutPost (w : World) (R : Out) (e : Ending) (w' : World) : Prop := Below w.heap.size w w' ∧ ∃ v, e = .returned (.tuple #[v, .bool (outB R), .int .i64 (outE R : Int)]) ∧ MatchV w' w.heap.size v (outM R)
/-- What 'at' leaves, in one form. -/
def AtOut (E : MEnv) (w : World) (i : Nat) (R : MR) (e : Ending) (w' : World) : Prop := ∃ (f t : Int) (ao : Option Addr) (n cap : Nat) (b : Bool) (c : Nat) (n' : Nat) (cs' : List ACap),
  e = .returned (.tuple #[.agg #[.int .i64 f, .int .i64 t, .slice ao n cap], .bool b, .int .i64 (c : Int)]) ∧
  (f = (outM (ofRun i R)).f ∧ t = (outM (ofRun i R)).t ∧ b = outB (ofRun i R) ∧ c = outE (ofRun i R)) ∧
  CapsV w' w.heap.size (.slice ao n cap) (outM (ofRun i R)).caps ∧ MSt E w' n' cs' ∧ (∀ o st, R = some (o, st) → n' ≤ maxSteps ∧ st = (n', cs')) ∧ Fr E w w'
theorem AtPost.out {E : MEnv} {w : World} {i : Nat} {R : MR} {e : Ending} {w' : World} (h : AtPost E w i R e w') : AtOut E w i R e w' := by
  obtain ⟨hF, h⟩ := h
  match R, h with
  | none, ⟨n, cs, he, _, _, hm⟩ => exact ⟨0, 0, none, 0, 0, false, 3, n, cs, he, ⟨rfl, rfl, rfl, rfl⟩, capsV_nil _ _, hm, (fun o st h => by cases h), hF⟩
  | some (some k, (n, cs)), ⟨v, he, hn, _, hv, hm⟩ =>
    have hv2 := capsV_of hv
    obtain ⟨ao, cap, rfl⟩ := capsV_slice hv2
    exact ⟨_, _, _, _, _, true, 0, n, cs, he, ⟨rfl, rfl, rfl, rfl⟩, hv2, hm, (fun o st h => by injection h with h; injection h with _ h; exact ⟨hn, h.symm⟩), hF⟩
  | some (none, (n, cs)), ⟨he, hn, hm⟩ => exact ⟨0, 0, none, 0, 0, false, 0, n, cs, he, ⟨rfl, rfl, rfl, rfl⟩, capsV_nil _ _, hm, (fun o st h => by injection h with h; injection h with _ h; exact ⟨hn, h.symm⟩), hF⟩
theorem mok_new {w : World} {s : ByteArray} {vi : Value} {vs : List Value} {items : List Item} {K : Nat} {anc fin : Bool} {A : Nat} (il : vs.length = items.length) (ho : w.ownsRow A 106 6 vi items.length (rowOf items vs)) (hi : ItemsOK w A (fun _ => False) items vs)
    (hl : items.length ≤ 5000) (hs : s.size ≤ 100000000) (hk : K ≤ 16) : MOK (envOf w s vi vs items K anc fin) :=
  ⟨Nat.le_add_right _ _, Nat.le_add_right _ _, Nat.le_add_right _ _, by show w.heap.size + 3 ≠ w.heap.size + 1; omega, by show w.heap.size + 3 ≠ w.heap.size + 2; omega, by show w.heap.size + 1 ≠ w.heap.size + 2; omega, il, ⟨A, ho, hi⟩, hl, hs, hk⟩
theorem itemsOK_ext {w w' : World} {A : Nat} {items : List Item} {vs : List Value} (h : ItemsOK w A (fun _ => False) items vs) (hb : Below w.heap.size w w') : ItemsOK w' A (fun _ => False) items vs :=
  h.step hb.size (fun b _ hb' _ => hb.block b hb') (fun _b hb => .inl hb)
end Go.Proofs.YtpbhncmaamedhaaDoor
