import Derived.Test.YtpbhncmaamedhaaDoorPercent
import Derived.Test.YtpbhncmaamedhaaDoorShelf
namespace Go.Proofs.YtpbhncmaamedhaaDoor
open Go.RowKit Go.Proofs.Lexi

def isQ (c : Nat) : Bool := c == 42 || c == 43 || c == 45 || c == 63
def quantM (r : List Nat) : Nat × Nat :=
  match r with
  | q :: _ => if isQ q then (q, 1) else (0, 0)
  | [] => (0, 0)
def anyS : Nat → Bool := fun _ => true
def baseM (c : Nat) (r : List Nat) : Option ((Nat → Bool) × List Nat) :=
  if c = 46 then some (anyS, r)
  else if c = 37 then
    match r with
    | [] => none
    | d :: r1 => (pairS d).map fun S => (S, r1)
  else if c = 91 then setM r
  else some (eqS c, r)
def singleM (c : Nat) (r : List Nat) (s : St) : Except Nat (St × Nat) :=
  match baseM c r with
  | none => .error 4
  | some q => .ok ({ s with items := s.items ++ [⟨7, 0, 0, 0, q.1, (quantM q.2).1⟩] }, 1 + r.length - q.2.length + (quantM q.2).2)

theorem setGo_suffix : ∀ (n : Nat) (f : Bool) (r : List Nat) (acc : List (Nat → Bool)) (q : List (Nat → Bool) × List Nat), r.length ≤ n → setGo f r acc = some q → q.2 <:+ r
  | _, f, [], acc, q, _, h => by simp [setGo] at h
  | 0, f, c :: r, acc, q, hn, h => by simp at hn
  | n + 1, f, c :: r, acc, q, hn, h => by
    rw [setGo_cons] at h
    simp only [List.length_cons] at hn
    have hn' := Nat.le_of_succ_le_succ hn
    split at h
    · injection h with h; subst h; exact List.suffix_cons _ _
    · split at h
      · split at h
        · cases h
        · rename_i d r2
          split at h
          · cases h
          · exact ((setGo_suffix n _ _ _ _ (by simp at hn'; omega) h).trans (List.suffix_cons _ _)).trans (List.suffix_cons _ _)
      · split at h
        · rename_i d y r3
          split at h
          · exact (((setGo_suffix n _ _ _ _ (by simp at hn'; omega) h).trans (List.suffix_cons _ _)).trans (List.suffix_cons _ _)).trans (List.suffix_cons _ _)
          · exact (setGo_suffix n _ _ _ _ hn' h).trans (List.suffix_cons _ _)
        · exact (setGo_suffix n _ _ _ _ hn' h).trans (List.suffix_cons _ _)
        · simp [setGo] at h
theorem setM_suffix {r : List Nat} {q : (Nat → Bool) × List Nat} (h : setM r = some q) : q.2 <:+ r := by
  unfold setM at h
  split at h
  · cases h
  · split at h
    · obtain ⟨q', h1, rfl⟩ := Option.map_eq_some_iff.1 h
      exact (setGo_suffix _ _ _ _ _ (Nat.le_refl _) h1).trans (List.suffix_cons _ _)
    · obtain ⟨q', h1, rfl⟩ := Option.map_eq_some_iff.1 h
      exact setGo_suffix _ _ _ _ _ (Nat.le_refl _) h1
theorem suffix_drop {p : ByteArray} {k : Nat} {l : List Nat} (h : l <:+ (bytesOf p).drop k) : l = (bytesOf p).drop (p.size - l.length) := by
  have h2 := h.trans (List.drop_suffix _ _)
  have := List.suffix_iff_eq_drop.1 h2
  rw [bytesOf_length] at this
  exact this

def IdxPost (w : World) (e : Ending) (w' : World) : Prop := ∃ n : Int, 0 ≤ n ∧ n ≤ 3 ∧ e = .returned (.int .i64 n) ∧ w = w'
theorem idx_val : ∀ c : Nat, c < 256 → Lib.indexByte [42, 43, 45, 63] ((c : Int).toNat.toUInt8) = if c == 42 then 0 else if c == 43 then 1 else if c == 45 then 2 else if c == 63 then 3 else -1 := by
  decide +kernel
theorem idx_yes (c : Nat) (hc : c < 256) (h : isQ c = true) (w : World) : Calls Tryd.prog 65 #[.string ⟨#[42, 43, 45, 63]⟩, .int .u8 c] w (IdxPost w) := by
  refine (Tryd.strings_IndexByte ⟨#[42, 43, 45, 63]⟩ c w).mono ?_
  rintro e w' ⟨rfl, rfl⟩
  refine ⟨_, ?_, ?_, rfl, rfl⟩
  all_goals
    rw [idx_val c hc]
    unfold isQ at h
    simp only [Bool.or_eq_true] at h
    rcases h with ((h | h) | h) | h <;> simp at h <;> subst h <;> decide
theorem idx_no (c : Nat) (hc : c < 256) (h : isQ c = false) (w : World) : Calls Tryd.prog 65 #[.string ⟨#[42, 43, 45, 63]⟩, .int .u8 c] w fun e w' => e = .returned (.int .i64 (-1)) ∧ w = w' := by
  refine (Tryd.strings_IndexByte ⟨#[42, 43, 45, 63]⟩ c w).mono ?_
  rintro e w' ⟨rfl, rfl⟩
  refine ⟨?_, rfl⟩
  have := idx_val c hc
  unfold isQ at h
  simp only [Bool.or_eq_false_iff] at h
  simp only [h.1.1.1, h.1.1.2, h.1.2, h.2] at this
  exact congrArg (fun n => Ending.returned (.int .i64 n)) this

theorem quant_end {p : ByteArray} {k : Nat} (h : p.size ≤ k) : quantM ((bytesOf p).drop k) = (0, 0) := by rw [bytesOf_end p k h]; rfl
theorem quant_yes {p : ByteArray} {k : Nat} (h : k < p.size) (hq : isQ p[k].toNat = true) : quantM ((bytesOf p).drop k) = (p[k].toNat, 1) := by rw [bytesOf_drop p k h]; simp [quantM, hq]
theorem quant_no {p : ByteArray} {k : Nat} (h : k < p.size) (hq : isQ p[k].toNat = false) : quantM ((bytesOf p).drop k) = (0, 0) := by rw [bytesOf_drop p k h]; simp [quantM, hq]
/-- What a single comes to, once its set is read. -/
theorem single_of {p : ByteArray} {at_ nx c : Nat} {s : St} {S : Nat → Bool} {q m : Nat} (hB : baseM c ((bytesOf p).drop (at_ + 1)) = some (S, (bytesOf p).drop nx)) (hn : nx ≤ p.size) (hat : at_ < nx) (hq : quantM ((bytesOf p).drop nx) = (q, m)) :
    singleM c ((bytesOf p).drop (at_ + 1)) s = .ok ({ s with items := s.items ++ [⟨7, 0, 0, 0, S, q⟩] }, nx - at_ + m) := by
  have e : 1 + ((bytesOf p).drop (at_ + 1)).length - ((bytesOf p).drop nx).length = nx - at_ := by simp only [List.length_drop, bytesOf_length]; omega
  unfold singleM
  rw [hB]
  simp only [hq, e]
theorem single_err {p : ByteArray} {at_ c : Nat} {s : St} (hB : baseM c ((bytesOf p).drop (at_ + 1)) = none) : singleM c ((bytesOf p).drop (at_ + 1)) s = .error 4 := by
  unfold singleM; rw [hB]
theorem rd_ok {w0 : World} {rb : Nat} {p : ByteArray} {at_ : Nat} {anc fin : Bool} {s' : St} {R : Except Nat (St × Nat)} {w' : World} {m : Nat} (hR : R = .ok (s', m)) (hb : RPost w0 rb p (at_ + m) anc fin s' w') : RdPost w0 rb p at_ anc fin R (.returned (.int .i64 0)) w' := by
  subst hR; exact ⟨rfl, hb⟩
theorem rd_err {w0 : World} {rb : Nat} {p : ByteArray} {at_ : Nat} {anc fin : Bool} {R : Except Nat (St × Nat)} {w' : World} {c : Nat} (hR : R = .error c) (hb : Below w0.heap.size w0 w') : RdPost w0 rb p at_ anc fin R (.returned (.int .i64 c)) w' := by
  subst hR; exact ⟨rfl, hb⟩
end Go.Proofs.YtpbhncmaamedhaaDoor
