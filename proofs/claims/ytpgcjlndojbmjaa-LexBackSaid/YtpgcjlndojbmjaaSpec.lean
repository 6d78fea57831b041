/- What lex does, over lists of bytes: no program in sight. -/
import Derived.Test.YtpgcjlndojbmjaaPLx0
namespace Go.Proofs.Ytpgcjlndojbmjaa.Pure
set_option linter.unusedVariables false

def letU (c : UInt8) : Bool := (65 ≤ c.toNat && c.toNat ≤ 90) || (97 ≤ c.toNat && c.toNat ≤ 122) || c.toNat == 95
def digU (c : UInt8) : Bool := 48 ≤ c.toNat && c.toNat ≤ 57
def worU (c : UInt8) : Bool := letU c || digU c
def blaU (c : UInt8) : Bool := c.toNat == 9 || c.toNat == 10 || c.toNat == 13 || c.toNat == 32
def uppU (c : UInt8) : UInt8 := if 97 ≤ c.toNat ∧ c.toNat ≤ 122 then c - 32 else c
/-- The value of digits, behind v. -/
def numS : Int → List UInt8 → Option Int
  | v, [] => some v
  | v, c :: t => if v > (9223372036854775807 - ((c.toNat : Int) - 48)) / 10 then none else numS (10 * v + ((c.toNat : Int) - 48)) t
/-- A text behind its first quote: what it holds, and how many bytes it has. -/
def texS : List UInt8 → Nat → List UInt8 → Option (List UInt8 × Nat)
  | _, _, [] => none
  | acc, n, [c] => if c.toNat = 39 then some (acc, n + 1) else none
  | acc, n, c :: d :: t => if c.toNat = 39 then (if d.toNat = 39 then texS (acc ++ [d]) (n + 2) t else some (acc, n + 1)) else texS (acc ++ [c]) (n + 1) (d :: t)
inductive TR where
  | bad (e : Int)
  | ok (k : Int) (s : List UInt8) (v : Int) (n : Nat)
def isSign (c : UInt8) : Bool := c.toNat == 40 || c.toNat == 41 || c.toNat == 44 || c.toNat == 59 || c.toNat == 42 || c.toNat == 61 || c.toNat == 43 || c.toNat == 45 || c.toNat == 47 || c.toNat == 37
def sigS (c : UInt8) (t : List UInt8) : TR :=
  if c.toNat = 60 then (match t with
    | d :: _ => if d.toNat = 62 then .ok 4 [c, d] 0 2 else if d.toNat = 61 then .ok 4 [c, d] 0 2 else .ok 4 [c] 0 1
    | [] => .ok 4 [c] 0 1)
  else if c.toNat = 62 then (match t with
    | d :: _ => if d.toNat = 61 then .ok 4 [c, d] 0 2 else .ok 4 [c] 0 1
    | [] => .ok 4 [c] 0 1)
  else if isSign c then .ok 4 [c] 0 1 else .bad 13
def headLet : List UInt8 → Bool
  | [] => false
  | d :: _ => letU d
def tokS : List UInt8 → TR
  | [] => .bad 13
  | c :: t =>
    if letU c then .ok 1 (((c :: t).takeWhile worU).map uppU) 0 ((c :: t).takeWhile worU).length
    else if digU c then (match numS 0 ((c :: t).takeWhile digU) with
      | none => .bad 5
      | some v => if headLet ((c :: t).dropWhile digU) then .bad 13 else .ok 2 [] v ((c :: t).takeWhile digU).length)
    else if c.toNat = 39 then (match texS [] 1 t with
      | none => .bad 13
      | some (s, n) => if s.length > 64 then .bad 3 else .ok 3 s 0 n)
    else sigS c t
structure Tk where
  k : Int
  p : Int
  s : List UInt8
  v : Int
/-- The tokens behind acc, from the place p on; f: more than the bytes. -/
def lexS : Nat → Nat → List UInt8 → List Tk → List Tk × Int
  | 0, p, _, acc => (acc ++ [⟨0, p, [], 0⟩], 0)
  | _ + 1, p, [], acc => (acc ++ [⟨0, p, [], 0⟩], 0)
  | f + 1, p, c :: t, acc => if blaU c then lexS f (p + 1) t acc else match tokS (c :: t) with
    | .bad e => ([], e)
    | .ok k s v n => lexS f (p + n) ((c :: t).drop n) (acc ++ [⟨k, p, s, v⟩])
theorem texS_n : ∀ (l acc : List UInt8) (n : Nat) {s : List UInt8} {m : Nat}, texS acc n l = some (s, m) → n + 1 ≤ m ∧ m ≤ n + l.length ∧ s.length ≤ acc.length + l.length := by
  intro l
  induction h : l.length using Nat.strongRecOn generalizing l with
  | _ N ih =>
  intro acc n s m hs
  match l, h with
  | [], h => simp [texS] at hs
  | [c], h =>
    unfold texS at hs
    split at hs
    · simp only [Option.some.injEq, Prod.mk.injEq] at hs
      obtain ⟨rfl, rfl⟩ := hs
      simp at h; omega
    · cases hs
  | c :: d :: t, h =>
    simp only [List.length_cons] at h
    unfold texS at hs
    split at hs
    · split at hs
      · have := ih t.length (by omega) t rfl _ _ hs
        simp only [List.length_append, List.length_cons, List.length_nil] at this; omega
      · simp only [Option.some.injEq, Prod.mk.injEq] at hs
        obtain ⟨rfl, rfl⟩ := hs
        omega
    · have := ih (t.length + 1) (by omega) (d :: t) (by simp) _ _ hs
      simp only [List.length_append, List.length_cons, List.length_nil] at this; omega
theorem tokS_cons (c : UInt8) (t : List UInt8) : tokS (c :: t) =
    if letU c then .ok 1 (((c :: t).takeWhile worU).map uppU) 0 ((c :: t).takeWhile worU).length
    else if digU c then (match numS 0 ((c :: t).takeWhile digU) with
      | none => .bad 5
      | some v => if headLet ((c :: t).dropWhile digU) then .bad 13 else .ok 2 [] v ((c :: t).takeWhile digU).length)
    else if c.toNat = 39 then (match texS [] 1 t with
      | none => .bad 13
      | some (s, n) => if s.length > 64 then .bad 3 else .ok 3 s 0 n)
    else sigS c t := rfl
theorem sigS_n (c : UInt8) (t : List UInt8) {k : Int} {s : List UInt8} {v : Int} {n : Nat} (h : sigS c t = .ok k s v n) : 1 ≤ n ∧ n ≤ (c :: t).length ∧ k ≠ 0 := by
  unfold sigS at h
  cases t with
  | nil =>
    simp only [List.length_cons, List.length_nil] at *
    repeat' (split at h)
    all_goals (first | (cases h; done) | (cases h; exact ⟨by omega, by omega, by decide⟩))
  | cons d t =>
    simp only [List.length_cons] at *
    repeat' (split at h)
    all_goals (first | (cases h; done) | (cases h; exact ⟨by omega, by omega, by decide⟩))
theorem tokS_n (l : List UInt8) {k : Int} {s : List UInt8} {v : Int} {n : Nat} (h : tokS l = .ok k s v n) : 1 ≤ n ∧ n ≤ l.length ∧ k ≠ 0 := by
  cases l with
  | nil => simp [tokS] at h
  | cons c t =>
    have hw : ∀ p : UInt8 → Bool, ((c :: t).takeWhile p).length ≤ (c :: t).length := fun p => (List.takeWhile_sublist p).length_le
    rw [tokS_cons] at h
    by_cases h1 : letU c = true
    · rw [if_pos h1] at h
      cases h
      refine ⟨?_, hw _, by decide⟩
      rw [List.takeWhile_cons, if_pos (by simp [worU, h1])]
      simp
    · rw [if_neg h1] at h
      by_cases h2 : digU c = true
      · rw [if_pos h2] at h
        cases hv : numS 0 ((c :: t).takeWhile digU) with
        | none => rw [hv] at h; cases h
        | some x =>
          rw [hv] at h
          simp only at h
          by_cases h3 : headLet ((c :: t).dropWhile digU) = true
          · rw [if_pos h3] at h; cases h
          · rw [if_neg h3] at h
            cases h
            refine ⟨?_, hw _, by decide⟩
            rw [List.takeWhile_cons, if_pos h2]
            simp
      · rw [if_neg h2] at h
        by_cases h3 : c.toNat = 39
        · rw [if_pos h3] at h
          cases hv : texS [] 1 t with
          | none => rw [hv] at h; cases h
          | some x =>
            obtain ⟨x, m⟩ := x
            rw [hv] at h
            simp only at h
            by_cases h4 : x.length > 64
            · rw [if_pos h4] at h; cases h
            · rw [if_neg h4] at h
              cases h
              have := texS_n _ _ _ hv
              simp only [List.length_cons]
              exact ⟨by omega, by omega, by decide⟩
        · rw [if_neg h3] at h
          exact sigS_n c t h
end Go.Proofs.Ytpgcjlndojbmjaa.Pure
