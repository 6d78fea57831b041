/- LexJoins: for any two texts of at most 900 bytes each that are tokens, the tokens of both with a line end between are those of the first without its end, and behind them those of the second, their places moved. Beyond that bound the statement says nothing. -/
import Derived.Test.YtpgcjlndojbmjaaLexJ
import Derived.Test.YtpgcjlndojbmjaaPLx24
namespace Go.Proofs.Ytpgcjlndojbmjaa.Pure
open Go.RowKit Go.Proofs.Ytpgcjlndojbmjaa.PL Go.Proofs.YtpgcjlndojbmjaaW.PrintWords Go.Proofs.YtpgcjlndojbmjaaW.PrintLast
set_option linter.unusedVariables false
set_option linter.unusedSimpArgs false
theorem rd_map (L : List Tk) (i : Nat) (h : i < L.length) : rd_T28 (L.map toS) (i : Int) = toS L[i] := by
  simp [rd_T28, List.getD_eq_getElem?_getD, List.getElem?_eq_getElem h]
theorem same_d {c : S28} {f0 f1 f3 : Int} {f2 : ByteArray} (h0 : c.f0 = f0) (h1 : c.f1 = f1) (h2 : c.f2 = f2) (h3 : c.f3 = f3) : (!((c.f0) == f0) || (!((c.f1) == f1) || (!(((c.f2).toList) == f2.toList) || (!((c.f3) == f3))))) = false := by
  subst h0; subst h1; subst h2; subst h3; simp
theorem joins_l (a0 : ByteArray) (ha : a0.size ≤ 900) (x' ys : List Tk) (e : Tk) (hx : x'.length ≤ 900) (hy : ys.length ≤ 901) (hp : ∀ t ∈ ys, 0 ≤ t.p ∧ t.p ≤ 900) : ∀ (d i : Nat), i + d = x'.length + ys.length →
    Ev (fun n => antipodelaw16_LexJoins.l0 n a0 ((x' ++ [e]).map toS) (ys.map toS) ((x' ++ ys.map (shT (a0.size + 1))).map toS) (i : Int)) true := by
  intro d
  have lz : ((x' ++ ys.map (shT (a0.size + 1))).map toS).length = x'.length + ys.length := by simp
  have lx : ((x' ++ [e]).map toS).length = x'.length + 1 := by simp
  have ly : (ys.map toS).length = ys.length := by simp
  induction d with
  | zero =>
    intro i hi
    refine Ev.step (f := fun _ => some _) (fun k => ?_) (evs _)
    show antipodelaw16_LexJoins.l0 (k + 1) a0 _ _ _ i = _
    simp only [antipodelaw16_LexJoins.l0]
    rw [if_neg (by rw [lz]; omega)]
  | succ d ih =>
    intro i hi
    have hn := ih (i + 1) (by omega)
    have iz : i < (x' ++ ys.map (shT (a0.size + 1))).length := by simp; omega
    have rz := rd_map _ i iz
    by_cases h : i < x'.length
    · have ix : i < (x' ++ [e]).length := by simp; omega
      have rx := rd_map _ i ix
      have ez : (x' ++ ys.map (shT (a0.size + 1)))[i] = x'[i] := List.getElem_append_left h
      have ex : (x' ++ [e])[i] = x'[i] := List.getElem_append_left h
      refine Ev.step (f := fun n => antipodelaw16_LexJoins.j4 n a0 ((x' ++ [e]).map toS) (ys.map toS) ((x' ++ ys.map (shT (a0.size + 1))).map toS) (i : Int) (toS x'[i]).f0 (toS x'[i]).f1 (toS x'[i]).f2 (toS x'[i]).f3) (fun k => ?_) (Ev.step (fun k => ?_) hn)
      · show antipodelaw16_LexJoins.l0 (k + 1) a0 _ _ _ i = _
        simp only [antipodelaw16_LexJoins.l0]
        rw [if_pos (by rw [lz]; omega), lx, wr (by omega) (by omega), if_pos (by omega), if_pos (by omega), if_pos (by omega), rx, ex]
      · show antipodelaw16_LexJoins.j4 (k + 1) a0 _ _ _ i _ _ _ _ = _
        simp only [antipodelaw16_LexJoins.j4]
        rw [if_pos (by omega), if_pos (by rw [lz]; omega), same_d (by rw [rz, ez]) (by rw [rz, ez]) (by rw [rz, ez]) (by rw [rz, ez]), if_neg (by decide), wr (by omega) (by omega)]
        rfl
    · have iy : i - x'.length < ys.length := by omega
      have ry := rd_map ys (i - x'.length) iy
      have hpp := hp ys[i - x'.length] (List.getElem_mem _)
      have ez : (x' ++ ys.map (shT (a0.size + 1)))[i] = shT (a0.size + 1) ys[i - x'.length] := by
        rw [List.getElem_append_right (by omega), List.getElem_map]
      have ew : wrap64 ((wrap64 ((i : Int) - ((x'.length + 1 : Nat) : Int))) + 1) = ((i - x'.length : Nat) : Int) := by
        rw [wr (x := (i : Int) - ((x'.length + 1 : Nat) : Int)) (by omega) (by omega), wr (by omega) (by omega)]
        omega
      have ep : wrap64 ((wrap64 ((toS ys[i - x'.length]).f1 + (a0.size : Int))) + 1) = (toS ys[i - x'.length]).f1 + ((a0.size + 1 : Nat) : Int) := by
        show wrap64 ((wrap64 (ys[i - x'.length].p + (a0.size : Int))) + 1) = ys[i - x'.length].p + ((a0.size + 1 : Nat) : Int)
        rw [wr (x := ys[i - x'.length].p + (a0.size : Int)) (by omega) (by omega), wr (by omega) (by omega)]
        omega
      refine Ev.step (f := fun n => antipodelaw16_LexJoins.j4 n a0 ((x' ++ [e]).map toS) (ys.map toS) ((x' ++ ys.map (shT (a0.size + 1))).map toS) (i : Int) (toS ys[i - x'.length]).f0 ((toS ys[i - x'.length]).f1 + ((a0.size + 1 : Nat) : Int)) (toS ys[i - x'.length]).f2 (toS ys[i - x'.length]).f3) (fun k => ?_) (Ev.step (fun k => ?_) hn)
      · show antipodelaw16_LexJoins.l0 (k + 1) a0 _ _ _ i = _
        simp only [antipodelaw16_LexJoins.l0]
        rw [if_pos (by rw [lz]; omega), lx, wr (x := ((x'.length + 1 : Nat) : Int) - 1) (by omega) (by omega), if_neg (by omega), ew, if_pos (by omega), if_pos (by rw [ly]; omega), ry, ep]
      · show antipodelaw16_LexJoins.j4 (k + 1) a0 _ _ _ i _ _ _ _ = _
        simp only [antipodelaw16_LexJoins.j4]
        rw [if_pos (by omega), if_pos (by rw [lz]; omega), same_d (by rw [rz, ez]; rfl) (by rw [rz, ez]; rfl) (by rw [rz, ez]; rfl) (by rw [rz, ez]; rfl), if_neg (by decide), wr (by omega) (by omega)]
        rfl
theorem lexS_places : ∀ (f : Nat) (l : List UInt8) (p M : Nat) (acc : List Tk), p + l.length ≤ M → (∀ t ∈ acc, 0 ≤ t.p ∧ t.p ≤ M) → acc.length ≤ p → (∀ t ∈ (lexS f p l acc).1, 0 ≤ t.p ∧ t.p ≤ (M : Int)) ∧ (lexS f p l acc).1.length ≤ M + 1 := by
  intro f
  induction f with
  | zero =>
    intro l p M acc h ha hl
    simp only [lexS, List.length_append, List.length_cons, List.length_nil, List.mem_append, List.mem_singleton]
    refine ⟨?_, by omega⟩
    rintro t (ht | rfl)
    · exact ha t ht
    · simp only; omega
  | succ f ih =>
    intro l p M acc h ha hl
    cases l with
    | nil =>
      rw [lexS_end]
      simp only [List.length_append, List.length_cons, List.length_nil, List.mem_append, List.mem_singleton]
      refine ⟨?_, by simp at h; omega⟩
      rintro t (ht | rfl)
      · exact ha t ht
      · simp only; simp at h; omega
    | cons c t =>
      rw [lexS_cons]
      by_cases hb : blaU c = true
      · rw [if_pos hb]
        exact ih t (p + 1) M acc (by simp at h; omega) ha (by omega)
      · rw [if_neg hb]
        cases ht : tokS (c :: t) with
        | bad e => simp
        | ok k s v n =>
          have hn := tokS_n _ ht
          simp only
          refine ih _ _ M _ (by rw [List.length_drop]; omega) ?_ (by simp; omega)
          intro t' ht'
          rcases List.mem_append.1 ht' with h' | h'
          · exact ha t' h'
          · rw [List.mem_singleton] at h'; subst h'; simp only; omega
theorem lexT_places (l : List UInt8) (h : l.length ≤ 900) : (∀ t ∈ (lexT l).1, 0 ≤ t.p ∧ t.p ≤ 900) ∧ (lexT l).1.length ≤ 901 := by
  unfold lexT
  rw [if_neg (by omega)]
  exact lexS_places _ l 0 900 [] (by omega) (by simp) (by simp)
theorem LexJoins : antipodelaw16_LexJoins.Pure := by
  intro a0 a1 h0 h1
  refine Ev.rounds (g := fun n => antipodelaw16_LexJoins.f n a0 a1) ?_
  have jt : Ev (fun n => antipodelaw16_LexJoins.j0 n a0 a1 true) true :=
    Ev.step (f := fun _ => some _) (fun k => by show antipodelaw16_LexJoins.j0 (k + 1) a0 a1 true = _; simp only [antipodelaw16_LexJoins.j0, if_true]) (evs _)
  have kt : ∀ xs ys, Ev (fun n => antipodelaw16_LexJoins.j1 n a0 a1 xs ys true) true := fun xs ys =>
    Ev.step (f := fun _ => some _) (fun k => by show antipodelaw16_LexJoins.j1 (k + 1) a0 a1 xs ys true = _; simp only [antipodelaw16_LexJoins.j1, if_true]) (evs _)
  unfold antipodelaw16_LexJoins.f
  refine Ev.bind (f := fun n t268 => _) begun_f ?_
  by_cases ha : a0.size > 900
  · exact ev_of_eq (fun k => by rw [if_pos rfl, if_pos (by omega)]) jt
  by_cases hb : a1.size > 900
  · exact ev_of_eq (fun k => by rw [if_pos rfl, if_neg (by omega), decide_eq_true (show (a1.size : Int) > 900 by omega)]) jt
  refine ev_of_eq (f := fun k => antipodelaw16_LexJoins.j0 k a0 a1 false) (fun k => by rw [if_pos rfl, if_neg (by omega), decide_eq_false (show ¬ (a1.size : Int) > 900 by omega)]) ?_
  refine Ev.step (f := fun k => (lex_Lex.f k a0).bind fun bt269 => ((lex_Lex.f k a1).bind fun bt273 => (if bt269.2 = 0 then (antipodelaw16_LexJoins.j1 k a0 a1 bt269.1 bt273.1 (bt273.2 != 0)) else (antipodelaw16_LexJoins.j1 k a0 a1 bt269.1 bt273.1 true)))) (fun k => by show antipodelaw16_LexJoins.j0 (k + 1) a0 a1 false = _; simp only [antipodelaw16_LexJoins.j0, Bool.false_eq_true, if_false]) ?_
  refine Ev.bind (f := fun k bt269 => ((lex_Lex.f k a1).bind fun bt273 => (if bt269.2 = 0 then (antipodelaw16_LexJoins.j1 k a0 a1 bt269.1 bt273.1 (bt273.2 != 0)) else (antipodelaw16_LexJoins.j1 k a0 a1 bt269.1 bt273.1 true)))) (Lex_f a0) ?_
  refine Ev.bind (Lex_f a1) ?_
  by_cases ea : (lexT (bs a0)).2 = 0
  · by_cases eb : (lexT (bs a1)).2 = 0
    · have hA : lexT (bs a0) = ((lexT (bs a0)).1, 0) := by rw [← ea]
      have hB : lexT (bs a1) = ((lexT (bs a1)).1, 0) := by rw [← eb]
      obtain ⟨x', hx, hz⟩ := lexT_join 10 stop10 (by decide) _ _ _ _ hA hB (by rw [bs_len, bs_len]; omega)
      have hpa := lexT_places (bs a0) (by rw [bs_len]; omega)
      have hpb := lexT_places (bs a1) (by rw [bs_len]; omega)
      generalize hys : (lexT (bs a1)).1 = ys at *
      generalize hxs : (lexT (bs a0)).1 = xs at *
      rw [hA, hB]
      refine ev_of_eq (f := fun k => antipodelaw16_LexJoins.j1 k a0 a1 (xs.map toS) (ys.map toS) false) (fun k => by show (if (0 : Int) = 0 then _ else _) = _; rw [if_pos rfl]; rfl) ?_
      have hs1 : (a0 ++ (⟨#[10]⟩ : ByteArray)).size = a0.size + 1 := by rw [ByteArray.size_append]; rfl
      refine Ev.step (f := fun k => (lex_Lex.f k ((a0 ++ (⟨#[10]⟩ : ByteArray)) ++ a1)).bind fun bt277 => (if bt277.2 = 0 then (antipodelaw16_LexJoins.j2 k a0 (xs.map toS) (ys.map toS) bt277.1 ((bt277.1.length : Int) != (wrap64 ((wrap64 (((xs.map toS).length : Int) + ((ys.map toS).length : Int))) - 1)))) else (antipodelaw16_LexJoins.j2 k a0 (xs.map toS) (ys.map toS) bt277.1 true))) (fun k => ?_) ?_
      · show antipodelaw16_LexJoins.j1 (k + 1) a0 a1 _ _ false = _
        simp only [antipodelaw16_LexJoins.j1, Bool.false_eq_true, if_false]
        rw [if_pos (by omega), if_pos (by rw [hs1]; omega)]
      refine Ev.bind (Lex_f _) ?_
      have hz2 : lexT (bs ((a0 ++ (⟨#[10]⟩ : ByteArray)) ++ a1)) = (x' ++ ys.map (shT (a0.size + 1)), 0) := by
        rw [bs_append, bs_append, show bs (⟨#[10]⟩ : ByteArray) = [10] from rfl, List.append_assoc, List.singleton_append, hz, bs_len]
      rw [hz2]
      have l1 : xs.length = x'.length + 1 := by rw [hx]; simp
      refine ev_of_eq (f := fun k => antipodelaw16_LexJoins.j2 k a0 (xs.map toS) (ys.map toS) ((x' ++ ys.map (shT (a0.size + 1))).map toS) false) (fun k => ?_) ?_
      · show (if (0 : Int) = 0 then antipodelaw16_LexJoins.j2 k a0 (xs.map toS) (ys.map toS) ((x' ++ ys.map (shT (a0.size + 1))).map toS) ((((x' ++ ys.map (shT (a0.size + 1))).map toS).length : Int) != (wrap64 ((wrap64 (((xs.map toS).length : Int) + ((ys.map toS).length : Int))) - 1))) else _) = _
        rw [if_pos rfl, List.length_map, List.length_map, List.length_map, List.length_append, List.length_map, l1, wr (x := ((x'.length + 1 : Nat) : Int) + (ys.length : Int)) (by omega) (by omega), wr (by omega) (by omega), bne_eq_false_iff_eq.2 (by omega)]
      refine Ev.step (f := fun k => antipodelaw16_LexJoins.l0 k a0 (xs.map toS) (ys.map toS) ((x' ++ ys.map (shT (a0.size + 1))).map toS) 0) (fun k => by show antipodelaw16_LexJoins.j2 (k + 1) a0 _ _ _ false = _; simp only [antipodelaw16_LexJoins.j2, Bool.false_eq_true, if_false]) ?_
      rw [hx]
      exact joins_l a0 (by omega) x' ys _ (by omega) hpb.2 hpb.1 (x'.length + ys.length) 0 (by omega)
    · exact ev_of_eq (fun k => by show (if (lexT (bs a0)).2 = 0 then _ else _) = _; rw [if_pos ea, bne_iff_ne.2 (show (res (lexT (bs a1))).2 ≠ 0 from eb)]) (kt _ _)
  · exact ev_of_eq (fun k => by show (if (lexT (bs a0)).2 = 0 then _ else _) = _; rw [if_neg ea]) (kt _ _)
end Go.Proofs.Ytpgcjlndojbmjaa.Pure
