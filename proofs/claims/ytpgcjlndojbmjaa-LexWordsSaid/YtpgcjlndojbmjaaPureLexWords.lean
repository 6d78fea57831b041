/- LexWords: for every text, lex.Word tells what the document's answer tells. No condition. -/
import Derived.Test.YtpgcjlndojbmjaaLexB
import Derived.Test.YtpgcjlndojbmjaaPLx19
namespace Go.Proofs.Ytpgcjlndojbmjaa.Pure
open Go.RowKit Go.Proofs.Ytpgcjlndojbmjaa.PL Go.Proofs.YtpgcjlndojbmjaaW.PrintWords Go.Proofs.YtpgcjlndojbmjaaW.PrintLast
theorem LexWords : antipodelaw16_LexWords.Pure := by
  intro a0 h0
  refine Ev.rounds (g := fun n => antipodelaw16_LexWords.f n a0) ?_
  unfold antipodelaw16_LexWords.f
  refine Ev.bind (f := fun n t235 => _) begun_f ?_
  by_cases h : (a0.size : Int) > 1000
  · refine ev_of_eq (f := fun _ => some _) (fun k => ?_) (evs _)
    rw [if_pos rfl, if_pos h]
  · refine ev_of_eq (f := fun k => (lex_Word.f k a0).bind fun t236 => ((antipoderef16_Word.f k a0).bind fun t237 => (some (t236 == t237)))) (fun k => by rw [if_pos rfl, if_neg h]) ?_
    refine Ev.bind (Word_f a0 h0) ?_
    refine Ev.bind (rWord_f a0 h0) ?_
    rw [beq_self_eq_true]
    exact evs _
end Go.Proofs.Ytpgcjlndojbmjaa.Pure
