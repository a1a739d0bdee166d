/- The walks over the law GuessJoins. Conditions: what they read lies in memory that was there. -/
import Derived.Test.YteimpfplgdhclaaGreatGuessLaw
set_option linter.unusedSimpArgs false
set_option linter.unusedVariables false
namespace Go.Proofs.YteimpfplgdhclaaGreat
open Go.RowKit

theorem rjoin_law (wd : Bool) (f : Span → Span → Span) (hf : ∀ (s t : Span) (w : World), Calls Tryz.prog 40 #[s.v, t.v, .bool wd] w fun e w' => e = .returned (f s t).v ∧ Below w.heap.size w w')
    (g h : Gu) (l m : List Int) (w : World) (hg : RightGu g l) (hh : RightGu h m) (hl : IntsAt w g.s l) (hm : IntsAt w h.s m) :
    Calls Tryz.prog 15 #[g.v, h.v, .bool wd] w fun e w' => ∃ r : Sl, e = .returned (Gu.v ⟨g.null || h.null, f g.span h.span, g.tr || h.tr, g.fa || h.fa, r⟩) ∧ OwnI w.heap.size w' r (mixS l m) ∧ Below w.heap.size w w' := by
  rw [mix_union hg.ins hh.ins]
  exact rJoinGuess_any wd f hf g h l m w hl hm
theorem own_fresh {w w1 : World} {r : Sl} {R : List LBlk} {l : List Int} (h : RowS 3 1 r.p r.n r.cap (l.map (Value.int .i64)) R) (ho : Own w.heap.size w1 R) : Fresh w w1 (fun w => IntsAt w r l) :=
  ⟨fun b => ∃ e ∈ R, e.1 = b, fun b ⟨e, he, heb⟩ => by subst heb; exact ⟨(ho.at' e he).1, heap_lt (ho.at' e he).2⟩, fun w' hw' => h.ints (B := w.heap.size) ⟨ho.nodup, fun e he => ⟨(ho.at' e he).1, by rw [hw' e.1 ⟨e, he, rfl⟩]; exact (ho.at' e he).2⟩⟩⟩

end Go.Proofs.YteimpfplgdhclaaGreat
