import Derived.Deep.CutBlock
import Derived.Test.YtajgekeiflblnaaGreatPicc
import Derived.Test.YtajgekeiflblnaaGreatGue
set_option linter.unusedSimpArgs false
set_option linter.unusedVariables false
set_option maxRecDepth 100000
namespace Go.Proofs.YtajgekeiflblnaaGreat
open Go.RowKit
theorem rjoinD (wd : Bool) (f : Span → Span → Span) (hf : ∀ (s t : Span) (w : World), Calls Tryz.prog 48 #[s.v, t.v, .bool wd] w fun e w' => e = .returned (f s t).v ∧ Below w.heap.size w w')
  (g h : Gu) (d e : Res) (w : World) (hg : GuIs w g d) (hh : GuIs w h e) (hd : inS d.l) (he : inS e.l) :
  Calls Tryz.prog 26 #[g.v, h.v, .bool wd] w fun x w' => ∃ r : Sl, x = .returned ((bothD f d e).gu r).v ∧ OwnI w.heap.size w' r (mixS d.l e.l) ∧ Below w.heap.size w w' := by
 have hb := rJoinGuess_any wd f hf g h d.l e.l w hg.l hh.l
 rw [← mix_union hd he] at hb
 have e1 := hg.e
 have e2 := hh.e
 have hq : ∀ r : Sl, (⟨g.null || h.null, f g.span h.span, g.tr || h.tr, g.fa || h.fa, r⟩ : Gu) = (bothD f d e).gu r := fun r => by rw [e1, e2]
 simp only [hq] at hb
 exact hb
def OldOr (wb w w' : World) (r : Pv) (d : Pd) : Prop := ∃ S : Datum, (∀ (w0 : World) (L : List LBlk) (D : List Datum), Loc w0 w L D → Loc w0 w' L (S :: D)) ∧ ∀ w2, S w2 → Below wb.heap.size wb w2 → PicIs w2 r d
theorem OldOr.old {wb w w' : World} {r : Pv} {d : Pd} (hx : PicIs wb r d) (hb : Below w.heap.size w w') : OldOr wb w w' r d :=
 ⟨fun _ => True, fun _ _ _ h => (h.grow hb).pure (fun _ => trivial), fun _ _ hb2 => hx.grow hb2⟩
end Go.Proofs.YtajgekeiflblnaaGreat
