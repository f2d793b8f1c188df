/- A statement that is carried out in the text's order, and only reads or calls what only adds: walked by the cheap quiet steps. -/
import Derived.Test.YtookgoidlnlckaaLib
import Derived.Lib.QuietBelow
namespace Go.Proofs.Ytookgoidlnlckaa
open Go.RowKit Go.Sort
set_option linter.unusedVariables false
set_option linter.unusedSimpArgs false

theorem wpList_of_quiet {P : Program} {ops : Array Oper} {C : World → Prop} {Q : Exit → Act → World → Prop} : ∀ (l : List Oper) (a : Act) (w : World), C w →
    wpQuiet P ops C (fun a' => ∀ w', C w' → Q .normal a' w') l a → wpList P ops Q l a w
  | [], _, w, hC, h => h w hC
  | o :: rest, a, w, hC, h => by
    unfold wpQuiet at h
    unfold wpList
    split
    · rename_i hw
      rw [if_pos hw] at h
      exact .inl (Oper.wp_of_quiet hC (fun a' w' hw' hk => wpList_of_quiet rest a' w' hw' hk) h)
    · rename_i hw
      rw [if_neg hw] at h
      exact wpList_of_quiet rest _ w hC h
theorem wp_text_quiet_below {P : Program} {id : Nat} {Q : Exit → Act → World → Prop} {a : Act} {w : World} {l : List Oper}
    (h : wpQuiet P l.toArray (fun w' => ∃ p : Regrown, w' = grow (redrawn w p.d) p.os) (fun a' => ∀ w', (∃ p : Regrown, w' = grow (redrawn w p.d) p.os) → Q .normal a' w') l a) : (Code.region id l.toArray false).wp P Q a w :=
  wp_region_lit (wpList_of_quiet (C := fun w' => ∃ p : Regrown, w' = grow (redrawn w p.d) p.os) l a w ⟨⟨w.drawn, #[]⟩, by rw [grow_empty]; rfl⟩ h)
end Go.Proofs.Ytookgoidlnlckaa
