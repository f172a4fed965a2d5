/-
  The contract of ClipWithin: it answers true; for lists below 2^62 points.
-/
import Derived.Test.YtbehddngdjfkhaaClipXe
set_option linter.unusedSimpArgs false
set_option linter.unusedVariables false
open Go Go.Proofs
namespace Go.Ev.Clip
open Ieee
set_option maxRecDepth 100000
theorem q5_9 (nx ny pf n : Nat) (p : Nat → Nat × Nat) (h : chk nx ny pf = true) (hb : n < big) (cx : Cx) : CodeOK Try.prog cx fi5.n (dropS 9 fi5.body) ⟨[(1, .ro 2 n (fun j => ptM (p j))), (4, .p 0 0), (9, .b true)], [], [(0, .cells [.f .f64 nx, .f .f64 ny, .f .f64 pf])], 1⟩ (finK (genQ Try.prog exts eqs [] S21X) fi5.res (.b true) []) := by
  cases hc : (checkV n p != 0)
  · have hc : checkV n p = 0 := by simpa using hc
    exact q5_9k nx ny pf n p h hc (leV_ok h hc) cx
  · exact q5_9e nx ny pf n p h hb hc cx
theorem fgt_not {x : Nat} (h : fin .f64 x = true) : fgt .f64 x 0 = !fle .f64 x 0 := by
  have h1 := fle_val h val_0.1
  have h2 := fgt_val h val_0.1
  cases ha : fgt .f64 x 0 <;> cases hb : fle .f64 x 0
  · have : ¬ val 0 < val x := fun c => by rw [h2.2 c] at ha; cases ha
    have : ¬ val x ≤ val 0 := fun c => by rw [h1.2 c] at hb; cases hb
    grind
  · rfl
  · rfl
  · have := h1.1 hb
    have := h2.1 ha
    grind
theorem ask2_swap {nx ny pf a1 a2 b1 b2 : Nat} : ask2 nx ny pf b1 b2 a1 a2 = ask2 nx ny pf a1 a2 b1 b2 := by
  unfold ask2
  cases chk nx ny pf <;> cases wth a1 a2 <;> cases wth b1 b2 <;> rfl
theorem ask2_wth {nx ny pf a1 a2 b1 b2 : Nat} (hc : chk nx ny pf = true) (h : (ask2 nx ny pf a1 a2 b1 b2 != 0) = false) : wth a1 a2 = true ∧ wth b1 b2 = true := by
  unfold ask2 at h
  rw [hc] at h
  cases ha : wth a1 a2 <;> cases hb : wth b1 b2 <;> rw [ha, hb] at h <;> first | exact ⟨rfl, rfl⟩ | cases h
theorem q5_5 (nx ny pf n : Nat) (p : Nat → Nat × Nat) (a1 a2 b1 b2 : Nat) (h : chk nx ny pf = true) (hb : n < big) (cx : Cx) : CodeOK Try.prog cx fi5.n (dropS 5 fi5.body) ⟨[(1, .ro 2 n (fun j => ptM (p j))), (4, .p 0 0), (6, .p 1 0), (7, .p 2 0), (9, .b true), (10, .f .f64 (MS pf a1 a2 b1 b2))], [], [(0, .cells [.f .f64 nx, .f .f64 ny, .f .f64 pf]), (1, .cells [.f .f64 a1, .f .f64 a2]), (2, .cells [.f .f64 b1, .f .f64 b2])], 3⟩ (finK (genQ Try.prog exts eqs [] S21X) fi5.res (.b true) []) := by
  have h9 := q5_9 nx ny pf n p h hb
  cases hk : (ask2 nx ny pf a1 a2 b1 b2 != 0)
  · have hk2 : (ask2 nx ny pf b1 b2 a1 a2 != 0) = false := by rw [ask2_swap]; exact hk
    obtain ⟨wa, wb⟩ := ask2_wth h hk
    obtain ⟨x1, x2⟩ := wth_fl wa
    obtain ⟨y1, y2⟩ := wth_fl wb
    obtain ⟨f1, f2, f3⟩ := chk_fl h
    obtain ⟨mm, fM, fF, fP⟩ := ml_ok (n := 2) (p := pr a1 a2 b1 b2) f3 fun i hi => by
      match i, hi with
      | 0, _ => exact ⟨x1, x2⟩
      | 1, _ => exact ⟨y1, y2⟩
    rw [← ms_ml] at mm fM fF fP
    have pa := fP 0 (by decide)
    have pb := fP 1 (by decide)
    have pa : Fl a1 (val (MS pf a1 a2 b1 b2)) ∧ Fl a2 (val (MS pf a1 a2 b1 b2)) := pa
    have pb : Fl b1 (val (MS pf a1 a2 b1 b2)) ∧ Fl b2 (val (MS pf a1 a2 b1 b2)) := pb
    have fa := (bey_err mm.hm mm.h1 mm.h2 f1 f2 fF (pa.1.wide mm.h1) (pa.2.wide mm.h1)).1
    have fb := (bey_err mm.hm mm.h1 mm.h2 f1 f2 fF (pb.1.wide mm.h1) (pb.2.wide mm.h1)).1
    have ga : fgt .f64 (fsub .f64 (dot nx ny a1 a2) pf) 0 = !fle .f64 (bey nx ny pf a1 a2) 0 := fgt_not fa
    have gb : fgt .f64 (fsub .f64 (dot nx ny b1 b2) pf) 0 = !fle .f64 (bey nx ny pf b1 b2) 0 := fgt_not fb
    have ia : fle .f64 (bey nx ny pf a1 a2) 0 = true → inP nx ny pf (MS pf a1 a2 b1 b2) (a1, a2) := fun hw => in_pt mm fM f1 f2 fF pa.1 pa.2 hw
    have ib : fle .f64 (bey nx ny pf b1 b2) 0 = true → inP nx ny pf (MS pf a1 a2 b1 b2) (b1, b2) := fun hw => in_pt mm fM f1 f2 fF pb.1 pb.2 hw
    have ic : (fle .f64 (bey nx ny pf a1 a2) 0 != fle .f64 (bey nx ny pf b1 b2) 0) = true → inP nx ny pf (MS pf a1 a2 b1 b2) (mor a1 (cutt (bey nx ny pf a1 a2) (bey nx ny pf b1 b2)) b1 a1, mor a2 (cutt (bey nx ny pf a1 a2) (bey nx ny pf b1 b2)) b2 a2) := fun hw => in_cut mm fM f1 f2 fF pa.1 pa.2 pb.1 pb.2 hw
    cases ha : fle .f64 (bey nx ny pf a1 a2) 0 <;> cases hb2 : fle .f64 (bey nx ny pf b1 b2) 0 <;> rw [ha] at ga ia ic <;> rw [hb2] at gb ib ic
    · exact q5_5n nx ny pf n p a1 a2 b1 b2 hk ga gb hk2 gb ga h9 cx
    · exact q5_5_01 nx ny pf n p a1 a2 b1 b2 hk ga gb hk2 gb ga (ic rfl) (ib rfl) h9 cx
    · exact q5_5_10 nx ny pf n p a1 a2 b1 b2 hk ga gb hk2 gb ga (ia rfl) (ic rfl) h9 cx
    · exact q5_5_11 nx ny pf n p a1 a2 b1 b2 hk ga gb hk2 gb ga (ia rfl) (ib rfl) h9 cx
  · exact q5_5e nx ny pf n p a1 a2 b1 b2 hk (by rw [ask2_swap]; exact hk) ask2_swap h9 cx
theorem t5 (nx ny pf n : Nat) (p : Nat → Nat × Nat) (a1 a2 b1 b2 : Nat) (hb : n < big) : CM Try.prog 5 [.agg [.f .f64 nx, .f .f64 ny, .f .f64 pf], .ro 2 n (fun j => ptM (p j)), .agg [.f .f64 a1, .f .f64 a2], .agg [.f .f64 b1, .f .f64 b2]] (.b true) [] true :=
  CM.of_cut (exts := exts) (eqs := eqs) (inl := []) (sum := S21X) extsOK eqsOK S21X_ok fi5_ok rfl fun cx => by
    cases h : chk nx ny pf
    · exact q5_n nx ny pf n p a1 a2 b1 b2 h cx
    · exact q5_0 nx ny pf n p a1 a2 b1 b2 h (q5_5 nx ny pf n p a1 a2 b1 b2 h hb) cx
end Go.Ev.Clip
