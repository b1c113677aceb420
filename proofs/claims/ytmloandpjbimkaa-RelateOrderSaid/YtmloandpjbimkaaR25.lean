/-
  What every row of this seat needs: the arguments opened, events among them.
-/
import Derived.Test.YtmloandpjbimkaaRows
import Derived.HandedShaped
import Derived.RowKit
import Derived.Test.YtmloandpjbimkaaAL2
import Derived.Test.YtmloandpjbimkaaAL3
import Derived.Test.YtmloandpjbimkaaW25I
set_option linter.unusedSimpArgs false
set_option linter.unusedVariables false
set_option maxRecDepth 100000
namespace Go.Proofs.Ytmloandpjbimkaa
open Go Go.AL Go.RowKit Go.ChangeShapes Go.WideShapes Go.Proofs

theorem own : ownKnob Try.prog.godebug = none := by kernel_rfl
theorem laidOut : laidOutB Try.prog = true := by kernel_rfl
theorem maxCell {W : World} (h : W.ShapedOpen Try.prog) : X.Γ (Fz W (phi0 W)) := by
  obtain ⟨m, hm⟩ : ∃ m, W.cell? ⟨0, 0, none⟩ = some (.int .i64 m) := Go.Proofs.cell_of_shapedOpen_int (zero := #[.int .i64 0]) (t := 3) h (of_decide_eq_true (by kernel_rfl)) (by kernel_rfl) rfl (by kernel_rfl) (by kernel_rfl) Try.underlying3
  exact ⟨m, fz0 hm⟩
theorem reach_le {n : Nat} (h : n ≤ reachBytes) : n ≤ 4611686018427387904 := by
  have : reachBytes = 140737488351232 := rfl
  omega
mutual
theorem J.ok_len : ∀ j : J, j.Ok → j.Len
  | .mk _ _ _ ks l => fun h => by
    simp only [J.Ok] at h
    simp only [J.Len]
    exact ⟨reach_le (by omega), reach_le h.2.2.2.2.1, J.oks_lens l h.2.2.2.2.2⟩
theorem J.oks_lens : ∀ l : List J, J.Oks l → J.Lens l
  | [] => fun _ => by simp [J.Lens]
  | j :: l => fun h => by
    simp only [J.Oks] at h
    simp only [J.Lens]
    exact ⟨J.ok_len j h.1, J.oks_lens l h.2⟩
end
theorem bytes_js : X.P.bytesOf 25 = 80 := by kernel_rfl
theorem bytes_str : 0 < X.P.bytesOf 9 := of_decide_eq_true (by kernel_rfl)
theorem bytes_sig : 0 < X.P.bytesOf 52 := of_decide_eq_true (by kernel_rfl)
section
variable {H : Type} {enc : TypeId × Value → H} {w : World}
theorem o_js : ∀ n, OpensL enc X.P w n 25 fun xs => ∃ j : J, xs = j.cells ∧ j.Ok :=
  o_json Try.underlying25 ⟨rfl, rfl⟩ ⟨rfl, rfl⟩ ⟨rfl, rfl⟩ ⟨rfl, rfl⟩ ⟨rfl, rfl⟩ ⟨Try.underlying3, by kernel_rfl⟩ ⟨Try.underlying2, by kernel_rfl⟩ ⟨Try.underlying9, by kernel_rfl, by kernel_rfl⟩ ⟨Try.underlying22, by kernel_rfl⟩ ⟨Try.underlying23, by kernel_rfl⟩ (by kernel_rfl) (by rw [bytes_js]; decide)
theorem o_s (n : Nat) : OpensL enc X.P w n 9 fun xs => ∃ l : List UInt8, xs = [.s l] ∧ l.length ≤ reachBytes := o_str Try.underlying9 (by kernel_rfl) n
theorem o_n (n : Nat) : OpensL enc X.P w n 2 fun xs => ∃ i, xs = [.v (.int .i64 i)] ∧ -9223372036854775808 ≤ i ∧ i < 9223372036854775808 := o_i64 Try.underlying2 (by kernel_rfl) n
theorem o_int (n : Nat) : OpensL enc X.P w n 3 fun xs => ∃ i, xs = [.v (.int .i64 i)] ∧ -9223372036854775808 ≤ i ∧ i < 9223372036854775808 := o_i64 Try.underlying3 (by kernel_rfl) n
theorem o_b (n : Nat) : OpensL enc X.P w n 4 fun xs => ∃ b, xs = [.v (.bool b)] := o_bool Try.underlying4 (by kernel_rfl) n
theorem o_strs : ∀ n, OpensL enc X.P w n 22 fun xs => ∃ l : List (List UInt8), xs = [.sl false (l.map strCells)] ∧ l.length ≤ 4611686018427387904 :=
  o_all fun n => (o_list (c := strCells) Try.underlying22 (by kernel_rfl) (o_s n)).mono fun xs h => by
    obtain ⟨l, rfl, h1, h2, h3⟩ := h
    exact ⟨l, rfl, reach_le (Nat.le_trans (Nat.le_mul_of_pos_right _ bytes_str) h1)⟩
theorem o_sig : ∀ n, OpensL enc X.P w n 52 fun xs => ∃ x : List UInt8 × List UInt8, xs = sigCells x ∧ True :=
  o_all fun n => (o_struct Try.underlying52 (.cons rfl (o_s n) (.cons (by kernel_rfl) (o_s n) .nil)) (by kernel_rfl)).mono fun xs h => by
    obtain ⟨x, y, rfl, ⟨l, rfl, h1⟩, ⟨m, rfl, h2⟩⟩ := Parts.two h
    exact ⟨(l, m), rfl, trivial⟩
theorem o_sigs : ∀ n, OpensL enc X.P w n 26 fun xs => ∃ l : List (List UInt8 × List UInt8), xs = [.sl false (l.map sigCells)] ∧ l.length ≤ 4611686018427387904 :=
  o_all fun n => (o_list Try.underlying26 (by kernel_rfl) (o_sig n)).mono fun xs h => by
    obtain ⟨l, rfl, h1, h2, h3⟩ := h
    exact ⟨l, rfl, reach_le (Nat.le_trans (Nat.le_mul_of_pos_right _ bytes_sig) h1)⟩
def Ev.Wide (e : Ev) : Prop := e.content.Len ∧ e.prev.length ≤ 4611686018427387904 ∧ e.auth.length ≤ 4611686018427387904 ∧ e.sigs.length ≤ 4611686018427387904 ∧ e.sender.length ≤ 4611686018427387904
theorem o_ev : ∀ n, OpensL enc X.P w n 28 fun xs => ∃ e : Ev, xs = e.cells ∧ e.Wide :=
  o_all fun n => (o_struct Try.underlying28 (.cons rfl (o_s n) (.cons (by kernel_rfl) (o_s n) (.cons (by kernel_rfl) (o_s n) (.cons (by kernel_rfl) (o_b n) (.cons (by kernel_rfl) (o_s n) (.cons (by kernel_rfl) (o_js n) (.cons (by kernel_rfl) (o_strs n) (.cons (by kernel_rfl) (o_strs n) (.cons (by kernel_rfl) (o_n n) (.cons (by kernel_rfl) (o_n n) (.cons (by kernel_rfl) (o_s n) (.cons (by kernel_rfl) (o_sigs n) .nil)))))))))))) (by kernel_rfl)).mono fun xs h => by
    obtain ⟨x0, y0, rfl, ⟨a0, rfl, c0⟩, k0⟩ := Parts.head h
    obtain ⟨x1, y1, rfl, ⟨a1, rfl, c1⟩, k1⟩ := Parts.head k0
    obtain ⟨x2, y2, rfl, ⟨a2, rfl, c2⟩, k2⟩ := Parts.head k1
    obtain ⟨x3, y3, rfl, ⟨a3, rfl⟩, k3⟩ := Parts.head k2
    obtain ⟨x4, y4, rfl, ⟨a4, rfl, c4⟩, k4⟩ := Parts.head k3
    obtain ⟨x5, y5, rfl, ⟨a5, rfl, c5⟩, k5⟩ := Parts.head k4
    obtain ⟨x6, y6, rfl, ⟨a6, rfl, c6⟩, k6⟩ := Parts.head k5
    obtain ⟨x7, y7, rfl, ⟨a7, rfl, c7⟩, k7⟩ := Parts.head k6
    obtain ⟨x8, y8, rfl, ⟨a8, rfl, c8⟩, k8⟩ := Parts.head k7
    obtain ⟨x9, y9, rfl, ⟨a9, rfl, c9⟩, k9⟩ := Parts.head k8
    obtain ⟨x10, y10, rfl, ⟨a10, rfl, c10⟩, k10⟩ := Parts.head k9
    obtain ⟨x11, y11, rfl, ⟨a11, rfl, c11⟩, k11⟩ := Parts.head k10
    rw [k11.done]
    refine ⟨⟨a0, a1, a2, a3, a4, a5, a6, a7, a8, a9, a10, a11⟩, ?_, J.ok_len _ c5, c6, c7, c11, reach_le c2⟩
    simp only [Ev.cells, J.cells_eq, List.append_nil, List.cons_append, List.nil_append]
theorem o_kn : ∀ n, OpensL enc X.P w n 35 fun xs => ∃ k : Kn, xs = k.cells ∧ k.Wide :=
  o_all fun n => (o_struct Try.underlying35 (.cons rfl (o_s n) (.cons (by kernel_rfl) (o_ev n) .nil)) (by kernel_rfl)).mono fun xs h => by
    obtain ⟨x, y, rfl, ⟨l, rfl, h1⟩, ⟨e, rfl, h2⟩⟩ := Parts.two h
    exact ⟨⟨l, e⟩, rfl, h2⟩
theorem bytes_kn : 0 < X.P.bytesOf 35 := of_decide_eq_true (by kernel_rfl)
theorem o_kns : ∀ n, OpensL enc X.P w n 33 fun xs => ∃ l : List Kn, xs = [.sl false (l.map Kn.cells)] ∧ l.length ≤ 4611686018427387904 ∧ ∀ k ∈ l, k.Wide :=
  o_all fun n => (o_list Try.underlying33 (by kernel_rfl) (o_kn n)).mono fun xs h => by
    obtain ⟨l, rfl, h1, h2, h3⟩ := h
    exact ⟨l, rfl, reach_le (Nat.le_trans (Nat.le_mul_of_pos_right _ bytes_kn) h1), h3⟩
end
end Go.Proofs.Ytmloandpjbimkaa
