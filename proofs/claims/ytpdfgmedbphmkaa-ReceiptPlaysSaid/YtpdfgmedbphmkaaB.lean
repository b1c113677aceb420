/-
  Contracts of names and boards.
-/
import Derived.Test.YtpdfgmedbphmkaaA
import Derived.Test.YtpdfgmedbphmkaaLib
import Derived.Test.YtpdfgmedbphmkaaAL2
set_option linter.unusedSimpArgs false
set_option linter.unusedVariables false
set_option maxRecDepth 100000
namespace Go.Proofs.Ytpdfgmedbphmkaa
open Go Go.AL
attribute [local irreducible] AOps AWp SOps AE AT ACall AApp

theorem cut_c (l sep : List UInt8) (hl : l.length < 4294967281) (H : AHeap) (K : AV → AHeap → Prop) (h : K (.tup [.s (Lib.cut l sep).1, .s (Lib.cut l sep).2.1, .v (.bool (Lib.cut l sep).2.2)]) H) : ACall X 45 [.s l, .s sep] H K :=
  ACall_same (by kernel_rfl) h fun w φ xs hr hx => by
    obtain ⟨a, b, rfl, rfl, rfl⟩ := vrs_ss hx
    obtain ⟨m, hm, _⟩ := hr.env
    exact ⟨_, .tup (.cons (vr_str _) (.cons (vr_str _) (.cons (.v _) .nil))), Try.strings_Cut a b m w (by simpa using hl) hm⟩

/-- 'ident.cut' and 'ident.User' -/
def idCut (sign l : List UInt8) : Option (List UInt8 × List UInt8) :=
  let rest := if hasPre l sign then l.drop sign.length else l
  let c := Lib.cut rest [58]
  if hasPre l sign && c.2.2 && isLocal c.1 && isServer c.2.1 then some (c.1, c.2.1) else none
def idParts (sign l : List UInt8) : AV := match idCut sign l with | some (a, b) => .tup [.s a, .s b, .v (.bool true)] | none => .tup [.s [], .s [], .v (.bool false)]
theorem idcut_c (sign l : List UInt8) (hl : l.length < 4294967281) (H : AHeap) (K : AV → AHeap → Prop)
    (h : K (idParts sign l) H) : ACall X 38 [.s sign, .s l] H K := by
  have hr : (if hasPre l sign then l.drop sign.length else l).length < 4294967281 := by
    split
    · rw [List.length_drop]; omega
    · exact hl
  generalize hc : Lib.cut (if hasPre l sign then l.drop sign.length else l) [58] = c
  obtain ⟨c1, c2, c3⟩ := c
  refine ACall_intro Try.func38 rfl (by kernel_rfl) (by rw [Try.ntmps38]; simp) ?_; rw [Try.ntmps38]; simp only [frame0, Nat.reduceAdd]
  (repeat' (first | (refine AWp_seq_k (fun K hK => ?_)) | (apply s_region) | (apply s_q; decide; rfl; (solve | (simp only [go_sem, hc]; try rfl))) | (apply s_nil; try simp only [AThen, ABlock]; try (first | (refine hK _ _ ?_; clear hK K) | (clear hK K; refine hK _ _ ?_; clear hK K) | (clear hK K; clear hK K; refine hK _ _ ?_; clear hK K))) | (apply AWp_skip; try simp only [AThen, ABlock]; try (first | (refine hK _ _ ?_; clear hK K) | (clear hK K; refine hK _ _ ?_; clear hK K) | (clear hK K; clear hK K; refine hK _ _ ?_; clear hK K))) | (apply AWp_ret; try simp only [AThen, ABlock]; apply end_ret; rfl; try simp only [AFr.get, reduceIte, Nat.reduceEqDiff]) | (apply s_spec; decide; rfl; rfl; (solve | (simp only [go_sem, hc]; try rfl)); (solve | (simp only [go_sem, hc]; try rfl)); (solve | (simp only [go_sem, hc]; try rfl)); (solve | (simp only [go_sem, hc]; try rfl)); (solve | trivial | simp only [condsOk] | simp [condsOk] | simp_all [condsOk])) | (apply s_pick; decide; (solve | (simp only [go_sem, hc]; try rfl)); (solve | (simp only [go_sem, hc]; try rfl)); (solve | (simp only [go_sem, hc]; try rfl)); (solve | (simp only [go_sem, hc]; try rfl)); (solve | (simp only [go_sem, hc]; try rfl)); (solve | (simp only [go_sem, hc]; try rfl)); (solve | trivial | simp only [condsOk] | simp [condsOk] | simp_all [condsOk]); (solve | trivial | simp only [condsOk] | simp [condsOk] | simp_all [condsOk]); (solve | trivial | simp only [condsOk] | simp [condsOk] | simp_all [condsOk])) | (apply s_call; decide; (solve | (simp only [go_sem, hc]; try rfl)); (solve | (simp only [go_sem, hc]; try rfl)); (first | (apply cutPrefix_c) | (apply cut_c _ _ hr) | (apply local_c) | (apply server_c))) | (apply s_gpure; decide; (solve | (simp only [go_sem, hc]; try rfl)); (solve | (simp only [go_sem, hc]; try rfl)); (solve | (simp only [go_sem, hc]; try rfl)); (solve | trivial | simp only [condsOk] | simp [condsOk] | simp_all [condsOk]); (solve | (simp only [go_sem, hc]; try rfl)); (solve | (simp only [go_sem, hc]; try rfl)); (first | (apply cutPrefix_c) | (apply cut_c _ _ hr) | (apply local_c) | (apply server_c)); exact ⟨rfl, rfl⟩)))
  refine cond_split (by simp only [go_sem]; try rfl) (fun hd => ?_) (fun hd => ?_)
  · (repeat' (first | (refine AWp_seq_k (fun K hK => ?_)) | (apply s_region) | (apply s_q; decide; rfl; (solve | (simp only [go_sem]; try rfl))) | (apply s_nil; try simp only [AThen, ABlock]; try (first | (refine hK _ _ ?_; clear hK K) | (clear hK K; refine hK _ _ ?_; clear hK K) | (clear hK K; clear hK K; refine hK _ _ ?_; clear hK K))) | (apply AWp_skip; try simp only [AThen, ABlock]; try (first | (refine hK _ _ ?_; clear hK K) | (clear hK K; refine hK _ _ ?_; clear hK K) | (clear hK K; clear hK K; refine hK _ _ ?_; clear hK K))) | (apply AWp_ret; try simp only [AThen, ABlock]; apply end_ret; rfl; try simp only [AFr.get, reduceIte, Nat.reduceEqDiff]) | (apply s_spec; decide; rfl; rfl; (solve | (simp only [go_sem]; try rfl)); (solve | (simp only [go_sem]; try rfl)); (solve | (simp only [go_sem]; try rfl)); (solve | (simp only [go_sem]; try rfl)); (solve | trivial | simp only [condsOk] | simp [condsOk] | simp_all [condsOk])) | (apply s_pick; decide; (solve | (simp only [go_sem]; try rfl)); (solve | (simp only [go_sem]; try rfl)); (solve | (simp only [go_sem]; try rfl)); (solve | (simp only [go_sem]; try rfl)); (solve | (simp only [go_sem]; try rfl)); (solve | (simp only [go_sem]; try rfl)); (solve | trivial | simp only [condsOk] | simp [condsOk] | simp_all [condsOk]); (solve | trivial | simp only [condsOk] | simp [condsOk] | simp_all [condsOk]); (solve | trivial | simp only [condsOk] | simp [condsOk] | simp_all [condsOk]))))
    have e : idCut sign l = none := by
      unfold idCut
      simp only [hc]
      cases h1 : hasPre l sign <;> cases c3 <;> cases h2 : isLocal c1 <;> cases h3 : isServer c2 <;> simp_all
    unfold idParts at h
    rw [e] at h
    exact h
  · (repeat' (first | (refine AWp_seq_k (fun K hK => ?_)) | (apply s_region) | (apply s_q; decide; rfl; (solve | (simp only [go_sem]; try rfl))) | (apply s_nil; try simp only [AThen, ABlock]; try (first | (refine hK _ _ ?_; clear hK K) | (clear hK K; refine hK _ _ ?_; clear hK K) | (clear hK K; clear hK K; refine hK _ _ ?_; clear hK K))) | (apply AWp_skip; try simp only [AThen, ABlock]; try (first | (refine hK _ _ ?_; clear hK K) | (clear hK K; refine hK _ _ ?_; clear hK K) | (clear hK K; clear hK K; refine hK _ _ ?_; clear hK K))) | (apply AWp_ret; try simp only [AThen, ABlock]; apply end_ret; rfl; try simp only [AFr.get, reduceIte, Nat.reduceEqDiff]) | (apply s_spec; decide; rfl; rfl; (solve | (simp only [go_sem]; try rfl)); (solve | (simp only [go_sem]; try rfl)); (solve | (simp only [go_sem]; try rfl)); (solve | (simp only [go_sem]; try rfl)); (solve | trivial | simp only [condsOk] | simp [condsOk] | simp_all [condsOk])) | (apply s_pick; decide; (solve | (simp only [go_sem]; try rfl)); (solve | (simp only [go_sem]; try rfl)); (solve | (simp only [go_sem]; try rfl)); (solve | (simp only [go_sem]; try rfl)); (solve | (simp only [go_sem]; try rfl)); (solve | (simp only [go_sem]; try rfl)); (solve | trivial | simp only [condsOk] | simp [condsOk] | simp_all [condsOk]); (solve | trivial | simp only [condsOk] | simp [condsOk] | simp_all [condsOk]); (solve | trivial | simp only [condsOk] | simp [condsOk] | simp_all [condsOk]))))
    have e : idCut sign l = some (c1, c2) := by
      unfold idCut
      simp only [hc]
      cases h1 : hasPre l sign <;> cases c3 <;> cases h2 : isLocal c1 <;> cases h3 : isServer c2 <;> simp_all
    unfold idParts at h
    rw [e] at h
    exact h
def userOf (l : List UInt8) : Option (List UInt8 × List UInt8) := idCut [64] l
theorem user_c (l : List UInt8) (hl : l.length < 4294967281) (H : AHeap) (K : AV → AHeap → Prop) (h : K (idParts [64] l) H) : ACall X 27 [.s l] H K := by
  obtain ⟨a, b, c, e⟩ : ∃ a b c, idParts [64] l = .tup [.s a, .s b, .v (.bool c)] := by
    unfold idParts; split <;> exact ⟨_, _, _, rfl⟩
  refine ACall_intro Try.func27 rfl (by kernel_rfl) (by rw [Try.ntmps27]; simp) ?_; rw [Try.ntmps27]; simp only [frame0, Nat.reduceAdd]
  (repeat' (first | (refine AWp_seq_k (fun K hK => ?_)) | (apply s_region) | (apply s_q; decide; rfl; (solve | (simp only [go_sem, e]; try rfl))) | (apply s_nil; try simp only [AThen, ABlock]; try (first | (refine hK _ _ ?_; clear hK K) | (clear hK K; refine hK _ _ ?_; clear hK K) | (clear hK K; clear hK K; refine hK _ _ ?_; clear hK K))) | (apply AWp_ret; try simp only [AThen, ABlock]; apply end_ret; rfl; try simp only [AFr.get, reduceIte, Nat.reduceEqDiff]) | (apply s_call; decide; (solve | (simp only [go_sem, e]; try rfl)); (solve | (simp only [go_sem, e]; try rfl)); apply idcut_c _ _ hl)))
  rw [e] at h; exact h

theorem made_c (b m : Nat) (H : AHeap) (hb : H.get b = some (.box 56 [.v (.map (some m))])) (K : AV → AHeap → Prop) (h : K (.v (.bool true)) H) : ACall X 25 [.v (.pointer (some ⟨b, 0, none⟩))] H K := by
  refine ACall_intro Try.func25 rfl (by kernel_rfl) (by rw [Try.ntmps25]; simp) ?_; rw [Try.ntmps25]; simp only [frame0, Nat.reduceAdd]
  (repeat' (first | (refine AWp_seq_k (fun K hK => ?_)) | (apply s_region) | (apply s_q; decide; rfl; (solve | (simp only [go_sem, hb]; try rfl))) | (apply s_nil; try simp only [AThen, ABlock]; try (first | (refine hK _ _ ?_; clear hK K) | (clear hK K; refine hK _ _ ?_; clear hK K) | (clear hK K; clear hK K; refine hK _ _ ?_; clear hK K))) | (apply AWp_ret; try simp only [AThen, ABlock]; apply end_ret; rfl; try simp only [AFr.get, reduceIte, Nat.reduceEqDiff]) | (apply s_spec; decide; rfl; rfl; (solve | (simp only [go_sem, hb]; try rfl)); (solve | (simp only [go_sem, hb]; try rfl)); (solve | (simp only [go_sem, hb]; try rfl)); (solve | (simp only [go_sem, hb]; try rfl)); (solve | trivial | simp only [condsOk] | simp [condsOk] | simp_all [condsOk])) | (apply s_pick; decide; (solve | (simp only [go_sem, hb]; try rfl)); (solve | (simp only [go_sem, hb]; try rfl)); (solve | (simp only [go_sem, hb]; try rfl)); (solve | (simp only [go_sem, hb]; try rfl)); (solve | (simp only [go_sem, hb]; try rfl)); (solve | (simp only [go_sem, hb]; try rfl)); (solve | trivial | simp only [condsOk] | simp [condsOk] | simp_all [condsOk]); (solve | trivial | simp only [condsOk] | simp [condsOk] | simp_all [condsOk]); (solve | trivial | simp only [condsOk] | simp [condsOk] | simp_all [condsOk]))))
  exact h
theorem new_c (H : AHeap) (K : AV → AHeap → Prop) (h : ∀ m b, H.get m = none → (H.put m (.smap [])).get b = none → K (.v (.pointer (some ⟨b, 0, none⟩))) ((H.put m (.smap [])).put b (.box 56 [.v (.map (some m))]))) : ACall X 17 [] H K := by
  refine ACall_intro Try.func17 rfl (by kernel_rfl) (by rw [Try.ntmps17]; simp) ?_; rw [Try.ntmps17]; simp only [frame0, Nat.reduceAdd]
  (repeat' (first | (refine AWp_seq_k (fun K hK => ?_)) | (apply s_region) | (apply s_q; decide; rfl; (solve | (simp only [go_sem]; try rfl))) | (apply s_nil; try simp only [AThen, ABlock]; try (first | (refine hK _ _ ?_; clear hK K) | (clear hK K; refine hK _ _ ?_; clear hK K) | (clear hK K; clear hK K; refine hK _ _ ?_; clear hK K))) | (apply AWp_ret; try simp only [AThen, ABlock]; apply end_ret; rfl; try simp only [AFr.get, reduceIte, Nat.reduceEqDiff]) | (apply s_box; decide; (solve | (simp only [go_sem]; try rfl)); (solve | (simp only [go_sem]; try rfl)); intro b hb) | (apply s_smap; decide; exact mp_54; intro b hb)))
  exact h _ _ ‹_› ‹_›
end Go.Proofs.Ytpdfgmedbphmkaa
