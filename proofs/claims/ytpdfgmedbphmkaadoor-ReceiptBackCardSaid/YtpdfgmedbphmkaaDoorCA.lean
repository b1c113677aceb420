/-
  Canonical JSON: which names may stand in one map, which value has what its kind has. Contracts, given one for utf8.ValidString.
-/
import Derived.Test.YtpdfgmedbphmkaaDoorIdent
import Derived.Test.YtpdfgmedbphmkaaDoorAL4
set_option linter.unusedSimpArgs false
set_option linter.unusedVariables false
set_option maxRecDepth 100000
namespace Go.Proofs.YtpdfgmedbphmkaaDoor
open Go Go.AL
attribute [local irreducible] AOps AWp SOps AE AT ACall AApp

def ValidC (V : List UInt8 → Bool) : Prop := ∀ (l : List UInt8) (H : AHeap) (K : AV → AHeap → Prop), l.length ≤ 9223372036854775807 → K (.v (.bool (V l))) H → ACall X 43 [.s l] H K
def seenMap (ks : List (List UInt8)) : List (List UInt8 × AV) := ks.map fun k => (k, .v (.bool true))
theorem kfind_seen (k : List UInt8) : ∀ ks : List (List UInt8), kfind k (seenMap ks) = if k ∈ ks then some (.v (.bool true)) else none
  | [] => rfl
  | a :: ks => by
    have ih := kfind_seen k ks
    simp only [seenMap, List.map_cons, kfind, List.mem_cons] at ih ⊢
    by_cases e : a = k
    · subst e; simp
    · rw [if_neg e, ih]
      have : ¬ k = a := fun h => e h.symm
      simp [this]
theorem kput_seen {k : List UInt8} : ∀ {ks : List (List UInt8)}, k ∉ ks → kput k (.v (.bool true)) (seenMap ks) = seenMap (ks ++ [k])
  | [], _ => rfl
  | a :: ks, h => by
    have ih := kput_seen (k := k) (ks := ks) (fun hm => h (by simp [hm]))
    have e : ¬ a = k := fun e => h (by simp [e])
    simp only [seenMap, List.map_cons, kput, List.cons_append] at ih ⊢
    rw [if_neg e, ih]
theorem named_c {V : List UInt8 → Bool} (hV : ValidC V) (t : Bool) (ks : List (List UInt8)) (hl : ks.length ≤ 4611686018427387904) (hkl : ∀ x ∈ ks, x.length ≤ 9223372036854775807) (H : AHeap) (Kc : AV → AHeap → Prop) (h : Kc (.v (.bool (namedB V ks))) H) : ACall X 44 [.sl t (ks.map strCells)] H Kc := by
  refine ACall.drop ?_
  refine ACall_intro Tryd.func44 rfl (by kernel_rfl) (by rw [Tryd.ntmps44]; simp) ?_; rw [Tryd.ntmps44]; simp only [frame0, Nat.reduceAdd]
  (refine AWp_seq_k (fun K hK => ?_); apply s_region; apply s_q; decide; rfl; (simp only [go_sem]; rfl); apply s_nil; simp only [AThen, ABlock]; refine hK _ _ ?_; clear hK K; refine AWp_seq_k (fun K hK => ?_); apply s_region; apply s_smap; decide; exact mp_89; intro b hb; apply s_q; decide; rfl; (simp only [go_sem]; rfl); apply s_nil; simp only [AThen, ABlock]; refine hK _ _ ?_; clear hK K; (iterate 2 (refine AWp_seq_k (fun K hK => ?_))); apply s_region; (iterate 3 (apply s_q; decide; rfl; (simp only [go_sem]; rfl))); apply s_nil; simp only [AThen, ABlock]; refine hK _ _ ?_; clear hK K; apply AWp_block)
  obtain ⟨s, rfl⟩ : ∃ s, s = b := ⟨_, rfl⟩
  have hs := hb
  clear hb
  refine AWp_loop_s (σ := Nat) [3, 7, 8, 9] (fun i => [.v (.map (some s)), .sl t (ks.map strCells), .v (.int .i64 ks.length), .v (.int .i64 i)]) (fun i => H.put s (.smap (seenMap (ks.take i)))) (fun i => ks.length - i) (fun i => i ≤ ks.length ∧ (ks.take i).Nodup ∧ (ks.take i).all V = true) 0 ⟨Nat.zero_le _, by simp, rfl⟩ rfl rfl (fun i hi => ?_)
  simp only [List.zip_cons_cons, List.zip_nil_right]
  have hg := AHeap.get_put_same s (.smap (seenMap (ks.take i))) H
  (refine AWp_seq_k (fun K hK => ?_); apply s_region; apply s_q; decide; rfl; (simp only [go_sem]; rfl); apply s_nil; simp only [AThen, ABlock]; refine hK _ _ ?_; clear hK K; refine AWp_seq_k (fun K hK => ?_))
  refine cond_split (by simp only [go_sem]; try rfl) (fun hd => ?_) (fun hd => ?_)
  · have hlt : i < ks.length := by simpa using hd
    obtain ⟨k, hm⟩ : ∃ a, ks[i]? = some a := ⟨_, List.getElem?_eq_getElem hlt⟩
    have hgk : (ks.map strCells)[i]? = some [.s k] := by rw [List.getElem?_map, hm]; rfl
    have hkf := kfind_seen k (ks.take i)
    have hk1 := hkl k (List.mem_of_getElem? hm)
    by_cases hin : k ∈ ks.take i
    · rw [if_pos hin] at hkf
      (apply AWp_skip; simp only [AThen, ABlock]; refine hK _ _ ?_; clear hK K; refine AWp_seq_k (fun K hK => ?_); apply AWp_block; refine AWp_seq_k (fun K hK => ?_); apply s_region; (iterate 3 (apply s_q; decide; rfl; (simp only [go_sem, hgk, hg, hkf]; rfl))); apply s_nil; simp only [AThen, ABlock]; refine hK _ _ ?_; clear hK K; (iterate 2 (refine AWp_seq_k (fun K hK => ?_))); apply s_region; (iterate 4 (apply s_q; decide; rfl; (simp only [go_sem, hgk, hg, hkf]; rfl))); apply s_spec; decide; rfl; rfl; (simp only [go_sem, hgk, hg, hkf]; rfl); (simp only [go_sem, hgk, hg, hkf]; rfl); (simp only [go_sem, hgk, hg, hkf]; rfl); (simp only [go_sem, hgk, hg, hkf]; rfl); trivial; apply s_gpure; decide; (simp only [go_sem, hgk, hg, hkf]; rfl); (simp only [go_sem, hgk, hg, hkf]; rfl); (simp only [go_sem, hgk, hg, hkf]; rfl); trivial; (simp only [go_sem, hgk, hg, hkf]; rfl); (simp only [go_sem, hgk, hg, hkf]; rfl); (apply hV _ _ _ hk1; exact ⟨rfl, rfl⟩); apply s_spec; decide; rfl; rfl; (simp only [go_sem, hgk, hg, hkf]; rfl); (simp only [go_sem, hgk, hg, hkf]; rfl); (simp only [go_sem, hgk, hg, hkf]; rfl); (simp only [go_sem, hgk, hg, hkf]; rfl); trivial; apply s_pick; decide; (simp only [go_sem, hgk, hg, hkf]; rfl); (simp only [go_sem, hgk, hg, hkf]; rfl); (simp only [go_sem, hgk, hg, hkf]; rfl); (simp only [go_sem, hgk, hg, hkf]; rfl); (simp only [go_sem, hgk, hg, hkf]; rfl); (simp only [go_sem, hgk, hg, hkf]; rfl); trivial; trivial; trivial; apply s_nil; simp only [AThen, ABlock]; refine hK _ _ ?_; clear hK K)
      refine cond_split (by simp only [go_sem]; try rfl) (fun hq => ?_) (fun hq => ?_)
      · (refine AWp_seq_k (fun K hK => ?_); apply s_region; apply s_q; decide; rfl; (simp only [go_sem]; rfl); apply s_nil; simp only [AThen, ABlock]; refine hK _ _ ?_; clear hK K; apply AWp_ret; simp only [AThen, ABlock]; apply end_ret; rfl; simp only [AFr.get, reduceIte, Nat.reduceEqDiff])
        refine ⟨H, Ext.fresh hs, finB h ?_⟩
        have : ¬ ks.Nodup := fun hn => by
          have h2 : (ks.take (i + 1)).Nodup := hn.sublist (List.take_sublist _ _)
          rw [List.take_add_one, hm] at h2
          have h3 := (List.nodup_append.1 h2).2.2 k hin k (by simp)
          exact h3 rfl
        rw [namedB, decide_eq_false this]; rfl
      · simp at hq
    · rw [if_neg hin] at hkf
      (apply AWp_skip; simp only [AThen, ABlock]; refine hK _ _ ?_; clear hK K; refine AWp_seq_k (fun K hK => ?_); apply AWp_block; refine AWp_seq_k (fun K hK => ?_); apply s_region; (iterate 3 (apply s_q; decide; rfl; (simp only [go_sem, hgk, hg, hkf]; rfl))); apply s_nil; simp only [AThen, ABlock]; refine hK _ _ ?_; clear hK K; (iterate 2 (refine AWp_seq_k (fun K hK => ?_))); apply s_region; (iterate 4 (apply s_q; decide; rfl; (simp only [go_sem, hgk, hg, hkf]; rfl))); apply s_spec; decide; rfl; rfl; (simp only [go_sem, hgk, hg, hkf]; rfl); (simp only [go_sem, hgk, hg, hkf]; rfl); (simp only [go_sem, hgk, hg, hkf]; rfl); (simp only [go_sem, hgk, hg, hkf]; rfl); trivial; apply s_gpure; decide; (simp only [go_sem, hgk, hg, hkf]; rfl); (simp only [go_sem, hgk, hg, hkf]; rfl); (simp only [go_sem, hgk, hg, hkf]; rfl); trivial; (simp only [go_sem, hgk, hg, hkf]; rfl); (simp only [go_sem, hgk, hg, hkf]; rfl); (apply hV _ _ _ hk1; exact ⟨rfl, rfl⟩); apply s_spec; decide; rfl; rfl; (simp only [go_sem, hgk, hg, hkf]; rfl); (simp only [go_sem, hgk, hg, hkf]; rfl); (simp only [go_sem, hgk, hg, hkf]; rfl); (simp only [go_sem, hgk, hg, hkf]; rfl); trivial; apply s_pick; decide; (simp only [go_sem, hgk, hg, hkf]; rfl); (simp only [go_sem, hgk, hg, hkf]; rfl); (simp only [go_sem, hgk, hg, hkf]; rfl); (simp only [go_sem, hgk, hg, hkf]; rfl); (simp only [go_sem, hgk, hg, hkf]; rfl); (simp only [go_sem, hgk, hg, hkf]; rfl); trivial; trivial; trivial; apply s_nil; simp only [AThen, ABlock]; refine hK _ _ ?_; clear hK K)
      refine cond_split (by simp only [go_sem]; try rfl) (fun hq => ?_) (fun hq => ?_)
      · (refine AWp_seq_k (fun K hK => ?_); apply s_region; apply s_q; decide; rfl; (simp only [go_sem]; rfl); apply s_nil; simp only [AThen, ABlock]; refine hK _ _ ?_; clear hK K; apply AWp_ret; simp only [AThen, ABlock]; apply end_ret; rfl; simp only [AFr.get, reduceIte, Nat.reduceEqDiff])
        refine ⟨H, Ext.fresh hs, finB h ?_⟩
        rw [namedB, not_all hm (by simpa using hq), Bool.and_false]
      · have hv : V k = true := by simpa using hq
        have hkp := kput_seen hin
        (apply AWp_skip; simp only [AThen, ABlock]; refine hK _ _ ?_; clear hK K; apply s_region; (iterate 2 (apply s_q; decide; rfl; (simp only [go_sem, hg, hkp]; rfl))); apply s_mapput; (simp only [go_sem, hg, hkp]; rfl); (simp only [go_sem, hg, hkp]; rfl); (simp only [go_sem, hg, hkp]; rfl); (simp only [go_sem, hg, hkp]; rfl); apply s_nil; simp only [AThen, ABlock]; refine hK _ _ ?_; clear hK K; apply s_region; (iterate 2 (apply s_q; decide; rfl; (simp only [go_sem, hg, hkp]; rfl))); apply s_nil; simp only [AThen, ABlock])
        refine ⟨i + 1, by omega, ⟨by omega, ?_, ?_⟩, ?_, ?_⟩
        · rw [List.take_add_one, hm]
          refine List.nodup_append.2 ⟨hi.2.1, by simp, fun a ha c hc => ?_⟩
          simp at hc; subst hc
          rintro rfl; exact hin ha
        · rw [all_take hm hi.2.2]; exact hv
        · simp only [getAll, List.map_cons, List.map_nil, AFr.get, reduceIte, Nat.reduceEqDiff]
          rw [wrapS hlt (by omega)]; try rfl
        · rw [List.take_add_one, hm]; try rfl
  · have hge : ks.length ≤ i := by simpa using hd
    (apply AWp_exit; simp only [AThen, ABlock, reduceIte, Nat.reduceEqDiff]; clear hK K; refine hK _ _ ?_; clear hK K; refine AWp_seq_k (fun K hK => ?_); apply s_region; apply s_q; decide; rfl; (simp only [go_sem]; rfl); apply s_nil; simp only [AThen, ABlock]; refine hK _ _ ?_; clear hK K; apply AWp_ret)
    refine ⟨H, Ext.fresh hs, finB h ?_⟩
    have h1 := hi.2.1
    have h2 := hi.2.2
    rw [List.take_of_length_le hge] at h1 h2
    rw [namedB, decide_eq_true h1, h2]; rfl
end Go.Proofs.YtpdfgmedbphmkaaDoor
