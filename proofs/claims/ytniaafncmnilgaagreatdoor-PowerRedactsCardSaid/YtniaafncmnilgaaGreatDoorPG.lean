/-
  Power: Parse. Contracts.
-/
import Derived.Test.YtniaafncmnilgaaGreatDoorPF
set_option linter.unusedSimpArgs false
set_option linter.unusedVariables false
set_option maxRecDepth 100000
namespace Go.Proofs.YtniaafncmnilgaaGreatDoor
open Go Go.AL
attribute [local irreducible] AOps AWp SOps AE AT ACall AApp

def isUserB (l : List UInt8) : Bool := match idCut [64] l with | some _ => true | none => false
theorem puserB_c (l : List UInt8) (hl : l.length < 4294967281) (H : AHeap) (K : AV → AHeap → Prop) (h : K (.v (.bool (isUserB l))) H) : ACall X 17 [.s l] H K := by
  obtain ⟨a, b, c, e, e2⟩ : ∃ a b c, idParts [64] l = .tup [.s a, .s b, .v (.bool c)] ∧ isUserB l = c := by
    rw [idParts, isUserB]
    cases idCut [64] l with
    | none => exact ⟨_, _, _, rfl, rfl⟩
    | some p => exact ⟨_, _, _, rfl, rfl⟩
  rw [e2] at h
  refine ACall_intro Tryz.func17 rfl (by kernel_rfl) (by rw [Tryz.ntmps17]; simp) ?_; rw [Tryz.ntmps17]; simp only [frame0, Nat.reduceAdd]
  (refine AWp_seq_k (fun K hK => ?_); apply s_region; apply s_q; decide; rfl; (simp only [go_sem]; rfl); apply s_nil; simp only [AThen, ABlock]; refine hK _ _ ?_; clear hK K; refine AWp_seq_k (fun K hK => ?_); apply s_region; apply s_q; decide; rfl; (simp only [go_sem]; rfl); apply s_call; decide; (simp only [go_sem]; rfl); (simp only [go_sem]; rfl); apply user_c l hl; apply s_q; decide; rfl; (simp only [go_sem]; rfl))
  rw [e]
  ((iterate 6 (apply s_q; decide; rfl; (simp only [go_sem]; rfl))); apply s_nil; simp only [AThen, ABlock]; refine hK _ _ ?_; clear hK K; refine AWp_seq_k (fun K hK => ?_); apply s_region; (iterate 2 (apply s_q; decide; rfl; (simp only [go_sem]; rfl))); apply s_nil; simp only [AThen, ABlock]; refine hK _ _ ?_; clear hK K; apply AWp_ret)
  exact h

/-- a content's values -/
def kvE (l : List (List UInt8 × J)) : List (List UInt8 × AV) := l.foldl (fun es p => kput p.1 (.agg p.2.cells) es) []
def jlast (l : List (List UInt8 × J)) (k : List UInt8) : Option J := l.foldl (fun o p => if p.1 = k then some p.2 else o) none
theorem kv_find (k : List UInt8) : ∀ (l : List (List UInt8 × J)) (es : List (List UInt8 × AV)) (o : Option J), kfind k es = o.map (fun x => AV.agg x.cells) →
    kfind k (l.foldl (fun es p => kput p.1 (.agg p.2.cells) es) es) = (l.foldl (fun o p => if p.1 = k then some p.2 else o) o).map fun x => AV.agg x.cells
  | [], es, o, h => h
  | p :: l, es, o, h => by
    simp only [List.foldl_cons]
    refine kv_find k l _ _ ?_
    rw [kfind_kput, h]
    split <;> rfl
theorem kvE_find (k : List UInt8) (l : List (List UInt8 × J)) : kfind k (kvE l) = (jlast l k).map fun x => AV.agg x.cells := kv_find k l [] none rfl
theorem jlast_mem {k : List UInt8} : ∀ {l : List (List UInt8 × J)} {o : Option J} {j : J}, l.foldl (fun o p => if p.1 = k then some p.2 else o) o = some j → o = some j ∨ ∃ p ∈ l, p.2 = j
  | [], o, j, h => .inl h
  | p :: l, o, j, h => by
    rcases jlast_mem (l := l) h with h | ⟨q, hq, e⟩
    · dsimp only at h
      split at h
      · cases h; exact .inr ⟨p, by simp, rfl⟩
      · exact .inl h
    · exact .inr ⟨q, by simp [hq], e⟩
def lv0 : Lv := ⟨0, 0, 0, 0, 0, 0, 0, [], []⟩
def lvOf (g : List UInt8 → Option J) : Option Lv :=
  let b1 := numB (g ([98, 97, 110] : List UInt8)) false
  let b2 := numB (g ([107, 105, 99, 107] : List UInt8)) b1
  let b3 := numB (g ([105, 110, 118, 105, 116, 101] : List UInt8)) b2
  let b4 := numB (g ([114, 101, 100, 97, 99, 116] : List UInt8)) b3
  let b5 := numB (g ([115, 116, 97, 116, 101, 95, 100, 101, 102, 97, 117, 108, 116] : List UInt8)) b4
  let b6 := numB (g ([101, 118, 101, 110, 116, 115, 95, 100, 101, 102, 97, 117, 108, 116] : List UInt8)) b5
  let b7 := numB (g ([117, 115, 101, 114, 115, 95, 100, 101, 102, 97, 117, 108, 116] : List UInt8)) b6
  let b8 := namesBad isUserB (g ([117, 115, 101, 114, 115] : List UInt8)) b7
  let b9 := namesBad isType (g ([101, 118, 101, 110, 116, 115] : List UInt8)) b8
  if b9 = true then none else some ⟨numR (g ([98, 97, 110] : List UInt8)) 50, numR (g ([107, 105, 99, 107] : List UInt8)) 50, numR (g ([105, 110, 118, 105, 116, 101] : List UInt8)) 0, numR (g ([114, 101, 100, 97, 99, 116] : List UInt8)) 50,
    numR (g ([115, 116, 97, 116, 101, 95, 100, 101, 102, 97, 117, 108, 116] : List UInt8)) 50, numR (g ([101, 118, 101, 110, 116, 115, 95, 100, 101, 102, 97, 117, 108, 116] : List UInt8)) 0, numR (g ([117, 115, 101, 114, 115, 95, 100, 101, 102, 97, 117, 108, 116] : List UInt8)) 0,
    namesR (g ([117, 115, 101, 114, 115] : List UInt8)), namesR (g ([101, 118, 101, 110, 116, 115] : List UInt8))⟩
def lvParse (j : J) : Option Lv := if j.kind = 5 then (if goodB 12 j = true then lvOf (jlast (j.ord.keys.zip j.ord.list)) else none) else none
def lvRes (o : Option Lv) : AV := match o with | some l => .tup [.agg l.cells, .v (.int .i64 0)] | none => .tup [.agg lv0.cells, .v (.int .i64 1)]

theorem ord_keys {n : Nat} {y : J} (hg : goodB n y = true) (hf : y.Fit) (hk : ∀ k ∈ y.keys, k.length < 4294967281) : (y.ord.keys.length ≤ 1000000000 ∧ y.ord.keys.length ≤ y.ord.list.length) ∧ ∀ k ∈ y.ord.keys, k.length < 4294967281 := by
  obtain ⟨⟨f1, f2⟩, f3, f4, f5⟩ := fit_eq.1 hf
  rw [ord_eq]
  split
  · refine ⟨⟨by simpa [J.keys, places_len] using f1, by simp [J.keys, J.list]⟩, fun k hkm => ?_⟩
    simp only [J.keys, List.mem_map] at hkm
    obtain ⟨i, hi, rfl⟩ := hkm
    have hlt := places_lt hi
    rw [List.getD_eq_getElem?_getD, List.getElem?_eq_getElem hlt]
    exact hk _ (List.getElem_mem hlt)
  · exact ⟨⟨by simp [J.keys], by simp [J.keys]⟩, fun k hkm => by simp [J.keys] at hkm⟩
theorem ord_list {j : J} (h5 : j.kind = 5) (hl : j.keys.length = j.list.length) {x : J} (hx : x ∈ j.ord.list) : ∃ y ∈ j.list, x = y.ord := by
  rw [ord_eq, if_pos h5] at hx
  simp only [J.list, List.mem_map] at hx
  obtain ⟨i, hi, rfl⟩ := hx
  have hlt := places_lt hi
  rw [hl] at hlt
  refine ⟨j.list[i], List.getElem_mem hlt, ?_⟩
  show (j.list.map J.ord).getD i (.mk 0 0 [] [] []) = _
  rw [List.getD_eq_getElem?_getD, List.getElem?_map, List.getElem?_eq_getElem hlt]; rfl
theorem zc_levels : zC X.P 29 = some [.v (.int .i64 0), .v (.int .i64 0), .v (.int .i64 0), .v (.int .i64 0), .v (.int .i64 0), .v (.int .i64 0), .v (.int .i64 0), .sl true [], .sl true []] := zc_29
abbrev lvz : AObj := .box 29 [.v (.int .i64 0), .v (.int .i64 0), .v (.int .i64 0), .v (.int .i64 0), .v (.int .i64 0), .v (.int .i64 0), .v (.int .i64 0), .sl true [], .sl true []]
set_option maxHeartbeats 4000000 in
theorem parse_c (j : J) (hf : J.Fit j) (hs : (∀ k ∈ j.keys, k.length < 4294967281) ∧ ∀ x ∈ j.list, ∀ k ∈ x.keys, k.length < 4294967281) (H : AHeap) (Kc : AV → AHeap → Prop) (h : Kc (lvRes (lvParse j)) H) : ACall X 6 [.agg j.cells] H Kc := by
  refine ACall.post ?_
  rw [J.cells_eq]
  refine ACall_intro Tryz.func6 rfl (by kernel_rfl) (by rw [Tryz.ntmps6]; simp) ?_; rw [Tryz.ntmps6]; simp only [frame0, Nat.reduceAdd]
  refine AWp_seq_k (fun K hK => ?_); apply s_region
  apply s_box; decide; exact (by simp only [go_sem]; try rfl); exact (by simp only [go_sem]; try rfl); intro p hp
  apply s_alloc; decide; exact zc_levels; intro r hr
  (apply s_q; decide; rfl; (simp only [go_sem]; rfl); apply s_nil; simp only [AThen, ABlock]; refine hK _ _ ?_; clear hK K; (iterate 2 (refine AWp_seq_k (fun K hK => ?_))); apply s_region; apply s_q; decide; rfl; (simp only [go_sem]; rfl))
  have g1 := get_fresh (AHeap.get_put_same p (jbox j.kind j.int j.text (.sl false (j.keys.map strCells)) (.sl false (j.list.map J.cells))) H) hr (x := lvz)
  have g2 := AHeap.get_put_same r lvz (H.put p (jbox j.kind j.int j.text (.sl false (j.keys.map strCells)) (.sl false (j.list.map J.cells))))
  have hE := (Ext.fresh hp (o := jbox j.kind j.int j.text (.sl false (j.keys.map strCells)) (.sl false (j.list.map J.cells)))).put hr (ob := lvz)
  have hHr : H.get r = none := none_fresh hr
  have hpr := get_ne_fresh (AHeap.get_put_same p (jbox j.kind j.int j.text (.sl false (j.keys.map strCells)) (.sl false (j.list.map J.cells))) H) hr
  generalize (H.put p (jbox j.kind j.int j.text (.sl false (j.keys.map strCells)) (.sl false (j.list.map J.cells)))).put r lvz = M at g1 g2 hE ⊢
  ((iterate 3 (apply s_q; decide; rfl; (simp only [go_sem, g1]; rfl))); apply s_spec; decide; rfl; rfl; (simp only [go_sem, g1]; rfl); (simp only [go_sem, g1]; rfl); (simp only [go_sem, g1]; rfl); (simp only [go_sem, g1]; rfl); trivial; apply s_gpure; decide; (simp only [go_sem, g1]; rfl); (simp only [go_sem, g1]; rfl); (simp only [go_sem, g1]; rfl); simp [condsOk]; (simp only [go_sem, g1]; rfl); (simp only [go_sem, g1]; rfl); (refine ACall.args_eq (bs := [.agg j.cells]) ?_ ?_; (focus (rw [J.cells_eq j]; done)); apply Good_c j _ _ hf; exact ⟨rfl, rfl⟩); apply s_spec; decide; rfl; rfl; (simp only [go_sem, g1]; rfl); (simp only [go_sem, g1]; rfl); (simp only [go_sem, g1]; rfl); (simp only [go_sem, g1]; rfl); simp [condsOk]; apply s_pick; decide; (simp only [go_sem, g1]; rfl); (simp only [go_sem, g1]; rfl); (simp only [go_sem, g1]; rfl); (simp only [go_sem, g1]; rfl); (simp only [go_sem, g1]; rfl); (simp only [go_sem, g1]; rfl); trivial; trivial; simp [condsOk]; apply s_nil; simp only [AThen, ABlock]; refine hK _ _ ?_; clear hK K)
  refine cond_split (by simp only [go_sem]; try rfl) (fun hc => ?_) (fun hc => ?_)
  · have hn : lvParse j = none := by
      rw [lvParse]
      by_cases h5 : j.kind = 5
      · rw [if_pos h5]
        rw [if_neg (by simpa [h5] using hc)]
      · rw [if_neg h5]
    rw [hn] at h
    (refine AWp_seq_k (fun K hK => ?_); apply s_region; apply s_q; decide; rfl; (simp only [go_sem, zc_levels, g2]; rfl); apply s_store; (simp only [go_sem, zc_levels, g2]; rfl); (simp only [go_sem, zc_levels, g2]; rfl); (simp only [go_sem, zc_levels, g2]; rfl); apply s_q; decide; rfl; (simp only [go_sem, zc_levels, g2]; rfl); apply s_nil; simp only [AThen, ABlock]; refine hK _ _ ?_; clear hK K; apply AWp_ret)
    try simp only [AThen, ABlock]
    refine end_ret (av := .tup [.agg [.v (.int .i64 0), .v (.int .i64 0), .v (.int .i64 0), .v (.int .i64 0), .v (.int .i64 0), .v (.int .i64 0), .v (.int .i64 0), .sl true [], .sl true []], .v (.int .i64 1)]) (by show resAV X.P _ _ [.cell 2 29, .tmp 3] = _; simp only [go_sem]; try rfl) ⟨_, _, Snap.trans Snap.loosen (Snap.drop (hE.over hHr)), h⟩
  have hc' : j.kind = 5 ∧ goodB 12 j = true := by
    by_cases h5 : j.kind = 5
    · refine ⟨h5, ?_⟩; simpa [h5] using hc
    · simp [h5] at hc
  obtain ⟨h5, hg⟩ := hc'
  rw [lvParse, if_pos h5, if_pos hg] at h
  obtain ⟨c, hcc⟩ : ∃ c, c = j.ord := ⟨_, rfl⟩
  rw [← hcc] at h
  have hOrd : ∀ (H : AHeap) (K : AV → AHeap → Prop), K (.agg [.v (.int .i64 c.kind), .v (.int .i64 c.int), .s c.text, .sl false (c.keys.map strCells), .sl false (c.list.map J.cells)]) H → ACall X 14 [.agg j.cells] H K := fun H K hk => Order_c j hf (by rw [if_pos hg, ← hcc, J.cells_eq]; exact hk)
  (apply AWp_skip; simp only [AThen, ABlock]; refine hK _ _ ?_; clear hK K; refine AWp_seq_k (fun K hK => ?_); apply s_region; apply s_q; decide; rfl; (simp only [go_sem, g1]; rfl); apply s_call; decide; (simp only [go_sem, g1]; rfl); (simp only [go_sem, g1]; rfl); refine ACall.args_eq (bs := [.agg j.cells]) ?_ ?_; (focus (rw [J.cells_eq j]; done)); apply hOrd; apply s_store; (simp only [go_sem, g1]; rfl); (simp only [go_sem, g1]; rfl); (simp only [go_sem, g1]; rfl); apply s_nil; simp only [AThen, ABlock]; refine hK _ _ ?_; clear hK K; refine AWp_seq_k (fun K hK => ?_); apply s_region; apply s_smap; decide; exact mp_43; intro b hb; apply s_q; decide; rfl; (simp only [go_sem, g1]; rfl); apply s_box; decide; (simp only [go_sem, g1]; rfl); (simp only [go_sem, g1]; rfl); intro b hb; apply s_q; decide; rfl; (simp only [go_sem, g1]; rfl); apply s_nil; simp only [AThen, ABlock]; refine hK _ _ ?_; clear hK K; (iterate 2 (refine AWp_seq_k (fun K hK => ?_))); apply s_region; apply s_q; decide; rfl; (simp only [go_sem, g1]; rfl))
  rename_i m hm K1 hK1
  obtain ⟨q, hqe⟩ : ∃ q, q = b := ⟨_, rfl⟩
  have hq := hb
  rw [← hqe] at hq ⊢
  clear hb hqe b
  obtain ⟨z, hz⟩ : ∃ z, z = c.keys.zip c.list := ⟨_, rfl⟩
  have hcf := ord_keys hg hf hs.1
  rw [← hcc] at hcf
  have hclen : c.list.length = c.keys.length := by
    rw [hcc, ord_eq, if_pos h5]; simp [J.keys, J.list]
  have k1 := get_fresh (get_fresh (AHeap.get_put_same p (jbox c.kind c.int c.text (.sl false (c.keys.map strCells)) (.sl false (c.list.map J.cells))) M) hm (x := .smap [])) hq (x := cbox m false)
  have k2 := get_fresh (get_fresh (get_other (x := (jbox c.kind c.int c.text (.sl false (c.keys.map strCells)) (.sl false (c.list.map J.cells)))) g2 hpr.symm) hm (x := .smap [])) hq (x := cbox m false)
  have k3 := get_fresh (AHeap.get_put_same m (.smap []) (M.put p (jbox c.kind c.int c.text (.sl false (c.keys.map strCells)) (.sl false (c.list.map J.cells))))) hq (x := cbox m false)
  have k4 := AHeap.get_put_same q (cbox m false) ((M.put p (jbox c.kind c.int c.text (.sl false (c.keys.map strCells)) (.sl false (c.list.map J.cells)))).put m (.smap []))
  have hE1 := ((hE.over (o := (jbox c.kind c.int c.text (.sl false (c.keys.map strCells)) (.sl false (c.list.map J.cells)))) hp).put hm (ob := .smap [])).put hq (ob := cbox m false)
  have hHm : H.get m = none := none_of_ext (hE.over (o := (jbox c.kind c.int c.text (.sl false (c.keys.map strCells)) (.sl false (c.list.map J.cells)))) hp) hm
  have hHq : H.get q = none := none_of_ext ((hE.over (o := (jbox c.kind c.int c.text (.sl false (c.keys.map strCells)) (.sl false (c.list.map J.cells)))) hp).put hm (ob := .smap [])) hq
  have hpm : p ≠ m := get_ne_fresh (AHeap.get_put_same p (jbox c.kind c.int c.text (.sl false (c.keys.map strCells)) (.sl false (c.list.map J.cells))) M) hm
  have hrm : r ≠ m := get_ne_fresh (get_other (x := (jbox c.kind c.int c.text (.sl false (c.keys.map strCells)) (.sl false (c.list.map J.cells)))) g2 hpr.symm) hm
  have hmq : m ≠ q := get_ne_fresh (AHeap.get_put_same m (.smap []) (M.put p (jbox c.kind c.int c.text (.sl false (c.keys.map strCells)) (.sl false (c.list.map J.cells))))) hq
  generalize ((M.put p (jbox c.kind c.int c.text (.sl false (c.keys.map strCells)) (.sl false (c.list.map J.cells)))).put m (.smap [])).put q (cbox m false) = M1 at k1 k2 k3 k4 hE1 ⊢
  clear g1 g2 hE
  ((iterate 3 (apply s_q; decide; rfl; (simp only [go_sem, k1]; rfl))); apply s_nil; simp only [AThen, ABlock]; refine hK _ _ ?_; clear hK K; apply AWp_block)
  refine AWp_loop_s (σ := Nat × AHeap) [1, 2, 3, 4, 23, 24, 25] (fun s => [ptrTo p, ptrTo r, .v (.int .i64 0), ptrTo q, .sl false (c.keys.map strCells), .v (.int .i64 (c.keys.length : Nat)), .v (.int .i64 s.1)]) (fun s => s.2) (fun s => c.keys.length - s.1)
    (fun s => s.1 ≤ c.keys.length ∧ s.2.get p = some (jbox c.kind c.int c.text (.sl false (c.keys.map strCells)) (.sl false (c.list.map J.cells))) ∧ s.2.get r = some lvz ∧ s.2.get m = some (.smap (kvE (z.take s.1))) ∧ s.2.get q = some (cbox m false) ∧ Ext H s.2)
    (0, M1) ⟨Nat.zero_le _, k1, k2, k3, k4, hE1⟩ (by simp only [getAll, List.map_cons, List.map_nil, AFr.get, reduceIte, Nat.reduceEqDiff, List.length_map]; rfl) rfl (fun s hs => ?_)
  obtain ⟨n, L⟩ := s
  obtain ⟨hn, hpL, hrL, hmL, hqL, hEL⟩ := hs
  simp only [List.zip_cons_cons, List.zip_nil_right] at hn hpL hrL hmL hqL hEL ⊢
  clear k1 k2 k3 k4 hE1
  (refine AWp_seq_k (fun K hK => ?_); apply s_region; apply s_q; decide; rfl; (simp only [go_sem]; rfl); apply s_nil; simp only [AThen, ABlock]; refine hK _ _ ?_; clear hK K; refine AWp_seq_k (fun K hK => ?_))
  refine cond_split (by simp only [go_sem]; try rfl) (fun hd => ?_) (fun hd => ?_)
  · have hlt : n < c.keys.length := by simpa using hd
    obtain ⟨ky, hky⟩ := gete hlt
    have hgk := jstr_at hky
    obtain ⟨x, hx⟩ := gete (l := c.list) (i := n) (by omega)
    have hgx := jget_at hx
    have hzn : z[n]? = some (ky, x) := by rw [hz, List.getElem?_zip_eq_some]; exact ⟨hky, hx⟩
    have ht : z.take (n + 1) = z.take n ++ [(ky, x)] := take_succ hzn
    (apply AWp_skip; simp only [AThen, ABlock]; refine hK _ _ ?_; clear hK K; refine AWp_seq_k (fun K hK => ?_); apply AWp_block; refine AWp_seq_k (fun K hK => ?_); apply s_region; (iterate 5 (apply s_q; decide; rfl; (simp only [go_sem, hgk, hqL, hpL]; rfl))); apply s_nil; simp only [AThen, ABlock]; refine hK _ _ ?_; clear hK K)
    apply AWp_drawA [0, 1, 2, 3, 4, 5, 6, 7, 8, 9] [10] 0 (by exact mixed); kernel_rfl; (simp only [go_sem]; rfl); (simp only [go_sem]; rfl)
    ((iterate 10 (apply e_q; decide; (simp only [go_sem, hpL, hqL, hmL, hgx]; rfl))); apply e_nil; apply t_mapput; rfl; (simp only [go_sem, hpL, hqL, hmL, hgx]; rfl); (simp only [go_sem, hpL, hqL, hmL, hgx]; rfl); (simp only [go_sem, hpL, hqL, hmL, hgx]; rfl); (simp only [go_sem, hpL, hqL, hmL, hgx]; rfl); apply t_nil; simp only [AThen, ABlock]; refine hK _ _ ?_; clear hK K; apply s_region; (iterate 2 (apply s_q; decide; rfl; (simp only [go_sem, hpL, hqL, hmL, hgx]; rfl))); apply s_nil; simp only [AThen, ABlock])
    refine ⟨(n + 1, _), by simp only; omega, ⟨by simp only; omega, get_other hpL hpm, get_other hrL hrm, ?_, get_other hqL hmq.symm, hEL.over hHm⟩, ?_, by trivial⟩
    · simp only [ht]
      rw [show kvE (z.take n ++ [(ky, x)]) = kput ky (.agg x.cells) (kvE (z.take n)) by rw [kvE, List.foldl_append]; rfl, J.cells_eq]
      exact AHeap.get_put_same _ _ _
    · simp only [getAll, List.map_cons, List.map_nil, AFr.get, reduceIte, Nat.reduceEqDiff]
      rw [wrapS hlt (by omega)]; try rfl
  · have hge : c.keys.length ≤ n := by simpa using hd
    have htk : z.take n = z := List.take_of_length_le (by rw [hz, List.length_zip]; omega)
    rw [htk] at hmL
    (apply AWp_exit; simp only [AThen, ABlock, reduceIte, Nat.reduceEqDiff])
    refine hK1 _ _ ?_
    have hrq : r ≠ q := by rintro rfl; rw [hrL] at hqL; cases hqL
    have hmm : ∀ b, (L.put q (cbox m b)).get m = some (.smap (kvE z)) := fun b => get_other hmL hmq
    have hL : L = L.put q (cbox m false) := (put_self hqL).symm
    rw [hL]
    rw [← hz] at h
    have hkv := fun k => kvE_find k z
    obtain ⟨G, hG⟩ : ∃ G, G = jlast z := ⟨_, rfl⟩
    rw [← hG] at h hkv
    have hnm : ∀ (k : List UInt8) (x : J), G k = some x → (x.keys.length ≤ 1000000000 ∧ x.keys.length ≤ x.list.length) ∧ ∀ k ∈ x.keys, k.length < 4294967281 := fun k x hx => by
      rw [hG] at hx
      rcases jlast_mem (o := none) hx with hx | ⟨pr, hpr1, hpr2⟩
      · cases hx
      obtain ⟨ky, y⟩ := pr
      rw [hz] at hpr1
      have hyc := (List.of_mem_zip hpr1).2
      have hy2 : y = x := hpr2
      subst hy2
      rw [hcc] at hyc
      obtain ⟨w, hw, rfl⟩ := ord_list h5 (shaped_map (good_shaped hg) h5).1 hyc
      obtain ⟨mm, _, hgl⟩ := good_list hg
      exact ord_keys (hgl w hw) ((fit_eq.1 hf).2.2.2 w hw) (hs.2 w hw)
    have hrr : ∀ b, (L.put q (cbox m b)).get r = some lvz := fun b => get_other hrL hrq
    have hEE : ∀ b, Ext H (L.put q (cbox m b)) := fun b => hEL.over hHq
    (refine AWp_seq_k (fun K hK => ?_); apply s_region; apply s_q; decide; rfl; (simp only [go_sem, hrL]; rfl); apply s_call; decide; (simp only [go_sem, hrL]; rfl); (simp only [go_sem, hrL]; rfl); refine number_c q m _ _ _ _ (hkv _) _ _ (AHeap.get_put_same _ _ _) (hmm _) _ ?_; rw [AHeap.put_put]; apply s_q; decide; rfl; (simp only [go_sem, hrL]; rfl); apply s_call; decide; (simp only [go_sem, hrL]; rfl); (simp only [go_sem, hrL]; rfl); refine number_c q m _ _ _ _ (hkv _) _ _ (AHeap.get_put_same _ _ _) (hmm _) _ ?_; rw [AHeap.put_put]; apply s_q; decide; rfl; (simp only [go_sem, hrL]; rfl); apply s_call; decide; (simp only [go_sem, hrL]; rfl); (simp only [go_sem, hrL]; rfl); refine number_c q m _ _ _ _ (hkv _) _ _ (AHeap.get_put_same _ _ _) (hmm _) _ ?_; rw [AHeap.put_put]; apply s_q; decide; rfl; (simp only [go_sem, hrL]; rfl); apply s_call; decide; (simp only [go_sem, hrL]; rfl); (simp only [go_sem, hrL]; rfl); refine number_c q m _ _ _ _ (hkv _) _ _ (AHeap.get_put_same _ _ _) (hmm _) _ ?_; rw [AHeap.put_put]; apply s_q; decide; rfl; (simp only [go_sem, hrL]; rfl); apply s_call; decide; (simp only [go_sem, hrL]; rfl); (simp only [go_sem, hrL]; rfl); refine number_c q m _ _ _ _ (hkv _) _ _ (AHeap.get_put_same _ _ _) (hmm _) _ ?_; rw [AHeap.put_put]; apply s_q; decide; rfl; (simp only [go_sem, hrL]; rfl); apply s_call; decide; (simp only [go_sem, hrL]; rfl); (simp only [go_sem, hrL]; rfl); refine number_c q m _ _ _ _ (hkv _) _ _ (AHeap.get_put_same _ _ _) (hmm _) _ ?_; rw [AHeap.put_put]; apply s_q; decide; rfl; (simp only [go_sem, hrL]; rfl); apply s_call; decide; (simp only [go_sem, hrL]; rfl); (simp only [go_sem, hrL]; rfl); refine number_c q m _ _ _ _ (hkv _) _ _ (AHeap.get_put_same _ _ _) (hmm _) _ ?_; rw [AHeap.put_put]; apply s_q; decide; rfl; (simp only [go_sem, hrL]; rfl); apply s_call; decide; (simp only [go_sem, hrL]; rfl); (simp only [go_sem, hrL]; rfl); refine names_c q m _ _ _ _ (hkv _) _ isUserB (fun l hl H K hk => puserB_c l hl H K hk) (hnm _) _ (AHeap.get_put_same _ _ _) (hmm _) _ ?_; rw [AHeap.put_put]; apply s_q; decide; rfl; (simp only [go_sem, hrL]; rfl); apply s_call; decide; (simp only [go_sem, hrL]; rfl); (simp only [go_sem, hrL]; rfl); refine names_c q m _ _ _ _ (hkv _) _ isType (fun l hl H K hk => type_c l H K hk) (hnm _) _ (AHeap.get_put_same _ _ _) (hmm _) _ ?_; rw [AHeap.put_put]; apply s_q; decide; rfl; (simp only [go_sem, hrL]; rfl); apply s_alloc; decide; exact zc_29; intro b hb; apply s_store; (simp only [go_sem, hrL]; rfl); (simp only [go_sem, hrL]; rfl); (simp only [go_sem, hrL]; rfl); apply s_nil; simp only [AThen, ABlock]; refine hK _ _ ?_; clear hK K; (iterate 2 (refine AWp_seq_k (fun K hK => ?_))); apply s_region; (iterate 3 (apply s_q; decide; rfl; (simp only [go_sem, hrL]; rfl))))
    have gq := fun (o : AObj) => get_fresh (x := o) (AHeap.get_put_same q (cbox m _) L) hb
    have gr := fun (o : AObj) => get_fresh (x := o) (hrr _) hb
    have gE := fun (o : AObj) => (hEE _).put (ob := o) hb
    (apply s_q; decide; rfl; (simp only [go_sem, gq]; rfl); apply s_nil; simp only [AThen, ABlock]; refine hK _ _ ?_; clear hK K)
    refine cond_split (by simp only [go_sem]; try rfl) (fun hb9 => ?_) (fun hb9 => ?_)
    · have hn : lvOf G = none := by unfold lvOf; exact if_pos hb9
      rw [hn] at h
      (refine AWp_seq_k (fun K hK => ?_); apply s_region; apply s_q; decide; rfl; (simp only [go_sem, zc_levels, gr]; rfl); apply s_store; (simp only [go_sem, zc_levels, gr]; rfl); (simp only [go_sem, zc_levels, gr]; rfl); (simp only [go_sem, zc_levels, gr]; rfl); apply s_q; decide; rfl; (simp only [go_sem, zc_levels, gr]; rfl); apply s_nil; simp only [AThen, ABlock]; refine hK _ _ ?_; clear hK K; apply AWp_ret)
      try simp only [AThen, ABlock]
      refine end_ret (av := .tup [.agg [.v (.int .i64 0), .v (.int .i64 0), .v (.int .i64 0), .v (.int .i64 0), .v (.int .i64 0), .v (.int .i64 0), .v (.int .i64 0), .sl true [], .sl true []], .v (.int .i64 1)]) (by show resAV X.P _ _ [.cell 2 29, .tmp 3] = _; simp only [go_sem]; try rfl) ⟨_, _, Snap.trans Snap.loosen (Snap.drop ((gE _).over hHr)), h⟩
    · have hn := show lvOf G = some _ by unfold lvOf; exact if_neg (by rw [hb9]; decide)
      rw [hn] at h
      (apply AWp_skip; simp only [AThen, ABlock]; refine hK _ _ ?_; clear hK K; refine AWp_seq_k (fun K hK => ?_); apply s_region; apply s_q; decide; rfl; (simp only [go_sem, gr]; rfl); apply s_store; (simp only [go_sem, gr]; rfl); (simp only [go_sem, gr]; rfl); (simp only [go_sem, gr]; rfl); apply s_q; decide; rfl; (simp only [go_sem, gr]; rfl); apply s_nil; simp only [AThen, ABlock]; refine hK _ _ ?_; clear hK K; apply AWp_ret)
      try simp only [AThen, ABlock]
      refine end_ret (by show resAV X.P _ _ [.cell 2 29, .tmp 3] = _; simp only [go_sem]; try rfl) ⟨_, _, Snap.drop ((gE _).over hHr), h⟩
end Go.Proofs.YtniaafncmnilgaaGreatDoor
