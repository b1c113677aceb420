/-
  Lines: back along the first power events that one leans on; Line and Near on both sides. Contracts.
-/
import Derived.Test.YtcpfgjfiacfmoaaGreatDoorPPart6
import Derived.Test.YtcpfgjfiacfmoaaGreatDoorPAL4
import Derived.Test.YtcpfgjfiacfmoaaGreatDoorPPart4
import Derived.Shelf.SlGeneric
import Derived.Test.YtcpfgjfiacfmoaaGreatDoorProg
import Derived.Shelf.SlSortCmp.Whole1
import Derived.Shelf.SlSortCmp.NoneTotal
import Derived.Ground.SlsfProg
set_option linter.unusedSimpArgs false
set_option linter.unusedVariables false
set_option maxRecDepth 100000
namespace Go.Proofs.YtcpfgjfiacfmoaaGreatDoor
open Go Go.AL
attribute [local irreducible] AOps AWp SOps AE AT ACall AApp

def tPower : List UInt8 := [109, 46, 114, 111, 111, 109, 46, 112, 111, 119, 101, 114, 95, 108, 101, 118, 101, 108, 115]
def tCreate : List UInt8 := [109, 46, 114, 111, 111, 109, 46, 99, 114, 101, 97, 116, 101]
def lineF (p : Pa) : Nat → Int → List Int
  | 0, _ => []
  | f + 1, i => if i < 0 then [] else i :: lineF p f (leanI p i.toNat tPower)
def lineL (p : Pa) (i : Int) : List Int := lineF p (i.toNat + 1) i
theorem lineF_neg (p : Pa) (f : Nat) : lineF p f (-1) = [] := by cases f <;> simp [lineF]
theorem lineF_more {p : Pa} (hr : p.Right) : ∀ (f g : Nat) (i : Int), i < f → i < g → lineF p f i = lineF p g i
  | 0, g, i, h1, _ => by
    cases g with
    | zero => rfl
    | succ g => rw [lineF, lineF, if_pos (by omega)]
  | f + 1, 0, i, _, h2 => by rw [lineF, lineF, if_pos (by omega)]
  | f + 1, g + 1, i, h1, h2 => by
    rw [lineF, lineF]
    split
    · rfl
    · rename_i h
      congr 1
      rcases leanI_lt hr (i := i.toNat) (kind := tPower) with e | ⟨n, e, h3, _⟩
      · rw [e, lineF_neg, lineF_neg]
      · rw [e]
        exact lineF_more hr f g n (by omega) (by omega)
theorem line_neg (p : Pa) : lineL p (-1) = [] := lineF_neg _ _
theorem line_step {p : Pa} (hr : p.Right) (i : Nat) : lineL p i = (i : Int) :: lineL p (leanI p i tPower) := by
  rw [lineL, lineF, if_neg (by omega), Int.toNat_natCast]
  congr 1
  rcases leanI_lt hr (i := i) (kind := tPower) with e | ⟨n, e, h3, _⟩
  · rw [e, lineF_neg, line_neg]
  · rw [e, lineL]
    exact lineF_more hr _ _ _ (by omega) (by omega)
def lineP (p : Pa) (i : Int) : List Int := if inR p.events.length i = true then lineL p i else []
abbrev ibox (v : Int) : AObj := .box 3 [.v (.int .i64 v)]
theorem back_c (p : Pa) (i : Int) (H : AHeap) (K : AV → AHeap → Prop) (h : ∀ q c, H.get q = none → (H.put q (paBox p)).get c = none → K (.fn (.func 93) [] [ptrTo q, ptrTo c]) ((H.put q (paBox p)).put c (ibox i))) : ACall X 57 [.agg p.cells, .v (.int .i64 i)] H K := by
  rw [Pa.cells]
  refine ACall_intro Tryz.func57 rfl (by kernel_rfl) (by rw [Tryz.ntmps57]; simp) ?_; rw [Tryz.ntmps57]; simp only [frame0, Nat.reduceAdd]
  apply sR; intro K hK
  apply s_box; decide; exact (by simp only [go_sem]; try rfl); exact (by simp only [go_sem]; try rfl); intro q hq
  apply s_box; decide; exact (by simp only [go_sem]; try rfl); exact (by simp only [go_sem]; try rfl); intro c hc
  (refine qr ?_; refine s_nil (hK _ _ ?_); clear hK K; apply sR; intro K hK; (iterate 2 (refine qr ?_)); refine s_nil (hK _ _ ?_); clear hK K; apply AWp_ret)
  exact h q c hq hc
set_option maxHeartbeats 4000000 in
theorem iterB_c (p : Pa) (hw : p.Wide) (hr : p.Right) (i0 : Int) (y q c : Nat) (I : Nat → AHeap → Prop) (Kc : AV → AHeap → Prop)
    (hq : ∀ n H, I n H → H.get q = some (paBox p)) (hst : ∀ n H v, I n H → I n (H.put c (ibox v)))
    (hy : ∀ (n : Nat) (x : Int) (H : AHeap), (lineP p i0)[n]? = some x → I n H → H.get c = some (ibox x) → AYield X y [.v (.int .i64 x)] H (fun a H' => (a = .v (.bool true) ∧ I (n + 1) H' ∧ H'.get c = some (ibox x)) ∨ (a = .v (.bool false) ∧ Kc (.tup []) H')))
    (h0 : ∀ H, I (lineP p i0).length H → Kc (.tup []) H) (H : AHeap) (hH : I 0 H) (hc : H.get c = some (ibox i0)) : ACall X 93 [.fn (.yield y) [] [], ptrTo q, ptrTo c] H Kc := by
  have hq' : ∀ n H, I n H → H.get q = some (.box 35 [.sl false (p.names.map strCells), .sl false (p.events.map Ev.cells), .sl false (p.prev.map rowCells), .sl false (p.auth.map rowCells), .sl false (p.denied.map bolCells)]) := hq
  have hg0 := hq' _ _ hH
  have hT : ∀ (i : Int) (H : AHeap) (K : AV → AHeap → Prop), K (.v (.bool (inR p.events.length i))) H → ACall X 37 [.agg [.sl false (p.names.map strCells), .sl false (p.events.map Ev.cells), .sl false (p.prev.map rowCells), .sl false (p.auth.map rowCells), .sl false (p.denied.map bolCells)], .v (.int .i64 i)] H K := fun i H K hK => there_c p hw i H K hK
  have hF : ∀ (i : Nat), i < p.events.length → ∀ (H : AHeap) (K : AV → AHeap → Prop), K (.v (.int .i64 (leanI p i tPower))) H → ACall X 67 [.agg [.sl false (p.names.map strCells), .sl false (p.events.map Ev.cells), .sl false (p.prev.map rowCells), .sl false (p.auth.map rowCells), .sl false (p.denied.map bolCells)], .v (.int .i64 i), .s tPower] H K := fun i hi H K hK => first_c p hw hr i hi tPower H K hK
  refine ACall_intro Tryz.func93 rfl (by kernel_rfl) (by rw [Tryz.ntmps93]; simp) ?_; rw [Tryz.ntmps93]; simp only [frame0, Nat.reduceAdd]
  (apply sK; intro K hK; apply sR; intro K hK; (iterate 2 (apply s_q; decide; rfl; (simp only [go_sem, hg0, hc]; rfl))); apply s_call; decide; (iterate 2 (simp only [go_sem, hg0, hc]; rfl)); apply hT; apply s_q; decide; rfl; (simp only [go_sem, hg0, hc]; rfl); refine s_nil (hK _ _ ?_); clear hK K)
  refine cs (fun hz => ?_) (fun hz => ?_)
  · have hz : inR p.events.length i0 = false := by simpa using hz
    have hL : lineP p i0 = [] := by rw [lineP, if_neg (by rw [hz]; decide)]
    rw [hL] at h0
    (apply AWp_ret; simp only [AThen, ABlock]; apply end_ret; rfl)
    exact h0 _ hH
  have hz : inR p.events.length i0 = true := by simpa using hz
  have hL : lineP p i0 = lineL p i0 := by rw [lineP, if_pos hz]
  have hz : 0 ≤ i0 ∧ i0 < p.events.length := by simpa [inR] using hz
  rw [hL] at hy h0
  clear hL
  (refine AWp_skip (hK _ _ ?_); clear hK K; apply AWp_block)
  refine AWp_loop_s (σ := Nat × Int × AHeap) [0, 1, 2] (fun s => [.fn (.yield y) [] [], ptrTo q, ptrTo c]) (fun s => s.2.2) (fun s => (s.2.1 + 1).toNat)
    (fun s => (lineL p i0).drop s.1 = lineL p s.2.1 ∧ s.1 ≤ (lineL p i0).length ∧ -1 ≤ s.2.1 ∧ s.2.1 < p.events.length ∧ I s.1 s.2.2 ∧ s.2.2.get c = some (ibox s.2.1)) (0, i0, H) ⟨rfl, Nat.zero_le _, by simp only; omega, hz.2, hH, hc⟩ rfl rfl (fun s hs => ?_)
  obtain ⟨n, cur, L⟩ := s
  obtain ⟨hdr, hnl, hm1, hlt, hI, hcL⟩ := hs
  clear hH hc hg0
  simp only [List.zip_cons_cons, List.zip_nil_right] at hdr hnl hm1 hlt hI hcL ⊢
  have hqL := hq' _ _ hI
  rcases Int.lt_or_le cur 0 with hneg | hpos
  · obtain rfl : cur = -1 := by omega
    rw [line_neg] at hdr
    have hfin : n = (lineL p i0).length := by have := List.drop_eq_nil_iff.1 hdr; omega
    subst hfin
    have hno : decide ((0 : Int) ≤ -1) = false := by decide
    (apply sK; intro K hK; apply sR; intro K hK; (iterate 3 (apply s_q; decide; rfl; (simp only [go_sem, hcL, hno]; rfl))); (iterate 2 (apply s_spec; decide; rfl; rfl; (iterate 4 (simp only [go_sem, hcL, hno]; rfl)); trivial)))
    apply s_gno (.v (.bool false)); decide; rfl; (iterate 4 (simp only [go_sem, hno]; rfl)); trivial
    (apply s_pick; decide; (iterate 6 (simp only [go_sem, hno]; rfl)); trivial; trivial; trivial; refine s_nil (hK _ _ ?_); clear hK K)
    refine cs (fun he => ?_) (fun he => ?_)
    · cases he
    (apply AWp_exit; simp only [AThen, ABlock, reduceIte, Nat.reduceEqDiff])
    apply end_normal; rfl
    exact h0 _ hI
  · obtain ⟨i, rfl⟩ : ∃ i : Nat, cur = i := ⟨cur.toNat, by omega⟩
    rw [line_step hr] at hdr
    have hx : (lineL p i0)[n]? = some (i : Int) := by
      have : ((lineL p i0).drop n)[0]? = some (i : Int) := by rw [hdr]; rfl
      rwa [List.getElem?_drop, Nat.add_zero] at this
    have hyes : decide ((0 : Int) ≤ (i : Int)) = true := by simp
    (apply sK; intro K hK; apply sR; intro K hK; (iterate 3 (apply s_q; decide; rfl; (simp only [go_sem, hcL, decide_true]; rfl))); (iterate 2 (apply s_spec; decide; rfl; rfl; (iterate 4 (simp only [go_sem, hcL, decide_true]; rfl)); trivial)))
    apply s_yyield; decide; (simp only [go_sem, decide_true]; rfl); simp only [go_sem, decide_true]; (simp only [go_sem, decide_true]; rfl); trivial; (iterate 3 (simp only [go_sem, decide_true]; rfl))
    refine AYield.mono (hy n i _ hx hI hcL) ?_
    rintro r L' (⟨rfl, hI', hcL'⟩ | ⟨rfl, hK'⟩)
    · have hqL' := hq' _ _ hI'
      (apply s_pick; decide; (iterate 6 (simp only [go_sem, decide_true]; rfl)); trivial; trivial; trivial; refine s_nil (hK _ _ ?_); clear hK K)
      refine cs (fun he => ?_) (fun he => ?_)
      rotate_left
      · cases he
      (refine AWp_skip (hK _ _ ?_); clear hK K; apply AWp_block; apply s_region; (iterate 2 (apply s_q; decide; rfl; (simp only [go_sem, hqL', hcL']; rfl))); apply s_call; decide; (iterate 2 (simp only [go_sem, hqL', hcL']; rfl)); apply hF i (by omega); apply s_store; (iterate 3 (simp only [go_sem, hqL', hcL']; rfl)); apply s_nil; simp only [AThen, ABlock])
      refine ⟨(n + 1, leanI p i tPower, L'.put c (ibox (leanI p i tPower))), ?_, ⟨?_, ?_, ?_, ?_, hst _ _ _ hI', AHeap.get_put_same _ _ _⟩, by trivial, by trivial⟩
      · simp only
        rcases leanI_lt hr (i := i) (kind := tPower) with e | ⟨m, e, h3, _⟩ <;> rw [e] <;> omega
      · simp only
        rw [← List.drop_drop, hdr]; rfl
      · simp only
        have := (List.getElem?_eq_some_iff.1 hx).1
        omega
      · simp only
        rcases leanI_lt hr (i := i) (kind := tPower) with e | ⟨m, e, h3, _⟩ <;> rw [e] <;> omega
      · simp only
        rcases leanI_lt hr (i := i) (kind := tPower) with e | ⟨m, e, h3, _⟩ <;> rw [e] <;> omega
    · (apply s_pick; decide; (iterate 6 (simp only [go_sem, decide_true]; rfl)); trivial; trivial; trivial; refine s_nil (hK _ _ ?_); clear hK K)
      refine cs (fun he => ?_) (fun he => ?_)
      · cases he
      (apply AWp_exit; simp only [AThen, ABlock, reduceIte, Nat.reduceEqDiff])
      apply end_normal; rfl
      exact hK'

def smallB (c : Int) : Bool := (decide (97 ≤ c) && decide (c ≤ 122)) || (decide (48 ≤ c) && decide (c ≤ 57)) || decide (c = 46)
def serverB (c : Int) : Bool := smallB c || decide (c = 45)
def localB (c : Int) : Bool := smallB c || decide (c = 45) || decide (c = 95)

theorem small_c (c : Int) (H : AHeap) (K : AV → AHeap → Prop) (h : K (.v (.bool (smallB c))) H) : ACall X 137 [.v (.int .u8 c)] H K := by
  refine ACall_intro Tryz.func137 rfl (by kernel_rfl) (by rw [Tryz.ntmps137]; simp) ?_; rw [Tryz.ntmps137]; simp only [frame0, Nat.reduceAdd]
  (apply sR; intro K hK; refine qr ?_; refine s_nil (hK _ _ ?_); clear hK K; apply sR; intro K hK; (iterate 3 (refine qr ?_)); refine sp ?_; refine sp ?_; apply s_pick; decide; (iterate 6 (simp only [go_sem]; rfl)); trivial; simp [condsOk]; trivial; refine qr ?_; refine sp ?_; (iterate 2 (refine sp ?_)); refine sp ?_; refine sp ?_; apply s_pickg; decide; (iterate 8 (simp only [go_sem]; rfl)); simp [condsOk]; simp [condsOk]; trivial; apply s_pick; decide; (iterate 6 (simp only [go_sem]; rfl)); trivial; trivial; simp [condsOk]; refine qr ?_; refine sp ?_; refine sp ?_; apply s_pick; decide; (iterate 6 (simp only [go_sem]; rfl)); trivial; trivial; simp [condsOk]; refine qr ?_; refine s_nil (hK _ _ ?_); clear hK K; apply AWp_ret)
  refine finB h ?_
  unfold smallB
  generalize decide (97 ≤ c) = a1, decide (c ≤ 122) = a2, decide (48 ≤ c) = a3, decide (c ≤ 57) = a4, decide (c = 46) = a5
  revert a1 a2 a3 a4 a5; decide
theorem serverB_c (c : Int) (H : AHeap) (K : AV → AHeap → Prop) (h : K (.v (.bool (serverB c))) H) : ACall X 179 [.v (.int .u8 c)] H K := by
  refine ACall_intro Tryz.func179 rfl (by kernel_rfl) (by rw [Tryz.ntmps179]; simp) ?_; rw [Tryz.ntmps179]; simp only [frame0, Nat.reduceAdd]
  (apply sR; intro K hK; refine qr ?_; refine s_nil (hK _ _ ?_); clear hK K; apply sR; intro K hK; refine qr ?_; apply s_call; decide; (iterate 2 (simp only [go_sem]; rfl)); apply small_c; refine qr ?_; refine sp ?_; refine sp ?_; apply s_pick; decide; (iterate 6 (simp only [go_sem]; rfl)); trivial; trivial; simp [condsOk]; refine qr ?_; refine s_nil (hK _ _ ?_); clear hK K; apply AWp_ret)
  refine finB h ?_
  unfold serverB
  generalize smallB c = a1, decide (c = 45) = a2
  revert a1 a2; decide
theorem localB_c (c : Int) (H : AHeap) (K : AV → AHeap → Prop) (h : K (.v (.bool (localB c))) H) : ACall X 178 [.v (.int .u8 c)] H K := by
  refine ACall_intro Tryz.func178 rfl (by kernel_rfl) (by rw [Tryz.ntmps178]; simp) ?_; rw [Tryz.ntmps178]; simp only [frame0, Nat.reduceAdd]
  (apply sR; intro K hK; refine qr ?_; refine s_nil (hK _ _ ?_); clear hK K; apply sR; intro K hK; refine qr ?_; apply s_call; decide; (iterate 2 (simp only [go_sem]; rfl)); apply small_c; refine qr ?_; refine sp ?_; refine sp ?_; apply s_pick; decide; (iterate 6 (simp only [go_sem]; rfl)); trivial; trivial; simp [condsOk]; refine qr ?_; refine sp ?_; refine sp ?_; apply s_pick; decide; (iterate 6 (simp only [go_sem]; rfl)); trivial; trivial; simp [condsOk]; refine qr ?_; refine s_nil (hK _ _ ?_); clear hK K; apply AWp_ret)
  refine finB h ?_
  unfold localB
  generalize smallB c = a1, decide (c = 45) = a2, decide (c = 95) = a3
  revert a1 a2 a3; decide
def typeB (c : Int) : Bool := smallB c || decide (c = 95)
theorem typeB_c (c : Int) (H : AHeap) (K : AV → AHeap → Prop) (h : K (.v (.bool (typeB c))) H) : ACall X 136 [.v (.int .u8 c)] H K := by
  refine ACall_intro Tryz.func136 rfl (by kernel_rfl) (by rw [Tryz.ntmps136]; simp) ?_; rw [Tryz.ntmps136]; simp only [frame0, Nat.reduceAdd]
  (apply sR; intro K hK; refine qr ?_; refine s_nil (hK _ _ ?_); clear hK K; apply sR; intro K hK; refine qr ?_; apply s_call; decide; (iterate 2 (simp only [go_sem]; rfl)); apply small_c; refine qr ?_; refine sp ?_; refine sp ?_; apply s_pick; decide; (iterate 6 (simp only [go_sem]; rfl)); trivial; trivial; simp [condsOk]; refine qr ?_; refine s_nil (hK _ _ ?_); clear hK K; apply AWp_ret)
  refine finB h ?_
  unfold typeB
  generalize smallB c = a1, decide (c = 95) = a2
  revert a1 a2; decide
def ofB (p : UInt8 → Bool) (n : Int) (l : List UInt8) : Bool := !(decide (l = [])) && decide ((l.length : Int) ≤ n) && l.all p
theorem of_c (p : UInt8 → Bool) (g : FuncId) (hg : ∀ (c : UInt8) (H : AHeap) (K : AV → AHeap → Prop), K (.v (.bool (p c))) H → ACall X g [.v (.int .u8 c.toNat)] H K) (n : Int) (hn : n ≤ 1000000) (l : List UInt8) (H : AHeap) (K : AV → AHeap → Prop) (h : K (.v (.bool (ofB p n l))) H) :
    ACall X 135 [.s l, .v (.int .i64 n), .fn (.func g) [] []] H K := by
  refine ACall_intro Tryz.func135 rfl (by kernel_rfl) (by rw [Tryz.ntmps135]; simp) ?_; rw [Tryz.ntmps135]; simp only [frame0, Nat.reduceAdd]
  (apply sR; intro K hK; refine qr ?_; refine s_nil (hK _ _ ?_); clear hK K; apply sK; intro K hK; apply sR; intro K hK; (iterate 3 (refine qr ?_)); refine sp ?_; refine sp ?_; refine sp ?_; refine sp ?_; apply s_pick; decide; (iterate 6 (simp only [go_sem]; rfl)); trivial; trivial; simp [condsOk]; refine s_nil (hK _ _ ?_); clear hK K)
  refine cs (fun hc => ?_) (fun hc => ?_)
  · (apply sR; intro K hK; refine qr ?_; refine s_nil (hK _ _ ?_); clear hK K; apply AWp_ret; simp only [AThen, ABlock]; apply end_ret; rfl; simp only [AFr.get, reduceIte, Nat.reduceEqDiff])
    refine finB h ?_
    unfold ofB
    by_cases h0 : l = []
    · simp [h0]
    · have : ¬ (l.length : Int) ≤ n := by
        simp only [show ({ data := #[] } : ByteArray).data.toList = [] from rfl, decide_eq_false h0] at hc
        simpa using hc
      rw [decide_eq_false this]; simp
  · (refine AWp_skip (hK _ _ ?_); clear hK K; apply sK; intro K hK; apply sR; intro K hK; (iterate 3 (refine qr ?_)); refine s_nil (hK _ _ ?_); clear hK K; apply AWp_block)
    have hl0 : l ≠ [] := by
      rintro rfl
      simp only [show ({ data := #[] } : ByteArray).data.toList = [] from rfl] at hc
      simp at hc
    have hln : (l.length : Int) ≤ n := by
      simp only [show ({ data := #[] } : ByteArray).data.toList = [] from rfl, decide_eq_false hl0] at hc
      simpa using hc
    refine AWp_loop_s (σ := Nat) [0, 2, 17, 18] (fun i => [.s l, .fn (.func g) [] [], .v (.int .i64 l.length), .v (.int .i64 i)]) (fun _ => H) (fun i => l.length - i) (fun i => i ≤ l.length ∧ (l.take i).all p = true) 0 ⟨Nat.zero_le _, rfl⟩ rfl rfl (fun i hi => ?_)
    simp only [List.zip_cons_cons, List.zip_nil_right]
    (apply sR; intro K hK; refine qr ?_; refine s_nil (hK _ _ ?_); clear hK K; apply sK; intro K hK)
    refine cs (fun hc => ?_) (fun hc => ?_)
    · have hlt : i < l.length := by simpa using hc
      obtain ⟨c, hm⟩ := getc hlt
      (refine AWp_skip (hK _ _ ?_); clear hK K; apply sK; intro K hK; apply AWp_block; apply sR; intro K hK; (iterate 2 (apply s_q; decide; rfl; (simp only [go_sem, hm]; rfl))); refine s_nil (hK _ _ ?_); clear hK K; apply sR; intro K hK; (iterate 4 (apply s_q; decide; rfl; (simp only [go_sem, hm]; rfl))); apply s_call; decide; (iterate 2 (simp only [go_sem, hm]; rfl)); apply hg; apply s_q; decide; rfl; (simp only [go_sem, hm]; rfl); refine s_nil (hK _ _ ?_); clear hK K)
      refine cs (fun hd => ?_) (fun hd => ?_)
      · (apply sR; intro K hK; refine qr ?_; refine s_nil (hK _ _ ?_); clear hK K; apply AWp_ret; simp only [AThen, ABlock]; apply end_ret; rfl; simp only [AFr.get, reduceIte, Nat.reduceEqDiff])
        refine finB h ?_
        unfold ofB
        rw [not_all hm (by simpa using hd), Bool.and_false]
      · (refine AWp_skip (hK _ _ ?_); clear hK K; apply s_region; (iterate 2 (refine qr ?_)); apply s_nil; simp only [AThen, ABlock])
        refine ⟨i + 1, by omega, ⟨by omega, ?_⟩, ?_, by trivial⟩
        · rw [all_take hm hi.2]; simpa using hd
        · simp only [getAll, List.map_cons, List.map_nil, AFr.get]
          rw [wrapS hlt (by omega)]; rfl
    · have hge : l.length ≤ i := by simpa using hc
      (apply AWp_exit; simp only [AThen, ABlock, reduceIte, Nat.reduceEqDiff]; clear hK K; refine hK _ _ ?_; clear hK K; apply sR; intro K hK; refine qr ?_; refine s_nil (hK _ _ ?_); clear hK K; apply AWp_ret)
      refine finB h ?_
      unfold ofB
      have ha : l.all p = true := by rw [← hi.2, List.take_of_length_le hge]
      rw [decide_eq_false hl0, decide_eq_true hln, ha]; rfl

def isLocal (l : List UInt8) : Bool := ofB (fun c => localB c.toNat) 32 l
def isServer (l : List UInt8) : Bool := ofB (fun c => serverB c.toNat) 32 l
theorem local_c (l : List UInt8) (H : AHeap) (K : AV → AHeap → Prop) (h : K (.v (.bool (isLocal l))) H) : ACall X 170 [.s l] H K := by
  refine ACall_intro Tryz.func170 rfl (by kernel_rfl) (by rw [Tryz.ntmps170]; simp) ?_; rw [Tryz.ntmps170]; simp only [frame0, Nat.reduceAdd]
  (apply sR; intro K hK; refine qr ?_; refine s_nil (hK _ _ ?_); clear hK K; apply sR; intro K hK; refine qr ?_; apply s_call; decide; (iterate 2 (simp only [go_sem]; rfl)); apply of_c (fun c => localB c.toNat) 178 (fun c H K h => localB_c _ H K h) 32 (by decide); refine qr ?_; refine s_nil (hK _ _ ?_); clear hK K; apply AWp_ret)
  exact h
theorem server_c (l : List UInt8) (H : AHeap) (K : AV → AHeap → Prop) (h : K (.v (.bool (isServer l))) H) : ACall X 171 [.s l] H K := by
  refine ACall_intro Tryz.func171 rfl (by kernel_rfl) (by rw [Tryz.ntmps171]; simp) ?_; rw [Tryz.ntmps171]; simp only [frame0, Nat.reduceAdd]
  (apply sR; intro K hK; refine qr ?_; refine s_nil (hK _ _ ?_); clear hK K; apply sR; intro K hK; refine qr ?_; apply s_call; decide; (iterate 2 (simp only [go_sem]; rfl)); apply of_c (fun c => serverB c.toNat) 179 (fun c H K h => serverB_c _ H K h) 32 (by decide); refine qr ?_; refine s_nil (hK _ _ ?_); clear hK K; apply AWp_ret)
  exact h

def hasPre (l p : List UInt8) : Bool := decide (p.length ≤ l.length) && decide (l.take p.length = p)
theorem hasPrefix_c (l p : List UInt8) (H : AHeap) (K : AV → AHeap → Prop) (h : K (.v (.bool (hasPre l p))) H) : ACall X 181 [.s l, .s p] H K := by
  refine ACall_intro Tryz.func181 rfl (by kernel_rfl) (by rw [Tryz.ntmps181]; simp) ?_; rw [Tryz.ntmps181]; simp only [frame0, Nat.reduceAdd]
  (apply sR; intro K hK; refine qr ?_; refine s_nil (hK _ _ ?_); clear hK K; apply sR; intro K hK; (iterate 6 (refine qr ?_)); (iterate 2 (refine sp ?_)); refine sp ?_; apply s_when; decide; (iterate 3 (simp only [go_sem]; rfl)); simp [condsOk]; (intro hg; simp only [go_sem]; refine Eq.trans (if_pos ?_) rfl; simp at hg; omega); refine sp ?_; refine sp ?_; apply s_pick; decide; (iterate 6 (simp only [go_sem]; rfl)); trivial; simp [condsOk]; trivial; refine qr ?_; refine s_nil (hK _ _ ?_); clear hK K; apply AWp_ret)
  refine finB h ?_
  unfold hasPre
  simp only [List.drop_zero, Int.ofNat_le]
  generalize decide (p.length ≤ l.length) = a1, decide (l.take p.length = p) = a2
  revert a1 a2; decide
theorem cutPrefix0_c (l p : List UInt8) (H : AHeap) (K : AV → AHeap → Prop) (h : K (.tup [.s (if hasPre l p then l.drop p.length else l), .v (.bool (hasPre l p))]) H) : ACall X 176 [.s l, .s p] H K := by
  refine ACall_intro Tryz.func176 rfl (by kernel_rfl) (by rw [Tryz.ntmps176]; simp) ?_; rw [Tryz.ntmps176]; simp only [frame0, Nat.reduceAdd]
  (apply sR; intro K hK; (iterate 2 (refine qr ?_)); refine s_nil (hK _ _ ?_); clear hK K; apply sK; intro K hK; apply sR; intro K hK; (iterate 2 (refine qr ?_)); apply s_call; decide; (iterate 2 (simp only [go_sem]; rfl)); apply hasPrefix_c; refine qr ?_; refine s_nil (hK _ _ ?_); clear hK K)
  refine cs (fun hc => ?_) (fun hc => ?_)
  · (apply sR; intro K hK; (iterate 3 (refine qr ?_)); refine s_nil (hK _ _ ?_); clear hK K; apply AWp_ret; simp only [AThen, ABlock]; apply end_ret; rfl; simp only [AFr.get, reduceIte, Nat.reduceEqDiff])
    refine fin h ?_
    simp at hc; simp [hc]
  · have hp : hasPre l p = true := by simpa using hc
    have hle : p.length ≤ l.length := by simp [hasPre] at hp; exact hp.1
    (refine AWp_skip (hK _ _ ?_); clear hK K; apply sR; intro K hK; (iterate 3 (refine qr ?_)); (apply s_q; decide; rfl; (simp only [go_sem]; rw [if_pos ⟨by omega, Nat.le_refl _⟩])); (iterate 2 (refine qr ?_)); refine s_nil (hK _ _ ?_); clear hK K; apply AWp_ret)
    refine fin h ?_
    simp only [AFr.get, reduceIte, Nat.reduceEqDiff, if_pos hp, hp, List.take_length]
theorem cutPrefix_c (l p : List UInt8) (H : AHeap) (K : AV → AHeap → Prop) (h : K (.tup [.s (if hasPre l p then l.drop p.length else l), .v (.bool (hasPre l p))]) H) : ACall X 168 [.s l, .s p] H K := by
  refine ACall_intro Tryz.func168 rfl (by kernel_rfl) (by rw [Tryz.ntmps168]; simp) ?_; rw [Tryz.ntmps168]; simp only [frame0, Nat.reduceAdd]
  (apply sR; intro K hK; (iterate 2 (refine qr ?_)); refine s_nil (hK _ _ ?_); clear hK K; apply sR; intro K hK; (iterate 2 (refine qr ?_)); apply s_call; decide; (iterate 2 (simp only [go_sem]; rfl)); apply cutPrefix0_c; (iterate 4 (refine qr ?_)); refine s_nil (hK _ _ ?_); clear hK K; apply AWp_ret)
  exact h
def isType (l : List UInt8) : Bool := ofB (fun c => typeB c.toNat) 64 l
theorem type_c (l : List UInt8) (H : AHeap) (K : AV → AHeap → Prop) (h : K (.v (.bool (isType l))) H) : ACall X 103 [.s l] H K := by
  refine ACall_intro Tryz.func103 rfl (by kernel_rfl) (by rw [Tryz.ntmps103]; simp) ?_; rw [Tryz.ntmps103]; simp only [frame0, Nat.reduceAdd]
  (apply sR; intro K hK; refine qr ?_; refine s_nil (hK _ _ ?_); clear hK K; apply sR; intro K hK; refine qr ?_; apply s_call; decide; (iterate 2 (simp only [go_sem]; rfl)); apply of_c (fun c => typeB c.toNat) 136 (fun c H K h => typeB_c _ H K h) 64 (by decide); refine qr ?_; refine s_nil (hK _ _ ?_); clear hK K; apply AWp_ret)
  exact h
theorem cut_c (l sep : List UInt8) (hl : l.length < 4294967281) (H : AHeap) (K : AV → AHeap → Prop) (h : K (.tup [.s (Lib.cut l sep).1, .s (Lib.cut l sep).2.1, .v (.bool (Lib.cut l sep).2.2)]) H) : ACall X 169 [.s l, .s sep] H K :=
  ACall_same (by kernel_rfl) h fun w φ xs hr hx => by
    obtain ⟨a, b, rfl, rfl, rfl⟩ := vrs_ss hx
    obtain ⟨⟨m, hm, _⟩, _⟩ := hr.env
    exact ⟨_, .tup (.cons (vr_str _) (.cons (vr_str _) (.cons (.v _) .nil))), Any.strings_Cut Tryz.lays145 a b m w (by simpa using hl) hm⟩

def idCut (sign l : List UInt8) : Option (List UInt8 × List UInt8) :=
  let rest := if hasPre l sign then l.drop sign.length else l
  let c := Lib.cut rest [58]
  if hasPre l sign && c.2.2 && isLocal c.1 && isServer c.2.1 then some (c.1, c.2.1) else none
def idParts (sign l : List UInt8) : AV := match idCut sign l with | some (a, b) => .tup [.s a, .s b, .v (.bool true)] | none => .tup [.s [], .s [], .v (.bool false)]
theorem idcut_c (sign l : List UInt8) (hl : l.length < 4294967281) (H : AHeap) (K : AV → AHeap → Prop)
    (h : K (idParts sign l) H) : ACall X 157 [.s sign, .s l] H K := by
  have hr : (if hasPre l sign then l.drop sign.length else l).length < 4294967281 := by
    split
    · rw [List.length_drop]; omega
    · exact hl
  generalize hc : Lib.cut (if hasPre l sign then l.drop sign.length else l) [58] = c
  obtain ⟨c1, c2, c3⟩ := c
  refine ACall_intro Tryz.func157 rfl (by kernel_rfl) (by rw [Tryz.ntmps157]; simp) ?_; rw [Tryz.ntmps157]; simp only [frame0, Nat.reduceAdd]
  (apply sR; intro K hK; (iterate 3 (apply s_q; decide; rfl; (simp only [go_sem, hc]; rfl))); refine s_nil (hK _ _ ?_); clear hK K; apply sR; intro K hK; (iterate 2 (apply s_q; decide; rfl; (simp only [go_sem, hc]; rfl))); apply s_call; decide; (iterate 2 (simp only [go_sem, hc]; rfl)); apply cutPrefix_c; (iterate 5 (apply s_q; decide; rfl; (simp only [go_sem, hc]; rfl))); refine s_nil (hK _ _ ?_); clear hK K; apply sR; intro K hK; apply s_q; decide; rfl; (simp only [go_sem, hc]; rfl); apply s_call; decide; (iterate 2 (simp only [go_sem, hc]; rfl)); apply cut_c _ _ hr; (iterate 7 (apply s_q; decide; rfl; (simp only [go_sem, hc]; rfl))); refine s_nil (hK _ _ ?_); clear hK K; apply sK; intro K hK; apply sR; intro K hK; (iterate 3 (apply s_q; decide; rfl; (simp only [go_sem, hc]; rfl))); apply s_spec; decide; rfl; rfl; (iterate 4 (simp only [go_sem, hc]; rfl)); trivial; apply s_spec; decide; rfl; rfl; (iterate 4 (simp only [go_sem, hc]; rfl)); simp [condsOk]; apply s_pick; decide; (iterate 6 (simp only [go_sem, hc]; rfl)); trivial; trivial; simp [condsOk]; apply s_q; decide; rfl; (simp only [go_sem, hc]; rfl); apply s_spec; decide; rfl; rfl; (iterate 4 (simp only [go_sem, hc]; rfl)); trivial; apply s_gpure; decide; (iterate 3 (simp only [go_sem, hc]; rfl)); simp [condsOk]; (iterate 2 (simp only [go_sem, hc]; rfl)); (apply local_c; exact ⟨rfl, rfl⟩); apply s_spec; decide; rfl; rfl; (iterate 4 (simp only [go_sem, hc]; rfl)); simp [condsOk]; apply s_pick; decide; (iterate 6 (simp only [go_sem, hc]; rfl)); trivial; trivial; simp [condsOk]; apply s_q; decide; rfl; (simp only [go_sem, hc]; rfl); apply s_spec; decide; rfl; rfl; (iterate 4 (simp only [go_sem, hc]; rfl)); trivial; apply s_gpure; decide; (iterate 3 (simp only [go_sem, hc]; rfl)); simp [condsOk]; (iterate 2 (simp only [go_sem, hc]; rfl)); (apply server_c; exact ⟨rfl, rfl⟩); apply s_spec; decide; rfl; rfl; (iterate 4 (simp only [go_sem, hc]; rfl)); simp [condsOk]; apply s_pick; decide; (iterate 6 (simp only [go_sem, hc]; rfl)); trivial; trivial; simp [condsOk]; refine s_nil (hK _ _ ?_); clear hK K)
  refine cs (fun hd => ?_) (fun hd => ?_)
  · (apply sR; intro K hK; (iterate 3 (refine qr ?_)); refine s_nil (hK _ _ ?_); clear hK K; apply AWp_ret; simp only [AThen, ABlock]; apply end_ret; rfl; simp only [AFr.get, reduceIte, Nat.reduceEqDiff])
    have e : idCut sign l = none := by
      unfold idCut
      simp only [hc]
      cases h1 : hasPre l sign <;> cases c3 <;> cases h2 : isLocal c1 <;> cases h3 : isServer c2 <;> simp_all
    unfold idParts at h
    rw [e] at h
    exact h
  · (refine AWp_skip (hK _ _ ?_); clear hK K; apply sR; intro K hK; (iterate 5 (refine qr ?_)); refine s_nil (hK _ _ ?_); clear hK K; apply AWp_ret)
    have e : idCut sign l = some (c1, c2) := by
      unfold idCut
      simp only [hc]
      cases h1 : hasPre l sign <;> cases c3 <;> cases h2 : isLocal c1 <;> cases h3 : isServer c2 <;> simp_all
    unfold idParts at h
    rw [e] at h
    exact h
theorem user_c (l : List UInt8) (hl : l.length < 4294967281) (H : AHeap) (K : AV → AHeap → Prop) (h : K (idParts [64] l) H) : ACall X 134 [.s l] H K := by
  obtain ⟨a, b, c, e⟩ : ∃ a b c, idParts [64] l = .tup [.s a, .s b, .v (.bool c)] := by
    unfold idParts; split <;> exact ⟨_, _, _, rfl⟩
  refine ACall_intro Tryz.func134 rfl (by kernel_rfl) (by rw [Tryz.ntmps134]; simp) ?_; rw [Tryz.ntmps134]; simp only [frame0, Nat.reduceAdd]
  (apply sR; intro K hK; (iterate 3 (apply s_q; decide; rfl; (simp only [go_sem, e]; rfl))); refine s_nil (hK _ _ ?_); clear hK K; apply sR; intro K hK; apply s_q; decide; rfl; (simp only [go_sem, e]; rfl); apply s_call; decide; (iterate 2 (simp only [go_sem, e]; rfl)); apply idcut_c _ _ hl; (iterate 6 (apply s_q; decide; rfl; (simp only [go_sem, e]; rfl))); refine s_nil (hK _ _ ?_); clear hK K; apply AWp_ret)
  rw [e] at h; exact h


def ValidC (V : List UInt8 → Bool) : Prop := ∀ (l : List UInt8) (H : AHeap) (K : AV → AHeap → Prop), l.length ≤ 9223372036854775807 → K (.v (.bool (V l))) H → ACall X 164 [.s l] H K
def seenMap (ks : List (List UInt8)) : List (List UInt8 × AV) := ks.map fun k => (k, .v (.bool true))
theorem kfind_seen (k : List UInt8) : ∀ ks : List (List UInt8), kfind k (seenMap ks) = if k ∈ ks then some (.v (.bool true)) else none
  | [] => rfl
  | a :: ks => by
    have ih := kfind_seen k ks
    simp only [seenMap, List.map_cons, kfind, List.mem_cons] at ih ⊢
    by_cases e : a = k
    · subst e; simp
    · rw [if_neg e, ih]
      have : ¬ k = a := fun h => e h.symm
      simp [this]
theorem kput_seen {k : List UInt8} : ∀ {ks : List (List UInt8)}, k ∉ ks → kput k (.v (.bool true)) (seenMap ks) = seenMap (ks ++ [k])
  | [], _ => rfl
  | a :: ks, h => by
    have ih := kput_seen (k := k) (ks := ks) (fun hm => h (by simp [hm]))
    have e : ¬ a = k := fun e => h (by simp [e])
    simp only [seenMap, List.map_cons, kput, List.cons_append] at ih ⊢
    rw [if_neg e, ih]
theorem named_c {V : List UInt8 → Bool} (hV : ValidC V) (t : Bool) (ks : List (List UInt8)) (hl : ks.length ≤ 4611686018427387904) (hkl : ∀ x ∈ ks, x.length ≤ 9223372036854775807) (H : AHeap) (Kc : AV → AHeap → Prop) (h : Kc (.v (.bool (namedB V ks))) H) : ACall X 165 [.sl t (ks.map strCells)] H Kc := by
  refine ACall.drop ?_
  refine ACall_intro Tryz.func165 rfl (by kernel_rfl) (by rw [Tryz.ntmps165]; simp) ?_; rw [Tryz.ntmps165]; simp only [frame0, Nat.reduceAdd]
  (apply sR; intro K hK; refine qr ?_; refine s_nil (hK _ _ ?_); clear hK K; apply sR; intro K hK; apply s_smap; decide; exact mp_173; intro b hb; refine qr ?_; refine s_nil (hK _ _ ?_); clear hK K; apply sK; intro K hK; apply sR; intro K hK; (iterate 3 (refine qr ?_)); refine s_nil (hK _ _ ?_); clear hK K; apply AWp_block)
  obtain ⟨s, rfl⟩ : ∃ s, s = b := ⟨_, rfl⟩
  have hs := hb
  clear hb
  refine AWp_loop_s (σ := Nat) [3, 7, 8, 9] (fun i => [.v (.map (some s)), .sl t (ks.map strCells), .v (.int .i64 ks.length), .v (.int .i64 i)]) (fun i => H.put s (.smap (seenMap (ks.take i)))) (fun i => ks.length - i) (fun i => i ≤ ks.length ∧ (ks.take i).Nodup ∧ (ks.take i).all V = true) 0 ⟨Nat.zero_le _, by simp, rfl⟩ rfl rfl (fun i hi => ?_)
  simp only [List.zip_cons_cons, List.zip_nil_right]
  have hg := AHeap.get_put_same s (.smap (seenMap (ks.take i))) H
  (apply sR; intro K hK; refine qr ?_; refine s_nil (hK _ _ ?_); clear hK K; apply sK; intro K hK)
  refine cs (fun hd => ?_) (fun hd => ?_)
  · have hlt : i < ks.length := by simpa using hd
    obtain ⟨k, hm⟩ : ∃ a, ks[i]? = some a := ⟨_, List.getElem?_eq_getElem hlt⟩
    have hgk : (ks.map strCells)[i]? = some [.s k] := by rw [List.getElem?_map, hm]; rfl
    have hkf := kfind_seen k (ks.take i)
    have hk1 := hkl k (List.mem_of_getElem? hm)
    by_cases hin : k ∈ ks.take i
    · rw [if_pos hin] at hkf
      (refine AWp_skip (hK _ _ ?_); clear hK K; apply sK; intro K hK; apply AWp_block; apply sR; intro K hK; (iterate 3 (apply s_q; decide; rfl; (simp only [go_sem, hgk, hg, hkf]; rfl))); refine s_nil (hK _ _ ?_); clear hK K; apply sK; intro K hK; apply sR; intro K hK; (iterate 4 (apply s_q; decide; rfl; (simp only [go_sem, hgk, hg, hkf]; rfl))); apply s_spec; decide; rfl; rfl; (iterate 4 (simp only [go_sem, hgk, hg, hkf]; rfl)); trivial; apply s_gpure; decide; (iterate 3 (simp only [go_sem, hgk, hg, hkf]; rfl)); trivial; (iterate 2 (simp only [go_sem, hgk, hg, hkf]; rfl)); (apply hV _ _ _ hk1; exact ⟨rfl, rfl⟩); apply s_spec; decide; rfl; rfl; (iterate 4 (simp only [go_sem, hgk, hg, hkf]; rfl)); trivial; apply s_pick; decide; (iterate 6 (simp only [go_sem, hgk, hg, hkf]; rfl)); trivial; trivial; trivial; refine s_nil (hK _ _ ?_); clear hK K)
      refine cs (fun hq => ?_) (fun hq => ?_)
      · (apply sR; intro K hK; refine qr ?_; refine s_nil (hK _ _ ?_); clear hK K; apply AWp_ret; simp only [AThen, ABlock]; apply end_ret; rfl; simp only [AFr.get, reduceIte, Nat.reduceEqDiff])
        refine ⟨H, Ext.fresh hs, finB h ?_⟩
        have : ¬ ks.Nodup := fun hn => by
          have h2 : (ks.take (i + 1)).Nodup := hn.sublist (List.take_sublist _ _)
          rw [List.take_add_one, hm] at h2
          have h3 := (List.nodup_append.1 h2).2.2 k hin k (by simp)
          exact h3 rfl
        rw [namedB, decide_eq_false this]; rfl
      · simp at hq
    · rw [if_neg hin] at hkf
      (refine AWp_skip (hK _ _ ?_); clear hK K; apply sK; intro K hK; apply AWp_block; apply sR; intro K hK; (iterate 3 (apply s_q; decide; rfl; (simp only [go_sem, hgk, hg, hkf]; rfl))); refine s_nil (hK _ _ ?_); clear hK K; apply sK; intro K hK; apply sR; intro K hK; (iterate 4 (apply s_q; decide; rfl; (simp only [go_sem, hgk, hg, hkf]; rfl))); apply s_spec; decide; rfl; rfl; (iterate 4 (simp only [go_sem, hgk, hg, hkf]; rfl)); trivial; apply s_gpure; decide; (iterate 3 (simp only [go_sem, hgk, hg, hkf]; rfl)); trivial; (iterate 2 (simp only [go_sem, hgk, hg, hkf]; rfl)); (apply hV _ _ _ hk1; exact ⟨rfl, rfl⟩); apply s_spec; decide; rfl; rfl; (iterate 4 (simp only [go_sem, hgk, hg, hkf]; rfl)); trivial; apply s_pick; decide; (iterate 6 (simp only [go_sem, hgk, hg, hkf]; rfl)); trivial; trivial; trivial; refine s_nil (hK _ _ ?_); clear hK K)
      refine cs (fun hq => ?_) (fun hq => ?_)
      · (apply sR; intro K hK; refine qr ?_; refine s_nil (hK _ _ ?_); clear hK K; apply AWp_ret; simp only [AThen, ABlock]; apply end_ret; rfl; simp only [AFr.get, reduceIte, Nat.reduceEqDiff])
        refine ⟨H, Ext.fresh hs, finB h ?_⟩
        rw [namedB, not_all hm (by simpa using hq), Bool.and_false]
      · have hv : V k = true := by simpa using hq
        have hkp := kput_seen hin
        (refine AWp_skip (hK _ _ ?_); clear hK K; apply s_region; (iterate 2 (apply s_q; decide; rfl; (simp only [go_sem, hg, hkp]; rfl))); apply s_mapput; (iterate 4 (simp only [go_sem, hg, hkp]; rfl)); refine s_nil (hK _ _ ?_); clear hK K; apply s_region; (iterate 2 (apply s_q; decide; rfl; (simp only [go_sem, hg, hkp]; rfl))); apply s_nil; simp only [AThen, ABlock])
        refine ⟨i + 1, by omega, ⟨by omega, ?_, ?_⟩, ?_, ?_⟩
        · rw [List.take_add_one, hm]
          refine List.nodup_append.2 ⟨hi.2.1, by simp, fun a ha c hc => ?_⟩
          simp at hc; subst hc
          rintro rfl; exact hin ha
        · rw [all_take hm hi.2.2]; exact hv
        · simp only [getAll, List.map, AFr.get, reduceIte, Nat.reduceEqDiff]
          rw [wrapS hlt (by omega)]; try rfl
        · rw [List.take_add_one, hm]; try rfl
  · have hge : ks.length ≤ i := by simpa using hd
    (apply AWp_exit; simp only [AThen, ABlock, reduceIte, Nat.reduceEqDiff]; clear hK K; refine hK _ _ ?_; clear hK K; apply sR; intro K hK; refine qr ?_; refine s_nil (hK _ _ ?_); clear hK K; apply AWp_ret)
    refine ⟨H, Ext.fresh hs, finB h ?_⟩
    have h1 := hi.2.1
    have h2 := hi.2.2
    rw [List.take_of_length_le hge] at h1 h2
    rw [namedB, decide_eq_true h1, h2]; rfl

set_option maxHeartbeats 4000000 in
theorem shaped_c {V : List UInt8 → Bool} (hV : ValidC V) (j : J) (hl : j.keys.length ≤ 4611686018427387904 ∧ j.list.length < 4611686018427387904) (ht : j.text.length ≤ 9223372036854775807) (hkl : ∀ x ∈ j.keys, x.length ≤ 9223372036854775807) (H : AHeap) (Kc : AV → AHeap → Prop) (h : Kc (.v (.bool (shapedB V j))) H) : ACall X 153 [.agg j.cells] H Kc := by
  refine ACall.drop ?_
  rw [J.cells_eq]
  have hemp : decide (IntKind.i64.wrap ((j.keys.length : Int) + j.list.length) = 0) = (decide (j.keys = []) && decide (j.list = [])) := by
    rw [wrap64 (by omega)]
    cases hk : j.keys with
    | nil =>
      cases hll : j.list with
      | nil => simp
      | cons a l => simp; omega
    | cons a l => simp; omega
  refine ACall_intro Tryz.func153 rfl (by kernel_rfl) (by rw [Tryz.ntmps153]; simp) ?_; rw [Tryz.ntmps153]; simp only [frame0, Nat.reduceAdd]
  (apply sR; intro K hK; apply s_box; decide; (iterate 2 (simp only [go_sem]; rfl)); intro b hb; refine qr ?_; refine s_nil (hK _ _ ?_); clear hK K; apply sR; intro K hK; (iterate 9 (refine qr ?_)); refine s_nil (hK _ _ ?_); clear hK K; apply sK; intro K hK; apply sR; intro K hK; (iterate 2 (refine qr ?_)); refine s_nil (hK _ _ ?_); clear hK K; apply AWp_block; apply sR; intro K hK; (iterate 2 (refine qr ?_)); refine s_nil (hK _ _ ?_); clear hK K)
  obtain ⟨s, rfl⟩ : ∃ s, s = b := ⟨_, rfl⟩
  have hs := hb
  clear hb
  have g := AHeap.get_put_same s (.box 25 [.v (.int .i64 j.kind), .v (.int .i64 j.int), .s j.text, .sl false (j.keys.map strCells), .sl false (j.list.map J.cells)]) H
  have hE := Ext.fresh (o := .box 25 [.v (.int .i64 j.kind), .v (.int .i64 j.int), .s j.text, .sl false (j.keys.map strCells), .sl false (j.list.map J.cells)]) hs
  generalize H.put s (.box 25 [.v (.int .i64 j.kind), .v (.int .i64 j.int), .s j.text, .sl false (j.keys.map strCells), .sl false (j.list.map J.cells)]) = M at g hE ⊢
  have hfin : ∀ b : Bool, b = shapedB V j → ∃ L', Ext L' M ∧ Kc (.v (.bool b)) L' := fun b hb => ⟨H, hE, by rw [hb]; exact h⟩
  skip
  refine cs (fun h0 => ?_) (fun h0 => ?_)
  · (apply sR; intro K hK; (iterate 2 (apply s_q; decide; rfl; (simp only [go_sem, g]; rfl))); apply s_spec; decide; rfl; rfl; (iterate 4 (simp only [go_sem, g]; rfl)); trivial; (iterate 2 (apply s_spec; decide; rfl; rfl; (iterate 4 (simp only [go_sem, g]; rfl)); simp [condsOk])); apply s_pick; decide; (iterate 6 (simp only [go_sem, g]; rfl)); trivial; simp [condsOk]; trivial; apply s_q; decide; rfl; (simp only [go_sem, g]; rfl); apply s_spec; decide; rfl; rfl; (iterate 4 (simp only [go_sem, g]; rfl)); trivial; (iterate 2 (apply s_spec; decide; rfl; rfl; (iterate 4 (simp only [go_sem, g]; rfl)); simp [condsOk])); apply s_pick; decide; (iterate 6 (simp only [go_sem, g]; rfl)); trivial; simp [condsOk]; trivial; apply s_q; decide; rfl; (simp only [go_sem, g]; rfl); refine s_nil (hK _ _ ?_); clear hK K; apply AWp_ret; simp only [AThen, ABlock]; apply end_ret; rfl; simp only [AFr.get, reduceIte, Nat.reduceEqDiff])
    have h0 : j.kind = 0 := by simpa using h0
    refine hfin _ ?_
    try rw [hemp]
    simp [shapedB, h0, Bool.and_assoc]
  have h0 : ¬ j.kind = 0 := by simpa using h0
  (apply sR; intro K hK; (iterate 2 (refine qr ?_)); refine s_nil (hK _ _ ?_); clear hK K)
  refine cs (fun h1 => ?_) (fun h1 => ?_)
  · (apply sR; intro K hK; (iterate 2 (apply s_q; decide; rfl; (simp only [go_sem, g]; rfl))); apply s_spec; decide; rfl; rfl; (iterate 4 (simp only [go_sem, g]; rfl)); trivial; (iterate 2 (apply s_spec; decide; rfl; rfl; (iterate 4 (simp only [go_sem, g]; rfl)); simp [condsOk])); apply s_pick; decide; (iterate 6 (simp only [go_sem, g]; rfl)); trivial; simp [condsOk]; trivial; apply s_q; decide; rfl; (simp only [go_sem, g]; rfl); apply s_spec; decide; rfl; rfl; (iterate 4 (simp only [go_sem, g]; rfl)); trivial; (iterate 3 (apply s_spec; decide; rfl; rfl; (iterate 4 (simp only [go_sem, g]; rfl)); simp [condsOk])); apply s_spec; decide; rfl; rfl; (iterate 4 (simp only [go_sem, g]; rfl)); trivial; (iterate 2 (apply s_spec; decide; rfl; rfl; (iterate 4 (simp only [go_sem, g]; rfl)); simp [condsOk])); apply s_pickg; decide; (iterate 8 (simp only [go_sem, g]; rfl)); simp [condsOk]; trivial; simp [condsOk]; apply s_pick; decide; (iterate 6 (simp only [go_sem, g]; rfl)); trivial; simp [condsOk]; trivial; apply s_q; decide; rfl; (simp only [go_sem, g]; rfl); refine s_nil (hK _ _ ?_); clear hK K; apply AWp_ret; simp only [AThen, ABlock]; apply end_ret; rfl; simp only [AFr.get, reduceIte, Nat.reduceEqDiff])
    have h1 : j.kind = 1 := by simpa using h1
    refine hfin _ ?_
    try rw [hemp]
    simp [shapedB, h1, len0, Bool.and_assoc]
  have h1 : ¬ j.kind = 1 := by simpa using h1
  (apply sR; intro K hK; (iterate 2 (refine qr ?_)); refine s_nil (hK _ _ ?_); clear hK K)
  refine cs (fun h2 => ?_) (fun h2 => ?_)
  · (apply sR; intro K hK; (iterate 2 (apply s_q; decide; rfl; (simp only [go_sem, g]; rfl))); apply s_spec; decide; rfl; rfl; (iterate 4 (simp only [go_sem, g]; rfl)); trivial; (iterate 2 (apply s_spec; decide; rfl; rfl; (iterate 4 (simp only [go_sem, g]; rfl)); simp [condsOk])); apply s_pick; decide; (iterate 6 (simp only [go_sem, g]; rfl)); trivial; simp [condsOk]; trivial; apply s_q; decide; rfl; (simp only [go_sem, g]; rfl); apply s_spec; decide; rfl; rfl; (iterate 4 (simp only [go_sem, g]; rfl)); trivial; (iterate 2 (apply s_spec; decide; rfl; rfl; (iterate 4 (simp only [go_sem, g]; rfl)); simp [condsOk])); apply s_pick; decide; (iterate 6 (simp only [go_sem, g]; rfl)); trivial; simp [condsOk]; trivial; apply s_q; decide; rfl; (simp only [go_sem, g]; rfl); apply s_spec; decide; rfl; rfl; (iterate 4 (simp only [go_sem, g]; rfl)); trivial; (iterate 2 (apply s_spec; decide; rfl; rfl; (iterate 4 (simp only [go_sem, g]; rfl)); simp [condsOk])); apply s_pick; decide; (iterate 6 (simp only [go_sem, g]; rfl)); trivial; simp [condsOk]; trivial; apply s_q; decide; rfl; (simp only [go_sem, g]; rfl); refine s_nil (hK _ _ ?_); clear hK K; apply AWp_ret; simp only [AThen, ABlock]; apply end_ret; rfl; simp only [AFr.get, reduceIte, Nat.reduceEqDiff])
    have h2 : j.kind = 2 := by simpa using h2
    refine hfin _ ?_
    try rw [hemp]
    simp [shapedB, h2, len0, Bool.and_assoc]
  have h2 : ¬ j.kind = 2 := by simpa using h2
  (apply sR; intro K hK; (iterate 2 (refine qr ?_)); refine s_nil (hK _ _ ?_); clear hK K)
  refine cs (fun h3 => ?_) (fun h3 => ?_)
  · (apply sR; intro K hK; (iterate 2 (apply s_q; decide; rfl; (simp only [go_sem, g]; rfl))); apply s_spec; decide; rfl; rfl; (iterate 4 (simp only [go_sem, g]; rfl)); trivial; (iterate 2 (apply s_spec; decide; rfl; rfl; (iterate 4 (simp only [go_sem, g]; rfl)); simp [condsOk])); apply s_pick; decide; (iterate 6 (simp only [go_sem, g]; rfl)); trivial; simp [condsOk]; trivial; apply s_q; decide; rfl; (simp only [go_sem, g]; rfl); apply s_spec; decide; rfl; rfl; (iterate 4 (simp only [go_sem, g]; rfl)); trivial; apply s_spec; decide; rfl; rfl; (iterate 4 (simp only [go_sem, g]; rfl)); simp [condsOk]; apply s_gpure; decide; (iterate 3 (simp only [go_sem, g]; rfl)); simp [condsOk]; (iterate 2 (simp only [go_sem, g]; rfl)); (apply hV _ _ _ ht; exact ⟨rfl, rfl⟩); apply s_pick; decide; (iterate 6 (simp only [go_sem, g]; rfl)); trivial; simp [condsOk]; trivial; apply s_q; decide; rfl; (simp only [go_sem, g]; rfl); refine s_nil (hK _ _ ?_); clear hK K; apply AWp_ret; simp only [AThen, ABlock]; apply end_ret; rfl; simp only [AFr.get, reduceIte, Nat.reduceEqDiff])
    have h3 : j.kind = 3 := by simpa using h3
    refine hfin _ ?_
    try rw [hemp]
    simp [shapedB, h3, len0, Bool.and_assoc]
  have h3 : ¬ j.kind = 3 := by simpa using h3
  (apply sR; intro K hK; (iterate 2 (refine qr ?_)); refine s_nil (hK _ _ ?_); clear hK K)
  refine cs (fun h4 => ?_) (fun h4 => ?_)
  · (apply sR; intro K hK; (iterate 5 (apply s_q; decide; rfl; (simp only [go_sem, g]; rfl))); apply s_spec; decide; rfl; rfl; (iterate 4 (simp only [go_sem, g]; rfl)); trivial; (iterate 2 (apply s_spec; decide; rfl; rfl; (iterate 4 (simp only [go_sem, g]; rfl)); simp [condsOk])); apply s_pick; decide; (iterate 6 (simp only [go_sem, g]; rfl)); trivial; simp [condsOk]; trivial; apply s_q; decide; rfl; (simp only [go_sem, g]; rfl); apply s_spec; decide; rfl; rfl; (iterate 4 (simp only [go_sem, g]; rfl)); trivial; (iterate 2 (apply s_spec; decide; rfl; rfl; (iterate 4 (simp only [go_sem, g]; rfl)); simp [condsOk])); apply s_pick; decide; (iterate 6 (simp only [go_sem, g]; rfl)); trivial; simp [condsOk]; trivial; apply s_q; decide; rfl; (simp only [go_sem, g]; rfl); refine s_nil (hK _ _ ?_); clear hK K; apply AWp_ret; simp only [AThen, ABlock]; apply end_ret; rfl; simp only [AFr.get, reduceIte, Nat.reduceEqDiff])
    have h4 : j.kind = 4 := by simpa using h4
    refine hfin _ ?_
    try rw [hemp]
    simp [shapedB, h4, len0, Bool.and_assoc]
  have h4 : ¬ j.kind = 4 := by simpa using h4
  (apply sR; intro K hK; (iterate 2 (refine qr ?_)); refine s_nil (hK _ _ ?_); clear hK K)
  refine cs (fun h5 => ?_) (fun h5 => ?_)
  · (apply sR; intro K hK; (iterate 8 (apply s_q; decide; rfl; (simp only [go_sem, g]; rfl))); apply s_spec; decide; rfl; rfl; (iterate 4 (simp only [go_sem, g]; rfl)); trivial; (iterate 2 (apply s_spec; decide; rfl; rfl; (iterate 4 (simp only [go_sem, g]; rfl)); simp [condsOk])); apply s_pick; decide; (iterate 6 (simp only [go_sem, g]; rfl)); trivial; simp [condsOk]; trivial; apply s_q; decide; rfl; (simp only [go_sem, g]; rfl); apply s_spec; decide; rfl; rfl; (iterate 4 (simp only [go_sem, g]; rfl)); trivial; (iterate 2 (apply s_spec; decide; rfl; rfl; (iterate 4 (simp only [go_sem, g]; rfl)); simp [condsOk])); apply s_pick; decide; (iterate 6 (simp only [go_sem, g]; rfl)); trivial; simp [condsOk]; trivial; apply s_q; decide; rfl; (simp only [go_sem, g]; rfl); apply s_spec; decide; rfl; rfl; (iterate 4 (simp only [go_sem, g]; rfl)); trivial; apply s_spec; decide; rfl; rfl; (iterate 4 (simp only [go_sem, g]; rfl)); simp [condsOk]; apply s_gpure; decide; (iterate 3 (simp only [go_sem, g]; rfl)); simp [condsOk]; (iterate 2 (simp only [go_sem, g]; rfl)); (apply named_c hV false j.keys hl.1 hkl; exact ⟨rfl, rfl⟩); apply s_pick; decide; (iterate 6 (simp only [go_sem, g]; rfl)); trivial; simp [condsOk]; trivial; apply s_q; decide; rfl; (simp only [go_sem, g]; rfl); refine s_nil (hK _ _ ?_); clear hK K; apply AWp_ret; simp only [AThen, ABlock]; apply end_ret; rfl; simp only [AFr.get, reduceIte, Nat.reduceEqDiff])
    have h5 : j.kind = 5 := by simpa using h5
    refine hfin _ ?_
    have e : decide ((j.keys.length : Int) = j.list.length) = decide (j.keys.length = j.list.length) := decide_eq_decide.2 Int.natCast_inj
    rw [e]
    simp [shapedB, h5, Bool.and_assoc]
  have h5 : ¬ j.kind = 5 := by simpa using h5
  (refine AWp_skip (hK _ _ ?_); clear hK K; apply sR; intro K hK; refine qr ?_; refine s_nil (hK _ _ ?_); clear hK K; apply AWp_ret)
  exact hfin _ (by simp [shapedB, h0, h1, h2, h3, h4, h5])

theorem and_mask {x k : Nat} (hx : x < 9223372036854775808) (hk : k < 63) : IntKind.i64.wrap (((BitVec.ofInt IntKind.i64.bits (x : Int) &&& BitVec.ofInt IntKind.i64.bits (((2 ^ k - 1 : Nat)) : Int)).toNat : Nat) : Int) = ((x % 2 ^ k : Nat) : Int) := by
  have h1 : (2 ^ k : Nat) ≤ 2 ^ 62 := Nat.pow_le_pow_right (by decide) (by omega)
  have e : ((BitVec.ofInt IntKind.i64.bits (x : Int) &&& BitVec.ofInt IntKind.i64.bits (((2 ^ k - 1 : Nat)) : Int)).toNat : Nat) = x % 2 ^ k := by
    show (BitVec.ofInt 64 (x : Int) &&& BitVec.ofInt 64 (((2 ^ k - 1 : Nat)) : Int)).toNat = _
    rw [BitVec.ofInt_natCast, BitVec.ofInt_natCast, BitVec.toNat_and, BitVec.toNat_ofNat, BitVec.toNat_ofNat, Nat.mod_eq_of_lt (by omega), Nat.mod_eq_of_lt (by omega), Nat.and_two_pow_sub_one_eq_mod]
  rw [e]
  have h2 : x % 2 ^ k < 2 ^ k := Nat.mod_lt _ (Nat.two_pow_pos k)
  exact wrap64 (by omega)
theorem or_low {x y : Nat} (hx : x < 9000000000000000) (hy : y < 64) : IntKind.i64.wrap (((BitVec.ofInt 64 ((x * 64 : Nat) : Int) ||| BitVec.ofInt 64 (y : Int)).toNat : Nat) : Int) = ((x * 64 + y : Nat) : Int) := by
  have e : ((BitVec.ofInt 64 ((x * 64 : Nat) : Int) ||| BitVec.ofInt 64 (y : Int)).toNat : Nat) = x * 64 + y := by
    rw [BitVec.ofInt_natCast, BitVec.ofInt_natCast, BitVec.toNat_or, BitVec.toNat_ofNat, BitVec.toNat_ofNat, Nat.mod_eq_of_lt (by omega), Nat.mod_eq_of_lt (by omega)]
    have := Nat.two_pow_add_eq_or_of_lt (i := 6) (b := y) (by omega) x
    rw [show x * 64 = 2 ^ 6 * x by omega, ← this]
  rw [e]
  exact wrap64 (by omega)
theorem cont_u8 (b : UInt8) : decide (IntKind.u8.wrap (((BitVec.ofInt 8 (b.toNat : Int) &&& BitVec.ofInt 8 192).toNat : Nat) : Int) = 128) = contB b.toNat := by
  have h : ∀ n : Fin 256, decide (IntKind.u8.wrap (((BitVec.ofInt 8 ((n.val : Nat) : Int) &&& BitVec.ofInt 8 192).toNat : Nat) : Int) = 128) = contB n.val := by decide +kernel
  exact h ⟨b.toNat, b.toNat_lt⟩
theorem low_u8 (b : UInt8) : IntKind.u8.wrap (((BitVec.ofInt 8 (b.toNat : Int) &&& BitVec.ofInt 8 63).toNat : Nat) : Int) = ((b.toNat % 64 : Nat) : Int) := by
  have h : ∀ n : Fin 256, IntKind.u8.wrap (((BitVec.ofInt 8 ((n.val : Nat) : Int) &&& BitVec.ofInt 8 63).toNat : Nat) : Int) = ((n.val % 64 : Nat) : Int) := by decide +kernel
  exact h ⟨b.toNat, b.toNat_lt⟩

def letB (n : Int) : Bool := decide (0 ≤ n) && decide (n ≤ 1114111) && (decide (n < 55296) || decide (57343 < n))
theorem letter_c (n : Int) (H : AHeap) (K : AV → AHeap → Prop) (h : K (.v (.bool (letB n))) H) : ACall X 180 [.v (.int .i64 n)] H K := by
  refine ACall_intro Tryz.func180 rfl (by kernel_rfl) (by rw [Tryz.ntmps180]; simp) ?_; rw [Tryz.ntmps180]; simp only [frame0, Nat.reduceAdd]
  (apply sR; intro K hK; refine qr ?_; refine s_nil (hK _ _ ?_); clear hK K; apply sR; intro K hK; (iterate 3 (refine qr ?_)); refine sp ?_; refine sp ?_; apply s_pick; decide; (iterate 6 (simp only [go_sem]; rfl)); trivial; simp [condsOk]; trivial; refine qr ?_; refine sp ?_; (iterate 2 (refine sp ?_)); refine sp ?_; refine sp ?_; apply s_pickg; decide; (iterate 8 (simp only [go_sem]; rfl)); simp [condsOk]; trivial; simp [condsOk]; apply s_pick; decide; (iterate 6 (simp only [go_sem]; rfl)); trivial; simp [condsOk]; trivial; refine qr ?_; refine s_nil (hK _ _ ?_); clear hK K; apply AWp_ret)
  refine end_ret (av := .v (.bool (letB n))) (by
    show resAV X.P _ _ [.tmp 2] = _
    by_cases h1 : 0 ≤ n <;> by_cases h2 : n ≤ 1114111 <;> by_cases h3 : n < 55296 <;> simp [go_sem, letB, h1, h2, h3]) h

def accN (m : List UInt8) (c0 : Nat) : Nat → Nat
  | 0 => c0
  | k + 1 => accN m c0 k * 64 + (m.getD (k + 1) 0).toNat % 64
def okN (m : List UInt8) (many : Nat) : Prop := ∀ k, k < many → k + 1 < m.length ∧ contB (m.getD (k + 1) 0).toNat = true
def runeOf (m : List UInt8) (many least c0 : Nat) : Prop := (okN m many → docL m = if accN m c0 many < least ∨ letB (accN m c0 many : Nat) = false then 0 else many + 1) ∧ (¬ okN m many → docL m = 0)
theorem letB_true {n : Nat} (h : n ≤ 1114111) (h2 : n < 55296 ∨ 57343 < n) : letB (n : Int) = true := by
  rw [letB]
  rcases h2 with h2 | h2
  · rw [decide_eq_true (by omega), decide_eq_true (by omega), decide_eq_true (show (n : Int) < 55296 by omega)]; rfl
  · rw [decide_eq_true (by omega), decide_eq_true (by omega), decide_eq_true (show (57343 : Int) < n by omega)]; simp
theorem letB_false {n : Nat} (h : 1114111 < n ∨ 55296 ≤ n ∧ n ≤ 57343) : letB (n : Int) = false := by
  rw [letB]
  rcases h with h | h
  · rw [decide_eq_false (show ¬ ((n : Int) ≤ 1114111) by omega)]; simp
  · rw [decide_eq_false (show ¬ ((n : Int) < 55296) by omega), decide_eq_false (show ¬ ((57343 : Int) < n) by omega)]; simp
theorem rune1 {m : List UInt8} (hm : m ≠ []) (h1 : 192 ≤ (m.getD 0 0).toNat) (h2 : (m.getD 0 0).toNat < 224) : runeOf m 1 128 ((m.getD 0 0).toNat % 32) := by
  have hl : 1 ≤ m.length := List.length_pos_iff.2 hm
  unfold runeOf docL
  rw [docN2 h1 h2]
  refine ⟨fun h => ?_, fun h => ?_⟩
  · obtain ⟨k1, k2⟩ := h 0 (by decide)
    show _ = if (m.getD 0 0).toNat % 32 * 64 + (m.getD 1 0).toNat % 64 < 128 ∨ letB (((m.getD 0 0).toNat % 32 * 64 + (m.getD 1 0).toNat % 64 : Nat) : Int) = false then 0 else 2
    have k2 : contB (m.getD 1 0).toNat = true := k2
    generalize (m.getD 0 0).toNat = b0 at *
    generalize (m.getD 1 0).toNat = b1 at *
    rw [letB_true (by omega) (by omega), k2]
    simp only [Bool.true_eq_false, or_false, false_or]
    by_cases hv : b0 % 32 * 64 + b1 % 64 < 128
    · rw [if_pos (.inr hv), if_pos hv]
    · rw [if_neg (by omega), if_neg hv]
  · rw [if_pos]
    by_cases hc : m.length < 2
    · exact .inl hc
    · by_cases hd : contB (m.getD 1 0).toNat = false
      · exact .inr (.inl hd)
      · exfalso; refine h fun k hk => ?_
        obtain rfl : k = 0 := by omega
        exact ⟨by omega, by simpa using hd⟩
theorem rune2 {m : List UInt8} (hm : m ≠ []) (h1 : 224 ≤ (m.getD 0 0).toNat) (h2 : (m.getD 0 0).toNat < 240) : runeOf m 2 2048 ((m.getD 0 0).toNat % 16) := by
  have hl : 1 ≤ m.length := List.length_pos_iff.2 hm
  unfold runeOf docL
  rw [docN3 h1 h2]
  refine ⟨fun h => ?_, fun h => ?_⟩
  · obtain ⟨j1, j2⟩ := h 0 (by decide)
    obtain ⟨k1, k2⟩ := h 1 (by decide)
    show _ = if ((m.getD 0 0).toNat % 16 * 64 + (m.getD 1 0).toNat % 64) * 64 + (m.getD 2 0).toNat % 64 < 2048 ∨ letB ((((m.getD 0 0).toNat % 16 * 64 + (m.getD 1 0).toNat % 64) * 64 + (m.getD 2 0).toNat % 64 : Nat) : Int) = false then 0 else 3
    have j2 : contB (m.getD 1 0).toNat = true := j2
    have k2 : contB (m.getD 2 0).toNat = true := k2
    generalize (m.getD 0 0).toNat = b0 at *
    generalize (m.getD 1 0).toNat = b1 at *
    generalize (m.getD 2 0).toNat = b2 at *
    rw [j2, k2]
    simp only [Bool.true_eq_false, or_false, false_or]
    by_cases hv : (b0 % 16 * 64 + b1 % 64) * 64 + b2 % 64 < 2048
    · rw [if_pos (.inr (.inr (.inl hv))), if_pos (.inl hv)]
    · by_cases hw : 55296 ≤ (b0 % 16 * 64 + b1 % 64) * 64 + b2 % 64 ∧ (b0 % 16 * 64 + b1 % 64) * 64 + b2 % 64 ≤ 57343
      · rw [letB_false (.inr hw), if_pos (.inr (.inr (.inr hw))), if_pos (.inr rfl)]
      · rw [letB_true (by omega) (by omega), if_neg (by omega), if_neg (by rintro (h | h); exact hv h; cases h)]
  · rw [if_pos]
    by_cases hc : m.length < 2
    · exact .inl hc
    · by_cases hd : contB (m.getD 1 0).toNat = false
      · exact .inr (.inl hd)
      · by_cases hc3 : m.length < 3
        · exact .inr (.inr (.inl hc3))
        · by_cases hd2 : contB (m.getD 2 0).toNat = false
          · exact .inr (.inr (.inr (.inl hd2)))
          · exfalso; refine h fun k hk => ?_
            rcases (by omega : k = 0 ∨ k = 1) with rfl | rfl
            · exact ⟨by omega, by simpa using hd⟩
            · exact ⟨by omega, by simpa using hd2⟩
theorem rune3 {m : List UInt8} (hm : m ≠ []) (h1 : 240 ≤ (m.getD 0 0).toNat) (h2 : (m.getD 0 0).toNat < 248) : runeOf m 3 65536 ((m.getD 0 0).toNat % 8) := by
  have hl : 1 ≤ m.length := List.length_pos_iff.2 hm
  unfold runeOf docL
  rw [docN4 h1 h2]
  refine ⟨fun h => ?_, fun h => ?_⟩
  · obtain ⟨i1, i2⟩ := h 0 (by decide)
    obtain ⟨j1, j2⟩ := h 1 (by decide)
    obtain ⟨k1, k2⟩ := h 2 (by decide)
    show _ = if (((m.getD 0 0).toNat % 8 * 64 + (m.getD 1 0).toNat % 64) * 64 + (m.getD 2 0).toNat % 64) * 64 + (m.getD 3 0).toNat % 64 < 65536 ∨ letB (((((m.getD 0 0).toNat % 8 * 64 + (m.getD 1 0).toNat % 64) * 64 + (m.getD 2 0).toNat % 64) * 64 + (m.getD 3 0).toNat % 64 : Nat) : Int) = false then 0 else 4
    have i2 : contB (m.getD 1 0).toNat = true := i2
    have j2 : contB (m.getD 2 0).toNat = true := j2
    have k2 : contB (m.getD 3 0).toNat = true := k2
    generalize (m.getD 0 0).toNat = b0 at *
    generalize (m.getD 1 0).toNat = b1 at *
    generalize (m.getD 2 0).toNat = b2 at *
    generalize (m.getD 3 0).toNat = b3 at *
    rw [i2, j2, k2]
    simp only [Bool.true_eq_false, or_false, false_or]
    by_cases hv : ((b0 % 8 * 64 + b1 % 64) * 64 + b2 % 64) * 64 + b3 % 64 < 65536
    · rw [if_pos (.inr (.inr (.inr (.inl hv)))), if_pos (.inl hv)]
    · by_cases hw : 1114111 < ((b0 % 8 * 64 + b1 % 64) * 64 + b2 % 64) * 64 + b3 % 64
      · rw [letB_false (.inl hw), if_pos (.inr (.inr (.inr (.inr hw)))), if_pos (.inr rfl)]
      · rw [letB_true (by omega) (by omega), if_neg (by omega), if_neg (by rintro (h | h); exact hv h; cases h)]
  · rw [if_pos]
    by_cases hc : m.length < 2
    · exact .inl hc
    · by_cases hd : contB (m.getD 1 0).toNat = false
      · exact .inr (.inl hd)
      · by_cases hc3 : m.length < 3
        · exact .inr (.inr (.inl hc3))
        · by_cases hd2 : contB (m.getD 2 0).toNat = false
          · exact .inr (.inr (.inr (.inl hd2)))
          · by_cases hc4 : m.length < 4
            · exact .inr (.inr (.inr (.inr (.inl hc4))))
            · by_cases hd3 : contB (m.getD 3 0).toNat = false
              · exact .inr (.inr (.inr (.inr (.inr (.inl hd3)))))
              · exfalso; refine h fun k hk => ?_
                rcases (by omega : k = 0 ∨ k = 1 ∨ k = 2) with rfl | rfl | rfl
                · exact ⟨by omega, by simpa using hd⟩
                · exact ⟨by omega, by simpa using hd2⟩
                · exact ⟨by omega, by simpa using hd3⟩
theorem rune_c (l : List UInt8) (i0 : Nat) (hi : i0 < l.length) (hl : l.length ≤ 4611686018427387904) (H : AHeap) (Kc : AV → AHeap → Prop) (h : ∀ c : Int, Kc (.tup [.v (.int .i64 c), .v (.int .i64 ((docL (l.drop i0) : Nat) : Int))]) H) : ACall X 172 [.s l, .v (.int .i64 i0)] H Kc := by
  obtain ⟨b0, hb0⟩ := gete hi
  obtain ⟨m, hm⟩ : ∃ m, m = l.drop i0 := ⟨_, rfl⟩
  have hm0 : (m.getD 0 0) = b0 := by rw [hm, List.getD_eq_getElem?_getD, List.getElem?_drop]; simp [hb0]
  have hml : m.length = l.length - i0 := by rw [hm, List.length_drop]
  have hne : m ≠ [] := List.length_pos_iff.1 (by omega)
  rw [← hm] at h
  refine ACall_intro Tryz.func172 rfl (by kernel_rfl) (by rw [Tryz.ntmps172]; simp) ?_; rw [Tryz.ntmps172]; simp only [frame0, Nat.reduceAdd]
  have hw0 : IntKind.i64.wrap (b0.toNat : Int) = (b0.toNat : Int) := by have := b0.toNat_lt; exact wrap64 (by omega)
  have hlt := b0.toNat_lt
  (apply sR; intro K hK; (iterate 2 (apply s_q; decide; rfl; (simp only [go_sem, hb0, hw0]; rfl))); refine s_nil (hK _ _ ?_); clear hK K; apply sR; intro K hK; (iterate 5 (apply s_q; decide; rfl; (simp only [go_sem, hb0, hw0]; rfl))); refine s_nil (hK _ _ ?_); clear hK K; apply sK; intro K hK; apply sR; intro K hK; (iterate 2 (apply s_q; decide; rfl; (simp only [go_sem, hb0, hw0]; rfl))); refine s_nil (hK _ _ ?_); clear hK K)
  refine cs (fun hc => ?_) (fun hc => ?_)
  · have hc' : b0.toNat < 128 := by simp at hc; omega
    have e : docL m = 1 := by unfold docL docN; rw [hm0, if_pos hc']
    rw [e] at h
    (apply sR; intro K hK; (iterate 3 (refine qr ?_)); refine s_nil (hK _ _ ?_); clear hK K; apply AWp_ret; simp only [AThen, ABlock]; apply end_ret; rfl; simp only [AFr.get, reduceIte, Nat.reduceEqDiff])
    exact h _
  have hc' : 128 ≤ b0.toNat := by simp at hc; omega
  refine AWp_skip (hK _ _ ?_); clear hK K
  apply sR; intro K hK
  ((iterate 2 (refine qr ?_)))
  refine s_nil (hK _ _ ?_); clear hK K
  refine AWp_seq_k (fun K0 hK0 => ?_)
  have hgo : ∀ (many least c0 : Nat), many ≤ 3 → least ≤ 100000 → c0 < 64 → runeOf m many least c0 → ∀ fr, getAll [0, 1, 6, 7, 8] fr = [.s l, .v (.int .i64 i0), .v (.int .i64 c0), .v (.int .i64 many), .v (.int .i64 least)] → K0 fr H := fun many least c0 hmany hleast hc0 hr fr hfr => by
    refine hK0 _ _ (AWp_cut _ hfr ?_)
    simp only [List.zip_cons_cons, List.zip_nil_right]
    (apply sK; intro K hK; apply sR; intro K hK; refine qr ?_; refine s_nil (hK _ _ ?_); clear hK K; apply AWp_block)
    refine AWp_loop_s (σ := Nat × Nat) [0, 1, 6, 7, 8, 9] (fun s => [.s l, .v (.int .i64 i0), .v (.int .i64 ((s.2 : Nat) : Int)), .v (.int .i64 many), .v (.int .i64 least), .v (.int .i64 ((s.1 + 1 : Nat) : Int))]) (fun _ => H) (fun s => many - s.1)
      (fun s => s.1 ≤ many ∧ okN m s.1 ∧ s.2 = accN m c0 s.1 ∧ s.2 + 1 ≤ 64 ^ (s.1 + 1)) (0, c0) ⟨Nat.zero_le _, fun k hk => absurd hk (Nat.not_lt_zero k), rfl, by simp only; omega⟩ rfl rfl (fun s hs => ?_)
    obtain ⟨i, c⟩ := s
    obtain ⟨h1, h2, h3, h4⟩ := hs
    simp only [List.zip_cons_cons, List.zip_nil_right] at h1 h2 h3 h4 ⊢
    (apply sK; intro K hK; apply sR; intro K hK; (iterate 3 (refine qr ?_)); refine s_nil (hK _ _ ?_); clear hK K)
    refine cs (fun hd => ?_) (fun hd => ?_)
    · have hlt2 : i < many := by simp at hd; omega
      have hwi : IntKind.i64.wrap ((i0 : Int) + ((i + 1 : Nat) : Int)) = ((i0 + (i + 1) : Nat) : Int) := by rw [wrap64 (by omega)]; omega
      by_cases hk : i0 + (i + 1) < l.length
      · obtain ⟨bk, hbk⟩ := gete hk
        have hmk : (m.getD (i + 1) 0) = bk := by rw [hm, List.getD_eq_getElem?_getD, List.getElem?_drop, hbk]; rfl
        have hge : decide (((l.length : Nat) : Int) ≤ ((i0 + (i + 1) : Nat) : Int)) = false := by simp; omega
        have cu := cont_u8 bk
        have lu := low_u8 bk
        have hc4 : c + 1 ≤ 64 ^ 4 := Nat.le_trans h4 (Nat.pow_le_pow_right (by decide) (by omega))
        have hwc : IntKind.i64.wrap ((c : Int) * 2 ^ min 6 64) = ((c * 64 : Nat) : Int) := by rw [show (2 : Int) ^ min 6 64 = 64 by decide, wrap64 (by omega)]; omega
        have hwl : IntKind.i64.wrap ((bk.toNat % 64 : Nat) : Int) = ((bk.toNat % 64 : Nat) : Int) := wrap64 (by omega)
        have ol := or_low (x := c) (y := bk.toNat % 64) (by omega) (by omega)
        (refine AWp_skip (hK _ _ ?_); clear hK K; apply sK; intro K hK; apply AWp_block; apply sK; intro K hK; apply sR; intro K hK; (iterate 7 (apply s_q; decide; rfl; (simp only [go_sem, hwi, hge, hbk, cu]; rfl))); (iterate 4 (apply s_spec; decide; rfl; rfl; (iterate 4 (simp only [go_sem, hwi, hge, hbk, cu]; rfl)); trivial)); apply s_when; decide; (iterate 3 (simp only [go_sem, hwi, hge, hbk, cu]; rfl)); trivial; (intro hg; simp only [go_sem, hbk]; try rfl); (iterate 2 (apply s_spec; decide; rfl; rfl; (iterate 4 (simp only [go_sem, hwi, hge, hbk, cu]; rfl)); trivial)); apply s_pick; decide; (iterate 6 (simp only [go_sem, hwi, hge, hbk, cu]; rfl)); trivial; trivial; trivial; refine s_nil (hK _ _ ?_); clear hK K)
        refine cs (fun he => ?_) (fun he => ?_)
        · have he : contB bk.toNat = false := by simpa using (congrArg (!·) cu).symm.trans he
          rw [hr.2 (fun hh => by have := (hh i hlt2).2; rw [hmk, he] at this; cases this)] at h
          (apply sR; intro K hK; (iterate 2 (refine qr ?_)); refine s_nil (hK _ _ ?_); clear hK K; apply AWp_ret; simp only [AThen, ABlock]; apply end_ret; rfl; simp only [AFr.get, reduceIte, Nat.reduceEqDiff])
          exact h _
        · have he : contB bk.toNat = true := by simpa using (congrArg (!·) cu).symm.trans he
          (refine AWp_skip (hK _ _ ?_); clear hK K; apply s_region; (iterate 11 (apply s_q; decide; rfl; (simp only [go_sem, hwi, hbk, lu, hwc, hwl, ol]; rfl))); refine s_nil (hK _ _ ?_); clear hK K; apply s_region; (iterate 3 (apply s_q; decide; rfl; (simp only [go_sem, hwi, hbk, lu, hwc, hwl, ol]; rfl))); apply s_nil; simp only [AThen, ABlock])
          refine ⟨(i + 1, c * 64 + bk.toNat % 64), by simp only; omega, ⟨by simp only; omega, fun k hk => ?_, ?_, ?_⟩, ?_, by trivial⟩
          · rcases Nat.lt_succ_iff_lt_or_eq.1 hk with hk | rfl
            · exact h2 k hk
            · exact ⟨by omega, by rw [hmk]; exact he⟩
          · simp only [accN, hmk, ← h3]
          · show c * 64 + bk.toNat % 64 + 1 ≤ 64 ^ (i + 1 + 1)
            have : 64 ^ (i + 1 + 1) = 64 ^ (i + 1) * 64 := Nat.pow_succ ..
            omega
          · simp only [getAll, List.map, AFr.get, reduceIte, Nat.reduceEqDiff]
            rw [show IntKind.i64.wrap (((i + 1 : Nat) : Int) + 1) = ((i + 1 + 1 : Nat) : Int) by rw [wrap64 (by omega)]; omega]
            have q : IntKind.i64.wrap (((BitVec.ofInt 64 ((c * 64 : Nat) : Int) ||| BitVec.ofInt 64 (IntKind.i64.wrap (IntKind.u8.wrap (((BitVec.ofInt 8 (bk.toNat : Int) &&& BitVec.ofInt 8 63).toNat : Nat) : Int)))).toNat : Nat) : Int) = ((c * 64 + bk.toNat % 64 : Nat) : Int) := by rw [lu, hwl, ol]
            exact congrArg (fun v => [AV.s l, .v (.int .i64 i0), .v (.int .i64 v), .v (.int .i64 many), .v (.int .i64 least), .v (.int .i64 ((i + 1 + 1 : Nat) : Int))]) q
      · have hge : decide (((l.length : Nat) : Int) ≤ ((i0 + (i + 1) : Nat) : Int)) = true := by simp; omega
        (refine AWp_skip (hK _ _ ?_); clear hK K; apply sK; intro K hK; apply AWp_block; apply sK; intro K hK; apply sR; intro K hK; (iterate 7 (apply s_q; decide; rfl; (simp only [go_sem, hwi, hge]; rfl))); (iterate 4 (apply s_spec; decide; rfl; rfl; (iterate 4 (simp only [go_sem, hwi, hge]; rfl)); trivial)); apply s_when (av := (.v (.int .u8 0))); decide; (iterate 3 (simp only [go_sem, hwi, hge]; rfl)); trivial; (focus (intro hg; first | (cases hg; done) | (simp at hg; done) | (simp at hg; omega))); (iterate 2 (apply s_spec; decide; rfl; rfl; (iterate 4 (simp only [go_sem, hwi, hge]; rfl)); trivial)); apply s_pick; decide; (iterate 6 (simp only [go_sem, hwi, hge]; rfl)); trivial; trivial; trivial; refine s_nil (hK _ _ ?_); clear hK K)
        refine cs (fun he => ?_) (fun he => ?_)
        · rw [hr.2 (fun hh => by have := (hh i hlt2).1; omega)] at h
          (apply sR; intro K hK; (iterate 2 (refine qr ?_)); refine s_nil (hK _ _ ?_); clear hK K; apply AWp_ret; simp only [AThen, ABlock]; apply end_ret; rfl; simp only [AFr.get, reduceIte, Nat.reduceEqDiff])
          exact h _
        · simp at he
    · have him : i = many := by simp at hd; omega
      subst him
      rw [hr.1 h2, ← h3] at h
      (apply AWp_exit; simp only [AThen, ABlock, reduceIte, Nat.reduceEqDiff]; clear hK K; refine hK _ _ ?_; clear hK K; apply sK; intro K hK; apply sR; intro K hK; (iterate 4 (refine qr ?_)); refine sp ?_; apply s_gpure; decide; (iterate 3 (simp only [go_sem]; rfl)); simp [condsOk]; (iterate 2 (simp only [go_sem]; rfl)); (apply letter_c; exact ⟨rfl, rfl⟩); refine sp ?_; apply s_pick; decide; (iterate 6 (simp only [go_sem]; rfl)); trivial; trivial; simp [condsOk]; refine s_nil (hK _ _ ?_); clear hK K)
      refine cs (fun he => ?_) (fun he => ?_)
      · rw [if_pos (by
          by_cases hv : c < least
          · exact .inl hv
          · rw [decide_eq_false (by omega)] at he
            right; simpa using he)] at h
        (apply sR; intro K hK; (iterate 2 (refine qr ?_)); refine s_nil (hK _ _ ?_); clear hK K; apply AWp_ret; simp only [AThen, ABlock]; apply end_ret; rfl; simp only [AFr.get, reduceIte, Nat.reduceEqDiff])
        exact h _
      · have he' : ¬ c < least ∧ letB (c : Nat) = true := by
          by_cases hv : c < least
          · rw [decide_eq_true (by omega)] at he; cases he
          · rw [decide_eq_false (by omega)] at he
            exact ⟨hv, by simpa using he⟩
        rw [if_neg (by rw [he'.2]; simpa using he'.1)] at h
        (refine AWp_skip (hK _ _ ?_); clear hK K; apply sR; intro K hK; (iterate 5 (refine qr ?_)); refine s_nil (hK _ _ ?_); clear hK K; apply AWp_ret)
        rw [show IntKind.i64.wrap ((i : Int) + 1) = ((i + 1 : Nat) : Int) by rw [wrap64 (by omega)]; omega]
        exact h _
  have hM1 := fun (hge : 192 ≤ b0.toNat) (hl2 : b0.toNat < 224) => rune1 (m := m) hne (by rw [hm0]; exact hge) (by rw [hm0]; exact hl2)
  have hM2 := fun (hge : 224 ≤ b0.toNat) (hl2 : b0.toNat < 240) => rune2 (m := m) hne (by rw [hm0]; exact hge) (by rw [hm0]; exact hl2)
  have hM3 := fun (hge : 240 ≤ b0.toNat) (hl2 : b0.toNat < 248) => rune3 (m := m) hne (by rw [hm0]; exact hge) (by rw [hm0]; exact hl2)
  rw [hm0] at hM1 hM2 hM3
  have a5 : IntKind.i64.wrap (((BitVec.ofInt 64 (b0.toNat : Int) &&& BitVec.ofInt 64 31).toNat : Nat) : Int) = ((b0.toNat % 32 : Nat) : Int) := and_mask (x := b0.toNat) (k := 5) (by omega) (by decide)
  have a4 : IntKind.i64.wrap (((BitVec.ofInt 64 (b0.toNat : Int) &&& BitVec.ofInt 64 15).toNat : Nat) : Int) = ((b0.toNat % 16 : Nat) : Int) := and_mask (x := b0.toNat) (k := 4) (by omega) (by decide)
  have a3 : IntKind.i64.wrap (((BitVec.ofInt 64 (b0.toNat : Int) &&& BitVec.ofInt 64 7).toNat : Nat) : Int) = ((b0.toNat % 8 : Nat) : Int) := and_mask (x := b0.toNat) (k := 3) (by omega) (by decide)
  have hrng : ∀ a d : Nat, (if decide ((a : Int) ≤ (b0.toNat : Int)) = true then decide ((b0.toNat : Int) < (d : Int)) else false) = decide (a ≤ b0.toNat ∧ b0.toNat < d) := fun a d => by
    by_cases q : a ≤ b0.toNat
    · rw [if_pos (by simp; omega)]
      by_cases q2 : b0.toNat < d
      · rw [decide_eq_true (by omega), decide_eq_true ⟨q, q2⟩]
      · rw [decide_eq_false (by omega), decide_eq_false (fun x => q2 x.2)]
    · rw [if_neg (by simp; omega), decide_eq_false (fun x => q x.1)]
  (apply AWp_block; apply sR; intro K hK; (iterate 3 (refine qr ?_)); refine sp ?_; refine sp ?_; apply s_pick; decide; (iterate 6 (simp only [go_sem]; rfl)); trivial; simp [condsOk]; trivial; refine qr ?_; refine s_nil (hK _ _ ?_); clear hK K)
  refine cs (fun hd => ?_) (fun hd => ?_)
  · have hd := (hrng 192 224).symm.trans hd
    simp only [decide_eq_true_eq] at hd
    (apply sR; intro K hK; apply s_q; decide; rfl; (simp only [go_sem, a5]; rfl); refine s_nil (hK _ _ ?_); clear hK K; apply sR; intro K hK; apply s_q; decide; rfl; (simp only [go_sem, a5]; rfl); refine s_nil (hK _ _ ?_); clear hK K; apply s_region; (iterate 3 (apply s_q; decide; rfl; (simp only [go_sem, a5]; rfl))); apply s_nil; simp only [AThen, ABlock])
    exact hgo 1 128 _ (by decide) (by decide) (by omega) (hM1 hd.1 hd.2) _ (congrArg (fun c => [AV.s l, .v (.int .i64 i0), .v (.int .i64 c), .v (.int .i64 1), .v (.int .i64 128)]) a5)
  have hd := (hrng 192 224).symm.trans hd
  simp only [decide_eq_false_iff_not] at hd
  (apply sR; intro K hK; (iterate 3 (refine qr ?_)); refine sp ?_; refine sp ?_; apply s_pick; decide; (iterate 6 (simp only [go_sem]; rfl)); trivial; simp [condsOk]; trivial; refine qr ?_; refine s_nil (hK _ _ ?_); clear hK K)
  refine cs (fun he => ?_) (fun he => ?_)
  · have he := (hrng 224 240).symm.trans he
    simp only [decide_eq_true_eq] at he
    (apply sR; intro K hK; apply s_q; decide; rfl; (simp only [go_sem, a4]; rfl); refine s_nil (hK _ _ ?_); clear hK K; apply sR; intro K hK; apply s_q; decide; rfl; (simp only [go_sem, a4]; rfl); refine s_nil (hK _ _ ?_); clear hK K; apply s_region; (iterate 3 (apply s_q; decide; rfl; (simp only [go_sem, a4]; rfl))); apply s_nil; simp only [AThen, ABlock])
    exact hgo 2 2048 _ (by decide) (by decide) (by omega) (hM2 he.1 he.2) _ (congrArg (fun c => [AV.s l, .v (.int .i64 i0), .v (.int .i64 c), .v (.int .i64 2), .v (.int .i64 2048)]) a4)
  have he := (hrng 224 240).symm.trans he
  simp only [decide_eq_false_iff_not] at he
  (apply sR; intro K hK; (iterate 3 (refine qr ?_)); refine sp ?_; refine sp ?_; apply s_pick; decide; (iterate 6 (simp only [go_sem]; rfl)); trivial; simp [condsOk]; trivial; refine qr ?_; refine s_nil (hK _ _ ?_); clear hK K)
  refine cs (fun hf => ?_) (fun hf => ?_)
  · have hf := (hrng 240 248).symm.trans hf
    simp only [decide_eq_true_eq] at hf
    (apply sR; intro K hK; apply s_q; decide; rfl; (simp only [go_sem, a3]; rfl); refine s_nil (hK _ _ ?_); clear hK K; apply sR; intro K hK; apply s_q; decide; rfl; (simp only [go_sem, a3]; rfl); refine s_nil (hK _ _ ?_); clear hK K; apply s_region; (iterate 3 (apply s_q; decide; rfl; (simp only [go_sem, a3]; rfl))); apply s_nil; simp only [AThen, ABlock])
    exact hgo 3 65536 _ (by decide) (by decide) (by omega) (hM3 hf.1 hf.2) _ (congrArg (fun c => [AV.s l, .v (.int .i64 i0), .v (.int .i64 c), .v (.int .i64 3), .v (.int .i64 65536)]) a3)
  have hf := (hrng 240 248).symm.trans hf
  simp only [decide_eq_false_iff_not] at hf
  have e : docL m = 0 := by
    unfold docL docN
    rw [hm0, if_neg (by omega)]
    by_cases q : b0.toNat < 192
    · rw [if_pos q]
    · rw [if_neg q, if_neg (by omega), if_neg (by omega), if_neg (by omega)]
  rw [e] at h
  (apply sR; intro K hK; (iterate 2 (refine qr ?_)); refine s_nil (hK _ _ ?_); clear hK K; apply AWp_ret; simp only [AThen, ABlock]; apply end_ret; rfl; simp only [AFr.get, reduceIte, Nat.reduceEqDiff])
  exact h _
def badF : Nat → Nat → List UInt8 → Int
  | 0, _, _ => -1
  | n + 1, i, l => if l = [] then -1 else if docL l = 0 then (i : Int) else badF n (i + docL l) (l.drop (docL l))
theorem badF_fuel : ∀ (n n' i : Nat) (l : List UInt8), l.length ≤ n → l.length ≤ n' → badF n i l = badF n' i l := fun n => by
  induction n with
  | zero =>
    intro n' i l h h'
    obtain rfl : l = [] := List.length_eq_zero_iff.1 (by omega)
    cases n' with
    | zero => rfl
    | succ n' => rw [badF, badF, if_pos rfl]
  | succ n ih =>
    intro n' i l h h'
    by_cases hl : l = []
    · subst hl
      cases n' with
      | zero => rw [badF, badF, if_pos rfl]
      | succ n' => rw [badF, badF, if_pos rfl, if_pos rfl]
    · have hp := List.length_pos_iff.2 hl
      cases n' with
      | zero => omega
      | succ n' =>
        rw [badF, badF, if_neg hl, if_neg hl]
        by_cases h0 : docL l = 0
        · rw [if_pos h0, if_pos h0]
        · rw [if_neg h0, if_neg h0]
          exact ih n' _ _ (by rw [List.length_drop]; omega) (by rw [List.length_drop]; omega)
theorem badF_valid : ∀ (n i : Nat) (l : List UInt8), l.length ≤ n → decide (badF n i l < 0) = Lib.validD l := fun n => by
  induction n with
  | zero =>
    intro i l h
    obtain rfl : l = [] := List.length_eq_zero_iff.1 (by omega)
    rfl
  | succ n ih =>
    intro i l h
    by_cases hl : l = []
    · subst hl; rw [badF, if_pos rfl]; rfl
    · have hp := List.length_pos_iff.2 hl
      rw [badF, if_neg hl, docL_valid hl]
      by_cases h0 : docL l = 0
      · rw [if_pos h0, if_pos h0]; simp
      · rw [if_neg h0, if_neg h0]
        exact ih _ _ (by rw [List.length_drop]; omega)
def badI (l : List UInt8) : Int := badF l.length 0 l
theorem badI_valid (l : List UInt8) : decide (badI l < 0) = Lib.validD l := badF_valid _ _ _ (Nat.le_refl _)
theorem badI_ge (l : List UInt8) : decide (0 ≤ badI l) = !Lib.validD l := by
  rw [← badI_valid]
  by_cases h : badI l < 0
  · rw [decide_eq_true h, decide_eq_false (by omega)]; rfl
  · rw [decide_eq_false h, decide_eq_true (by omega)]; rfl
theorem bad_c (l : List UInt8) (hl : l.length ≤ 4611686018427387904) (H : AHeap) (Kc : AV → AHeap → Prop) (h : Kc (.v (.int .i64 (badI l))) H) : ACall X 158 [.s l] H Kc := by
  refine ACall_intro Tryz.func158 rfl (by kernel_rfl) (by rw [Tryz.ntmps158]; simp) ?_; rw [Tryz.ntmps158]; simp only [frame0, Nat.reduceAdd]
  (apply sR; intro K hK; refine qr ?_; refine s_nil (hK _ _ ?_); clear hK K; apply sK; intro K hK; apply sR; intro K hK; refine qr ?_; refine s_nil (hK _ _ ?_); clear hK K; apply AWp_block)
  refine AWp_loop_s (σ := Nat) [0, 3] (fun i => [.s l, .v (.int .i64 ((i : Nat) : Int))]) (fun _ => H) (fun i => l.length - i) (fun i => i ≤ l.length ∧ badI l = badF l.length i (l.drop i)) 0 ⟨Nat.zero_le _, by rw [List.drop_zero]; rfl⟩ rfl rfl (fun i hi => ?_)
  obtain ⟨h1, h2⟩ := hi
  simp only [List.zip_cons_cons, List.zip_nil_right]
  obtain ⟨n, hn⟩ : ∃ n, n + 1 = l.length + 1 := ⟨_, rfl⟩
  rw [badF_fuel l.length (l.length + 1) i (l.drop i) (by rw [List.length_drop]; omega) (by rw [List.length_drop]; omega), badF] at h2
  (apply sK; intro K hK; apply sR; intro K hK; (iterate 4 (refine qr ?_)); refine s_nil (hK _ _ ?_); clear hK K)
  refine cs (fun hd => ?_) (fun hd => ?_)
  · have hlt : i < l.length := by simpa using hd
    have hne : l.drop i ≠ [] := List.length_pos_iff.1 (by rw [List.length_drop]; omega)
    have hle := docL_le hne
    rw [List.length_drop] at hle
    rw [if_neg hne] at h2
    (refine AWp_skip (hK _ _ ?_); clear hK K; apply AWp_block; apply sR; intro K hK; (iterate 2 (refine qr ?_)); apply s_call; decide; (iterate 2 (simp only [go_sem]; rfl)); refine rune_c l i hlt hl _ _ (fun c => ?_); (iterate 5 (refine qr ?_)); refine s_nil (hK _ _ ?_); clear hK K; apply sK; intro K hK; apply sR; intro K hK; (iterate 2 (refine qr ?_)); refine s_nil (hK _ _ ?_); clear hK K)
    refine cs (fun he => ?_) (fun he => ?_)
    · have he : docL (l.drop i) = 0 := by simp at he; omega
      rw [if_pos he] at h2
      rw [h2] at h
      (apply sR; intro K hK; (iterate 2 (refine qr ?_)); refine s_nil (hK _ _ ?_); clear hK K; apply AWp_ret; simp only [AThen, ABlock]; apply end_ret; rfl; simp only [AFr.get, reduceIte, Nat.reduceEqDiff])
      exact h
    · have he : ¬ docL (l.drop i) = 0 := by simp at he; omega
      rw [if_neg he] at h2
      (refine AWp_skip (hK _ _ ?_); clear hK K; apply s_region; (iterate 4 (refine qr ?_)); apply s_nil; simp only [AThen, ABlock])
      refine ⟨i + docL (l.drop i), by omega, ⟨by omega, ?_⟩, ?_, by trivial⟩
      · rw [h2, List.drop_drop]
      · simp only [getAll, List.map, AFr.get, reduceIte, Nat.reduceEqDiff]
        rw [show IntKind.i64.wrap ((i : Int) + (docL (l.drop i) : Int)) = ((i + docL (l.drop i) : Nat) : Int) by rw [wrap64 (by omega)]; omega]; try rfl
  · have hge : l.drop i = [] := List.drop_eq_nil_of_le (by simpa using hd)
    rw [if_pos hge] at h2
    rw [h2] at h
    (apply AWp_exit; simp only [AThen, ABlock, reduceIte, Nat.reduceEqDiff]; clear hK K; refine hK _ _ ?_; clear hK K; apply sR; intro K hK; refine qr ?_; refine s_nil (hK _ _ ?_); clear hK K; apply AWp_ret)
    exact h
end Go.Proofs.YtcpfgjfiacfmoaaGreatDoor

set_option linter.unusedVariables false
namespace Go.Proofs.YtcpfgjfiacfmoaaGreatDoor
open Go Go.AL
theorem valid_c : ValidC Lib.validD := fun l H K hl h => ⟨by kernel_rfl, fun w φ xs hr hx => by
  have hx' : xs = [.string ⟨l.toArray⟩] := by
    cases hx with
    | cons h t => cases t; rw [strKey.inv h]; rfl
  subst hx'
  obtain ⟨_, h1, h2⟩ := hr.env
  have hT : Lib.Utf8Tabs 0 1 w := ⟨fun c hc => (h1 c hc).1, fun i hi => ⟨(h2 i hi).1.1, (h2 i hi).2.1⟩⟩
  refine (Any.utf8_ValidString Tryz.lays196 ⟨l.toArray⟩ w (by simpa [ByteArray.size] using hl) hT).mono fun e w' ⟨he, hb⟩ => ?_
  exact ⟨_, .v (.bool (Lib.validD l)), H, φ, by simpa using he, .v _, h, Out.of_below hr hb (fun hd => False.elim hd)⟩⟩
end Go.Proofs.YtcpfgjfiacfmoaaGreatDoor

set_option linter.unusedSimpArgs false
set_option linter.unusedVariables false
set_option maxRecDepth 100000
namespace Go.Proofs.YtcpfgjfiacfmoaaGreatDoor
open Go Go.AL
attribute [local irreducible] AOps AWp SOps AE AT ACall AApp

theorem indexFunc_c (g : FuncId) (cap : List AV) (p : J → Bool) (t : Bool) (l : List J) (hl : l.length ≤ 4611686018427387904) (H : AHeap) (hg : ∀ x ∈ l, ∀ K : AV → AHeap → Prop, K (.v (.bool (p x))) H → ACall X g ([.agg x.cells] ++ cap) H K) (Kc : AV → AHeap → Prop)
    (h : Kc (.v (.int .i64 (firstI p l))) H) : ACall X 166 [.sl t (l.map J.cells), .fn (.func g) [] cap] H Kc := by
  refine ACall_intro Tryz.func166 rfl (by kernel_rfl) (by rw [Tryz.ntmps166]; simp) ?_; rw [Tryz.ntmps166]; simp only [frame0, Nat.reduceAdd]
  (apply sR; intro K hK; refine qr ?_; refine s_nil (hK _ _ ?_); clear hK K; apply sK; intro K hK; apply sR; intro K hK; (iterate 3 (refine qr ?_)); refine s_nil (hK _ _ ?_); clear hK K; apply AWp_block)
  refine AWp_loop_s (σ := Nat) [0, 1, 7, 8] (fun i => [.sl t (l.map J.cells), .fn (.func g) [] cap, .v (.int .i64 l.length), .v (.int .i64 i)]) (fun _ => H) (fun i => l.length - i) (fun i => i ≤ l.length ∧ ∀ x ∈ l.take i, p x = false) 0 ⟨Nat.zero_le _, by simp⟩ rfl rfl (fun i hi => ?_)
  simp only [List.zip_cons_cons, List.zip_nil_right]
  (apply sR; intro K hK; refine qr ?_; refine s_nil (hK _ _ ?_); clear hK K; apply sK; intro K hK)
  refine cs (fun hd => ?_) (fun hd => ?_)
  · have hlt : i < l.length := by simpa using hd
    obtain ⟨x, hm⟩ : ∃ a, l[i]? = some a := ⟨_, List.getElem?_eq_getElem hlt⟩
    have hgx : (l.map J.cells)[i]? = some [.v (.int .i64 x.kind), .v (.int .i64 x.int), .s x.text, .sl false (x.keys.map strCells), .sl false (x.list.map J.cells)] := by rw [List.getElem?_map, hm, ← J.cells_eq]; rfl
    have hxm := List.mem_of_getElem? hm
    (refine AWp_skip (hK _ _ ?_); clear hK K; apply sK; intro K hK; apply AWp_block; apply sR; intro K hK; (iterate 2 (apply s_q; decide; rfl; (simp only [go_sem, hgx]; rfl))); refine s_nil (hK _ _ ?_); clear hK K; apply sR; intro K hK; (iterate 5 (apply s_q; decide; rfl; (simp only [go_sem, hgx]; rfl))); apply s_call; decide; (iterate 2 (simp only [go_sem, hgx]; rfl)); refine ACall.args_eq (bs := [.agg x.cells] ++ cap) (by rw [J.cells_eq x]; rfl) ?_; apply hg x hxm; refine s_nil (hK _ _ ?_); clear hK K)
    refine cs (fun hq => ?_) (fun hq => ?_)
    · (apply sR; intro K hK; (iterate 2 (refine qr ?_)); refine s_nil (hK _ _ ?_); clear hK K; apply AWp_ret; simp only [AThen, ABlock]; apply end_ret; rfl; simp only [AFr.get, reduceIte, Nat.reduceEqDiff])
      exact finI h (firstI_some hi.2 hm hq).symm
    · (refine AWp_skip (hK _ _ ?_); clear hK K; apply s_region; (iterate 2 (refine qr ?_)); apply s_nil; simp only [AThen, ABlock])
      refine ⟨i + 1, by omega, ⟨by omega, ?_⟩, ?_, by trivial⟩
      · rw [List.take_add_one, hm]
        intro y hy
        rcases List.mem_append.1 hy with hy | hy
        · exact hi.2 y hy
        · simp at hy; subst hy; exact hq
      · simp only [getAll, List.map, AFr.get, reduceIte, Nat.reduceEqDiff]
        rw [wrapS hlt (by omega)]; try rfl
  · have hge : l.length ≤ i := by simpa using hd
    (apply AWp_exit; simp only [AThen, ABlock, reduceIte, Nat.reduceEqDiff]; clear hK K; refine hK _ _ ?_; clear hK K; apply sR; intro K hK; refine qr ?_; refine s_nil (hK _ _ ?_); clear hK K; apply AWp_ret)
    have := hi.2
    rw [List.take_of_length_le hge] at this
    exact finI h (firstI_none this).symm
theorem containsFunc_c (g : FuncId) (cap : List AV) (p : J → Bool) (t : Bool) (l : List J) (hl : l.length ≤ 4611686018427387904) (H : AHeap) (hg : ∀ x ∈ l, ∀ K : AV → AHeap → Prop, K (.v (.bool (p x))) H → ACall X g ([.agg x.cells] ++ cap) H K) (Kc : AV → AHeap → Prop)
    (h : Kc (.v (.bool (l.any p))) H) : ACall X 154 [.sl t (l.map J.cells), .fn (.func g) [] cap] H Kc := by
  refine ACall_intro Tryz.func154 rfl (by kernel_rfl) (by rw [Tryz.ntmps154]; simp) ?_; rw [Tryz.ntmps154]; simp only [frame0, Nat.reduceAdd]
  (apply sR; intro K hK; refine qr ?_; refine s_nil (hK _ _ ?_); clear hK K; apply sR; intro K hK; (iterate 2 (refine qr ?_)); apply s_call; decide; (iterate 2 (simp only [go_sem]; rfl)); apply indexFunc_c g cap p t l hl _ hg; (iterate 2 (refine qr ?_)); refine s_nil (hK _ _ ?_); clear hK K; apply AWp_ret)
  refine finB h ?_
  exact firstI_any p l

theorem good_c : ∀ (n : Nat), n ≤ 1000 → ∀ (j : J) (H : AHeap) (Kc : AV → AHeap → Prop), J.Fit j → Kc (.v (.bool (goodB n j))) H → ACall X 131 [.agg j.cells, .v (.int .i64 n)] H Kc := fun n => by
  induction n with
  | zero =>
    intro hn j H Kc hf h
    refine ACall.drop ?_
    rw [J.cells_eq]
    refine ACall_intro Tryz.func131 rfl (by kernel_rfl) (by rw [Tryz.ntmps131]; simp) ?_; rw [Tryz.ntmps131]; simp only [frame0, Nat.reduceAdd]
    (apply sR; intro K hK; (iterate 2 (apply s_box; decide; (iterate 2 (simp only [go_sem]; rfl)); intro b hb)); refine qr ?_; refine s_nil (hK _ _ ?_); clear hK K; apply sR; intro K hK; (iterate 3 (refine qr ?_)))
    obtain ⟨b3, rfl⟩ : ∃ s, s = b := ⟨_, rfl⟩
    have hb3 := hb
    clear hb
    obtain ⟨b2, rfl⟩ : ∃ s, s = b := ⟨_, rfl⟩
    have hb2 := hb
    clear hb
    have g2 := get_fresh (x := .box 3 [.v (.int .i64 ((0 : Nat) : Int))]) (AHeap.get_put_same b2 (.box 25 [.v (.int .i64 j.kind), .v (.int .i64 j.int), .s j.text, .sl false (j.keys.map strCells), .sl false (j.list.map J.cells)]) H) hb3
    have g3 := AHeap.get_put_same b3 (.box 3 [.v (.int .i64 ((0 : Nat) : Int))]) (H.put b2 (.box 25 [.v (.int .i64 j.kind), .v (.int .i64 j.int), .s j.text, .sl false (j.keys.map strCells), .sl false (j.list.map J.cells)]))
    have hE := Ext.put (ob := .box 3 [.v (.int .i64 ((0 : Nat) : Int))]) (Ext.fresh (o := .box 25 [.v (.int .i64 j.kind), .v (.int .i64 j.int), .s j.text, .sl false (j.keys.map strCells), .sl false (j.list.map J.cells)]) hb2) hb3
    generalize (H.put b2 (.box 25 [.v (.int .i64 j.kind), .v (.int .i64 j.int), .s j.text, .sl false (j.keys.map strCells), .sl false (j.list.map J.cells)])).put b3 (.box 3 [.v (.int .i64 ((0 : Nat) : Int))]) = M at g2 g3 hE ⊢
    have hneg : decide ((0 : Int) < ((0 : Nat) : Int)) = false := by decide
    (apply s_spec; decide; rfl; rfl; (iterate 4 (simp only [go_sem, g2, g3, hneg]; rfl)); trivial)
    apply s_gno (.v (.bool false)); decide; rfl; (simp only [go_sem, hneg]; rfl); simp only [go_sem, hneg]; (iterate 2 (simp only [go_sem, hneg]; rfl)); trivial
    (apply s_pick; decide; (iterate 6 (simp only [go_sem, g2, g3, hneg]; rfl)); trivial; trivial; trivial; apply s_q; decide; rfl; (simp only [go_sem, g2, g3, hneg]; rfl); (iterate 2 (apply s_spec; decide; rfl; rfl; (iterate 4 (simp only [go_sem, g2, g3, hneg]; rfl)); trivial)))
    apply s_when (av := .fn (.func 155) [] [ptrTo b3]); decide; (solve | (simp only [go_sem, hneg]; try rfl)); (solve | (simp only [go_sem, hneg]; try rfl)); (solve | (simp only [go_sem, hneg]; try rfl)); (solve | trivial | simp only [condsOk] | simp [condsOk] | simp_all [condsOk]); (intro hg; cases hg)
    apply s_gno (.v (.bool false)); decide; rfl; (simp only [go_sem, hneg]; rfl); simp only [go_sem, hneg]; (iterate 2 (simp only [go_sem, hneg]; rfl)); trivial
    (apply s_spec; decide; rfl; rfl; (iterate 4 (simp only [go_sem, g2, g3, hneg]; rfl)); trivial; apply s_pick; decide; (iterate 6 (simp only [go_sem, g2, g3, hneg]; rfl)); trivial; trivial; trivial; apply s_q; decide; rfl; (simp only [go_sem, g2, g3, hneg]; rfl); refine s_nil (hK _ _ ?_); clear hK K; apply AWp_ret)
    refine ⟨H, hE, finB h ?_⟩
    simp [goodB]
  | succ n ih =>
    intro hn j H Kc hf h
    obtain ⟨f1, f2, f3, f4⟩ := fit_eq.1 hf
    have f2 : j.text.length ≤ 9223372036854775807 := by omega
    have f3 : ∀ x ∈ j.keys, x.length ≤ 9223372036854775807 := fun x hx => by have := f3 x hx; omega
    refine ACall.drop ?_
    have hcl : ∀ (b3 : Nat) (M : AHeap), M.get b3 = some (.box 3 [.v (.int .i64 ((n + 1 : Nat) : Int))]) → ∀ x ∈ j.list, ∀ K : AV → AHeap → Prop, K (.v (.bool (!goodB n x))) M → ACall X 155 ([.agg x.cells] ++ [ptrTo b3]) M K := fun b3 M hM x hx Kc2 h2 => by
      refine ACall.drop ?_
      rw [J.cells_eq]
      show ACall X 155 [_, _] M _
      refine ACall_intro Tryz.func155 rfl (by kernel_rfl) (by rw [Tryz.ntmps155]; simp) ?_; rw [Tryz.ntmps155]; simp only [frame0, Nat.reduceAdd]
      (apply sR; intro K hK; apply s_box; decide; (iterate 2 (simp only [go_sem]; rfl)); intro b hb; refine qr ?_; refine s_nil (hK _ _ ?_); clear hK K; apply sR; intro K hK; refine qr ?_)
      have hM2 := get_fresh (x := .box 25 [.v (.int .i64 x.kind), .v (.int .i64 x.int), .s x.text, .sl false (x.keys.map strCells), .sl false (x.list.map J.cells)]) hM hb
      have hw : IntKind.i64.wrap (((n + 1 : Nat) : Int) - 1) = (n : Int) := by rw [wrap64 (by omega)]; omega
      ((iterate 2 (apply s_q; decide; rfl; (simp only [go_sem, hM2, hw]; rfl))); apply s_call; decide; (iterate 2 (simp only [go_sem, hM2, hw]; rfl)); refine ACall.args_eq (bs := [.agg x.cells, .v (.int .i64 n)]) (by rw [J.cells_eq x]) ?_; apply ih (by omega) x _ _ (f4 x hx); (iterate 2 (apply s_q; decide; rfl; (simp only [go_sem, hM2, hw]; rfl))); refine s_nil (hK _ _ ?_); clear hK K; apply AWp_ret)
      exact ⟨M, Ext.fresh hb, h2⟩
    rw [J.cells_eq]
    refine ACall_intro Tryz.func131 rfl (by kernel_rfl) (by rw [Tryz.ntmps131]; simp) ?_; rw [Tryz.ntmps131]; simp only [frame0, Nat.reduceAdd]
    (apply sR; intro K hK; (iterate 2 (apply s_box; decide; (iterate 2 (simp only [go_sem]; rfl)); intro b hb)); refine qr ?_; refine s_nil (hK _ _ ?_); clear hK K; apply sR; intro K hK; (iterate 3 (refine qr ?_)))
    obtain ⟨b3, rfl⟩ : ∃ s, s = b := ⟨_, rfl⟩
    have hb3 := hb
    clear hb
    obtain ⟨b2, rfl⟩ : ∃ s, s = b := ⟨_, rfl⟩
    have hb2 := hb
    clear hb
    have g2 := get_fresh (x := .box 3 [.v (.int .i64 ((n + 1 : Nat) : Int))]) (AHeap.get_put_same b2 (.box 25 [.v (.int .i64 j.kind), .v (.int .i64 j.int), .s j.text, .sl false (j.keys.map strCells), .sl false (j.list.map J.cells)]) H) hb3
    have g3 := AHeap.get_put_same b3 (.box 3 [.v (.int .i64 ((n + 1 : Nat) : Int))]) (H.put b2 (.box 25 [.v (.int .i64 j.kind), .v (.int .i64 j.int), .s j.text, .sl false (j.keys.map strCells), .sl false (j.list.map J.cells)]))
    have hE := Ext.put (ob := .box 3 [.v (.int .i64 ((n + 1 : Nat) : Int))]) (Ext.fresh (o := .box 25 [.v (.int .i64 j.kind), .v (.int .i64 j.int), .s j.text, .sl false (j.keys.map strCells), .sl false (j.list.map J.cells)]) hb2) hb3
    generalize (H.put b2 (.box 25 [.v (.int .i64 j.kind), .v (.int .i64 j.int), .s j.text, .sl false (j.keys.map strCells), .sl false (j.list.map J.cells)])).put b3 (.box 3 [.v (.int .i64 ((n + 1 : Nat) : Int))]) = M at g2 g3 hE ⊢
    have hll : j.list.length ≤ 4611686018427387904 := by omega
    have hpos : decide ((0 : Int) < ((n + 1 : Nat) : Int)) = true := by rw [decide_eq_true]; omega
    (apply s_spec; decide; rfl; rfl; (iterate 4 (simp only [go_sem, g2, g3, hpos]; rfl)); trivial)
    apply s_gpure; decide; (solve | (simp only [go_sem, hpos]; try rfl)); (solve | (simp only [go_sem, hpos]; try rfl)); (solve | (simp only [go_sem, hpos]; try rfl)); (solve | trivial | simp only [condsOk] | simp [condsOk] | simp_all [condsOk]); (solve | (simp only [go_sem, hpos]; try rfl)); (solve | (simp only [go_sem, hpos]; try rfl))
    · refine ACall.args_eq (bs := [.agg j.cells]) (by rw [J.cells_eq j]) ?_
      apply shaped_c valid_c j ⟨by omega, by omega⟩ f2 f3
      exact ⟨rfl, rfl⟩
    (apply s_pick; decide; (iterate 6 (simp only [go_sem, g2, g3, hpos]; rfl)); trivial; trivial; trivial; apply s_q; decide; rfl; (simp only [go_sem, g2, g3, hpos]; rfl); apply s_spec; decide; rfl; rfl; (iterate 4 (simp only [go_sem, g2, g3, hpos]; rfl)); trivial; apply s_spec; decide; rfl; rfl; (iterate 4 (simp only [go_sem, g2, g3, hpos]; rfl)); simp [condsOk]; apply s_when; decide; (iterate 3 (simp only [go_sem, g2, g3, hpos]; rfl)); trivial; (intro hg; simp only [go_sem]; try rfl); apply s_gpure; decide; (iterate 3 (simp only [go_sem, g2, g3, hpos]; rfl)); simp [condsOk]; (iterate 2 (simp only [go_sem, g2, g3, hpos]; rfl)); (apply containsFunc_c 155 [ptrTo b3] (fun x => !goodB n x) false j.list hll M (hcl b3 M g3); exact ⟨rfl, rfl⟩); apply s_spec; decide; rfl; rfl; (iterate 4 (simp only [go_sem, g2, g3, hpos]; rfl)); simp [condsOk]; apply s_pick; decide; (iterate 6 (simp only [go_sem, g2, g3, hpos]; rfl)); trivial; simp [condsOk]; trivial; apply s_q; decide; rfl; (simp only [go_sem, g2, g3, hpos]; rfl); refine s_nil (hK _ _ ?_); clear hK K; apply AWp_ret)
    refine ⟨H, hE, finB h ?_⟩
    have e : (!j.list.any fun x => !goodB n x) = j.list.all (goodB n) := by
      rw [List.any_eq_not_all_not]; simp
    simp [goodB, e]

theorem Good_c (j : J) (H : AHeap) (Kc : AV → AHeap → Prop) (hf : J.Fit j) (h : Kc (.v (.bool (goodB 12 j))) H) : ACall X 98 [.agg j.cells] H Kc := by
  refine ACall.drop ?_
  rw [J.cells_eq]
  refine ACall_intro Tryz.func98 rfl (by kernel_rfl) (by rw [Tryz.ntmps98]; simp) ?_; rw [Tryz.ntmps98]; simp only [frame0, Nat.reduceAdd]
  (apply sR; intro K hK; apply s_box; decide; (iterate 2 (simp only [go_sem]; rfl)); intro b hb; refine qr ?_; refine s_nil (hK _ _ ?_); clear hK K; apply sR; intro K hK; refine qr ?_)
  have g := AHeap.get_put_same b (.box 25 [.v (.int .i64 j.kind), .v (.int .i64 j.int), .s j.text, .sl false (j.keys.map strCells), .sl false (j.list.map J.cells)]) H
  (apply s_call; decide; (iterate 2 (simp only [go_sem, g]; rfl)); refine ACall.args_eq (bs := [.agg j.cells, .v (.int .i64 ((12 : Nat) : Int))]) (by rw [J.cells_eq j]; rfl) ?_; apply good_c 12 (by decide) j _ _ hf; apply s_q; decide; rfl; (simp only [go_sem, g]; rfl); refine s_nil (hK _ _ ?_); clear hK K; apply AWp_ret)
  exact ⟨H, Ext.fresh hb, h⟩

theorem cmpAt_c (t : Bool) (ks : List (List UInt8)) (i j : Nat) (x y : List UInt8) (hi : ks[i]? = some x) (hj : ks[j]? = some y) (H : AHeap) (Kc : AV → AHeap → Prop) (h : Kc (.v (.int .i64 (cmpS x y))) H) :
    ACall X.dr 167 [.v (.int .i64 i), .v (.int .i64 j), .fp [.sl t (ks.map strCells)]] H Kc := by
  have g1 : (ks.map strCells)[i]? = some [.s x] := by rw [List.getElem?_map, hi]; rfl
  have g2 : (ks.map strCells)[j]? = some [.s y] := by rw [List.getElem?_map, hj]; rfl
  refine ACall_intro Tryz.func167 rfl (by kernel_rfl) (by rw [Tryz.ntmps167]; simp) ?_; rw [Tryz.ntmps167]; simp only [frame0, Nat.reduceAdd]
  (apply sR; intro K hK; refine qr ?_; refine s_nil (hK _ _ ?_); clear hK K; apply sK; intro K hK; apply AWp_block; apply sK; intro K hK)
  apply AWp_drawA [0, 1, 2, 3, 4, 5, 6, 7, 8, 9] [] 0 (by exact mixed); kernel_rfl; (iterate 2 (simp only [go_sem]; rfl))
  ((iterate 10 (apply e_q; decide; (simp only [go_sem, g1, g2]; rfl))); apply e_nil; refine t_nil (hK _ _ ?_); clear hK K)
  refine cs (fun hc => ?_) (fun hc => ?_)
  · rw [blt_eq] at hc
    (apply sR; intro K hK; refine qr ?_; refine s_nil (hK _ _ ?_); clear hK K; apply AWp_ret; simp only [AThen, ABlock]; apply end_ret; rfl; simp only [AFr.get, reduceIte, Nat.reduceEqDiff])
    exact finI h (by simp at hc; rw [cmpS, if_pos hc])
  rw [blt_eq] at hc
  have hc : ¬ x < y := by simpa using hc
  (apply sK; intro K hK)
  apply AWp_drawA [0, 1, 2, 3, 4, 5, 6, 7, 8, 9] [] 0 (by exact mixed); kernel_rfl; (iterate 2 (simp only [go_sem]; rfl))
  ((iterate 10 (apply e_q; decide; (simp only [go_sem, g1, g2]; rfl))); apply e_nil; refine t_nil (hK _ _ ?_); clear hK K)
  refine cs (fun hd => ?_) (fun hd => ?_)
  · rw [gtr_eq] at hd
    (apply sR; intro K hK; refine qr ?_; refine s_nil (hK _ _ ?_); clear hK K; apply AWp_ret; simp only [AThen, ABlock]; apply end_ret; rfl; simp only [AFr.get, reduceIte, Nat.reduceEqDiff])
    exact finI h (by simp at hd; rw [cmpS, if_neg hc, if_pos hd])
  rw [gtr_eq] at hd
  have hd : ¬ y < x := by simpa using hd
  (refine AWp_skip (hK _ _ ?_); clear hK K; apply sR; intro K hK; refine qr ?_; refine s_nil (hK _ _ ?_); clear hK K; apply AWp_ret)
  exact finI h (by rw [cmpS, if_neg hc, if_neg hd])
end Go.Proofs.YtcpfgjfiacfmoaaGreatDoor

namespace Go.Proofs
open Go.Shelf
def Tryz.sort62_ren : Go.Shelf.Ren := ⟨fun | 6 => 62 | 15 => 95 | 14 => 96 | 28 => 121 | 29 => 122 | 20 => 123 | 21 => 124 | 22 => 125 | 23 => 126 | 24 => 127 | 25 => 128 | 26 => 129 | 27 => 130 | 46 => 150 | 47 => 146 | 48 => 147 | 49 => 151 | 50 => 152 | 57 => 163 | n => n, fun | 22 => 38 | 24 => 3 | 25 => 72 | 3 => 3 | 39 => 105 | 0 => 0 | 53 => 132 | 55 => 134 | 4 => 4 | 46 => 126 | 45 => 125 | 50 => 74 | 5 => 5 | 9 => 9 | 66 => 146 | 70 => 150 | 76 => 160 | 77 => 161 | n => n, fun | n => n⟩
theorem Tryz.sort62 : Go.Proofs.SlLaysF.n6 Tryz.prog Tryz.sort62_ren := {
  mixed := by kernel_rfl
  f6 := ⟨Tryz.f62.name, by decide, Tryz.func62.trans (congrArg some (by kernel_rfl))⟩
  f14 := ⟨Tryz.f96.name, by decide, Tryz.func96.trans (congrArg some (by kernel_rfl))⟩
  f15 := Tryz.func95.trans (congrArg some (by kernel_rfl))
  f20 := ⟨Tryz.f123.name, by decide, Tryz.func123.trans (congrArg some (by kernel_rfl))⟩
  f21 := ⟨Tryz.f124.name, by decide, Tryz.func124.trans (congrArg some (by kernel_rfl))⟩
  f22 := ⟨Tryz.f125.name, by decide, Tryz.func125.trans (congrArg some (by kernel_rfl))⟩
  f23 := ⟨Tryz.f126.name, by decide, Tryz.func126.trans (congrArg some (by kernel_rfl))⟩
  f24 := ⟨Tryz.f127.name, by decide, Tryz.func127.trans (congrArg some (by kernel_rfl))⟩
  f25 := ⟨Tryz.f128.name, by decide, Tryz.func128.trans (congrArg some (by kernel_rfl))⟩
  f26 := ⟨Tryz.f129.name, by decide, Tryz.func129.trans (congrArg some (by kernel_rfl))⟩
  f27 := ⟨Tryz.f130.name, by decide, Tryz.func130.trans (congrArg some (by kernel_rfl))⟩
  f28 := Tryz.func121.trans (congrArg some (by kernel_rfl))
  f29 := Tryz.func122.trans (congrArg some (by kernel_rfl))
  f46 := ⟨Tryz.f150.name, by decide, Tryz.func150.trans (congrArg some (by kernel_rfl))⟩
  f47 := Tryz.func146.trans (congrArg some (by kernel_rfl))
  f48 := Tryz.func147.trans (congrArg some (by kernel_rfl))
  f49 := ⟨Tryz.f151.name, by decide, Tryz.func151.trans (congrArg some (by kernel_rfl))⟩
  f50 := ⟨Tryz.f152.name, by decide, Tryz.func152.trans (congrArg some (by kernel_rfl))⟩
  f57 := ⟨Tryz.f163.name, by decide, Tryz.func163.trans (congrArg some (by kernel_rfl))⟩
  t0 := Tryz.underlying0
  a0 := Tryz.isAgg0
  z0 := Tryz.sizeOf0
  v0 := Tryz.zeroValue0
  t3 := Tryz.underlying3
  a3 := Tryz.isAgg3
  z3 := Tryz.sizeOf3
  v3 := Tryz.zeroValue3
  t4 := Tryz.underlying4
  a4 := Tryz.isAgg4
  z4 := Tryz.sizeOf4
  v4 := Tryz.zeroValue4
  t5 := Tryz.underlying5
  a5 := Tryz.isAgg5
  z5 := Tryz.sizeOf5
  v5 := Tryz.zeroValue5
  t9 := Tryz.underlying9
  a9 := Tryz.isAgg9
  z9 := Tryz.sizeOf9
  v9 := Tryz.zeroValue9
  t22 := Tryz.underlying38
  a22 := Tryz.isAgg38
  z22 := Tryz.sizeOf38
  v22 := Tryz.zeroValue38
  a24 := Tryz.isAgg3
  z24 := Tryz.sizeOf3
  t25 := Tryz.underlying72
  a25 := Tryz.isAgg72
  z25 := Tryz.sizeOf72
  v25 := Tryz.zeroValue72
  t39 := Tryz.underlying105
  a39 := Tryz.isAgg105
  z39 := Tryz.sizeOf105
  v39 := Tryz.zeroValue105
  t45 := Tryz.underlying125
  a45 := Tryz.isAgg125
  z45 := Tryz.sizeOf125
  v45 := Tryz.zeroValue125
  t46 := Tryz.underlying126
  a46 := Tryz.isAgg126
  z46 := Tryz.sizeOf126
  v46 := Tryz.zeroValue126
  t50 := Tryz.underlying74
  a50 := Tryz.isAgg74
  z50 := Tryz.sizeOf74
  v50 := Tryz.zeroValue74
  t53 := Tryz.underlying132
  a53 := Tryz.isAgg132
  z53 := Tryz.sizeOf132
  v53 := Tryz.zeroValue132
  t55 := Tryz.underlying134
  a55 := Tryz.isAgg134
  z55 := Tryz.sizeOf134
  v55 := Tryz.zeroValue134
  t66 := Tryz.underlying146
  a66 := Tryz.isAgg146
  z66 := Tryz.sizeOf146
  v66 := Tryz.zeroValue146
  t70 := Tryz.underlying150
  a70 := Tryz.isAgg150
  z70 := Tryz.sizeOf150
  v70 := Tryz.zeroValue150
  t76 := Tryz.underlying160
  a76 := Tryz.isAgg160
  z76 := Tryz.sizeOf160
  v76 := Tryz.zeroValue160
  t77 := Tryz.underlying161
  a77 := Tryz.isAgg161
  z77 := Tryz.sizeOf161
  v77 := Tryz.zeroValue161 }
namespace YtcpfgjfiacfmoaaGreatDoor
open Go.AL
theorem sorts62 : SortsAt X.P 62 1 mkOne :=
  sortsAt_one (fun p cap fv w => AnyF.slices_SortFunc_none (ρ := Tryz.sort62_ren) { Tryz.sort62 with } p cap fv w)
    (fun enc h1 cf hO g cb blk cap d w eg hcmp hH hblk hsz => Any.slices_SortFunc Tryz.sort62 enc h1 cf hO g cb blk 0 cap d w eg hcmp hH hblk hsz)
end YtcpfgjfiacfmoaaGreatDoor
end Go.Proofs

set_option linter.unusedSimpArgs false
set_option linter.unusedVariables false
set_option maxRecDepth 100000
namespace Go.Proofs.YtcpfgjfiacfmoaaGreatDoor
open Go Go.AL
attribute [local irreducible] AOps AWp SOps AE AT ACall AApp

theorem places_c (t : Bool) (ks : List (List UInt8)) (hn : ks.Nodup) (hl : ks.length ≤ 1000000000) (H : AHeap) (Kc : AV → AHeap → Prop) (h : Kc (.sl false ((placesOf ks).map natCells)) H) : ACall X 156 [.sl t (ks.map strCells)] H Kc := by
  refine ACall.gr (e := 3) (sz := 1) h ?_
  clear h
  obtain ⟨n, hnl⟩ : ∃ n, ks.length = n := ⟨_, rfl⟩
  refine ACall_intro Tryz.func156 rfl (by kernel_rfl) (by rw [Tryz.ntmps156]; simp) ?_; rw [Tryz.ntmps156]; simp only [frame0, Nat.reduceAdd]
  apply sR; intro K hK
  apply s_box; decide; exact (by simp only [go_sem]; try rfl); exact (by simp only [go_sem]; try rfl); intro q hq
  have e1 := AHeap.get_put_same q (.box 22 [.sl t (ks.map strCells)]) H
  have e3 := Ext.fresh hq (o := .box 22 [.sl t (ks.map strCells)])
  generalize AHeap.put q (.box 22 [.sl t (ks.map strCells)]) H = M at e1 e3 ⊢
  (apply s_q; decide; rfl; (simp only [go_sem, e1, hnl]; rfl); refine s_nil (hK _ _ ?_); clear hK K; apply sR; intro K hK; (iterate 2 (apply s_q; decide; rfl; (simp only [go_sem, e1, hnl]; rfl))))
  apply s_make; decide; exact el_38; exact (by simp only [go_sem]; try rfl); exact (by simp only [go_sem]; try rfl); exact zc_3; (refine ⟨by omega, by omega, by decide⟩); intro r hr
  have hHr : H.get r = none := none_of_ext e3 hr
  have f1 := AHeap.get_put_same r (.row 3 1 false (List.replicate ((n : Int).toNat) [.v (.int .i64 0)])) M
  have f2 := get_fresh e1 hr (x := .row 3 1 false (List.replicate ((n : Int).toNat) [.v (.int .i64 0)]))
  have f3 := e3.put hr (ob := .row 3 1 false (List.replicate ((n : Int).toNat) [.v (.int .i64 0)]))
  generalize M.put r (.row 3 1 false (List.replicate ((n : Int).toNat) [.v (.int .i64 0)])) = L0 at f1 f2 f3 ⊢
  rw [Int.toNat_natCast, range_const] at f1
  (refine qr ?_; refine s_nil (hK _ _ ?_); clear hK K; apply sK; intro K hK; apply sR; intro K hK; (iterate 3 (refine qr ?_)); refine s_nil (hK _ _ ?_); clear hK K; apply AWp_block)
  refine AWp_loop_s (σ := Nat × AHeap) [1, 3, 9, 10] (fun s => [ptrTo q, .row r 1 n, .v (.int .i64 n), .v (.int .i64 s.1)]) (fun s => s.2) (fun s => n - s.1)
    (fun s => s.1 ≤ n ∧ Ext H s.2 ∧ s.2.get q = some (.box 22 [.sl t (ks.map strCells)]) ∧ s.2.get r = some (.row 3 1 false ((List.range n).map fun j => natCells (if j < s.1 then j else 0)))) (0, L0) ⟨Nat.zero_le _, f3, f2, f1⟩ rfl rfl (fun s hs => ?_)
  obtain ⟨i, L⟩ := s
  obtain ⟨hi, hE, hqL, hrL⟩ := hs
  simp only [List.zip_cons_cons, List.zip_nil_right] at hi hE hqL hrL ⊢
  (apply sR; intro K hK; refine qr ?_; refine s_nil (hK _ _ ?_); clear hK K; apply sK; intro K hK)
  refine cs (fun hd => ?_) (fun hd => ?_)
  · have hlt : i < n := by simpa using hd
    have hgk := get_range (fun j => natCells (if j < i then j else 0)) hlt
    have hlt4 : ((i : Int) < (n : Int)) = True := by simp; omega
    (refine AWp_skip (hK _ _ ?_); clear hK K; apply sK; intro K hK; apply AWp_block; apply sR; intro K hK; (iterate 2 (apply s_q; decide; rfl; (simp only [go_sem, hrL, hgk, hlt4]; rfl))); refine s_nil (hK _ _ ?_); clear hK K; apply s_region; (iterate 4 (apply s_q; decide; rfl; (simp only [go_sem, hrL, hgk, hlt4]; rfl))); apply s_store; (iterate 3 (simp only [go_sem, hrL, hgk, hlt4]; rfl)); refine s_nil (hK _ _ ?_); clear hK K; apply s_region; (iterate 2 (apply s_q; decide; rfl; (simp only [go_sem, hrL, hgk, hlt4]; rfl))); apply s_nil; simp only [AThen, ABlock])
    refine ⟨(i + 1, L.put r (.row 3 1 false (((List.range n).map fun j => natCells (if j < i then j else 0)).set i (natCells i)))), by simp only; omega, ⟨by simp only; omega, hE.over hHr, ?_, ?_⟩, ?_, by rfl⟩
    · exact get_other hqL (by rintro rfl; rw [hrL] at hqL; cases hqL)
    · simp only
      rw [AHeap.get_put_same, set_range]
      congr 3
      funext j
      by_cases e : j = i
      · subst e; simp
      · rw [if_neg e]
        congr 1
        by_cases h : j < i
        · rw [if_pos h, if_pos (by omega)]
        · rw [if_neg h, if_neg (by omega)]
    · simp only [getAll, List.map, AFr.get, reduceIte, Nat.reduceEqDiff]
      rw [wrapS hlt (by omega)]; try rfl
  · have hge : n = i := by simp at hd; omega
    subst hge
    have hrow : ((List.range n).map fun j => natCells (if j < n then j else 0)) = (List.range n).map natCells := List.map_congr_left fun j hj => by rw [if_pos (List.mem_range.1 hj)]
    rw [hrow] at hrL
    apply AWp_exit; simp only [AThen, ABlock, reduceIte, Nat.reduceEqDiff]; clear hK K; refine hK _ _ ?_; clear hK K
    refine AWp_cut [1, 3] (vs := [ptrTo q, .row r 1 n]) rfl ?_
    simp only [List.zip_cons_cons, List.zip_nil_right]
    refine AWp.freeze (t := 1) hqL rfl (by decide) ?_
    have hqN : H.get q = none := hq
    have g1 : (L.del q).get r = some (.row 3 1 false ((List.range n).map natCells)) := by rw [AHeap.get_del, if_neg (by rintro rfl; rw [hrL] at hqL; cases hqL)]; exact hrL
    have g2 := hE.del hqN
    generalize L.del q = L1 at g1 g2 ⊢
    (apply sR; intro K hK; (iterate 2 (refine qr ?_)))
    apply s_call; decide; exact (by simp only [go_sem]; try rfl); exact (by simp only [go_sem]; try rfl)
    refine ACall_sortB (k := 1) (mkA := fun bs => bs.headD .top) (es := (List.range n).map natCells) (c := fun i j => cmpS (ks.getD i []) (ks.getD j [])) sorts62 (by kernel_rfl) (by kernel_rfl) mk_one (.inr ⟨r, by rw [List.length_map, List.length_range], g1⟩) (by simp; omega) (fun x hx => ?_) (cmpS_swo ks _) (fun i j x y hx hy K2 hK2 => ?_) (fun p L5 hp1 hp2 hp3 => ?_)
    · obtain ⟨d, _, rfl⟩ := List.mem_map.1 hx; rfl
    · have hi : i < n := by have := (List.getElem?_eq_some_iff.1 hx).1; simpa using this
      have hj : j < n := by have := (List.getElem?_eq_some_iff.1 hy).1; simpa using this
      rw [get_range natCells hi] at hx
      rw [get_range natCells hj] at hy
      cases hx; cases hy
      refine cmpAt_c t ks i j (ks.getD i []) (ks.getD j []) ?_ ?_ _ K2 hK2
      · rw [List.getD_eq_getElem?_getD, List.getElem?_eq_getElem (by omega)]; rfl
      · rw [List.getD_eq_getElem?_getD, List.getElem?_eq_getElem (by omega)]; rfl
    rw [List.length_map, List.length_range, ← hnl] at hp1
    have hpp := places_of_sort hn hp1 hp2
    subst hpp
    rw [hnl] at hp1
    rw [perm_nat hp1] at hp3
    rcases hp3 with ⟨h0, _⟩ | ⟨b, h0, _, rfl⟩
    · cases h0
    rw [List.length_map, List.length_range] at h0
    cases h0
    (refine s_nil (hK _ _ ?_); clear hK K; apply sR; intro K hK; (iterate 2 (refine qr ?_)); refine s_nil (hK _ _ ?_); clear hK K; apply AWp_ret)
    have hlen : ((placesOf ks).map natCells).length = n := by rw [List.length_map, places_len, hnl]
    have hR : RowAt 3 1 H (L1.put r (.row 3 1 false ((placesOf ks).map natCells))) ((placesOf ks).map natCells) (.row r 1 n) := .inr ⟨r, hHr, by rw [hlen], AHeap.get_put_same _ _ _⟩
    exact hR.toGr (g2.over hHr)
end Go.Proofs.YtcpfgjfiacfmoaaGreatDoor
