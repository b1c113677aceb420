/-
  A small logic of abstract values and owned memory over the given model, part 4. No statement of the program.
-/
import Derived.Test.YtcpfgjfiacfmoaaGreatDoorPAL3
import Derived.Shelf.GgSortFunc.RowK
import Derived.Shelf.GgSortFunc.InsertionK
import Derived.Shelf.SlSortCmp.Insertion
import Derived.Laws.IdiomCopy
import Derived.Lib.ValidLaws
import Derived.Shelf.Spec.SlicesGrow
import Derived.Lib.SliceRun
/-
  AL, part zj: variables frozen; slices.SortFunc out of the library's contract.
-/
set_option linter.unusedSimpArgs false
set_option linter.unusedVariables false
namespace Go.AL
open Go Go.Sort

section
variable {X : Ctx} {H : AHeap} {w : World} {φ : Nat → Nat} {K : AV → AHeap → Prop}

theorem phi_box {q : Nat} {T : TypeId} {cs : List AV} (hr : Rel X w φ H) (hb : H.get q = some (.box T cs)) :
    Out X H w φ (H.del q) w (fun c => if c = q then cs.length else φ c) ∧ CRs (Fz w (fun c => if c = q then cs.length else φ c)) (Sh w) ⟨q, 0, none⟩ 0 cs := by
  obtain ⟨h1, arr, h2, h3⟩ := hr.obj q _ hb
  have hFz : ∀ ad u, Fz w φ ad u → Fz w (fun c => if c = q then cs.length else φ c) ad u := fun ad u ⟨k1, k2⟩ => ⟨k1, by
    simp only
    split
    · rename_i e; rw [e, h1] at k2; omega
    · exact k2⟩
  have hlt := hr.lt hb
  refine ⟨⟨⟨rfl, rfl, rfl, Nat.le_refl _, hFz, fun _ _ h => h, fun c hc hn => ⟨rfl, ?_⟩⟩, ⟨fun c o hc => ?_, fun c hc => ?_, X.mono _ _ hFz hr.env⟩, fun c hc => ?_, fun _ => Nat.le_refl _⟩, ?_⟩
  · rw [if_neg]
    rintro rfl
    rw [hb] at hn; cases hn
  · rw [AHeap.get_del] at hc
    split at hc
    · cases hc
    · rename_i e
      exact (hr.obj c o hc).keep rfl (if_neg e) hFz fun _ _ h => h
  · show (if c = q then cs.length else φ c) = 0
    rw [if_neg (by omega)]
    exact hr.lim c hc
  · left
    rw [AHeap.get_del] at hc
    split at hc
    · exact absurd rfl hc
    · exact hc
  · refine CRs.of_get _ _ (fun j a hj => ?_)
    obtain ⟨u, hu, hv⟩ := h3.get j a hj
    have hjl : j < cs.length := (List.getElem?_eq_some_iff.1 hj).1
    refine ⟨u, ⟨?_, ?_⟩, hv.mono hFz fun _ _ h => h⟩
    · rw [add_none]
      simp only [World.cell?, h2]
      simpa using hu
    · rw [add_none]; simp; omega

theorem AWp.freeze {N : NR} {c : Code} {Q : Exit → AFr → AHeap → Prop} {fr : AFr} {t q : Nat} {T : TypeId} {cs : List AV} (hb : H.get q = some (.box T cs)) (ht : AFr.get t fr = ptrTo q) (htN : t < N.n)
    (h : AWp X N c Q ((t, .fp cs) :: fr) (H.del q)) : AWp X N c Q fr H := fun a w φ H0 w0 φ0 hf hd hr ho => by
  obtain ⟨h1, h2⟩ := phi_box hr hb
  have hfo := hf.out h1
  refine h a w _ H0 w0 φ0 ⟨hf.size, fun s => ?_⟩ (hd.out h1) h1.rel (ho.trans h1)
  simp only [AFr.get]
  split
  · rename_i e; subst e
    have := hfo.at_ t
    rw [ht] at this
    unfold ptrTo at this
    generalize a.tmps.getD t undef = x at this
    cases this
    exact .fp h2
  · exact hfo.at_ s
end
end Go.AL

/-
  AL, part zk: slices.SortFunc out of the library's contract.
-/
set_option linter.unusedSimpArgs false
set_option linter.unusedVariables false
namespace Go.AL
open Go Go.Sort Go.Proofs

def SortsAt (P : Program) (f k : Nat) (mk : List Value → Value) : Prop :=
  (∀ (p : Option Addr) (cap : Nat) (fv : Value) (w : World), Calls P f #[.slice p 0 cap, fv] w fun e w' => e = .returned (.tuple #[]) ∧ w' = w) ∧
  ∀ (enc : Nat → List Value) (hk : ∀ x, (enc x).length = k) (h1 : ∀ x, ∀ v ∈ enc x, v.oneCell' = true) (cf : Nat → Nat → Int) (hO : SWO (ltOf cf)) (g : Nat) (cb : Array Value) (blk cap : Nat) (d : Array Nat) (w : World)
    (eg : ∀ args w, (callFunc g args).run P w = .ok (.enter g args) w)
    (hcmp : ∀ (m : Nat) (os : Array Obj) (dk : Array Nat), dk.size = d.size → ∀ x y : Nat, Calls P g (#[mk (enc x), mk (enc y)] ++ cb) (sortWorldK enc k w blk 0 m dk os) fun e w' => e = .returned (.int .i64 (cf x y)) ∧ ∃ q os', w' = grow ((sortWorldK enc k w blk 0 m dk os).drewN q) os')
    (hH : HoldsK enc k w blk 0 d) (hblk : blk < w.heap.size) (hsz : d.size < 4611686018427387904),
    Calls P f #[.slice (some ⟨blk, 0, none⟩) d.size cap, .func (.func g) #[] cb] w fun e w' =>
      e = .returned (.tuple #[]) ∧ ∃ d' n os, PermIn 0 d.size d d' ∧ SortedIn (ltOf cf) 0 d.size d' ∧ w' = sortWorldK enc k w blk 0 n d' os

structure Swo (n : Nat) (c : Nat → Nat → Int) : Prop where
  irrefl : ∀ i, i < n → ¬ c i i < 0
  trans : ∀ i j l, i < n → j < n → l < n → c i j < 0 → c j l < 0 → c i l < 0
  ntrans : ∀ i j l, i < n → j < n → l < n → ¬ c i j < 0 → ¬ c j l < 0 → ¬ c i l < 0

theorem world_grow {w w' : World} (hos : w'.os = w.os) (ht : w'.tape = w.tape) (hout : w'.output = w.output) (hs : w.heap.size ≤ w'.heap.size) (hb : ∀ b, b < w.heap.size → w'.heap[b]? = w.heap[b]?) (hd : w.drawn ≤ w'.drawn) :
    ∃ q os, w' = grow (w.drewN q) os := by
  refine ⟨w'.drawn - w.drawn, w'.heap.extract w.heap.size w'.heap.size, ?_⟩
  obtain ⟨h1, t1, d1, o1, u1⟩ := w
  obtain ⟨h2, t2, d2, o2, u2⟩ := w'
  simp only at hos ht hout hs hb hd
  subst hos ht hout
  simp only [grow, World.drewN, World.mk.injEq, and_true, true_and]
  refine ⟨?_, by omega⟩
  apply Array.ext_getElem?
  intro i
  by_cases hi : i < h1.size
  · rw [hb i hi, Array.getElem?_append_left hi]
  · rw [Array.getElem?_append_right (by omega), Array.getElem?_extract]
    split
    · congr 1; omega
    · rw [Array.getElem?_eq_none]; omega

theorem canEnter_run {P : Program} {g : Nat} (h : canEnter P g = true) (args : Array Value) (w : World) : (callFunc g args).run P w = .ok (.enter g args) w := by
  simp only [callFunc, Sem.run_bind, run_program, Result.andThen_ok]
  unfold canEnter at h
  split at h
  · rename_i fn' hfn
    simp only [Bool.and_eq_true, bne_iff_ne, ne_eq] at h
    obtain ⟨hc1, hc2⟩ := h
    have hbn : (fn'.name == "runtime.NumGoroutine") = false := by simpa using hc1
    have hbody : fn'.body.isNone = false := by cases hb : fn'.body <;> simp [hb] at hc2 ⊢
    simp only [hfn, hbn, hbody, Bool.false_eq_true, if_false, Sem.run_pure]
  · cases h

theorem heap_putRow {w : World} {enc : Nat → List Value} {k blk m : Nat} {dk : Array Nat} {os : Array Obj} (hblk : blk < w.heap.size) :
    (∀ c, c < w.heap.size → c ≠ blk → (sortWorldK enc k w blk 0 m dk os).heap[c]? = w.heap[c]?) ∧
    (∀ arr T fr, w.heap[blk]? = some (.cells arr T fr) → (sortWorldK enc k w blk 0 m dk os).heap[blk]? = some (.cells (putCells id 0 (flatK enc k dk) arr) T fr)) := by
  have hsz : (putRowK enc k (Sort.ahead w m) blk 0 dk).heap.size = w.heap.size := by simp [putRowK, putRow, mapBlock, Sort.ahead]
  refine ⟨fun c hc hne => ?_, fun arr T fr h => ?_⟩
  · unfold sortWorldK grow
    simp only
    rw [Array.getElem?_append_left (by rw [hsz]; exact hc)]
    simp only [putRowK, putRow, mapBlock, Sort.ahead]
    rw [Array.getElem?_modify, if_neg (Ne.symm hne)]
  · unfold sortWorldK grow
    simp only
    rw [Array.getElem?_append_left (by rw [hsz]; exact hblk)]
    simp only [putRowK, putRow, mapBlock, Sort.ahead]
    rw [Array.getElem?_modify, if_pos rfl, h]
    rfl

theorem sortWorld_size (w : World) (enc : Nat → List Value) (k blk m : Nat) (dk : Array Nat) (os : Array Obj) : w.heap.size ≤ (sortWorldK enc k w blk 0 m dk os).heap.size := by
  simp [sortWorldK, putRowK, putRow, mapBlock, Sort.ahead, grow]

section
variable {X : Ctx} {H : AHeap} {w : World} {φ : Nat → Nat} {K : AV → AHeap → Prop}

theorem ACall_sort {f g k e b n : Nat} {cap : List AV} {es : List (List AV)} {c : Nat → Nat → Int} {mk : List Value → Value} {mkA : List AV → AV} (hs : SortsAt X.P f k mk) (hcan : canEnter X.P f = true) (hcang : canEnter X.P g = true)
    (hmk : ∀ F S (vs : List Value) (bs : List AV), bs.length = k → VRs F S vs bs → VR F S (mk vs) (mkA bs))
    (hb : H.get b = some (.row e k false es)) (hn : n = es.length) (hlt : n < 4611686018427387904) (hone : ∀ x ∈ es, x.all AV.one = true) (hO : Swo n c)
    (hcmp : ∀ (i j : Nat) (x y : List AV), es[i]? = some x → es[j]? = some y → ∀ K : AV → AHeap → Prop, K (.v (.int .i64 (c i j))) AHeap.nil → ACall X.dr g ([mkA x, mkA y] ++ cap) AHeap.nil K)
    (h : ∀ p : List Nat, p.Perm (List.range n) → (∀ i j a d : Nat, i < j → p[i]? = some a → p[j]? = some d → ¬ c d a < 0) → K (.tup []) (H.put b (.row e k false (p.map fun i => es.getD i [])))) :
    ACall X f [.row b k n, .fn (.func g) [] cap] H K := by
  subst hn
  refine ⟨hcan, fun w φ xs hr hx => ?_⟩
  cases hx with
  | cons hx1 hx2 =>
  rename_i xs1 x1
  cases hx2 with
  | cons hx2 hx3 =>
  rename_i x2 xs2
  cases hx3
  cases hx1 with
  | row hsh hsize hle =>
  rename_i cap' size
  cases hx2 with
  | fn hvs hus =>
  rename_i vs0 us
  cases hvs
  obtain ⟨h1, h0, arr, vs, rest, h2, h3, h4, hbd⟩ := hr.obj b _ hb
  have hφ : φ b = 0 := by simpa using h1
  have hblk : b < w.heap.size := (Array.getElem?_eq_some_iff.1 h2).1
  have hfl : es.flatten.length = es.length * k := flatten_len h0
  have hvl : vs.length = es.length * k := h4.len.trans hfl
  cases hes : es with
  | nil =>
    subst hes
    refine (hs.1 _ _ _ _).mono fun e' w' ⟨he, hw⟩ => ?_
    subst he hw
    refine ⟨_, .tup [], H.put b (.row e k false []), φ, rfl, .tup .nil, ?_, Out.retell hr hb (hr.obj b _ hb)⟩
    have := h [] (by simp) (by simp)
    simpa using this
  | cons e0 es' =>
  rw [← hes]
  have hpos : 0 < es.length := by rw [hes]; simp
  clear hes e0 es'
  let cl : Nat → Nat := fun i => if i < es.length then i else 0
  have hcl : ∀ i, cl i < es.length := fun i => by simp only [cl]; split <;> omega
  have hcli : ∀ i, i < es.length → cl i = i := fun i hi => if_pos hi
  let enc : Nat → List Value := fun i => (vs.drop (cl i * k)).take k
  have hmul : ∀ i, i < es.length → i * k + k ≤ es.length * k := fun i hi => by
    have := Nat.mul_le_mul_right k (show i + 1 ≤ es.length from hi)
    rwa [Nat.succ_mul] at this
  have henk : ∀ x, (enc x).length = k := fun x => by
    have := hmul _ (hcl x)
    simp only [enc, List.length_take, List.length_drop, hvl]; omega
  have hel : ∀ i (x : List AV), es[i]? = some x → x = (es.flatten.drop (i * k)).take k := fun i x hi => by
    have hxk := h0 x (List.mem_of_getElem? hi)
    apply List.ext_getElem?
    intro j
    by_cases hj : j < k
    · rw [List.getElem?_take, if_pos hj, List.getElem?_drop]
      rw [flatten_get h0 i j x (x[j]'(by omega)) hi (List.getElem?_eq_getElem (by omega)), List.getElem?_eq_getElem (by omega)]
    · rw [List.getElem?_eq_none (by omega), List.getElem?_eq_none]
      simp; omega
  have hvr : ∀ {F S}, VRs F S vs es.flatten → ∀ x, VRs F S (enc x) (es[cl x]'(hcl x)) := fun hv x => by
    rw [hel (cl x) _ (List.getElem?_eq_getElem (hcl x))]
    exact (hv.drop _).take _
  have henc1 : ∀ x, ∀ v ∈ enc x, v.oneCell' = true := fun x v hv => by
    obtain ⟨j, hj, rfl⟩ := List.getElem_of_mem hv
    have hvx := hvr h4 x
    have hj2 : j < (es[cl x]'(hcl x)).length := by rw [← hvx.len]; exact hj
    have := hvx.get' j _ _ (List.getElem?_eq_getElem hj) (List.getElem?_eq_getElem hj2)
    have ho := hone _ (List.getElem_mem (hcl x))
    rw [List.all_eq_true] at ho
    exact one_ok (ho _ (List.getElem_mem hj2)) this
  have hflat : ∀ t (ht : t < es.length * k), (flatK enc k (Array.range es.length))[t]! = vs[t]'(by omega) := fun t ht => by
    have hk0 : 0 < k := by
      rcases Nat.eq_zero_or_pos k with h | h
      · subst h; simp at ht
      · exact h
    rw [get_flatK _ _ _ _ (by simpa using ht)]
    have hdiv : t / k < es.length := Nat.div_lt_of_lt_mul (by rw [Nat.mul_comm]; exact ht)
    have e1 : (Array.range es.length)[t / k]! = t / k := by
      rw [getElem!_pos _ _ (by simpa using hdiv)]; simp
    have hmod := Nat.mod_lt t hk0
    rw [e1, getElem!_pos _ _ (by rw [henk]; exact hmod)]
    simp only [enc, List.getElem_take, List.getElem_drop]
    congr 1
    rw [hcli _ hdiv, Nat.mul_comm]
    exact Nat.div_add_mod t k
  have hH : HoldsK enc k w b 0 (Array.range es.length) := fun j hj => by
    rw [size_flatK, Array.size_range] at hj
    refine ⟨?_, ?_⟩
    · rw [hflat j hj]
      simp only [World.cell?, h2, Nat.zero_add, id]
      have : arr.toList[j]? = some (vs[j]'(by omega)) := by
        rw [h3, List.getElem?_append_left (by omega), List.getElem?_eq_getElem]
      simpa using this
    · simp [World.frozen?, h2]
  have mono : ∀ m dk os, (∀ ad u, Fz w φ ad u → Fz (sortWorldK enc k w b 0 m dk os) φ ad u) ∧ (∀ d n, Sh w d n → Sh (sortWorldK enc k w b 0 m dk os) d n) := fun m dk os => by
    obtain ⟨g1, g2⟩ := heap_putRow (enc := enc) (k := k) (m := m) (dk := dk) (os := os) hblk
    refine ⟨fun ad u ⟨k1, k2⟩ => ⟨?_, k2⟩, fun d n ⟨ar, T, fr, k1, k2⟩ => ?_⟩
    · have hne : ad.block ≠ b := fun e => by rw [e, hφ] at k2; exact absurd k2 (Nat.not_lt_zero _)
      have hl := World.block_lt_of_cell? w ad k1
      rw [World.cell?_of_block (w := w) (g1 _ hl hne)]
      exact k1
    · have hl := (Array.getElem?_eq_some_iff.1 k1).1
      by_cases hne : d = b
      · subst hne
        exact ⟨_, T, fr, g2 ar T fr k1, by simp [putCells, k2]⟩
      · exact ⟨ar, T, fr, by rw [g1 _ hl hne]; exact k1, k2⟩
  have hfin := hs.2 enc henk henc1 (fun x y => c (cl x) (cl y)) ⟨fun x => by simp only [ltOf, decide_eq_false_iff_not]; exact hO.irrefl _ (hcl x),
    fun x y z h1 h2 => by simp only [ltOf, decide_eq_true_eq] at *; exact hO.trans _ _ _ (hcl x) (hcl y) (hcl z) h1 h2,
    fun x y z h1 h2 => by simp only [ltOf, decide_eq_false_iff_not] at *; exact hO.ntrans _ _ _ (hcl x) (hcl y) (hcl z) h1 h2⟩ g ⟨us⟩ b cap' (Array.range es.length) w (canEnter_run hcang) (fun m os dk hdk x y => by
      obtain ⟨m1, m2⟩ := mono m dk os
      have hx := hcmp (cl x) (cl y) _ _ (List.getElem?_eq_getElem (hcl x)) (List.getElem?_eq_getElem (hcl y)) (fun a _ => a = .v (.int .i64 (c (cl x) (cl y)))) rfl
      have hrel : Rel X (sortWorldK enc k w b 0 m dk os) φ AHeap.nil := ⟨(fun _ _ h => by cases h), fun d hd => hr.lim d (Nat.le_trans (sortWorld_size ..) hd), X.mono _ _ m1 hr.env⟩
      have hargs : VRs (Fz (sortWorldK enc k w b 0 m dk os) φ) (Sh (sortWorldK enc k w b 0 m dk os)) ([mk (enc x), mk (enc y)] ++ us) ([mkA (es[cl x]'(hcl x)), mkA (es[cl y]'(hcl y))] ++ cap) := by
        refine VRs.append (.cons ?_ (.cons ?_ .nil)) (hus.mono m1 m2)
        · exact hmk _ _ _ _ (h0 _ (List.getElem_mem (hcl x))) ((hvr h4 x).mono m1 m2)
        · exact hmk _ _ _ _ (h0 _ (List.getElem_mem (hcl y))) ((hvr h4 y).mono m1 m2)
      have hargv : (#[mk (enc x), mk (enc y)] ++ (⟨us⟩ : Array Value)) = ⟨[mk (enc x), mk (enc y)] ++ us⟩ := by simp
      rw [hargv]
      refine (hx.2 _ φ _ ⟨hrel.obj, hrel.lim, hrel.env⟩ hargs).mono ?_
      rintro e' w' ⟨v, av, H', φ', rfl, hv, rfl, ho⟩
      cases hv
      exact ⟨rfl, world_grow ho.step.os ho.step.tape ho.step.output ho.step.size (fun d hd => (ho.step.un d hd rfl).1) (ho.drawn trivial)⟩) hH hblk (by simpa using hlt)
  simp only [Array.size_range] at hfin
  refine hfin.mono ?_
  rintro e' w' ⟨rfl, d', m, os, ⟨hp1, _, hp3⟩, hsd, rfl⟩
  rw [Array.size_range] at hp1
  have hperm : d'.toList.Perm (List.range es.length) := by
    have e1 : d'.extract 0 es.length = d' := by rw [← hp1]; exact Array.extract_size
    have e2 : (Array.range es.length).extract 0 es.length = Array.range es.length := by
      have : ∀ (r : Array Nat) (n : Nat), r.size = n → r.extract 0 n = r := fun r n h => by rw [← h]; exact Array.extract_size
      exact this _ _ Array.size_range
    rw [e1, e2] at hp3
    simpa using hp3
  have hd'lt : ∀ i (hi : i < d'.size), d'[i] < es.length := fun i hi => by
    have := hperm.mem_iff.1 (show d'[i] ∈ d'.toList by simp)
    simpa using this
  obtain ⟨m1, m2⟩ := mono m d' os
  obtain ⟨g1, g2⟩ := heap_putRow (enc := enc) (k := k) (m := m) (dk := d') (os := os) hblk
  refine ⟨_, .tup [], H.put b (.row e k false (d'.toList.map fun i => es.getD i [])), φ, rfl, .tup .nil, h _ hperm (fun i j x y hij hx hy => ?_), ?_⟩
  · have hj : j < d'.size := by
      have h8 := (List.getElem?_eq_some_iff.1 hy).1
      simpa using h8
    have hi : i < d'.size := by omega
    have h9 := hsd i j (Nat.zero_le _) hij (by omega)
    rw [getElem!_pos d' i hi, getElem!_pos d' j hj] at h9
    simp only [ltOf, decide_eq_false_iff_not, hcli _ (hd'lt i hi), hcli _ (hd'lt j hj)] at h9
    have ea : (d'[i]'hi) = x := by simpa [hi] using hx
    have ed : (d'[j]'hj) = y := by simpa [hj] using hy
    rw [← ea, ← ed]; exact h9
  · have hst : Step H w φ (sortWorldK enc k w b 0 m d' os) φ := by
      exact ⟨rfl, rfl, rfl, sortWorld_size .., m1, m2, fun d hd hdn => ⟨g1 d hd (fun e => by rw [e, hb] at hdn; cases hdn), rfl⟩⟩
    refine ⟨hst, ⟨fun d o hd => ?_, fun d hd => hr.lim d (Nat.le_trans (sortWorld_size ..) hd), X.mono _ _ m1 hr.env⟩, fun d hd => ?_, fun _ => (show w.drawn ≤ w.drawn + m by omega)⟩
    · rw [AHeap.get_put] at hd
      split at hd
      · rename_i hdb; subst hdb; cases hd
        have hel2 : ∀ i (hi : i < d'.size), (d'.toList.map fun i => es.getD i [])[i]? = some (es[d'[i]]'(hd'lt i hi)) := fun i hi => by
          simp [hi, hd'lt i hi]
        have hlen' : ∀ e ∈ (d'.toList.map fun i => es.getD i []), e.length = k := fun x hx => by
          obtain ⟨i, hi, rfl⟩ := List.mem_map.1 hx
          have := hperm.mem_iff.1 hi
          rw [List.mem_range] at this
          simp [this]
          exact h0 _ (List.getElem_mem this)
        have hfl' : (d'.toList.map fun i => es.getD i []).flatten.length = es.length * k := by
          rw [flatten_len hlen']; simp [hp1]
        have hck : arr.size = cap' * k := by
          obtain ⟨ar2, T2, fr2, j1, j2⟩ := hsh
          rw [h2] at j1; cases j1
          omega
        have harr : es.length * k ≤ arr.size := by
          rw [hck]; exact Nat.mul_le_mul_right k hle
        refine ⟨by simpa using hφ, hlen', _, (flatK enc k d').toList, (putCells id 0 (flatK enc k d') arr).toList.drop (es.length * k), g2 _ _ _ h2, ?_, ?_, by simpa [putCells] using hbd⟩
        · apply List.ext_getElem?
          intro i
          by_cases hi : i < es.length * k
          · rw [List.getElem?_append_left (by simp [hp1]; exact hi)]
            have hia : i < arr.size := by omega
            simp [putCells, Array.getElem?_mapIdx, hia, hp1, hi]
          · rw [List.getElem?_append_right (by simp [hp1]; omega), List.getElem?_drop]
            congr 1
            simp [hp1]; omega
        · refine VRs.of_get (by rw [hfl']; simp [hp1]) (fun t x a hx ha => ?_)
          have ht : t < es.length * k := by have := (List.getElem?_eq_some_iff.1 hx).1; simpa [hp1] using this
          have hk0 : 0 < k := by
            rcases Nat.eq_zero_or_pos k with h | h
            · subst h; simp at ht
            · exact h
          have hdiv : t / k < d'.size := by rw [hp1]; exact Nat.div_lt_of_lt_mul (by rw [Nat.mul_comm]; exact ht)
          have hmod := Nat.mod_lt t hk0
          have hdm : t / k * k + t % k = t := by rw [Nat.mul_comm]; exact Nat.div_add_mod t k
          have hfx : x = (enc d'[t / k])[t % k]'(by rw [henk]; exact hmod) := by
            have h5 : (flatK enc k d')[t]! = x := by
              rw [getElem!_pos _ _ (by simp [hp1]; exact ht)]
              simpa [hp1, ht] using hx
            rw [get_flatK _ _ _ _ (by rw [hp1]; exact ht), getElem!_pos d' _ hdiv, getElem!_pos (enc d'[t / k]) _ (by rw [henk]; exact hmod)] at h5
            exact h5.symm
          have hea := hel2 (t / k) hdiv
          have hle2 : t % k < (es[d'[t / k]]'(hd'lt _ hdiv)).length := by rw [h0 _ (List.getElem_mem _)]; exact hmod
          have h6 := flatten_get hlen' (t / k) (t % k) _ _ hea (List.getElem?_eq_getElem hle2)
          rw [hdm, ha] at h6
          cases h6
          have h7 := hvr (h4.mono m1 m2) d'[t / k]
          simp only [hcli _ (hd'lt _ hdiv)] at h7
          subst hfx
          exact h7.get' (t % k) _ _ (List.getElem?_eq_getElem _) (List.getElem?_eq_getElem _)
      · rename_i hne
        exact (hr.obj d o hd).keep (g1 d (hr.lt hd) hne) rfl m1 m2
    · rw [AHeap.get_put] at hd
      split at hd
      · rename_i e; subst e; left; rw [hb]; simp
      · exact .inl hd

def SortsOrd {α : Type} [Inhabited α] (P : Program) (f : Nat) (enc : α → Value) (sf : List α → List α) : Prop :=
  (∀ (p : Option Addr) (cap : Nat) (w : World), Calls P f #[.slice p 0 cap] w fun e w' => e = .returned (.tuple #[]) ∧ w' = w) ∧
  ∀ (blk cap : Nat) (ss : List α) (w : World) (hH : Holds enc w blk 0 ss.toArray) (hblk : blk < w.heap.size) (hsz : ss.length < 4611686018427387904),
    Calls P f #[.slice (some ⟨blk, 0, none⟩) ss.length cap] w fun e w' => e = .returned (.tuple #[]) ∧ ∃ n os, w' = grow (putRow enc (Sort.ahead w n) blk 0 (sf ss).toArray) os

theorem flat1 {α : Type} (av : α → AV) : ∀ l : List α, (l.map fun x => [av x]).flatten = l.map av
  | [] => rfl
  | x :: l => by simp only [List.map_cons, List.flatten_cons, flat1 av l]; rfl
theorem vrs_enc {α : Type} {enc : α → Value} {av : α → AV} {F : Addr → Value → Prop} {S : Nat → Nat → Prop} (hav : ∀ x, VR F S (enc x) (av x)) : ∀ l : List α, VRs F S (l.map enc) (l.map av)
  | [] => .nil
  | x :: l => .cons (hav x) (vrs_enc hav l)
theorem ACall_ord {α : Type} [Inhabited α] {f e : Nat} {enc : α → Value} {av : α → AV} {sf : List α → List α} {ss : List α} {a : AV} {H0 L : AHeap} (hs : SortsOrd X.P f enc sf) (hcan : canEnter X.P f = true)
    (hav : ∀ F S x, VR F S (enc x) (av x)) (hinv : ∀ F S v x, VR F S v (av x) → v = enc x) (hsf : (sf ss).length = ss.length)
    (hE : Ext H0 L) (hr : RowAt e 1 H0 L (ss.map fun x => [av x]) a) (hlt : ss.length < 4611686018427387904)
    (h : ∀ L', RowAt e 1 H0 L' ((sf ss).map fun x => [av x]) a → Ext H0 L' → Keeps e L L' → K (.tup []) L') : ACall X f [a] L K := by
  rcases hr with ⟨rfl, h0⟩ | ⟨b, h1, rfl, h3⟩
  · have hss : ss = [] := by simpa using h0
    subst hss
    have hnil : sf [] = [] := List.length_eq_zero_iff.1 (by simpa using hsf)
    refine ⟨hcan, fun w φ xs hr hx => ?_⟩
    cases hx with
    | cons hx1 hx2 =>
    rename_i x1 xs1
    cases hx2
    have hv : ∃ p cap, x1 = .slice p 0 cap := by
      cases hx1 with
      | slnil => exact ⟨_, _, rfl⟩
      | sl h1 h2 h3 => exact ⟨_, _, rfl⟩
    obtain ⟨p, cp, rfl⟩ := hv
    refine (hs.1 p cp w).mono fun e' w' ⟨he, hw⟩ => ?_
    subst he hw
    exact ⟨_, .tup [], L, φ, rfl, .tup .nil, h L (by rw [hnil]; exact .inl ⟨rfl, rfl⟩) hE (Keeps.refl _ _), Out.refl hr⟩
  · refine ⟨hcan, fun w φ xs hr hx => ?_⟩
    cases hx with
    | cons hx1 hx2 =>
    rename_i x1 xs1
    cases hx2
    cases hx1 with
    | row hsh hsize hle =>
    rename_i cap size
    rw [List.length_map] at hle ⊢
    obtain ⟨k1, k0, arr, vs, rest, k2, k3, k4, hbd⟩ := hr.obj b _ h3
    have hφ : φ b = 0 := by simpa using k1
    have hblk : b < w.heap.size := (Array.getElem?_eq_some_iff.1 k2).1
    have hfl := flat1 av ss
    rw [hfl] at k4
    have hvl : vs.length = ss.length := by rw [k4.len, List.length_map]
    have hvi : ∀ i (hi : i < ss.length), vs[i]? = some (enc ss[i]) := fun i hi => by
      obtain ⟨v, g1, g2⟩ := k4.get i (av ss[i]) (by simp [hi])
      rw [g1, hinv _ _ _ _ g2]
    have hH : Holds enc w b 0 ss.toArray := fun j hj => by
      have hj' : j < ss.length := by simpa using hj
      refine ⟨?_, by simp [World.frozen?, k2]⟩
      have : arr.toList[j]? = some (enc ss[j]) := by rw [k3, List.getElem?_append_left (by omega), hvi j hj']
      rw [getElem!_pos ss.toArray j hj]
      simp only [World.cell?, k2, Nat.zero_add]
      simpa using this
    have mono : ∀ m (d : Array α) os, (∀ c, c < w.heap.size → c ≠ b → (grow (putRow enc (Sort.ahead w m) b 0 d) os).heap[c]? = w.heap[c]?) ∧ (grow (putRow enc (Sort.ahead w m) b 0 d) os).heap[b]? = some (.cells (putCells enc 0 d arr) e (0, 0)) := fun m d os => by
      have hsz : (putRow enc (Sort.ahead w m) b 0 d).heap.size = w.heap.size := by simp [putRow, mapBlock, Sort.ahead]
      refine ⟨fun c hc hne => ?_, ?_⟩
      · unfold grow
        simp only
        rw [Array.getElem?_append_left (by rw [hsz]; exact hc)]
        simp only [putRow, mapBlock, Sort.ahead]
        rw [Array.getElem?_modify, if_neg (Ne.symm hne)]
      · unfold grow
        simp only
        rw [Array.getElem?_append_left (by rw [hsz]; exact hblk)]
        simp only [putRow, mapBlock, Sort.ahead]
        rw [Array.getElem?_modify, if_pos rfl, k2]
        rfl
    refine (hs.2 b cap ss w hH hblk hlt).mono ?_
    rintro e' w' ⟨rfl, m, os, rfl⟩
    obtain ⟨g1, g2⟩ := mono m (sf ss).toArray os
    have hsw : w.heap.size ≤ (grow (putRow enc (Sort.ahead w m) b 0 (sf ss).toArray) os).heap.size := by simp [putRow, mapBlock, Sort.ahead, grow]
    have m1 : ∀ ad u, Fz w φ ad u → Fz (grow (putRow enc (Sort.ahead w m) b 0 (sf ss).toArray) os) φ ad u := fun ad u ⟨k1, k2⟩ => ⟨by
      have hne : ad.block ≠ b := fun e => by rw [e, hφ] at k2; exact absurd k2 (Nat.not_lt_zero _)
      have hl := World.block_lt_of_cell? w ad k1
      rw [World.cell?_of_block (w := w) (g1 _ hl hne)]
      exact k1, k2⟩
    have m2 : ∀ d n, Sh w d n → Sh (grow (putRow enc (Sort.ahead w m) b 0 (sf ss).toArray) os) d n := fun d n ⟨ar, T, fr, j1, j2⟩ => by
      have hl := (Array.getElem?_eq_some_iff.1 j1).1
      by_cases hne : d = b
      · subst hne
        rw [k2] at j1; cases j1
        exact ⟨_, _, _, g2, by simp [putCells, j2]⟩
      · exact ⟨ar, T, fr, by rw [g1 _ hl hne]; exact j1, j2⟩
    have hEb := hE.over h1 (o := .row e 1 false ((sf ss).map fun x => [av x]))
    refine ⟨_, .tup [], L.put b (.row e 1 false ((sf ss).map fun x => [av x])), φ, rfl, .tup .nil, h _ (.inr ⟨b, h1, by simp [hsf], AHeap.get_put_same _ _ _⟩) hEb (fun c' o hc' ho => ?_), ?_⟩
    · rw [AHeap.get_put, if_neg]
      · exact hc'
      · rintro rfl; rw [h3] at hc'; cases hc'; exact ho _ _ _ rfl
    · have hck : arr.size = cap := by
        obtain ⟨ar2, T2, fr2, j1, j2⟩ := hsh
        rw [k2] at j1; cases j1
        omega
      refine ⟨⟨rfl, rfl, rfl, hsw, m1, m2, fun d hd hdn => ⟨g1 d hd (fun e => by rw [e, h3] at hdn; cases hdn), rfl⟩⟩, ⟨fun d o hd => ?_, fun d hd => hr.lim d (Nat.le_trans hsw hd), X.mono _ _ m1 hr.env⟩, fun d hd => ?_, fun _ => (show w.drawn ≤ w.drawn + m by omega)⟩
      · rw [AHeap.get_put] at hd
        split at hd
        · rename_i hdb; subst hdb; cases hd
          refine ⟨by simpa using hφ, fun x hx => by obtain ⟨y, _, rfl⟩ := List.mem_map.1 hx; rfl, _, (sf ss).map enc, (putCells enc 0 (sf ss).toArray arr).toList.drop ss.length, g2, ?_, ?_, by simpa [putCells] using hbd⟩
          · apply List.ext_getElem?
            intro i
            by_cases hi : i < ss.length
            · rw [List.getElem?_append_left (by simp [hsf]; exact hi)]
              have hia : i < arr.size := by omega
              have hi2 : i < (sf ss).length := by omega
              simp [putCells, Array.getElem?_mapIdx, hia, hi2]
            · rw [List.getElem?_append_right (by simp [hsf]; omega), List.getElem?_drop]
              congr 1
              simp [hsf]; omega
          · rw [flat1 av]; exact vrs_enc (fun x => hav _ _ x) _
        · rename_i hne
          exact (hr.obj d o hd).keep (g1 d (hr.lt hd) hne) rfl m1 m2
      · rw [AHeap.get_put] at hd
        split at hd
        · rename_i e; subst e; left; rw [h3]; simp
        · exact .inl hd
end
end Go.AL

/-
  AL, part zl: slices.SortFunc at elements of one cell, slices.Insert: out of the library's contracts.
-/
set_option linter.unusedSimpArgs false
set_option linter.unusedVariables false
namespace Go.AL
open Go Go.Sort Go.Proofs

def mkOne (vs : List Value) : Value := vs.headD undef
theorem mk_one : ∀ F S (vs : List Value) (bs : List AV), bs.length = 1 → VRs F S vs bs → VR F S (mkOne vs) (bs.headD .top) := fun F S vs bs hl h => by
  cases h with
  | nil => cases hl
  | cons h t => exact h
theorem putCells_one (enc : Nat → List Value) (d : Array Nat) (c : Array Value) : putCells id 0 (flatK enc 1 d) c = putCells (fun x => (enc x)[0]!) 0 d c := by
  unfold putCells
  congr 1
  funext k x
  rw [size_flatK, Nat.mul_one]
  split
  · rename_i h
    rw [id, get_flatK enc 1 d _ (by omega), Nat.div_one, Nat.mod_one]
  · rfl
theorem world_one (enc : Nat → List Value) (w : World) (blk m : Nat) (dk : Array Nat) (os : Array Obj) : sortWorldK enc 1 w blk 0 m dk os = sortWorld (fun x => (enc x)[0]!) w blk 0 m dk os := by
  unfold sortWorldK sortWorld putRowK putRow
  congr 2
  funext c
  exact putCells_one enc dk c
theorem holds_one {enc : Nat → List Value} {w : World} {blk : Nat} {d : Array Nat} (h : HoldsK enc 1 w blk 0 d) : Holds (fun x => (enc x)[0]!) w blk 0 d := fun j hj => by
  obtain ⟨h1, h2⟩ := h j (by rw [size_flatK]; omega)
  rw [id, get_flatK enc 1 d _ (by omega), Nat.div_one, Nat.mod_one] at h1
  exact ⟨h1, h2⟩
theorem mkOne_eq {vs : List Value} (h : vs.length = 1) : mkOne vs = vs[0]! := by
  match vs, h with
  | [v], _ => rfl
theorem sortsAt_one {P : Program} {f : Nat} (h0 : ∀ (p : Option Addr) (cap : Nat) (fv : Value) (w : World), Calls P f #[.slice p 0 cap, fv] w fun e w' => e = .returned (.tuple #[]) ∧ w' = w)
    (h : ∀ (enc : Nat → Value) (h1 : ∀ x, (enc x).oneCell' = true) (cf : Nat → Nat → Int) (hO : SWO (ltOf cf)) (g : Nat) (cb : Array Value) (blk cap : Nat) (d : Array Nat) (w : World)
      (eg : ∀ args w, (callFunc g args).run P w = .ok (.enter g args) w)
      (hcmp : ∀ (m : Nat) (os : Array Obj) (dk : Array Nat), dk.size = d.size → ∀ x y : Nat, Calls P g (#[enc x, enc y] ++ cb) (sortWorld enc w blk 0 m dk os) fun e w' => e = .returned (.int .i64 (cf x y)) ∧ ∃ q os', w' = grow ((sortWorld enc w blk 0 m dk os).drewN q) os')
      (hH : Holds enc w blk 0 d) (hblk : blk < w.heap.size) (hsz : d.size < 4611686018427387904),
      Calls P f #[.slice (some ⟨blk, 0, none⟩) d.size cap, .func (.func g) #[] cb] w fun e w' =>
        e = .returned (.tuple #[]) ∧ ∃ d' n os, PermIn 0 d.size d d' ∧ SortedIn (ltOf cf) 0 d.size d' ∧ w' = sortWorld enc w blk 0 n d' os) : SortsAt P f 1 mkOne :=
  ⟨h0, fun enc hk h1 cf hO g cb blk cap d w eg hcmp hH hblk hsz => by
    have e1 : ∀ x, mkOne (enc x) = (enc x)[0]! := fun x => mkOne_eq (hk x)
    refine (h (fun x => (enc x)[0]!) (fun x => ?_) cf hO g cb blk cap d w eg (fun m os dk hdk x y => ?_) (holds_one hH) hblk hsz).mono ?_
    · refine h1 x _ ?_
      have := hk x
      match enc x, this with
      | [v], _ => simp
    · have := hcmp m os dk hdk x y
      rw [e1, e1, world_one] at this
      exact this
    · rintro e w' ⟨rfl, d', n, os, k1, k2, rfl⟩
      exact ⟨rfl, d', n, os, k1, k2, (world_one enc w blk n d' os).symm⟩⟩

section
variable {X : Ctx} {H : AHeap} {w : World} {φ : Nat → Nat} {K : AV → AHeap → Prop}
theorem ACall_sortB {f g k e : Nat} {cap : List AV} {es : List (List AV)} {a : AV} {L : AHeap} {c : Nat → Nat → Int} {mk : List Value → Value} {mkA : List AV → AV} (hs : SortsAt X.P f k mk) (hcan : canEnter X.P f = true) (hcang : canEnter X.P g = true)
    (hmk : ∀ F S (vs : List Value) (bs : List AV), bs.length = k → VRs F S vs bs → VR F S (mk vs) (mkA bs))
    (hr : (a = .sl true [] ∧ es = []) ∨ ∃ b, a = .row b k es.length ∧ L.get b = some (.row e k false es)) (hlt : es.length < 4611686018427387904) (hone : ∀ x ∈ es, x.all AV.one = true) (hO : Swo es.length c)
    (hcmp : ∀ (i j : Nat) (x y : List AV), es[i]? = some x → es[j]? = some y → ∀ K : AV → AHeap → Prop, K (.v (.int .i64 (c i j))) AHeap.nil → ACall X.dr g ([mkA x, mkA y] ++ cap) AHeap.nil K)
    (h : ∀ (p : List Nat) (L' : AHeap), p.Perm (List.range es.length) → (∀ i j a d : Nat, i < j → p[i]? = some a → p[j]? = some d → ¬ c d a < 0) →
      ((a = .sl true [] ∧ es = [] ∧ L' = L) ∨ ∃ b, a = .row b k es.length ∧ L.get b = some (.row e k false es) ∧ L' = L.put b (.row e k false (p.map fun i => es.getD i []))) → K (.tup []) L') :
    ACall X f [a, .fn (.func g) [] cap] L K := by
  rcases hr with ⟨rfl, rfl⟩ | ⟨b, rfl, h3⟩
  · refine ⟨hcan, fun w φ xs hr hx => ?_⟩
    cases hx with
    | cons hx1 hx2 =>
    rename_i x1 xs1
    cases hx2 with
    | cons hx2 hx3 =>
    rename_i x2 xs2
    cases hx3
    have hv : ∃ p cap, x1 = .slice p 0 cap := by
      cases hx1 with
      | slnil => exact ⟨_, _, rfl⟩
      | sl h1 h2 h3 => exact ⟨_, _, rfl⟩
    obtain ⟨p, cp, rfl⟩ := hv
    refine (hs.1 p cp x2 w).mono fun e' w' ⟨he, hw⟩ => ?_
    subst he hw
    exact ⟨_, .tup [], L, φ, rfl, .tup .nil, h [] L (by simp) (by simp) (.inl ⟨rfl, rfl, rfl⟩), Out.refl hr⟩
  · exact ACall_sort hs hcan hcang hmk h3 rfl hlt hone hO hcmp (fun p hp hsd => h p _ hp hsd (.inr ⟨b, rfl, h3, rfl⟩))

theorem setMany_list : ∀ (vs : List Value) (s : Nat) (F : Array Value), s + vs.length ≤ F.size → (setMany F s vs).toList = F.toList.take s ++ vs ++ F.toList.drop (s + vs.length)
  | [], s, F, h => by simp [setMany]
  | v :: r, s, F, h => by
    simp only [List.length_cons] at h
    rw [setMany, setMany_list r (s + 1) _ (by simp; omega), Array.toList_setIfInBounds]
    have hs : s < F.toList.length := by rw [Array.length_toList]; omega
    have hl : (F.toList.take s).length = s := by rw [List.length_take]; omega
    have t1 : ∀ (A B : List Value), A.length = s → (A ++ v :: B).take (s + 1) = A ++ [v] := fun A B hA => by subst hA; simp [List.take_append, List.take_of_length_le (Nat.le_succ A.length)]
    have t2 : ∀ (A B : List Value) (m : Nat), A.length = s → (A ++ v :: B).drop (s + 1 + m) = B.drop m := fun A B m hA => by
      subst hA
      rw [show A.length + 1 + m = A.length + (m + 1) from by omega]; simp [List.drop_append]
    rw [List.set_eq_take_append_cons_drop, if_pos hs, t1 _ _ hl, t2 _ _ _ hl, List.drop_drop, List.length_cons]
    rw [show s + (r.length + 1) = s + 1 + r.length from by omega]
    simp
theorem setCells_blk {b : Nat} {T : TypeId} {fr : Nat × Nat} : ∀ (vs : List Value) (o : Nat) (w : World) (arr : Array Value), w.heap[b]? = some (.cells arr T fr) → w.setCells b o vs = blk w b (.cells (setMany arr o vs) T fr)
  | [], o, w, arr, h => by
    have hlt : b < w.heap.size := (Array.getElem?_eq_some_iff.1 h).1
    have hb : w.heap[b] = .cells arr T fr := (Array.getElem?_eq_some_iff.1 h).2
    unfold World.setCells setMany blk
    rw [show w.heap.setIfInBounds b (.cells arr T fr) = w.heap from by
      apply Array.ext_getElem?
      intro i
      rw [Array.getElem?_setIfInBounds]
      split
      · rename_i e; subst e; exact h.symm
      · rfl]
  | v :: r, o, w, arr, h => by
    rw [World.setCells, setCell_blk h v, setCells_blk r (o + 1) _ (arr.setIfInBounds o v) (blk_same _ (Array.getElem?_eq_some_iff.1 h).1), setMany]
    unfold blk
    simp only [World.mk.injEq, and_true]
    apply Array.ext_getElem?
    intro i
    simp only [Array.getElem?_setIfInBounds, Array.size_setIfInBounds]
    split <;> simp_all

structure InsertsAt (P : Program) (f : Nat) (e : TypeId) (bytes : Nat) (z : Value) : Prop where
  shift : ∀ (b off n c i vb voff vc : Nat) (cs : List Value) (x : Value) (w : World), i < n → n + 1 ≤ c → c ≤ 9223372036854775807 → vb ≠ b → cs.length = n →
    (∀ j v, cs[j]? = some v → w.cell? ⟨b, off + j, none⟩ = some v) → (∀ j, j < n + 1 → (w.cell? ⟨b, off + j, none⟩).isSome = true) → (∀ j, j < n + 1 → w.frozen? ⟨b, off + j, none⟩ = false) →
    w.cell? ⟨vb, voff, none⟩ = some x → (∀ v ∈ cs, v.oneCell' = true) → x.oneCell' = true →
    ∀ (tA tB : TypeId) (kA kB : Nat), w.shape? vb = some (tA, kA) → w.shape? b = some (tB, kB) → kB ≠ 0 → w.frozen? ⟨vb, voff, none⟩ = false → w.frozen? ⟨vb, kA, none⟩ = false →
    Calls P f #[.slice (some ⟨b, off, none⟩) n c, .int .i64 i, .slice (some ⟨vb, voff, none⟩) 1 vc] w fun e' w' =>
      e' = .returned (.slice (some ⟨b, off, none⟩) (n + 1) c) ∧ w' = (w.drew.setCells b (off + (i + 1)) (cs.drop i)).setCells b (off + i) [x]
  endRoom : ∀ (b off n c vb voff vc : Nat) (x : Value) (w : World), n + 1 ≤ c → c ≤ 9223372036854775807 →
    (w.cell? ⟨b, off + n, none⟩).isSome = true → w.frozen? ⟨b, off + n, none⟩ = false → w.cell? ⟨vb, voff, none⟩ = some x → x.oneCell' = true →
    Calls P f #[.slice (some ⟨b, off, none⟩) n c, .int .i64 n, .slice (some ⟨vb, voff, none⟩) 1 vc] w fun e' w' =>
      e' = .returned (.slice (some ⟨b, off, none⟩) (n + 1) c) ∧ w' = w.setCells b (off + n) [x]
  endGrow : ∀ (a : Addr) (n c vb voff vc : Nat) (cs : List Value) (x : Value) (w : World), n ≤ c → c < n + 1 → (n + 1) * bytes ≤ 140737488355328 → cs.length = n →
    (∀ j v, cs[j]? = some v → w.cell? (a.add j) = some v) → w.cell? ⟨vb, voff, none⟩ = some x → x.oneCell' = true →
    Calls P f #[.slice (some a) n c, .int .i64 n, .slice (some ⟨vb, voff, none⟩) 1 vc] w fun e' w' =>
      e' = .returned (.slice (some ⟨w.heap.size, 0, none⟩) (n + 1) (grownCap w (n + 1) c e)) ∧
      w' = w.drew.alloc (.cells ((cs ++ [x]).toArray ++ Builtin.zeroCells z.cells (grownCap w (n + 1) c e - (n + 1))) e)
  grow : ∀ (b off n c i vb voff vc : Nat) (cs : List Value) (x : Value) (w : World), i < n → n ≤ c → c < n + 1 → (n + 1) * bytes ≤ 140737488355328 → cs.length = n →
    (∀ j v, cs[j]? = some v → w.cell? ⟨b, off + j, none⟩ = some v) → w.cell? ⟨vb, voff, none⟩ = some x → (∀ v ∈ cs, v.oneCell' = true) → x.oneCell' = true →
    Calls P f #[.slice (some ⟨b, off, none⟩) n c, .int .i64 i, .slice (some ⟨vb, voff, none⟩) 1 vc] w fun e' w' =>
      e' = .returned (.slice (some ⟨w.heap.size, 0, none⟩) (n + 1) (grownCap w (n + 1) c e)) ∧
      w' = (((w.alloc (.cells ((cs.take i).toArray ++ Builtin.zeroCells z.cells (n + 1 - i) ++ Builtin.zeroCells z.cells (grownCap w (n + 1) c e - (n + 1))) e)).drew.setCells w.heap.size i [x]).drew).setCells w.heap.size (i + 1) (cs.drop i)
  zone : z.cells.size = 1

theorem flat_one : ∀ {es : List (List AV)}, (∀ e ∈ es, e.length = 1) → es.flatten.length = es.length := fun h => by rw [flatten_len h, Nat.mul_one]
theorem drop_flat : ∀ {es : List (List AV)} (i : Nat), (∀ e ∈ es, e.length = 1) → (es.drop i).flatten = es.flatten.drop i
  | [], i, _ => by simp
  | e :: es, 0, _ => rfl
  | e :: es, i + 1, h => by
    have h1 := h e (by simp)
    match e, h1 with
    | [x], _ => simpa using drop_flat i (fun e he => h e (by simp [he]))
theorem take_flat : ∀ {es : List (List AV)} (i : Nat), (∀ e ∈ es, e.length = 1) → (es.take i).flatten = es.flatten.take i
  | [], i, _ => by simp
  | e :: es, 0, _ => rfl
  | e :: es, i + 1, h => by
    have h1 := h e (by simp)
    match e, h1 with
    | [x], _ => simpa using take_flat i (fun e he => h e (by simp [he]))

theorem insert_new {b : Nat} {e : TypeId} {arr : Array Value} {ins : List (List AV)} {vs rest : List Value} {k : Nat} (hr : Rel X w φ H) (h1 : ∀ e ∈ ins, e.length = 1) (ha : arr.toList = vs ++ rest) (hv : VRs (Fz w φ) (Sh w) vs ins.flatten) (hb : arr.size ≤ 9223372036854775807) :
    Out X H w φ (H.put w.heap.size (.row e 1 false ins)) { w.alloc (.cells arr e) with drawn := w.drawn + k } φ := by
  have h2 := row_new (X := X) hr (T := e) (arr := arr) (es := ins) (vs := vs) (rest := rest) (sz := 1) h1 ha hv (by omega)
  obtain ⟨s, r, d, _⟩ := h2
  exact ⟨⟨s.os, s.tape, s.output, s.size, s.fz, s.sh, s.un⟩, ⟨r.obj, r.lim, r.env⟩, d, fun _ => Nat.le_add_right _ _⟩

theorem size_setMany' (vs : List Value) (s : Nat) (F : Array Value) : (setMany F s vs).size = F.size := size_setMany vs s F
theorem put_up {F : Array Value} {s : Nat} {u : Value} {r A rest : List Value} (hF : F.toList = A ++ rest) (hA : A.length = s) (hs : s + 1 + r.length ≤ F.size) : ∃ rest', (setMany (setMany F s [u]) (s + 1) r).toList = A ++ ([u] ++ r) ++ rest' := by
  have hl : (setMany F s [u]).toList = A ++ [u] ++ F.toList.drop (s + 1) := by
    rw [setMany_list _ _ _ (by simp; omega), hF, List.take_append_of_le_length (by omega), List.take_of_length_le (by omega)]; rfl
  rw [setMany_list _ _ _ (by rw [size_setMany']; exact hs), hl]
  refine ⟨List.drop (s + 1 + r.length) (A ++ [u] ++ List.drop (s + 1) F.toList), ?_⟩
  rw [List.take_append_of_le_length (by simp; omega), List.take_of_length_le (by simp; omega)]
  simp only [List.append_assoc]
theorem put_down {F : Array Value} {s : Nat} {u : Value} {r A rest : List Value} (hF : F.toList = A ++ rest) (hA : A.length = s) (hs : s + 1 + r.length ≤ F.size) : ∃ rest', (setMany (setMany F (s + 1) r) s [u]).toList = A ++ ([u] ++ r) ++ rest' := by
  have hFl : F.toList.length = F.size := Array.length_toList
  have hl : (setMany F (s + 1) r).toList = F.toList.take (s + 1) ++ r ++ F.toList.drop (s + 1 + r.length) := setMany_list _ _ _ hs
  have h1 : (F.toList.take (s + 1)).length = s + 1 := by rw [List.length_take]; omega
  rw [setMany_list _ _ _ (by rw [size_setMany']; simp; omega), hl]
  refine ⟨F.toList.drop (s + 1 + r.length), ?_⟩
  have e1 : List.take s (F.toList.take (s + 1) ++ r ++ F.toList.drop (s + 1 + r.length)) = A := by
    rw [List.append_assoc, List.take_append_of_le_length (by omega), List.take_take, Nat.min_eq_left (by omega), hF, List.take_append_of_le_length (by omega), List.take_of_length_le (by omega)]
  have e2 : List.drop (s + [u].length) (F.toList.take (s + 1) ++ r ++ F.toList.drop (s + 1 + r.length)) = r ++ F.toList.drop (s + 1 + r.length) := by
    rw [show s + [u].length = s + 1 from rfl, List.append_assoc, List.drop_append, h1, List.drop_of_length_le (by omega)]
    simp
  rw [e1, e2]
  simp only [List.append_assoc]
theorem alloc_twice (w : World) (o o1 o2 : Obj) : blk ((blk (w.alloc o).drew w.heap.size o1).drew) w.heap.size o2 = { w.alloc o2 with drawn := w.drawn + 2 } := by
  unfold blk
  simp only [World.drew, World.alloc, World.mk.injEq, and_true]
  apply Array.ext_getElem?
  intro i
  simp only [Array.getElem?_setIfInBounds, Array.size_setIfInBounds, Array.size_push, Array.getElem?_push]
  by_cases h : w.heap.size = i
  · subst h; simp
  · have : ¬ i = w.heap.size := fun e => h e.symm
    simp [h, this]
theorem insert_at {b k : Nat} {e : TypeId} {arr arr' : Array Value} {old ins : List (List AV)} {vs rest : List Value} (hr : Rel X w φ H) (hb : H.get b = some (.row e 1 false old)) (hφ : φ b = 0) (h2 : w.heap[b]? = some (.cells arr e (0, 0))) (hs : arr'.size = arr.size) (hbd : arr.size ≤ 9223372036854775807)
    (h1 : ∀ e ∈ ins, e.length = 1) (ha : arr'.toList = vs ++ rest) (hv : VRs (Fz w φ) (Sh w) vs ins.flatten) :
    Out X H w φ (H.put b (.row e 1 false ins)) { blk w b (.cells arr' e (0, 0)) with drawn := w.drawn + k } φ := by
  have hk : ∀ i, i < φ b → arr'[i]? = arr[i]? := fun i hi => by rw [hφ] at hi; exact absurd hi (Nat.not_lt_zero _)
  have hst := blk_step (H := H) (φ := φ) h2 hs hk (by rw [hb]; simp)
  have h3 := blk_out hr hb h2 hs hk (a' := .row e 1 false ins) ⟨by rw [hφ]; exact Nat.zero_le _, h1, arr', vs, rest, blk_same _ (Array.getElem?_eq_some_iff.1 h2).1, ha, hst.vrs hv, by omega⟩
  obtain ⟨s, r, d, _⟩ := h3
  exact ⟨⟨s.os, s.tape, s.output, s.size, s.fz, s.sh, s.un⟩, ⟨r.obj, r.lim, r.env⟩, d, fun _ => Nat.le_add_right _ _⟩

theorem ACall_insert {f e b vb off i n by_ : Nat} {z : Value} {x : AV} {pre es : List (List AV)} {L : AHeap} (hs : InsertsAt X.P f e by_ z) (hcan : canEnter X.P f = true)
    (hb : L.get b = some (.row e 1 false (pre ++ es))) (hoff : off = pre.length) (hn : n = es.length) (hvb : L.get vb = some (.row e 1 false [[x]])) (hne : vb ≠ b) (hi : i ≤ n) (hbig : (n + 1) * by_ ≤ 140737488355328) (hby : 0 < by_)
    (hone : ∀ x ∈ es, x.all AV.one = true) (hx1 : x.one = true)
    (h : ∀ (b' : Nat) (pre' : List (List AV)) (L' : AHeap), L'.get b' = some (.row e 1 false (pre' ++ (es.take i ++ [[x]] ++ es.drop i))) → (b' = b ∨ L.get b' = none) → (∀ c o, L.get c = some o → c ≠ b → L'.get c = some o) → K (.vw b' 1 pre'.length (n + 1)) L') :
    ACall X f [.vw b 1 off n, .v (.int .i64 i), .row vb 1 1] L K := by
  subst hoff hn
  refine ⟨hcan, fun w φ xs hr hx => ?_⟩
  cases hx with
  | cons hx1' hx2 =>
  rename_i xs1 v1
  cases hx2 with
  | cons hx2 hx3 =>
  rename_i xs2 v2
  cases hx3 with
  | cons hx3 hx4 =>
  rename_i xs3 v3
  cases hx4
  cases hx2
  cases hx3 with
  | row hsv hsizev hlev =>
  rename_i vcap vsize
  cases hx1' with
  | vw hsh hsize hle hp =>
  rename_i cap size p
  obtain ⟨q1, q0, arr, vs, rest, q2, q3, q4, q5⟩ := hr.obj b _ hb
  obtain ⟨r1, r0, arrv, vsv, restv, r2, r3, r4, r5⟩ := hr.obj vb _ hvb
  have hφ : φ b = 0 := by simpa using q1
  have hl1 : ∀ c ∈ es, c.length = 1 := fun c hc => q0 c (by simp [hc])
  have hlp : ∀ c ∈ pre, c.length = 1 := fun c hc => q0 c (by simp [hc])
  have hvl : vs.length = pre.length + es.length := by rw [q4.len, flat_one q0, List.length_append]
  have hasz : arr.size = pre.length + cap := by
    obtain ⟨ar2, T2, fr2, j1, j2⟩ := hsh
    rw [q2] at j1; cases j1
    omega
  have hall : arr.toList.length = arr.size := Array.length_toList
  have hvu : ∃ u, vsv = [u] ∧ VR (Fz w φ) (Sh w) u x := by
    cases r4 with
    | cons h t => cases t; exact ⟨_, rfl, h⟩
  obtain ⟨u, rfl, hu⟩ := hvu
  have hu1 : u.oneCell' = true := one_ok hx1 hu
  have hcu : w.cell? ⟨vb, 0, none⟩ = some u := by rw [cell_row r2, r3]; rfl
  obtain ⟨cs, hcs⟩ : ∃ cs, cs = vs.drop pre.length := ⟨_, rfl⟩
  have hcl : cs.length = es.length := by rw [hcs, List.length_drop]; omega
  have hcv : VRs (Fz w φ) (Sh w) cs es.flatten := by
    have := q4.drop pre.length
    rw [← drop_flat _ q0, List.drop_left] at this
    rw [hcs]; exact this
  have hpv : VRs (Fz w φ) (Sh w) (vs.take pre.length) pre.flatten := by
    have := q4.take pre.length
    rwa [← take_flat _ q0, List.take_left] at this
  have hcell : ∀ j v, cs[j]? = some v → w.cell? ⟨b, pre.length + j, none⟩ = some v := fun j v hj => by
    rw [hcs, List.getElem?_drop] at hj
    rw [cell_row q2, q3, List.getElem?_append_left (List.getElem?_eq_some_iff.1 hj).1]
    exact hj
  have hc1 : ∀ v ∈ cs, v.oneCell' = true := fun v hv => by
    obtain ⟨j, hj, rfl⟩ := List.getElem_of_mem hv
    have hj2 : j < es.flatten.length := by rw [flat_one hl1]; omega
    have hv2 := hcv.get' j _ _ (List.getElem?_eq_getElem hj) (List.getElem?_eq_getElem hj2)
    refine one_ok ?_ hv2
    have hm := List.getElem_mem hj2
    rw [List.mem_flatten] at hm
    obtain ⟨l, hl, hm⟩ := hm
    exact List.all_eq_true.1 (hone l hl) _ hm
  have hins : ∀ c ∈ es.take i ++ [[x]] ++ es.drop i, c.length = 1 := fun c hc => by
    rcases List.mem_append.1 hc with hc | hc
    · rcases List.mem_append.1 hc with hc | hc
      · exact hl1 c (List.mem_of_mem_take hc)
      · simp at hc; subst hc; rfl
    · exact hl1 c (List.mem_of_mem_drop hc)
  have hinv : VRs (Fz w φ) (Sh w) (cs.take i ++ ([u] ++ cs.drop i)) (es.take i ++ [[x]] ++ es.drop i).flatten := by
    rw [List.flatten_append, List.flatten_append, take_flat i hl1, drop_flat i hl1, ← List.append_assoc]
    exact ((hcv.take i).append (.cons hu .nil)).append (hcv.drop i)
  have hfr : ∀ (c : Nat) (ar : Array Value) (T : TypeId) (k : Nat), w.heap[c]? = some (.cells ar T (0, 0)) → w.frozen? ⟨c, k, none⟩ = false := fun c ar T k hc => by simp [World.frozen?, hc]
  have hsome : ∀ j, j < arr.size → (w.cell? ⟨b, j, none⟩).isSome = true := fun j hj => by
    rw [cell_row q2, List.getElem?_eq_getElem (by omega)]; rfl
  have hcil : (cs.take i).length = i := by rw [List.length_take]; omega
  have hcdl : (cs.drop i).length = es.length - i := by rw [List.length_drop]; omega
  have hpl : (vs.take pre.length).length = pre.length := by rw [List.length_take]; omega
  have hvs : vs = vs.take pre.length ++ cs := by rw [hcs, List.take_append_drop]
  have hq5 : arr.size ≤ 9223372036854775807 := by omega
  -- what lies ahead of the place, and what lies from it on
  have hsplit : arr.toList = (vs.take pre.length ++ cs.take i) ++ (cs.drop i ++ rest) := by
    rw [q3]
    conv => lhs; rw [hvs, ← List.take_append_drop i cs]
    simp only [List.append_assoc]
  have hal : (vs.take pre.length ++ cs.take i).length = pre.length + i := by rw [List.length_append, hpl, hcil]
  have hfinal : ∀ {vs' : List Value}, vs' = vs.take pre.length ++ (cs.take i ++ ([u] ++ cs.drop i)) → VRs (Fz w φ) (Sh w) vs' (pre ++ (es.take i ++ [[x]] ++ es.drop i)).flatten := fun he => by
    rw [he, List.flatten_append]; exact hpv.append hinv
  have hall1 : ∀ c ∈ pre ++ (es.take i ++ [[x]] ++ es.drop i), c.length = 1 := fun c hc => by
    rcases List.mem_append.1 hc with hc | hc
    · exact hlp c hc
    · exact hins c hc
  by_cases hroom : es.length + 1 ≤ cap
  · have hp0 : p = pre.length := by rw [hp (by omega)]; omega
    subst hp0
    have hres : ∀ (arr' : Array Value) (k : Nat), arr'.size = arr.size → (∃ rest', arr'.toList = (vs.take pre.length ++ cs.take i) ++ ([u] ++ cs.drop i) ++ rest') →
        ∃ v av H' φ', (Ending.returned (.slice (some ⟨b, pre.length, none⟩) (es.length + 1) cap) : Ending) = .returned v ∧ VR (Fz { blk w b (.cells arr' e (0, 0)) with drawn := w.drawn + k } φ') (Sh { blk w b (.cells arr' e (0, 0)) with drawn := w.drawn + k }) v av ∧ K av H' ∧
          Out X L w φ H' { blk w b (.cells arr' e (0, 0)) with drawn := w.drawn + k } φ' := fun arr' k hsz' ⟨rest', he⟩ => by
      have hout := insert_at (X := X) (k := k) (ins := pre ++ (es.take i ++ [[x]] ++ es.drop i)) (vs := vs.take pre.length ++ (cs.take i ++ ([u] ++ cs.drop i))) (rest := rest') hr hb hφ q2 hsz' hq5 hall1 (by rw [he]; simp only [List.append_assoc]) (hfinal rfl)
      refine ⟨_, .vw b 1 pre.length (es.length + 1), _, φ, rfl, ?_, ?_, hout⟩
      · refine .vw (cap := cap) (size := arr.size) ⟨arr', e, (0, 0), ?_, hsz'⟩ (by omega) hroom (fun _ => by omega)
        exact blk_same _ (Array.getElem?_eq_some_iff.1 q2).1
      · exact h b pre _ (AHeap.get_put_same _ _ _) (.inl rfl) (fun c o hc hcb => by rw [AHeap.get_put, if_neg hcb]; exact hc)
    by_cases hin : i < es.length
    · refine (hs.shift b pre.length es.length cap i vb 0 vcap cs u w hin hroom (by omega) hne hcl hcell (fun j hj => hsome _ (by omega)) (fun j _ => hfr b arr e _ q2) hcu hc1 hu1 e e arrv.size arr.size (by simp [World.shape?, r2]) (by simp [World.shape?, q2]) (by omega) (hfr vb arrv e _ r2) (hfr vb arrv e _ r2)).mono ?_
      rintro e' w' ⟨rfl, rfl⟩
      rw [setCells_blk (w := w.drew) (T := e) (fr := (0, 0)) _ _ arr q2, setCells_blk (T := e) (fr := (0, 0)) _ _ _ (setMany arr (pre.length + (i + 1)) (cs.drop i)) (blk_same (w := w.drew) _ (Array.getElem?_eq_some_iff.1 q2).1), blk_blk]
      exact hres _ 1 (by rw [size_setMany', size_setMany']) (put_down (s := pre.length + i) hsplit hal (by rw [hcdl]; omega))
    · have hie : i = es.length := by omega
      subst hie
      refine (hs.endRoom b pre.length es.length cap vb 0 vcap u w hroom (by omega) (hsome _ (by omega)) (hfr b arr e _ q2) hcu hu1).mono ?_
      rintro e' w' ⟨rfl, rfl⟩
      rw [setCells_blk (w := w) (T := e) (fr := (0, 0)) _ _ arr q2]
      have hd0 : cs.drop es.length = [] := List.drop_of_length_le (by omega)
      have h9 := put_up (u := u) (r := []) hsplit hal (by simp; omega)
      have h10 := hres (setMany arr (pre.length + es.length) [u]) 0 (by rw [size_setMany']) (by
        rw [hd0]
        simpa only [setMany] using h9)
      exact h10
  · have hgr := grownCap_ge w (es.length + 1) cap e
    have hbn : es.length + 1 ≤ 140737488355328 := by
      have := Nat.mul_le_mul_left (es.length + 1) hby
      omega
    have hgm := grownCap_le_maxLen w (es.length + 1) cap e (Nat.le_trans hbn (by decide))
    have hres : ∀ (arr' : Array Value) (k : Nat), arr'.size = grownCap w (es.length + 1) cap e → (∃ rest', arr'.toList = (cs.take i ++ ([u] ++ cs.drop i)) ++ rest') →
        ∃ v av H' φ', (Ending.returned (.slice (some ⟨w.heap.size, 0, none⟩) (es.length + 1) (grownCap w (es.length + 1) cap e)) : Ending) = .returned v ∧ VR (Fz { w.alloc (.cells arr' e) with drawn := w.drawn + k } φ') (Sh { w.alloc (.cells arr' e) with drawn := w.drawn + k }) v av ∧ K av H' ∧
          Out X L w φ H' { w.alloc (.cells arr' e) with drawn := w.drawn + k } φ' := fun arr' k hsz' ⟨rest', he⟩ => by
      have hout := insert_new (X := X) (H := L) (b := b) (k := k) (e := e) (arr := arr') (ins := es.take i ++ [[x]] ++ es.drop i) hr hins he hinv (by rw [hsz']; exact hgm)
      refine ⟨_, .vw w.heap.size 1 0 (es.length + 1), _, φ, rfl, ?_, ?_, hout⟩
      · exact .vw (cap := grownCap w (es.length + 1) cap e) (size := arr'.size) ⟨arr', e, (0, 0), heap_new w _, rfl⟩ (by omega) hgr (fun _ => by omega)
      · exact h w.heap.size [] _ (AHeap.get_put_same _ _ _) (.inr (hr.none (Nat.le_refl _))) (fun c o hc hcb => by
          rw [AHeap.get_put, if_neg]
          · exact hc
          · rintro rfl; rw [hr.none (Nat.le_refl _)] at hc; cases hc)
    by_cases hin : i < es.length
    · have hp0 : p = pre.length := by rw [hp (by omega)]; omega
      subst hp0
      refine (hs.grow b pre.length es.length cap i vb 0 vcap cs u w hin hle (by omega) hbig hcl hcell hcu hc1 hu1).mono ?_
      rintro e' w' ⟨rfl, rfl⟩
      obtain ⟨A, hA⟩ : ∃ A, A = (cs.take i).toArray ++ Builtin.zeroCells z.cells (es.length + 1 - i) ++ Builtin.zeroCells z.cells (grownCap w (es.length + 1) cap e - (es.length + 1)) := ⟨_, rfl⟩
      have hAs : A.size = grownCap w (es.length + 1) cap e := by rw [hA]; simp [Builtin.zeroCells, hs.zone, hcil]; omega
      have hAl : ∃ r, A.toList = cs.take i ++ r := ⟨(Builtin.zeroCells z.cells (es.length + 1 - i)).toList ++ (Builtin.zeroCells z.cells (grownCap w (es.length + 1) cap e - (es.length + 1))).toList, by rw [hA]; simp [List.append_assoc]⟩
      obtain ⟨r, hAr⟩ := hAl
      rw [← hA]
      rw [setCells_blk (w := (w.alloc (.cells A e)).drew) (T := e) (fr := (0, 0)) _ _ A (heap_new w _), setCells_blk (w := (blk (w.alloc (.cells A e)).drew w.heap.size (.cells (setMany A i [u]) e)).drew) (T := e) (fr := (0, 0)) _ _ (setMany A i [u]) (blk_same (w := (w.alloc (.cells A e)).drew) _ (Array.getElem?_eq_some_iff.1 (heap_new w (.cells A e))).1), alloc_twice]
      refine hres _ 2 (by rw [size_setMany', size_setMany', hAs]) ?_
      obtain ⟨r', hr'⟩ := put_up (u := u) (r := cs.drop i) hAr hcil (by rw [hcdl, hAs]; omega)
      exact ⟨r', by rw [hr']⟩
    · have hie : i = es.length := by omega
      subst hie
      refine (hs.endGrow ⟨b, p, none⟩ es.length cap vb 0 vcap cs u w hle (by omega) hbig hcl (fun j v hj => ?_) hcu hu1).mono ?_
      · rw [add_none]
        have hpos : 0 < cap := by have := (List.getElem?_eq_some_iff.1 hj).1; omega
        have hp0 : p = pre.length := by rw [hp hpos]; omega
        rw [hp0]; exact hcell j v hj
      rintro e' w' ⟨rfl, rfl⟩
      have hd0 : cs.drop es.length = [] := List.drop_of_length_le (by omega)
      have ht0 : cs.take es.length = cs := List.take_of_length_le (by omega)
      exact hres _ 1 (by simp [Builtin.zeroCells, hs.zone, hcl]; omega) ⟨_, by rw [hd0, ht0]; simp; rfl⟩
end
end Go.AL

/-
  AL, part zm: slices.Compact out of the library's contract.
-/
set_option linter.unusedSimpArgs false
set_option linter.unusedVariables false
namespace Go.AL
open Go Go.Sort Go.Proofs
section
variable {X : Ctx} {H : AHeap} {w : World} {φ : Nat → Nat} {K : AV → AHeap → Prop}
def Compacts {α : Type} [Inhabited α] (P : Program) (f : Nat) (enc : α → Value) (cf tl : List α → List α) : Prop :=
  (∀ (p : Option Addr) (cap : Nat) (w : World), Calls P f #[.slice p 0 cap] w fun e w' => e = .returned (.slice p 0 cap) ∧ w' = w) ∧
  ∀ (blk cap : Nat) (ss : List α) (w : World) (hH : Holds enc w blk 0 ss.toArray) (hsz : ss.length ≤ 9223372036854775807) (hcap : ss.length ≤ cap),
    Calls P f #[.slice (some ⟨blk, 0, none⟩) ss.length cap] w fun e w' => e = .returned (.slice (some ⟨blk, 0, none⟩) (cf ss).length cap) ∧ ∃ n, w' = putRow enc (Sort.ahead w n) blk 0 (cf ss ++ tl ss).toArray
theorem ACall_compact {α : Type} [Inhabited α] {f e : Nat} {enc : α → Value} {av : α → AV} {cf tl : List α → List α} {ss : List α} {a : AV} {H0 L : AHeap} (hs : Compacts X.P f enc cf tl) (hcan : canEnter X.P f = true)
    (hav : ∀ F S x, VR F S (enc x) (av x)) (hinv : ∀ F S v x, VR F S v (av x) → v = enc x) (hsf : (cf ss).length + (tl ss).length = ss.length)
    (hE : Ext H0 L) (hr : RowAt e 1 H0 L (ss.map fun x => [av x]) a) (hlt : ss.length < 4611686018427387904)
    (h : ∀ a' L', RowAt e 1 H0 L' ((cf ss).map fun x => [av x]) a' → Ext H0 L' → Keeps e L L' → K a' L') : ACall X f [a] L K := by
  rcases hr with ⟨rfl, h0⟩ | ⟨b, h1, rfl, h3⟩
  · have hss : ss = [] := by simpa using h0
    subst hss
    have hnil : cf [] = [] := List.length_eq_zero_iff.1 (by simp only [List.length_nil] at hsf; omega)
    refine ⟨hcan, fun w φ xs hr hx => ?_⟩
    cases hx with
    | cons hx1 hx2 =>
    rename_i x1 xs1
    cases hx2
    have hv : ∃ p cap, x1 = .slice p 0 cap := by
      cases hx1 with
      | slnil => exact ⟨_, _, rfl⟩
      | sl h1 h2 h3 => exact ⟨_, _, rfl⟩
    obtain ⟨p, cp, rfl⟩ := hv
    refine (hs.1 p cp w).mono fun e' w' ⟨he, hw⟩ => ?_
    subst he hw
    exact ⟨_, .sl true [], L, φ, rfl, hx1, h _ L (by rw [hnil]; exact .inl ⟨rfl, rfl⟩) hE (Keeps.refl _ _), Out.refl hr⟩
  · refine ⟨hcan, fun w φ xs hr hx => ?_⟩
    cases hx with
    | cons hx1 hx2 =>
    rename_i x1 xs1
    cases hx2
    cases hx1 with
    | row hsh hsize hle =>
    rename_i cap size
    rw [List.length_map] at hle ⊢
    obtain ⟨k1, k0, arr, vs, rest, k2, k3, k4, hbd⟩ := hr.obj b _ h3
    have hφ : φ b = 0 := by simpa using k1
    have hblk : b < w.heap.size := (Array.getElem?_eq_some_iff.1 k2).1
    have hfl := flat1 av ss
    rw [hfl] at k4
    have hvl : vs.length = ss.length := by rw [k4.len, List.length_map]
    have hvi : ∀ i (hi : i < ss.length), vs[i]? = some (enc ss[i]) := fun i hi => by
      obtain ⟨v, g1, g2⟩ := k4.get i (av ss[i]) (by simp [hi])
      rw [g1, hinv _ _ _ _ g2]
    have hH : Holds enc w b 0 ss.toArray := fun j hj => by
      have hj' : j < ss.length := by simpa using hj
      refine ⟨?_, by simp [World.frozen?, k2]⟩
      have : arr.toList[j]? = some (enc ss[j]) := by rw [k3, List.getElem?_append_left (by omega), hvi j hj']
      rw [getElem!_pos ss.toArray j hj]
      simp only [World.cell?, k2, Nat.zero_add]
      simpa using this
    have mono : ∀ m (d : Array α), (∀ c, c < w.heap.size → c ≠ b → (putRow enc (Sort.ahead w m) b 0 d).heap[c]? = w.heap[c]?) ∧ (putRow enc (Sort.ahead w m) b 0 d).heap[b]? = some (.cells (putCells enc 0 d arr) e (0, 0)) := fun m d => by
      refine ⟨fun c hc hne => ?_, ?_⟩
      · simp only [putRow, mapBlock, Sort.ahead]
        rw [Array.getElem?_modify, if_neg (Ne.symm hne)]
      · simp only [putRow, mapBlock, Sort.ahead]
        rw [Array.getElem?_modify, if_pos rfl, k2]
        rfl
    have hck : arr.size = cap := by
      obtain ⟨ar2, T2, fr2, j1, j2⟩ := hsh
      rw [k2] at j1; cases j1
      omega
    refine (hs.2 b cap ss w hH (by omega) (by omega)).mono ?_
    rintro e' w' ⟨rfl, m, rfl⟩
    obtain ⟨g1, g2⟩ := mono m (cf ss ++ tl ss).toArray
    have hsw : w.heap.size ≤ (putRow enc (Sort.ahead w m) b 0 (cf ss ++ tl ss).toArray).heap.size := by simp [putRow, mapBlock, Sort.ahead]
    have m1 : ∀ ad u, Fz w φ ad u → Fz (putRow enc (Sort.ahead w m) b 0 (cf ss ++ tl ss).toArray) φ ad u := fun ad u ⟨k1, k2⟩ => ⟨by
      have hne : ad.block ≠ b := fun e => by rw [e, hφ] at k2; exact absurd k2 (Nat.not_lt_zero _)
      have hl := World.block_lt_of_cell? w ad k1
      rw [World.cell?_of_block (w := w) (g1 _ hl hne)]
      exact k1, k2⟩
    have m2 : ∀ d n, Sh w d n → Sh (putRow enc (Sort.ahead w m) b 0 (cf ss ++ tl ss).toArray) d n := fun d n ⟨ar, T, fr, j1, j2⟩ => by
      have hl := (Array.getElem?_eq_some_iff.1 j1).1
      by_cases hne : d = b
      · subst hne
        rw [k2] at j1; cases j1
        exact ⟨_, _, _, g2, by simp [putCells, j2]⟩
      · exact ⟨ar, T, fr, by rw [g1 _ hl hne]; exact j1, j2⟩
    have hEb := hE.over h1 (o := .row e 1 false ((cf ss).map fun x => [av x]))
    refine ⟨_, .row b 1 (cf ss).length, L.put b (.row e 1 false ((cf ss).map fun x => [av x])), φ, rfl, .row (m2 _ _ hsh) hsize (by omega), h _ _ (.inr ⟨b, h1, by simp, AHeap.get_put_same _ _ _⟩) hEb (fun c' o hc' ho => ?_), ?_⟩
    · rw [AHeap.get_put, if_neg]
      · exact hc'
      · rintro rfl; rw [h3] at hc'; cases hc'; exact ho _ _ _ rfl
    · refine ⟨⟨rfl, rfl, rfl, hsw, m1, m2, fun d hd hdn => ⟨g1 d hd (fun e => by rw [e, h3] at hdn; cases hdn), rfl⟩⟩, ⟨fun d o hd => ?_, fun d hd => hr.lim d (Nat.le_trans hsw hd), X.mono _ _ m1 hr.env⟩, fun d hd => ?_, fun _ => (show w.drawn ≤ w.drawn + m by omega)⟩
      · rw [AHeap.get_put] at hd
        split at hd
        · rename_i hdb; subst hdb; cases hd
          refine ⟨by simpa using hφ, fun x hx => by obtain ⟨y, _, rfl⟩ := List.mem_map.1 hx; rfl, _, (cf ss).map enc, (putCells enc 0 (cf ss ++ tl ss).toArray arr).toList.drop (cf ss).length, g2, ?_, ?_, by simpa [putCells] using hbd⟩
          · apply List.ext_getElem?
            intro i
            by_cases hi : i < (cf ss).length
            · rw [List.getElem?_append_left (by simp; exact hi)]
              have hia : i < arr.size := by omega
              have hi2 : i < (cf ss).length + (tl ss).length := by omega
              simp [putCells, Array.getElem?_mapIdx, hia, hi2, List.getElem?_append_left hi, hi]
            · rw [List.getElem?_append_right (by simp; omega), List.getElem?_drop]
              congr 1
              simp; omega
          · rw [flat1 av]; exact vrs_enc (fun x => hav _ _ x) _
        · rename_i hne
          exact (hr.obj d o hd).keep (g1 d (hr.lt hd) hne) rfl m1 m2
      · rw [AHeap.get_put] at hd
        split at hd
        · rename_i e; subst e; left; rw [h3]; simp
        · exact .inl hd
end
end Go.AL

/-
  AL, part zn: canonical JSON and UTF-8 in plain words: which value is good, how it is put in order. No program text.
-/
set_option linter.unusedSimpArgs false
set_option linter.unusedVariables false
namespace Go.AL
open Go

def contB (b : Nat) : Bool := decide (128 ≤ b) && decide (b ≤ 191)
def docN (n b0 b1 b2 b3 : Nat) : Nat :=
  if b0 < 128 then 1
  else if b0 < 192 then 0
  else if b0 < 224 then (if n < 2 ∨ contB b1 = false ∨ b0 % 32 * 64 + b1 % 64 < 128 then 0 else 2)
  else if b0 < 240 then (if n < 2 ∨ contB b1 = false ∨ n < 3 ∨ contB b2 = false ∨ (b0 % 16 * 64 + b1 % 64) * 64 + b2 % 64 < 2048 ∨ (55296 ≤ (b0 % 16 * 64 + b1 % 64) * 64 + b2 % 64 ∧ (b0 % 16 * 64 + b1 % 64) * 64 + b2 % 64 ≤ 57343) then 0 else 3)
  else if b0 < 248 then (if n < 2 ∨ contB b1 = false ∨ n < 3 ∨ contB b2 = false ∨ n < 4 ∨ contB b3 = false ∨ ((b0 % 8 * 64 + b1 % 64) * 64 + b2 % 64) * 64 + b3 % 64 < 65536 ∨ 1114111 < ((b0 % 8 * 64 + b1 % 64) * 64 + b2 % 64) * 64 + b3 % 64 then 0 else 4)
  else 0
theorem contB_false {b : Nat} : contB b = false ↔ b < 128 ∨ 191 < b := by
  unfold contB
  rw [Bool.and_eq_false_iff, decide_eq_false_iff_not, decide_eq_false_iff_not]
  omega
theorem docN2 {n b0 b1 b2 b3 : Nat} (h : 192 ≤ b0) (h' : b0 < 224) : docN n b0 b1 b2 b3 = if n < 2 ∨ contB b1 = false ∨ b0 % 32 * 64 + b1 % 64 < 128 then 0 else 2 := by
  unfold docN
  rw [if_neg (by omega), if_neg (by omega), if_pos h']
theorem docN3 {n b0 b1 b2 b3 : Nat} (h : 224 ≤ b0) (h' : b0 < 240) : docN n b0 b1 b2 b3 = if n < 2 ∨ contB b1 = false ∨ n < 3 ∨ contB b2 = false ∨ (b0 % 16 * 64 + b1 % 64) * 64 + b2 % 64 < 2048 ∨ (55296 ≤ (b0 % 16 * 64 + b1 % 64) * 64 + b2 % 64 ∧ (b0 % 16 * 64 + b1 % 64) * 64 + b2 % 64 ≤ 57343) then 0 else 3 := by
  unfold docN
  rw [if_neg (by omega), if_neg (by omega), if_neg (by omega), if_pos h']
theorem docN4 {n b0 b1 b2 b3 : Nat} (h : 240 ≤ b0) (h' : b0 < 248) : docN n b0 b1 b2 b3 = if n < 2 ∨ contB b1 = false ∨ n < 3 ∨ contB b2 = false ∨ n < 4 ∨ contB b3 = false ∨ ((b0 % 8 * 64 + b1 % 64) * 64 + b2 % 64) * 64 + b3 % 64 < 65536 ∨ 1114111 < ((b0 % 8 * 64 + b1 % 64) * 64 + b2 % 64) * 64 + b3 % 64 then 0 else 4 := by
  unfold docN
  rw [if_neg (by omega), if_neg (by omega), if_neg (by omega), if_neg (by omega), if_pos h']
theorem if_same {A B : Prop} [Decidable A] [Decidable B] (k : Nat) (h : A ↔ B) : (if A then 0 else k) = (if B then none else some k).getD 0 := by
  by_cases hb : B
  · rw [if_pos (h.2 hb), if_pos hb]; rfl
  · rw [if_neg (fun a => hb (h.1 a)), if_neg hb]; rfl
theorem three_iff {n b0 b1 b2 lo hi : Nat} (hlo : 128 ≤ lo) (hhi : hi ≤ 191)
    (hv : 128 ≤ b1 → b1 ≤ 191 → ((b0 % 16 * 64 + b1 % 64) * 64 + b2 % 64 < 2048 ∨ (55296 ≤ (b0 % 16 * 64 + b1 % 64) * 64 + b2 % 64 ∧ (b0 % 16 * 64 + b1 % 64) * 64 + b2 % 64 ≤ 57343) ↔ b1 < lo ∨ hi < b1)) :
    (n < 2 ∨ contB b1 = false ∨ n < 3 ∨ contB b2 = false ∨ (b0 % 16 * 64 + b1 % 64) * 64 + b2 % 64 < 2048 ∨ (55296 ≤ (b0 % 16 * 64 + b1 % 64) * 64 + b2 % 64 ∧ (b0 % 16 * 64 + b1 % 64) * 64 + b2 % 64 ≤ 57343)) ↔ n < 3 ∨ b1 < lo ∨ hi < b1 ∨ b2 < 128 ∨ 191 < b2 := by
  rw [contB_false, contB_false]
  by_cases h1 : 128 ≤ b1
  · by_cases h2 : b1 ≤ 191
    · rw [hv h1 h2]; omega
    · constructor <;> intro <;> omega
  · constructor <;> intro <;> omega
theorem four_iff {n b0 b1 b2 b3 lo hi : Nat} (hlo : 128 ≤ lo) (hhi : hi ≤ 191)
    (hv : 128 ≤ b1 → b1 ≤ 191 → (((b0 % 8 * 64 + b1 % 64) * 64 + b2 % 64) * 64 + b3 % 64 < 65536 ∨ 1114111 < ((b0 % 8 * 64 + b1 % 64) * 64 + b2 % 64) * 64 + b3 % 64 ↔ b1 < lo ∨ hi < b1)) :
    (n < 2 ∨ contB b1 = false ∨ n < 3 ∨ contB b2 = false ∨ n < 4 ∨ contB b3 = false ∨ ((b0 % 8 * 64 + b1 % 64) * 64 + b2 % 64) * 64 + b3 % 64 < 65536 ∨ 1114111 < ((b0 % 8 * 64 + b1 % 64) * 64 + b2 % 64) * 64 + b3 % 64) ↔ n < 4 ∨ b1 < lo ∨ hi < b1 ∨ b2 < 128 ∨ 191 < b2 ∨ b3 < 128 ∨ 191 < b3 := by
  rw [contB_false, contB_false, contB_false]
  by_cases h1 : 128 ≤ b1
  · by_cases h2 : b1 ≤ 191
    · rw [hv h1 h2]; omega
    · constructor <;> intro <;> omega
  · constructor <;> intro <;> omega
theorem docN_check (n b0 b1 b2 b3 : Nat) (hn : 1 ≤ n) (h0 : 128 ≤ b0) (h0' : b0 < 256) (h1 : b1 < 256) (h2 : b2 < 256) (h3 : b3 < 256) :
    docN n b0 b1 b2 b3 = (Lib.checkN n b1 b2 b3 (Lib.firstT b0 % 8) (Lib.accLo (Lib.firstT b0 / 16)) (Lib.accHi (Lib.firstT b0 / 16))).getD 0 := by
  have key : ∀ sz lo hi, Lib.firstT b0 % 8 = sz → Lib.accLo (Lib.firstT b0 / 16) = lo → Lib.accHi (Lib.firstT b0 / 16) = hi → docN n b0 b1 b2 b3 = (Lib.checkN n b1 b2 b3 sz lo hi).getD 0 → docN n b0 b1 b2 b3 = (Lib.checkN n b1 b2 b3 (Lib.firstT b0 % 8) (Lib.accLo (Lib.firstT b0 / 16)) (Lib.accHi (Lib.firstT b0 / 16))).getD 0 := fun sz lo hi e1 e2 e3 h => by
    rw [e1, e2, e3]; exact h
  have two : 194 ≤ b0 → b0 < 224 → docN n b0 b1 b2 b3 = (Lib.checkN n b1 b2 b3 2 128 191).getD 0 := fun c1 c2 => by
    rw [docN2 (by omega) c2]
    show _ = (if n < 2 ∨ b1 < 128 ∨ 191 < b1 then none else some 2).getD 0
    refine if_same 2 ?_
    rw [contB_false]; constructor <;> intro <;> omega
  have three : ∀ lo hi, 128 ≤ lo → hi ≤ 191 → (128 ≤ b1 → b1 ≤ 191 → ((b0 % 16 * 64 + b1 % 64) * 64 + b2 % 64 < 2048 ∨ (55296 ≤ (b0 % 16 * 64 + b1 % 64) * 64 + b2 % 64 ∧ (b0 % 16 * 64 + b1 % 64) * 64 + b2 % 64 ≤ 57343) ↔ b1 < lo ∨ hi < b1)) → 224 ≤ b0 → b0 < 240 → docN n b0 b1 b2 b3 = (Lib.checkN n b1 b2 b3 3 lo hi).getD 0 := fun lo hi g1 g2 hv c1 c2 => by
    rw [docN3 c1 c2]
    show _ = (if n < 3 ∨ b1 < lo ∨ hi < b1 ∨ b2 < 128 ∨ 191 < b2 then none else some 3).getD 0
    exact if_same 3 (three_iff g1 g2 hv)
  have four : ∀ lo hi, 128 ≤ lo → hi ≤ 191 → (128 ≤ b1 → b1 ≤ 191 → (((b0 % 8 * 64 + b1 % 64) * 64 + b2 % 64) * 64 + b3 % 64 < 65536 ∨ 1114111 < ((b0 % 8 * 64 + b1 % 64) * 64 + b2 % 64) * 64 + b3 % 64 ↔ b1 < lo ∨ hi < b1)) → 240 ≤ b0 → b0 < 248 → docN n b0 b1 b2 b3 = (Lib.checkN n b1 b2 b3 4 lo hi).getD 0 := fun lo hi g1 g2 hv c1 c2 => by
    rw [docN4 c1 c2]
    show _ = (if n < 4 ∨ b1 < lo ∨ hi < b1 ∨ b2 < 128 ∨ 191 < b2 ∨ b3 < 128 ∨ 191 < b3 then none else some 4).getD 0
    exact if_same 4 (four_iff g1 g2 hv)
  by_cases c0 : b0 < 194
  · have e : Lib.firstT b0 = 241 := by simp [Lib.firstT, show ¬ b0 < 128 by omega, c0]
    rw [e]
    show docN n b0 b1 b2 b3 = 0
    by_cases c : b0 < 192
    · unfold docN; rw [if_neg (by omega), if_pos c]
    · rw [docN2 (by omega) (by omega), if_pos (by right; right; omega)]
  by_cases c1 : b0 < 224
  · exact key 2 128 191 (by simp [Lib.firstT, show ¬ b0 < 128 by omega, c0, c1]) (by simp [Lib.firstT, Lib.accLo, show ¬ b0 < 128 by omega, c0, c1]) (by simp [Lib.firstT, Lib.accHi, show ¬ b0 < 128 by omega, c0, c1]) (two (by omega) c1)
  by_cases c2 : b0 = 224
  · subst c2; exact key 3 160 191 (by decide) (by decide) (by decide) (three 160 191 (by decide) (by decide) (fun _ _ => by constructor <;> intro <;> omega) (by decide) (by decide))
  by_cases c3 : b0 < 237
  · exact key 3 128 191 (by simp [Lib.firstT, show ¬ b0 < 128 by omega, c0, c1, c2, c3]) (by simp [Lib.firstT, Lib.accLo, show ¬ b0 < 128 by omega, c0, c1, c2, c3]) (by simp [Lib.firstT, Lib.accHi, show ¬ b0 < 128 by omega, c0, c1, c2, c3]) (three 128 191 (by decide) (by decide) (fun _ _ => by
      have : b0 % 16 = b0 - 224 := by omega
      rw [this]; constructor <;> intro <;> omega) (by omega) (by omega))
  by_cases c4 : b0 = 237
  · subst c4; exact key 3 128 159 (by decide) (by decide) (by decide) (three 128 159 (by decide) (by decide) (fun _ _ => by constructor <;> intro <;> omega) (by decide) (by decide))
  by_cases c5 : b0 < 240
  · exact key 3 128 191 (by simp [Lib.firstT, show ¬ b0 < 128 by omega, c0, c1, c2, c3, c4, c5]) (by simp [Lib.firstT, Lib.accLo, show ¬ b0 < 128 by omega, c0, c1, c2, c3, c4, c5]) (by simp [Lib.firstT, Lib.accHi, show ¬ b0 < 128 by omega, c0, c1, c2, c3, c4, c5]) (three 128 191 (by decide) (by decide) (fun _ _ => by
      have : b0 % 16 = b0 - 224 := by omega
      rw [this]; constructor <;> intro <;> omega) (by omega) c5)
  by_cases c6 : b0 = 240
  · subst c6; exact key 4 144 191 (by decide) (by decide) (by decide) (four 144 191 (by decide) (by decide) (fun _ _ => by constructor <;> intro <;> omega) (by decide) (by decide))
  by_cases c7 : b0 < 244
  · exact key 4 128 191 (by simp [Lib.firstT, show ¬ b0 < 128 by omega, c0, c1, c2, c3, c4, c5, c6, c7]) (by simp [Lib.firstT, Lib.accLo, show ¬ b0 < 128 by omega, c0, c1, c2, c3, c4, c5, c6, c7]) (by simp [Lib.firstT, Lib.accHi, show ¬ b0 < 128 by omega, c0, c1, c2, c3, c4, c5, c6, c7]) (four 128 191 (by decide) (by decide) (fun _ _ => by
      have : b0 % 8 = b0 - 240 := by omega
      rw [this]; constructor <;> intro <;> omega) (by omega) (by omega))
  by_cases c8 : b0 = 244
  · subst c8; exact key 4 128 143 (by decide) (by decide) (by decide) (four 128 143 (by decide) (by decide) (fun _ _ => by constructor <;> intro <;> omega) (by decide) (by decide))
  · have e : Lib.firstT b0 = 241 := by simp [Lib.firstT, show ¬ b0 < 128 by omega, c0, c1, c2, c3, c4, c5, c6, c7, c8]
    rw [e]
    show docN n b0 b1 b2 b3 = 0
    by_cases c : b0 < 248
    · rw [docN4 (by omega) c, if_pos]
      have : b0 % 8 = b0 - 240 := by omega
      rw [this]; omega
    · unfold docN
      rw [if_neg (by omega), if_neg (by omega), if_neg (by omega), if_neg (by omega), if_neg c]
def docL (l : List UInt8) : Nat := docN l.length (l.getD 0 0).toNat (l.getD 1 0).toNat (l.getD 2 0).toNat (l.getD 3 0).toNat
theorem docL_valid {l : List UInt8} (hne : l ≠ []) : Lib.validD l = if docL l = 0 then false else Lib.validD (l.drop (docL l)) := by
  have hl : 1 ≤ l.length := List.length_pos_iff.2 hne
  by_cases h0 : (l.getD 0 0).toNat < 128
  · have e : docL l = 1 := by unfold docL docN; rw [if_pos h0]
    rw [e, if_neg (by decide)]
    cases l with
    | nil => exact absurd rfl hne
    | cons b t => exact Lib.validD_cons b t h0
  · rw [Lib.validD_lead l hne (by omega)]
    have hd := docN_check l.length (l.getD 0 0).toNat (l.getD 1 0).toNat (l.getD 2 0).toNat (l.getD 3 0).toNat hl (by omega) (l.getD 0 0).toNat_lt (l.getD 1 0).toNat_lt (l.getD 2 0).toNat_lt (l.getD 3 0).toNat_lt
    unfold docL
    rw [hd]
    rcases Lib.check_decode l.length (l.getD 0 0).toNat (l.getD 1 0).toNat (l.getD 2 0).toNat (l.getD 3 0).toNat hl (by omega) (l.getD 0 0).toNat_lt (l.getD 1 0).toNat_lt (l.getD 2 0).toNat_lt (l.getD 3 0).toNat_lt with ⟨hc, _⟩ | ⟨k, hk, hc, _⟩
    · rw [hc]; rfl
    · rw [hc, Option.getD_some, if_neg (by omega)]
theorem docL_le {l : List UInt8} (hne : l ≠ []) : docL l ≤ l.length := by
  have hl : 1 ≤ l.length := List.length_pos_iff.2 hne
  unfold docL docN
  repeat' split
  all_goals omega

def namedB (V : List UInt8 → Bool) (ks : List (List UInt8)) : Bool := decide ks.Nodup && ks.all V
def shapedB (V : List UInt8 → Bool) (j : J) : Bool :=
  let empty := decide (j.keys = []) && decide (j.list = [])
  if j.kind = 0 then empty && decide (j.int = 0) && decide (j.text = [])
  else if j.kind = 1 then empty && decide (j.text = []) && (decide (j.int = 0) || decide (j.int = 1))
  else if j.kind = 2 then empty && decide (j.text = []) && decide (-9007199254740991 ≤ j.int) && decide (j.int ≤ 9007199254740991)
  else if j.kind = 3 then empty && decide (j.int = 0) && V j.text
  else if j.kind = 4 then decide (j.keys = []) && decide (j.int = 0) && decide (j.text = [])
  else if j.kind = 5 then decide (j.keys.length = j.list.length) && decide (j.int = 0) && decide (j.text = []) && namedB V j.keys
  else false
theorem len0 {α : Type} (l : List α) : decide ((l.length : Int) = 0) = decide (l = []) := by cases l <;> simp; omega
mutual
def J.Fit : J → Prop
  | .mk _ _ t ks l => (ks.length ≤ 1000000000 ∧ l.length ≤ 1000000000) ∧ t.length ≤ 4611686018427387904 ∧ (∀ x ∈ ks, x.length ≤ 4611686018427387904) ∧ J.Fits l
def J.Fits : List J → Prop
  | [] => True
  | j :: l => J.Fit j ∧ J.Fits l
end
theorem fits_iff : ∀ {l : List J}, J.Fits l ↔ ∀ j ∈ l, J.Fit j
  | [] => by simp [J.Fits]
  | j :: l => by simp [J.Fits, fits_iff (l := l)]
theorem fit_eq {j : J} : J.Fit j ↔ (j.keys.length ≤ 1000000000 ∧ j.list.length ≤ 1000000000) ∧ j.text.length ≤ 4611686018427387904 ∧ (∀ x ∈ j.keys, x.length ≤ 4611686018427387904) ∧ ∀ x ∈ j.list, J.Fit x := by
  cases j; simp only [J.Fit, J.keys, J.list, J.text, fits_iff]
def goodB : Nat → J → Bool
  | 0, _ => false
  | n + 1, j => shapedB Lib.validD j && j.list.all (goodB n)
theorem good_shaped {n : Nat} {j : J} (h : goodB n j = true) : shapedB Lib.validD j = true := by
  cases n with
  | zero => cases h
  | succ n => simp only [goodB, Bool.and_eq_true] at h; exact h.1
theorem good_list {n : Nat} {j : J} (h : goodB n j = true) : ∃ m, m < n ∧ ∀ x ∈ j.list, goodB m x = true := by
  cases n with
  | zero => cases h
  | succ n =>
    simp only [goodB, Bool.and_eq_true, List.all_eq_true] at h
    exact ⟨n, by omega, h.2⟩
theorem shaped_map {V : List UInt8 → Bool} {j : J} (h : shapedB V j = true) (hk : j.kind = 5) : j.keys.length = j.list.length ∧ j.keys.Nodup ∧ ∀ k ∈ j.keys, V k = true := by
  simp [shapedB, hk, namedB] at h
  exact ⟨h.1.1.1, h.2.1, h.2.2⟩
theorem shaped_none {V : List UInt8 → Bool} {j : J} (h : shapedB V j = true) (h4 : j.kind ≠ 4) (h5 : j.kind ≠ 5) : j.keys = [] ∧ j.list = [] := by
  unfold shapedB at h
  simp only [] at h
  repeat' split at h
  all_goals first | (cases h; done) | (exfalso; omega) | (simp at h; exact ⟨by simp [h], by simp [h]⟩)
theorem shaped_list {V : List UInt8 → Bool} {j : J} (h : shapedB V j = true) (h4 : j.kind = 4) : j.keys = [] := by
  simp [shapedB, h4] at h
  exact h.1.1

def placesOf (ks : List (List UInt8)) : List Nat := (List.range ks.length).mergeSort fun i j => decide (ks.getD i [] ≤ ks.getD j [])
theorem places_perm (ks : List (List UInt8)) : (placesOf ks).Perm (List.range ks.length) := List.mergeSort_perm _ _
theorem places_len (ks : List (List UInt8)) : (placesOf ks).length = ks.length := by rw [(places_perm ks).length_eq, List.length_range]
theorem places_lt {ks : List (List UInt8)} {i : Nat} (h : i ∈ placesOf ks) : i < ks.length := List.mem_range.1 ((places_perm ks).mem_iff.1 h)
theorem places_sorted (ks : List (List UInt8)) : (placesOf ks).Pairwise fun i j => ks.getD i [] ≤ ks.getD j [] := by
  have := List.pairwise_mergeSort (le := fun i j : Nat => decide (ks.getD i [] ≤ ks.getD j [])) (fun a b c h k => by simp only [decide_eq_true_eq] at *; exact List.le_trans h k) (fun a b => by simp only [Bool.or_eq_true, decide_eq_true_eq]; exact List.le_total _ _) (List.range ks.length)
  exact this.imp (fun h => by simpa using h)
theorem nodup_getD {ks : List (List UInt8)} (hn : ks.Nodup) {i j : Nat} (hi : i < ks.length) (hj : j < ks.length) (e : ks.getD i [] = ks.getD j []) : i = j := by
  refine nodup_inj hn (List.getElem?_eq_getElem hi) ?_
  rw [List.getD_eq_getElem?_getD, List.getElem?_eq_getElem hi, List.getD_eq_getElem?_getD, List.getElem?_eq_getElem hj] at e
  rw [List.getElem?_eq_getElem hj]
  exact congrArg some e.symm
theorem places_uniq {ks : List (List UInt8)} (hn : ks.Nodup) {p : List Nat} (hp : p.Perm (List.range ks.length)) (hs : p.Pairwise fun i j => ks.getD i [] ≤ ks.getD j []) : p = placesOf ks := by
  refine (hp.trans (places_perm ks).symm).eq_of_pairwise (le := fun i j => ks.getD i [] ≤ ks.getD j []) (fun a b ha hb h1 h2 => ?_) hs (places_sorted ks)
  exact nodup_getD hn (List.mem_range.1 (hp.mem_iff.1 ha)) (places_lt hb) (List.le_antisymm h1 h2)
mutual
def J.ord : J → J
  | .mk k n t ks l => if k = 5 then .mk 5 n t ((placesOf ks).map fun i => ks.getD i []) ((placesOf ks).map fun i => (J.ords l).getD i (.mk 0 0 [] [] [])) else .mk k n t [] (J.ords l)
def J.ords : List J → List J
  | [] => []
  | j :: l => J.ord j :: J.ords l
end
theorem ords_eq : ∀ l : List J, J.ords l = l.map J.ord
  | [] => rfl
  | j :: l => by rw [J.ords, List.map_cons, ords_eq l]
theorem ord_eq (j : J) : j.ord = if j.kind = 5 then .mk 5 j.int j.text ((placesOf j.keys).map fun i => j.keys.getD i []) ((placesOf j.keys).map fun i => (j.list.map J.ord).getD i (.mk 0 0 [] [] [])) else .mk j.kind j.int j.text [] (j.list.map J.ord) := by
  obtain ⟨k, n, t, ks, l⟩ := j
  simp only [J.ord, J.kind, J.int, J.text, J.keys, J.list, ords_eq]
  by_cases h : k = 5
  · rw [if_pos h]; exact (if_pos h).symm
  · rw [if_neg h]; exact (if_neg h).symm
def J.get (j : J) (key : List UInt8) : Option J := if j.kind = 5 then (match j.keys.findIdx? (fun k => decide (k = key)) with | some i => j.list[i]? | none => none) else none
end Go.AL

/-
  AL, part zo: rows of places: plain facts.
-/
set_option linter.unusedSimpArgs false
set_option linter.unusedVariables false
namespace Go.AL
open Go
theorem set_range {α : Type} (f : Nat → α) (n i : Nat) (v : α) : ((List.range n).map f).set i v = (List.range n).map fun j => if j = i then v else f j := by
  apply List.ext_getElem?
  intro k
  rw [List.getElem?_set, List.getElem?_map, List.getElem?_map, List.length_map, List.length_range]
  by_cases hk : k < n
  · rw [List.getElem?_range hk]
    by_cases e : i = k
    · subst e; simp [hk]
    · rw [if_neg e]; simp [Ne.symm e]
  · have : (List.range n)[k]? = none := by rw [List.getElem?_eq_none_iff, List.length_range]; omega
    rw [this]
    by_cases e : i = k
    · subst e; simp [hk]
    · simp [e]
theorem get_range {α : Type} (f : Nat → α) {n i : Nat} (h : i < n) : ((List.range n).map f)[i]? = some (f i) := by
  rw [List.getElem?_map, List.getElem?_range h]; rfl
theorem range_const {α : Type} (a : α) (n : Nat) : List.replicate n a = (List.range n).map fun _ => a := by
  rw [List.map_const', List.length_range]
def natCells (n : Nat) : List AV := [.v (.int .i64 (n : Int))]
theorem nat_at {l : List Nat} {i c : Nat} (h : l[i]? = some c) : (l.map natCells)[i]? = some [.v (.int .i64 (c : Int))] := by rw [List.getElem?_map, h]; rfl
theorem cmpS_swo (ks : List (List UInt8)) (n : Nat) : Swo n (fun i j => cmpS (ks.getD i []) (ks.getD j [])) :=
  ⟨fun i _ h => lt_irr _ (cmpS_lt.1 h), fun i j l _ _ _ h k => cmpS_lt.2 (lt_tr (cmpS_lt.1 h) (cmpS_lt.1 k)), fun i j l _ _ _ h k hc => by
    rw [cmpS_lt] at h k hc
    rcases lt_tri (ks.getD i []) (ks.getD j []) with e | e | e
    · exact h e
    · rw [e] at hc; exact k hc
    · rcases lt_tri (ks.getD j []) (ks.getD l []) with f | f | f
      · exact k f
      · rw [f] at e; exact lt_irr _ (lt_tr e hc)
      · exact lt_irr _ (lt_tr (lt_tr f e) hc)⟩
theorem places_of_sort {ks : List (List UInt8)} (hn : ks.Nodup) {p : List Nat} (hp : p.Perm (List.range ks.length)) (hs : ∀ i j a d : Nat, i < j → p[i]? = some a → p[j]? = some d → ¬ cmpS (ks.getD d []) (ks.getD a []) < 0) : p = placesOf ks := by
  refine places_uniq hn hp ?_
  rw [List.pairwise_iff_getElem]
  intro i j hi hj hij
  have h := hs i j _ _ hij (List.getElem?_eq_getElem hi) (List.getElem?_eq_getElem hj)
  rw [cmpS_lt] at h
  exact List.not_lt.1 h
theorem perm_nat {p : List Nat} {n : Nat} (hp : p.Perm (List.range n)) : (p.map fun i => ((List.range n).map natCells).getD i []) = p.map natCells := by
  refine List.map_congr_left fun i hi => ?_
  have := List.mem_range.1 (hp.mem_iff.1 hi)
  simp [this]
end Go.AL

/-
  AL, part zp: slices.Grow of the nil slice, by the kit's contract.
-/
set_option linter.unusedSimpArgs false
set_option linter.unusedVariables false
namespace Go.AL
open Go Go.Proofs Go.Shelf Go.RowKit

section
variable {X : Ctx} {H : AHeap}
end
section
variable {X : Ctx} {N : NR} {fr : AFr} {H : AHeap} {ops : Array Oper} {d : Nat} {rest : List Oper} {K : AFr → AHeap → Prop} {ty : TypeId} {pos : String} {aft : Array Edge}
theorem s_yyield {f : Operand} {args : Array Operand} {ats : Array TypeId} {l : Nat} {first xs : List AV} {gv : AV} {ds : List Bool} {j : Nat} {want : Bool} {fr1 : AFr} (hd : d < N.n) (hgv : guardV ops fr j = gv) (hg : gcond want gv = some true) (hw : whnConds fr (f :: args.toList) = ds) (hc : condsOk true ds) (e1 : setG ops j want true fr = fr1)
    (hf : fr.evS f = .fn (.yield l) first []) (ha : first ++ args.toList.map fr.evS = xs) (k : AYield X l xs H fun av H' => SOps X N ops rest K ((d, av) :: fr1) H') :
    SOps X N ops (⟨some d, .call ⟨.value f, args, ats⟩, ty, pos, aft, some (j, want)⟩ :: rest) K fr H :=
  s_guard (fr2 := setG ops j want false fr) hd rfl hgv hg (by simpa [Op.operands, Call.operands] using hw) e1 rfl hc (fun _ => by subst ha; simp only [AOp, callV, hf]; exact k) (fun h => by cases h)
end
end Go.AL

/-
  AL, part zq: a drawing region whose first makers may come in several orders.
-/
set_option linter.unusedSimpArgs false
set_option linter.unusedVariables false
namespace Go.AL
open Go

section
variable {X : Ctx} {N : NR} {ops : Array Oper}

end
theorem gen_ex {p : Nat} {H M : AHeap} {o : AObj} (h : AHeap.put p o H = M) (hp : H.get p = none) : M.get p = some o ∧ Ext H M := by
  subst h; exact ⟨AHeap.get_put_same _ _ _, Ext.fresh hp⟩
end Go.AL

/-
  AL, part zr: a drawing region: quiet operations, then those that make, then quiet ones again.
-/
set_option linter.unusedSimpArgs false
set_option linter.unusedVariables false
namespace Go.AL
open Go

section
variable {X : Ctx} {N : NR} {ops : Array Oper}

end
end Go.AL

/-
  AL, part zs: maps from which entries are struck: clear, delete, a walk through a map that is struck on the way.
-/
set_option linter.unusedSimpArgs false
set_option linter.unusedVariables false
namespace Go.AL
open Go

theorem nodup_nat_le {l : List Nat} {n : Nat} (hn : l.Nodup) (hs : ∀ x ∈ l, x < n) : l.length ≤ n := by
  have : ∀ (l m : List Nat), l.Nodup → (∀ x ∈ l, x ∈ m) → l.length ≤ m.length := by
    intro l
    induction l with
    | nil => intro m _ _; exact Nat.zero_le _
    | cons x l ih =>
      intro m hn hs
      rw [List.nodup_cons] at hn
      have hx := hs x (by simp)
      have := ih (m.erase x) hn.2 (fun y hy => by
        have hne : y ≠ x := by rintro rfl; exact hn.1 hy
        exact (List.mem_erase_of_ne hne).2 (hs y (by simp [hy])))
      rw [List.length_erase_of_mem hx] at this
      have := List.length_pos_of_mem hx
      simp; omega
  have h := this l (List.range n) hn (fun x hx => List.mem_range.2 (hs x hx))
  simpa using h
section
variable {X : Ctx} {N : NR} {ops : Array Oper} {rest : List Oper} {K : AFr → AHeap → Prop} {fr : AFr} {H : AHeap} {d : Nat} {ty : TypeId} {pos : String} {aft : Array Edge}

theorem s_does {op : Op} {dst : Option Tmp} (hd : dstOk N dst = true) (hnd : ∀ c, op ≠ .defer c) (h : ∀ (a : Act) w φ, FR w φ N a fr → Rel X w φ H → Does X H w φ (fun av H' => SOps X N ops rest K (AFr.put dst av fr) H') ((execOp a.eval ⟨dst, op, ty, pos, aft, none⟩).run X.P w)) :
    SOps X N ops (⟨dst, op, ty, pos, aft, none⟩ :: rest) K fr H := fun Q hQ a w φ H0 w0 φ0 hf hdf hr ho => by
  have hw : Region.wanted (⟨dst, op, ty, pos, aft, none⟩ : Oper) (yielded ops a.tmps) = true := rfl
  simp only [wpListIn]
  rw [if_pos hw]
  refine ow_of hnd (upon_ok (fr := fr) (h a w φ hf hr) (fun v w' av H' φ' h1 h2 h3 => ?_))
  exact h2 Q hQ _ _ _ _ _ _ ((hf.out h3).put' hd h1) (by rw [defers_put]; exact hdf.out h3) h3.rel (ho.trans h3)

theorem run_builtin {ρ : Operand → Value} {b : Builtin} {args : List Operand} {ats : Array TypeId} {dst : Option Tmp} {ty : TypeId} {pos : String} {aft : Array Edge} {P : Program} {w w' : World} {v : Value} {f : Array TypeId → TypeId → Array Value → Sem Value}
    (hb : ∀ ats ty cs xs, builtin b ats ty cs xs = (do pure (.value (← f ats ty xs)) : Sem Next)) (h : (f ats ty (args.map ρ).toArray).run P w = .ok v w') :
    (execOp ρ { dst, op := .call { callee := .builtin b, args := ⟨args⟩, argTypes := ats }, type := ty, pos, after := aft, guard := none }).run P w = .ok (.value v) w' := by
  show (do let t ← resolve ρ _ ty; invoke t.target t.args : Sem Next).run P w = _
  simp only [resolve, Sem.run_bind, Sem.run_pure, Result.andThen_ok, invoke, hb]
  simp only [List.map_toArray] at h ⊢
  rw [h]
  rfl

theorem snapss_flat (b sz : Nat) (es : List (List AV)) : ∀ l : List (List AV), (AV.snapss b sz es l).flatten = AV.snaps b sz es l.flatten
  | [] => rfl
  | x :: xs => by simp only [AV.snapss, List.flatten_cons, snapss_flat b sz es xs, snaps_append]
theorem snapss_mem (b sz : Nat) (es : List (List AV)) : ∀ {l : List (List AV)} {x : List AV}, x ∈ AV.snapss b sz es l → ∃ y ∈ l, x = AV.snaps b sz es y
  | [], x, h => by cases h
  | y :: l, x, h => by
    simp only [AV.snapss] at h
    rcases List.mem_cons.1 h with rfl | h
    · exact ⟨y, List.mem_cons_self, rfl⟩
    · obtain ⟨z, hz, e⟩ := snapss_mem b sz es h
      exact ⟨z, List.mem_cons_of_mem _ hz, e⟩
theorem AWp.snapRow {c : Code} {Q : Exit → AFr → AHeap → Prop} {p b sz z2 : Nat} {T T2 : TypeId} {sn sn2 : Bool} {es es2 : List (List AV)} (hb : H.get b = some (.row T sz sn es)) (hp : H.get p = some (.row T2 z2 sn2 es2)) (hpb : p ≠ b)
    (h : AWp X N c Q (AFr.snap b sz es fr) ((H.put b (.row T sz true es)).put p (.row T2 z2 sn2 (AV.snapss b sz es es2)))) : AWp X N c Q fr H := fun a w φ H0 w0 φ0 hf hd hr ho => by
  obtain ⟨h1, h2⟩ := phi_row hr hb
  have hp1 : (H.put b (.row T sz true es)).get p = some (.row T2 z2 sn2 es2) := by rw [AHeap.get_put, if_neg hpb]; exact hp
  obtain ⟨k1, k0, arr, vs, rest, k2, k3, k5, k6⟩ := hr.obj p _ hp
  obtain ⟨j1, _⟩ := h1.rel.obj p _ hp1
  have hst := h1.step.un
  have h3 : Out X H w φ ((H.put b (.row T sz true es)).put p (.row T2 z2 sn2 (AV.snapss b sz es es2))) w (fun c => if c = b then es.length * sz else φ c) :=
    ⟨h1.step, ⟨fun d x hd => by
      rw [AHeap.get_put] at hd
      split at hd
      · rename_i e; subst e; cases hd
        refine ⟨by rw [snapss_length]; exact j1, fun e he => ?_, arr, vs, rest, k2, k3, by rw [snapss_flat]; exact k5.snap h1.step.fz h2, k6⟩
        obtain ⟨y, hy, rfl⟩ := snapss_mem b sz es he
        rw [snaps_length]; exact k0 y hy
      · exact h1.rel.obj d x hd, h1.rel.lim, h1.rel.env⟩, fun d hd => by
      rw [AHeap.get_put] at hd
      split at hd
      · rename_i e; subst e; left; rw [hp]; simp
      · exact h1.dom d hd, h1.drawn⟩
  exact h a w _ H0 w0 φ0 ⟨hf.size, fun t => by rw [AFr.get_snap]; exact (hf.at_ t).snap h1.step.fz h2⟩ (hd.out h3) h3.rel (ho.trans h3)
end
end Go.AL

/-
  AL, part zt: a drawing region whose makers may come in two orders; what is quiet looks at a smaller heap.
-/
set_option linter.unusedSimpArgs false
set_option linter.unusedVariables false
namespace Go.AL
open Go

section
variable {X : Ctx} {N : NR} {ops : Array Oper}

end
end Go.AL

/-
  AL, part zu: slices.SortFunc with a comparator that looks at maps; a map's entries held still.
-/
set_option linter.unusedSimpArgs false
set_option linter.unusedVariables false
namespace Go.AL
open Go Go.Sort Go.Proofs

section
variable {X : Ctx} {H : AHeap} {w : World} {φ : Nat → Nat} {K : AV → AHeap → Prop}

theorem ACall_sortM {Hc : AHeap} {f g k e b n : Nat} {cap : List AV} {es : List (List AV)} {c : Nat → Nat → Int} {mk : List Value → Value} {mkA : List AV → AV} (hs : SortsAt X.P f k mk) (hcan : canEnter X.P f = true) (hcang : canEnter X.P g = true)
    (hmk : ∀ F S (vs : List Value) (bs : List AV), bs.length = k → VRs F S vs bs → VR F S (mk vs) (mkA bs))
    (hb : H.get b = some (.row e k false es)) (hn : n = es.length) (hlt : n < 4611686018427387904) (hone : ∀ x ∈ es, x.all AV.one = true) (hO : Swo n c)
    (hsub : ∀ d o, Hc.get d = some o → (∀ es, o ≠ .row e k false es) ∧ H.get d = some o ∧ ∃ en cl ks vs, o = .kmap en cl ks vs)
    (hcmp : ∀ (i j : Nat) (x y : List AV), es[i]? = some x → es[j]? = some y → ∀ K : AV → AHeap → Prop, K (.v (.int .i64 (c i j))) Hc → ACall X.dr g ([mkA x, mkA y] ++ cap) Hc K)
    (h : ∀ p : List Nat, p.Perm (List.range n) → (∀ i j a d : Nat, i < j → p[i]? = some a → p[j]? = some d → ¬ c d a < 0) → K (.tup []) (H.put b (.row e k false (p.map fun i => es.getD i [])))) :
    ACall X f [.row b k n, .fn (.func g) [] cap] H K := by
  subst hn
  refine ⟨hcan, fun w φ xs hr hx => ?_⟩
  cases hx with
  | cons hx1 hx2 =>
  rename_i xs1 x1
  cases hx2 with
  | cons hx2 hx3 =>
  rename_i x2 xs2
  cases hx3
  cases hx1 with
  | row hsh hsize hle =>
  rename_i cap' size
  cases hx2 with
  | fn hvs hus =>
  rename_i vs0 us
  cases hvs
  obtain ⟨h1, h0, arr, vs, rest, h2, h3, h4, hbd⟩ := hr.obj b _ hb
  have hφ : φ b = 0 := by simpa using h1
  have hblk : b < w.heap.size := (Array.getElem?_eq_some_iff.1 h2).1
  have hfl : es.flatten.length = es.length * k := flatten_len h0
  have hvl : vs.length = es.length * k := h4.len.trans hfl
  cases hes : es with
  | nil =>
    subst hes
    refine (hs.1 _ _ _ _).mono fun e' w' ⟨he, hw⟩ => ?_
    subst he hw
    refine ⟨_, .tup [], H.put b (.row e k false []), φ, rfl, .tup .nil, ?_, Out.retell hr hb (hr.obj b _ hb)⟩
    have := h [] (by simp) (by simp)
    simpa using this
  | cons e0 es' =>
  rw [← hes]
  have hpos : 0 < es.length := by rw [hes]; simp
  clear hes e0 es'
  let cl : Nat → Nat := fun i => if i < es.length then i else 0
  have hcl : ∀ i, cl i < es.length := fun i => by simp only [cl]; split <;> omega
  have hcli : ∀ i, i < es.length → cl i = i := fun i hi => if_pos hi
  let enc : Nat → List Value := fun i => (vs.drop (cl i * k)).take k
  have hmul : ∀ i, i < es.length → i * k + k ≤ es.length * k := fun i hi => by
    have := Nat.mul_le_mul_right k (show i + 1 ≤ es.length from hi)
    rwa [Nat.succ_mul] at this
  have henk : ∀ x, (enc x).length = k := fun x => by
    have := hmul _ (hcl x)
    simp only [enc, List.length_take, List.length_drop, hvl]; omega
  have hel : ∀ i (x : List AV), es[i]? = some x → x = (es.flatten.drop (i * k)).take k := fun i x hi => by
    have hxk := h0 x (List.mem_of_getElem? hi)
    apply List.ext_getElem?
    intro j
    by_cases hj : j < k
    · rw [List.getElem?_take, if_pos hj, List.getElem?_drop]
      rw [flatten_get h0 i j x (x[j]'(by omega)) hi (List.getElem?_eq_getElem (by omega)), List.getElem?_eq_getElem (by omega)]
    · rw [List.getElem?_eq_none (by omega), List.getElem?_eq_none]
      simp; omega
  have hvr : ∀ {F S}, VRs F S vs es.flatten → ∀ x, VRs F S (enc x) (es[cl x]'(hcl x)) := fun hv x => by
    rw [hel (cl x) _ (List.getElem?_eq_getElem (hcl x))]
    exact (hv.drop _).take _
  have henc1 : ∀ x, ∀ v ∈ enc x, v.oneCell' = true := fun x v hv => by
    obtain ⟨j, hj, rfl⟩ := List.getElem_of_mem hv
    have hvx := hvr h4 x
    have hj2 : j < (es[cl x]'(hcl x)).length := by rw [← hvx.len]; exact hj
    have := hvx.get' j _ _ (List.getElem?_eq_getElem hj) (List.getElem?_eq_getElem hj2)
    have ho := hone _ (List.getElem_mem (hcl x))
    rw [List.all_eq_true] at ho
    exact one_ok (ho _ (List.getElem_mem hj2)) this
  have hflat : ∀ t (ht : t < es.length * k), (flatK enc k (Array.range es.length))[t]! = vs[t]'(by omega) := fun t ht => by
    have hk0 : 0 < k := by
      rcases Nat.eq_zero_or_pos k with h | h
      · subst h; simp at ht
      · exact h
    rw [get_flatK _ _ _ _ (by simpa using ht)]
    have hdiv : t / k < es.length := Nat.div_lt_of_lt_mul (by rw [Nat.mul_comm]; exact ht)
    have e1 : (Array.range es.length)[t / k]! = t / k := by
      rw [getElem!_pos _ _ (by simpa using hdiv)]; simp
    have hmod := Nat.mod_lt t hk0
    rw [e1, getElem!_pos _ _ (by rw [henk]; exact hmod)]
    simp only [enc, List.getElem_take, List.getElem_drop]
    congr 1
    rw [hcli _ hdiv, Nat.mul_comm]
    exact Nat.div_add_mod t k
  have hH : HoldsK enc k w b 0 (Array.range es.length) := fun j hj => by
    rw [size_flatK, Array.size_range] at hj
    refine ⟨?_, ?_⟩
    · rw [hflat j hj]
      simp only [World.cell?, h2, Nat.zero_add, id]
      have : arr.toList[j]? = some (vs[j]'(by omega)) := by
        rw [h3, List.getElem?_append_left (by omega), List.getElem?_eq_getElem]
      simpa using this
    · simp [World.frozen?, h2]
  have mono : ∀ m dk os, (∀ ad u, Fz w φ ad u → Fz (sortWorldK enc k w b 0 m dk os) φ ad u) ∧ (∀ d n, Sh w d n → Sh (sortWorldK enc k w b 0 m dk os) d n) := fun m dk os => by
    obtain ⟨g1, g2⟩ := heap_putRow (enc := enc) (k := k) (m := m) (dk := dk) (os := os) hblk
    refine ⟨fun ad u ⟨k1, k2⟩ => ⟨?_, k2⟩, fun d n ⟨ar, T, fr, k1, k2⟩ => ?_⟩
    · have hne : ad.block ≠ b := fun e => by rw [e, hφ] at k2; exact absurd k2 (Nat.not_lt_zero _)
      have hl := World.block_lt_of_cell? w ad k1
      rw [World.cell?_of_block (w := w) (g1 _ hl hne)]
      exact k1
    · have hl := (Array.getElem?_eq_some_iff.1 k1).1
      by_cases hne : d = b
      · subst hne
        exact ⟨_, T, fr, g2 ar T fr k1, by simp [putCells, k2]⟩
      · exact ⟨ar, T, fr, by rw [g1 _ hl hne]; exact k1, k2⟩
  have hfin := hs.2 enc henk henc1 (fun x y => c (cl x) (cl y)) ⟨fun x => by simp only [ltOf, decide_eq_false_iff_not]; exact hO.irrefl _ (hcl x),
    fun x y z h1 h2 => by simp only [ltOf, decide_eq_true_eq] at *; exact hO.trans _ _ _ (hcl x) (hcl y) (hcl z) h1 h2,
    fun x y z h1 h2 => by simp only [ltOf, decide_eq_false_iff_not] at *; exact hO.ntrans _ _ _ (hcl x) (hcl y) (hcl z) h1 h2⟩ g ⟨us⟩ b cap' (Array.range es.length) w (canEnter_run hcang) (fun m os dk hdk x y => by
      obtain ⟨m1, m2⟩ := mono m dk os
      have hx := hcmp (cl x) (cl y) _ _ (List.getElem?_eq_getElem (hcl x)) (List.getElem?_eq_getElem (hcl y)) (fun a H2 => a = .v (.int .i64 (c (cl x) (cl y))) ∧ H2 = Hc) ⟨rfl, rfl⟩
      have hrel : Rel X (sortWorldK enc k w b 0 m dk os) φ Hc := ⟨(fun d o hd => by
          obtain ⟨s1, s2, s3⟩ := hsub d o hd
          exact (hr.obj d o s2).keep ((heap_putRow (enc := enc) (k := k) (m := m) (dk := dk) (os := os) hblk).1 d (hr.lt s2) (by rintro rfl; rw [hb] at s2; cases s2; exact s1 _ rfl)) rfl m1 m2), fun d hd => hr.lim d (Nat.le_trans (sortWorld_size ..) hd), X.mono _ _ m1 hr.env⟩
      have hargs : VRs (Fz (sortWorldK enc k w b 0 m dk os) φ) (Sh (sortWorldK enc k w b 0 m dk os)) ([mk (enc x), mk (enc y)] ++ us) ([mkA (es[cl x]'(hcl x)), mkA (es[cl y]'(hcl y))] ++ cap) := by
        refine VRs.append (.cons ?_ (.cons ?_ .nil)) (hus.mono m1 m2)
        · exact hmk _ _ _ _ (h0 _ (List.getElem_mem (hcl x))) ((hvr h4 x).mono m1 m2)
        · exact hmk _ _ _ _ (h0 _ (List.getElem_mem (hcl y))) ((hvr h4 y).mono m1 m2)
      have hargv : (#[mk (enc x), mk (enc y)] ++ (⟨us⟩ : Array Value)) = ⟨[mk (enc x), mk (enc y)] ++ us⟩ := by simp
      rw [hargv]
      refine (hx.2 _ φ _ ⟨hrel.obj, hrel.lim, hrel.env⟩ hargs).mono ?_
      rintro e' w' ⟨v, av, H', φ', rfl, hv, ⟨rfl, hHc⟩, ho⟩
      subst H'
      cases hv
      exact ⟨rfl, world_grow ho.step.os ho.step.tape ho.step.output ho.step.size (fun d hd => by
        cases hcd : Hc.get d with
        | none => exact (ho.step.un d hd hcd).1
        | some o =>
          obtain ⟨_, _, en, kl, ks, vs', rfl⟩ := hsub d o hcd
          obtain ⟨_, t1, _⟩ := hrel.obj d _ hcd
          obtain ⟨_, t2, _⟩ := ho.rel.obj d _ hcd
          exact t2.trans t1.symm) (ho.drawn trivial)⟩) hH hblk (by simpa using hlt)
  simp only [Array.size_range] at hfin
  refine hfin.mono ?_
  rintro e' w' ⟨rfl, d', m, os, ⟨hp1, _, hp3⟩, hsd, rfl⟩
  rw [Array.size_range] at hp1
  have hperm : d'.toList.Perm (List.range es.length) := by
    have e1 : d'.extract 0 es.length = d' := by rw [← hp1]; exact Array.extract_size
    have e2 : (Array.range es.length).extract 0 es.length = Array.range es.length := by
      have : ∀ (r : Array Nat) (n : Nat), r.size = n → r.extract 0 n = r := fun r n h => by rw [← h]; exact Array.extract_size
      exact this _ _ Array.size_range
    rw [e1, e2] at hp3
    simpa using hp3
  have hd'lt : ∀ i (hi : i < d'.size), d'[i] < es.length := fun i hi => by
    have := hperm.mem_iff.1 (show d'[i] ∈ d'.toList by simp)
    simpa using this
  obtain ⟨m1, m2⟩ := mono m d' os
  obtain ⟨g1, g2⟩ := heap_putRow (enc := enc) (k := k) (m := m) (dk := d') (os := os) hblk
  refine ⟨_, .tup [], H.put b (.row e k false (d'.toList.map fun i => es.getD i [])), φ, rfl, .tup .nil, h _ hperm (fun i j x y hij hx hy => ?_), ?_⟩
  · have hj : j < d'.size := by
      have h8 := (List.getElem?_eq_some_iff.1 hy).1
      simpa using h8
    have hi : i < d'.size := by omega
    have h9 := hsd i j (Nat.zero_le _) hij (by omega)
    rw [getElem!_pos d' i hi, getElem!_pos d' j hj] at h9
    simp only [ltOf, decide_eq_false_iff_not, hcli _ (hd'lt i hi), hcli _ (hd'lt j hj)] at h9
    have ea : (d'[i]'hi) = x := by simpa [hi] using hx
    have ed : (d'[j]'hj) = y := by simpa [hj] using hy
    rw [← ea, ← ed]; exact h9
  · have hst : Step H w φ (sortWorldK enc k w b 0 m d' os) φ := by
      exact ⟨rfl, rfl, rfl, sortWorld_size .., m1, m2, fun d hd hdn => ⟨g1 d hd (fun e => by rw [e, hb] at hdn; cases hdn), rfl⟩⟩
    refine ⟨hst, ⟨fun d o hd => ?_, fun d hd => hr.lim d (Nat.le_trans (sortWorld_size ..) hd), X.mono _ _ m1 hr.env⟩, fun d hd => ?_, fun _ => (show w.drawn ≤ w.drawn + m by omega)⟩
    · rw [AHeap.get_put] at hd
      split at hd
      · rename_i hdb; subst hdb; cases hd
        have hel2 : ∀ i (hi : i < d'.size), (d'.toList.map fun i => es.getD i [])[i]? = some (es[d'[i]]'(hd'lt i hi)) := fun i hi => by
          simp [hi, hd'lt i hi]
        have hlen' : ∀ e ∈ (d'.toList.map fun i => es.getD i []), e.length = k := fun x hx => by
          obtain ⟨i, hi, rfl⟩ := List.mem_map.1 hx
          have := hperm.mem_iff.1 hi
          rw [List.mem_range] at this
          simp [this]
          exact h0 _ (List.getElem_mem this)
        have hfl' : (d'.toList.map fun i => es.getD i []).flatten.length = es.length * k := by
          rw [flatten_len hlen']; simp [hp1]
        have hck : arr.size = cap' * k := by
          obtain ⟨ar2, T2, fr2, j1, j2⟩ := hsh
          rw [h2] at j1; cases j1
          omega
        have harr : es.length * k ≤ arr.size := by
          rw [hck]; exact Nat.mul_le_mul_right k hle
        refine ⟨by simpa using hφ, hlen', _, (flatK enc k d').toList, (putCells id 0 (flatK enc k d') arr).toList.drop (es.length * k), g2 _ _ _ h2, ?_, ?_, by simpa [putCells] using hbd⟩
        · apply List.ext_getElem?
          intro i
          by_cases hi : i < es.length * k
          · rw [List.getElem?_append_left (by simp [hp1]; exact hi)]
            have hia : i < arr.size := by omega
            simp [putCells, Array.getElem?_mapIdx, hia, hp1, hi]
          · rw [List.getElem?_append_right (by simp [hp1]; omega), List.getElem?_drop]
            congr 1
            simp [hp1]; omega
        · refine VRs.of_get (by rw [hfl']; simp [hp1]) (fun t x a hx ha => ?_)
          have ht : t < es.length * k := by have := (List.getElem?_eq_some_iff.1 hx).1; simpa [hp1] using this
          have hk0 : 0 < k := by
            rcases Nat.eq_zero_or_pos k with h | h
            · subst h; simp at ht
            · exact h
          have hdiv : t / k < d'.size := by rw [hp1]; exact Nat.div_lt_of_lt_mul (by rw [Nat.mul_comm]; exact ht)
          have hmod := Nat.mod_lt t hk0
          have hdm : t / k * k + t % k = t := by rw [Nat.mul_comm]; exact Nat.div_add_mod t k
          have hfx : x = (enc d'[t / k])[t % k]'(by rw [henk]; exact hmod) := by
            have h5 : (flatK enc k d')[t]! = x := by
              rw [getElem!_pos _ _ (by simp [hp1]; exact ht)]
              simpa [hp1, ht] using hx
            rw [get_flatK _ _ _ _ (by rw [hp1]; exact ht), getElem!_pos d' _ hdiv, getElem!_pos (enc d'[t / k]) _ (by rw [henk]; exact hmod)] at h5
            exact h5.symm
          have hea := hel2 (t / k) hdiv
          have hle2 : t % k < (es[d'[t / k]]'(hd'lt _ hdiv)).length := by rw [h0 _ (List.getElem_mem _)]; exact hmod
          have h6 := flatten_get hlen' (t / k) (t % k) _ _ hea (List.getElem?_eq_getElem hle2)
          rw [hdm, ha] at h6
          cases h6
          have h7 := hvr (h4.mono m1 m2) d'[t / k]
          simp only [hcli _ (hd'lt _ hdiv)] at h7
          subst hfx
          exact h7.get' (t % k) _ _ (List.getElem?_eq_getElem _) (List.getElem?_eq_getElem _)
      · rename_i hne
        exact (hr.obj d o hd).keep (g1 d (hr.lt hd) hne) rfl m1 m2
    · rw [AHeap.get_put] at hd
      split at hd
      · rename_i e; subst e; left; rw [hb]; simp
      · exact .inl hd

theorem ACall_sortAtM {Hc : AHeap} {f g k e : Nat} {cap : List AV} {es : List (List AV)} {a : AV} {H0 L : AHeap} {c : Nat → Nat → Int} {mk : List Value → Value} {mkA : List AV → AV} (hs : SortsAt X.P f k mk) (hcan : canEnter X.P f = true) (hcang : canEnter X.P g = true)
    (hmk : ∀ F S (vs : List Value) (bs : List AV), bs.length = k → VRs F S vs bs → VR F S (mk vs) (mkA bs))
    (hE : Ext H0 L) (hr : RowAt e k H0 L es a) (hlt : es.length < 4611686018427387904) (hone : ∀ x ∈ es, x.all AV.one = true) (hO : Swo es.length c)
    (hsub : ∀ d o, Hc.get d = some o → (∀ es, o ≠ .row e k false es) ∧ L.get d = some o ∧ ∃ en cl ks vs, o = .kmap en cl ks vs)
    (hcmp : ∀ (i j : Nat) (x y : List AV), es[i]? = some x → es[j]? = some y → ∀ K : AV → AHeap → Prop, K (.v (.int .i64 (c i j))) Hc → ACall X.dr g ([mkA x, mkA y] ++ cap) Hc K)
    (h : ∀ (p : List Nat) (L' : AHeap), p.Perm (List.range es.length) → (∀ i j a d : Nat, i < j → p[i]? = some a → p[j]? = some d → ¬ c d a < 0) → RowAt e k H0 L' (p.map fun i => es.getD i []) a → Ext H0 L' → Keeps e L L' → K (.tup []) L') :
    ACall X f [a, .fn (.func g) [] cap] L K := by
  rcases hr with ⟨rfl, rfl⟩ | ⟨b, h1, rfl, h3⟩
  · refine ⟨hcan, fun w φ xs hr hx => ?_⟩
    cases hx with
    | cons hx1 hx2 =>
    rename_i x1 xs1
    cases hx2 with
    | cons hx2 hx3 =>
    rename_i x2 xs2
    cases hx3
    have hv : ∃ p cap, x1 = .slice p 0 cap := by
      cases hx1 with
      | slnil => exact ⟨_, _, rfl⟩
      | sl h1 h2 h3 => exact ⟨_, _, rfl⟩
    obtain ⟨p, cp, rfl⟩ := hv
    refine (hs.1 p cp x2 w).mono fun e' w' ⟨he, hw⟩ => ?_
    subst he hw
    exact ⟨_, .tup [], L, φ, rfl, .tup .nil, h [] L (by simp) (by simp) (.inl ⟨rfl, rfl⟩) hE (Keeps.refl _ _), Out.refl hr⟩
  · refine ACall_sortM hs hcan hcang hmk h3 rfl hlt hone hO hsub hcmp (fun p hp hsd => ?_)
    have hlen : p.length = es.length := by have := hp.length_eq; simpa using this
    refine h p _ hp hsd (.inr ⟨b, h1, ?_, AHeap.get_put_same _ _ _⟩) (hE.over h1) (fun c' o hc' ho => ?_)
    · simp [hlen]
    · rw [AHeap.get_put, if_neg]
      · exact hc'
      · rintro rfl; rw [h3] at hc'; cases hc'; exact ho _ _ _ rfl

theorem AWp.hold {N : NR} {c : Code} {Q : Exit → AFr → AHeap → Prop} {fr : AFr} {m : Nat} {ik : IntKind} {es : List (Int × AV)} (hm : H.get m = some (.imap ik es))
    (h : ∀ ents clock, AWp X N c Q fr (H.put m (.kmap ents clock (es.map fun p => .v (.int ik p.1)) (es.map (·.2))))) : AWp X N c Q fr H := fun a w φ H0 w0 φ0 hf hd hr ho => by
  obtain ⟨h1, ents, clock, h2, h3, h4, h5⟩ := hr.obj m _ hm
  have o := Out.retell (a' := .kmap ents clock (es.map fun p => .v (.int ik p.1)) (es.map (·.2))) hr hm ⟨h1, h2, h3, h4, h5⟩
  exact h ents clock a w φ H0 w0 φ0 hf (hd.out o) o.rel (ho.trans o)

theorem OR.trim {b e sz : Nat} {es : List (List AV)} (i : Nat) (h : OR w φ b (.row e sz false es)) : OR w φ b (.row e sz false (es.take i)) := by
  obtain ⟨h1, h0, arr, vs, rest, h2, h3, h4, h5⟩ := h
  have h0' : ∀ x ∈ es.take i, x.length = sz := fun x hx => h0 x (List.mem_of_mem_take hx)
  refine ⟨by simpa using h1, h0', arr, vs.take ((es.take i).length * sz), vs.drop ((es.take i).length * sz) ++ rest, h2, by rw [← List.append_assoc, List.take_append_drop]; exact h3, ?_, h5⟩
  have e1 : (es.take i).flatten = es.flatten.take ((es.take i).length * sz) := by
    have h6 : es.flatten = (es.take i).flatten ++ (es.drop i).flatten := by rw [← List.flatten_append, List.take_append_drop]
    rw [h6, List.take_left' (flatten_len h0')]
  rw [e1]
  exact h4.take _
theorem AWp.trim {N : NR} {c : Code} {Q : Exit → AFr → AHeap → Prop} {fr : AFr} {b e sz : Nat} {es : List (List AV)} (i : Nat) (hb : H.get b = some (.row e sz false es))
    (h : AWp X N c Q fr (H.put b (.row e sz false (es.take i)))) : AWp X N c Q fr H := fun a w φ H0 w0 φ0 hf hd hr ho => by
  have o := Out.retell hr hb ((hr.obj b _ hb).trim i)
  exact h a w φ H0 w0 φ0 hf (hd.out o) o.rel (ho.trans o)
end
section
variable {X : Ctx} {N : NR} {ops : Array Oper} {rest : List Oper} {K : AFr → AHeap → Prop} {fr : AFr} {H : AHeap}
theorem s_clearV {x : Operand} {T ty : TypeId} {pos : String} {aft : Array Edge} {e b i n el : Nat} {es : List (List AV)} (hx : fr.ev x = .vw b 1 i n) (hb : H.get b = some (.row e 1 false es)) (hin : i + n = es.length) (hT : X.P.underlying T = some (.slice el))
    (hz : ∀ w, (zeroValue el).run X.P w = .ok (.int .i64 0) w) (k : SOps X N ops rest K fr (H.put b (.row e 1 false (es.take i)))) :
    SOps X N ops (⟨none, .call ⟨.builtin .clear, #[x], #[T]⟩, ty, pos, aft, none⟩ :: rest) K fr H := s_does rfl (fun _ e => by cases e) fun a w φ hf hr => by
  have hor := hr.obj b _ hb
  have hv := hf.ev x
  rw [hx] at hv
  obtain ⟨p, cap, hvx, hp, hcap⟩ : ∃ p cap, a.eval x = .slice (some ⟨b, p, none⟩) n cap ∧ (0 < cap → p = i * 1) ∧ n ≤ cap := by
    generalize a.eval x = vx at hv
    cases hv with
    | vw hs hc hn hp => exact ⟨_, _, rfl, hp, hn⟩
  obtain ⟨h1, h0, arr, vs, rs, h2, h3, h4, h5⟩ := hor
  have hφ : φ b = 0 := by simpa using h1
  cases n with
  | zero =>
    have hrun : (Builtin.clear_ #[T] ty #[.slice (some ⟨b, p, none⟩) 0 cap]).run X.P w = .ok (.tuple #[]) w := by
      unfold Builtin.clear_
      simp only [List.getElem?_toArray, List.getElem?_cons_zero, Sem.run_bind, run_und hT, Result.andThen_ok]
      rfl
    rw [run_builtin (b := .clear) (args := [x]) (f := Builtin.clear_) (fun _ _ _ _ => rfl) (by simp only [List.map_cons, List.map_nil, hvx]; exact hrun)]
    exact ⟨.top, _, _, .top _, k, Out.retell hr hb ((hr.obj b _ hb).trim i)⟩
  | succ n =>
    have hp := hp (by omega)
    rw [Nat.mul_one] at hp
    subst hp
    have hvl : vs.length = es.length := by rw [h4.len, flatten_len h0, Nat.mul_one]
    have hsz : vs.length ≤ arr.size := by
      have := congrArg List.length h3
      simp at this; omega
    have hzc : (Builtin.zeroCells (Value.int .i64 0).cells (n + 1)).toList.length = n + 1 := by
      simp [Builtin.zeroCells, Value.cells]
    have hz1 : ∀ u ∈ (Builtin.zeroCells (Value.int .i64 0).cells (n + 1)).toList, u.oneCell' = true := fun u hu => by
      simp [Builtin.zeroCells, Value.cells] at hu
      obtain ⟨_, _, rfl⟩ := hu
      simp [Nat.mod_one]; rfl
    obtain ⟨arr', g1, g2, g3⟩ := run_storeCells (P := X.P) (Builtin.zeroCells (Value.int .i64 0).cells (n + 1)).toList p 0 w arr h2 (by omega) hz1
    have hrun : (Builtin.clear_ #[T] ty #[.slice (some ⟨b, p, none⟩) (n + 1) cap]).run X.P w = .ok (.tuple #[]) (blk w b (.cells arr' e (0, 0))) := by
      unfold Builtin.clear_
      simp only [List.getElem?_toArray, List.getElem?_cons_zero, Sem.run_bind, run_und hT, Result.andThen_ok, hz, g1]
      rfl
    rw [run_builtin (b := .clear) (args := [x]) (f := Builtin.clear_) (fun _ _ _ _ => rfl) (by simp only [List.map_cons, List.map_nil, hvx]; exact hrun)]
    have hblt : b < w.heap.size := (Array.getElem?_eq_some_iff.1 h2).1
    have hst := blk_step (H := H) (φ := φ) h2 g3 (fun j hj => by rw [hφ] at hj; omega) (by rw [hb]; simp)
    have htr := (hr.obj b _ hb).trim p
    obtain ⟨t1, t0, arr2, vs2, rs2, t2, t3, t4, t5⟩ := htr
    rw [h2] at t2; cases t2
    have hl2 : vs2.length = p := by
      rw [t4.len, flatten_len t0, Nat.mul_one, List.length_take]; omega
    refine ⟨.top, _, _, .top _, k, blk_out hr hb h2 g3 (fun j hj => by rw [hφ] at hj; omega) ⟨t1, t0, arr', vs2, arr'.toList.drop p, blk_same _ hblt, ?_, t4.mono hst.fz hst.sh, by omega⟩⟩
    have e1 : arr'.toList.take p = vs2 := by
      rw [g2, Nat.add_zero, List.append_assoc, List.take_left' (by rw [List.length_take]; simp; omega), t3, List.take_left' hl2]
    rw [← e1, List.take_append_drop]
theorem s_eqnil {d : Nat} {x : Operand} {T T2 el ty : TypeId} {pos : String} {aft : Array Edge} {t : Bool} {es : List (List AV)} (hd : d < N.n) (hx : fr.ev x = .sl t es) (hT : X.P.underlying T = some (.slice el))
    (k : ∀ b : Bool, (b = true → es = []) → SOps X N ops rest K ((d, .v (.bool b)) :: fr) H) :
    SOps X N ops (⟨some d, .binOp .eql T x (.const (.slice none 0 0)) T2, ty, pos, aft, none⟩ :: rest) K fr H := s_does (by simpa [dstOk] using hd) (fun _ e => by cases e) fun a w φ hf hr => by
  have hv := hf.ev x
  rw [hx] at hv
  obtain ⟨p, n, c, hvx, hp⟩ : ∃ p n c, a.eval x = .slice p n c ∧ (p = none → es = []) := by
    generalize a.eval x = vx at hv
    cases hv with
    | slnil => exact ⟨none, 0, 0, rfl, fun _ => rfl⟩
    | sl h1 h2 h3 => exact ⟨some _, _, _, rfl, fun h => by cases h⟩
  have hrun : ((do eqGuard .eql T x (.const (.slice none 0 0)) (a.eval x) (.slice none 0 0); binOp .eql T (a.eval x) (.slice none 0 0)) : Sem Value).run X.P w = .ok (.bool p.isNone) w := by
    rw [hvx, Sem.run_bind, eqGuard_plain (by simp) (by simp)]
    simp only [Result.andThen_ok]
    exact Go.Lib.run_eql_slice_nil w T el p n c 0 0 hT
  show Does X H w φ _ ((do pure (Next.value (← (do eqGuard .eql T x (.const (.slice none 0 0)) (a.eval x) (.slice none 0 0); binOp .eql T (a.eval x) (.slice none 0 0)))) : Sem Next).run X.P w)
  rw [Sem.run_bind, hrun]
  refine ⟨_, _, _, .v _, k p.isNone (fun h => hp (by cases p <;> simp_all)), Out.refl hr⟩
theorem ACall.undr {f : FuncId} {ys : List AV} {Q : AV → AHeap → Prop} (h : ACall X.dr f ys H Q) : ACall X f ys H Q :=
  ⟨h.1, fun w φ xs hr hx => (h.2 w φ xs ⟨hr.obj, hr.lim, hr.env⟩ hx).mono fun e w' ⟨v, av, H', φ', e1, h1, h2, ho⟩ => ⟨v, av, H', φ', e1, h1, h2, ⟨ho.step, ⟨ho.rel.obj, ho.rel.lim, ho.rel.env⟩, ho.dom, fun _ => ho.drawn trivial⟩⟩⟩
theorem t_make {d m : Nat} {H0 : AHeap} {T e ty : TypeId} {pos : String} {aft : Array Edge} {sz by_ : Nat} {l c : Operand} {n : Int} {z : List AV} (hd : d < N.n) (hT : elT X.P T = some (e, sz, by_)) (hl : fr.ev l = .v (.int .i64 n)) (hc : fr.ev c = .v (.int .i64 n)) (hz : zC X.P e = some z)
    (hb : 0 ≤ n ∧ n * by_ ≤ 281474976710656 ∧ 0 < by_) (hx : 0 < m → Ext H0 H) (k : ∀ b, H.get b = none → (0 < m → Ext H0 (H.put b (.row e sz false (List.replicate n.toNat z)))) → AT X N H0 (m - 1) rest K ((d, .row b sz n.toNat) :: fr) (H.put b (.row e sz false (List.replicate n.toNat z)))) :
    AT X N H0 m (⟨some d, .makeSlice T l c, ty, pos, aft, none⟩ :: rest) K fr H :=
  t_op (by simpa [dstOk] using hd) (by simp only [AOp, hT, hl, hc, hz]; rw [if_pos ⟨hb.1, trivial, hb.2⟩]; exact fun b hb' => ⟨fun h => (hx h).put hb', k b hb' fun h => (hx h).put hb'⟩)
end
end Go.AL

/-
  AL, part zv: a drawing region whose makers come in any of the orders that a tree tells.
-/
set_option linter.unusedSimpArgs false
set_option linter.unusedVariables false
namespace Go.AL
open Go

inductive Tr where
  | leaf
  | one (i : Nat) (t : Tr)
  | two (i : Nat) (t : Tr) (j : Nat) (u : Tr)

section
variable {X : Ctx} {N : NR} {ops : Array Oper}

def AU (X : Ctx) (N : NR) (ops : Array Oper) (H0 : AHeap) : Nat → Tr → (AFr → AHeap → Prop) → AFr → AHeap → Prop
  | _, .leaf, K, fr, H => K fr H
  | m, .one i t, K, fr, H => AT X N H0 m (opsOf ops [i]) (fun g L => AU X N ops H0 (m - 1) t K g L) fr H
  | m, .two i t j u, K, fr, H => AT X N H0 m (opsOf ops [i]) (fun g L => AU X N ops H0 (m - 1) t K g L) fr H ∧ AT X N H0 m (opsOf ops [j]) (fun g L => AU X N ops H0 (m - 1) u K g L) fr H
theorem AU_same {H0 : AHeap} {K : AFr → AHeap → Prop} (hK : ∀ g g' H, K g H → Same g g' → K g' H) : ∀ {t : Tr} {m : Nat} {fr fr' : AFr} {H : AHeap}, AU X N ops H0 m t K fr H → Same fr fr' → AU X N ops H0 m t K fr' H
  | .leaf, m, fr, fr', H, h, hs => hK _ _ _ h hs
  | .one i t, m, fr, fr', H, h, hs => AT_same (K := fun g L => AU X N ops H0 (m - 1) t K g L) (fun g g' H k hs => AU_same hK k hs) h hs
  | .two i t j u, m, fr, fr', H, h, hs => ⟨AT_same (K := fun g L => AU X N ops H0 (m - 1) t K g L) (fun g g' H k hs => AU_same hK k hs) h.1 hs, AT_same (K := fun g L => AU X N ops H0 (m - 1) u K g L) (fun g g' H k hs => AU_same hK k hs) h.2 hs⟩
theorem AU_mono {H0 : AHeap} {K K' : AFr → AHeap → Prop} (hK : ∀ fr H, K fr H → K' fr H) : ∀ {t : Tr} {m : Nat} {fr : AFr} {H : AHeap}, AU X N ops H0 m t K fr H → AU X N ops H0 m t K' fr H
  | .leaf, m, fr, H, h => hK _ _ h
  | .one i t, m, fr, H, h => AT_mono (fun g H k => AU_mono hK k) h
  | .two i t j u, m, fr, H, h => ⟨AT_mono (fun g H k => AU_mono hK k) h.1, AT_mono (fun g H k => AU_mono hK k) h.2⟩
def headOk (ops : Array Oper) (tab : Array (List Nat)) (E : List Nat) (m i : Nat) : Bool := E.all fun p => (tab.getD i []).contains p || (!(m == 0) && apartAt ops p i)
def trOk (ops : Array Oper) (tab : Array (List Nat)) (E : List Nat) : Nat → List Nat → Tr → Bool
  | _, U, .leaf => U.isEmpty
  | m, U, .one i t => U.contains i && headOk ops tab E m i && U.all (fun k => k == i || U.any fun p => (tab.getD k []).contains p) && trOk ops tab E (m - 1) (U.filter fun k => !(k == i)) t
  | m, U, .two i t j u => U.contains i && U.contains j && headOk ops tab E m i && headOk ops tab E m j && U.all (fun k => k == i || k == j || U.any fun p => (tab.getD k []).contains p) && trOk ops tab E (m - 1) (U.filter fun k => !(k == i)) t && trOk ops tab E (m - 1) (U.filter fun k => !(k == j)) u
theorem trOk_nil {tab : Array (List Nat)} {E : List Nat} {m : Nat} {t : Tr} (h : trOk ops tab E m [] t = true) : t = .leaf := by
  cases t with
  | leaf => rfl
  | one i t => simp [trOk] at h
  | two i t j u => simp [trOk] at h
theorem filter_less {i : Nat} : ∀ {U : List Nat}, i ∈ U → (U.filter fun k => !(k == i)).length + 1 ≤ U.length
  | x :: U, h => by
    by_cases e : x = i
    · subst e
      rw [List.filter_cons, if_neg (by simp)]
      have := List.length_filter_le (fun k => !(k == x)) U
      simp; omega
    · have h' : i ∈ U := by rcases List.mem_cons.1 h with h | h; exact absurd h.symm e; exact h
      have := filter_less h'
      rw [List.filter_cons, if_pos (by simpa using e)]
      simp; omega
theorem trOk_at {tab : Array (List Nat)} {E U : List Nat} {H0 : AHeap} {K : AFr → AHeap → Prop} {m i : Nat} {t : Tr} (h : trOk ops tab E m U t = true) (hi : i ∈ U) (hno : ∀ p ∈ U, p ∉ tab.getD i []) :
    ∃ s, headOk ops tab E m i = true ∧ trOk ops tab E (m - 1) (U.filter fun k => !(k == i)) s = true ∧ ∀ g H, AU X N ops H0 m t K g H → AT X N H0 m (opsOf ops [i]) (fun g L => AU X N ops H0 (m - 1) s K g L) g H := by
  have hanc : ¬ (U.any fun p => (tab.getD i []).contains p) = true := fun h => by
    rw [List.any_eq_true] at h
    obtain ⟨p, hp, h⟩ := h
    exact hno p hp (by simpa using h)
  cases t with
  | leaf =>
    simp only [trOk, List.isEmpty_iff] at h
    subst h; cases hi
  | one j t =>
    simp only [trOk, Bool.and_eq_true, List.all_eq_true] at h
    obtain ⟨⟨⟨_, h2⟩, h3⟩, h4⟩ := h
    have h5 := h3 i hi
    rw [Bool.or_eq_true] at h5
    have e : i = j := by simpa using h5.resolve_right hanc
    subst e
    exact ⟨t, h2, h4, fun g H h => h⟩
  | two j t k u =>
    simp only [trOk, Bool.and_eq_true, List.all_eq_true] at h
    obtain ⟨⟨⟨⟨⟨⟨_, _⟩, h2⟩, h2'⟩, h3⟩, h4⟩, h4'⟩ := h
    have h5 := h3 i hi
    rw [Bool.or_eq_true, Bool.or_eq_true] at h5
    rcases h5.resolve_right hanc with h5 | h5
    · have e : i = j := by simpa using h5
      subst e
      exact ⟨t, h2, h4, fun g H h => h.1⟩
    · have e : i = k := by simpa using h5
      subst e
      exact ⟨u, h2', h4', fun g H h => h.2⟩

theorem drawnU {tab : Array (List Nat)} (ht : tabOk ops tab = true) {E : List Nat} {H0 : AHeap} {K : AFr → AHeap → Prop}
    (hK : ∀ g g' H, K g H → Same g g' → K g' H) {Q : Exit → AFr → AHeap → Prop} (hQ : ∀ fr H, K fr H → ∃ fr', Same fr fr' ∧ Q .normal fr' H) :
    ∀ (fuel : Nat) (listed : Array Bool) (L U : List Nat) (t : Tr) (m : Nat) (a : Act) (w : World) (φ : Nat → Nat) (fr : AFr) (H : AHeap) {H1 : AHeap} {w1 : World} {φ1 : Nat → Nat},
      listed.size = ops.size → Closed tab listed → (∀ i, listed.getD i true = false → i ∈ L ∨ i ∈ U) → (∀ i, i ∈ L ∨ i ∈ U → listed.getD i true = false) → (∀ i ∈ L, i ∉ U) → ePairs ops tab L = true → (∀ i ∈ L, i ∈ E) → trOk ops tab E m U t = true →
      AE X N ops H0 (opsOf ops L) (fun fr' => AU X N ops H0 m t K fr' H) fr → FR w φ N a fr → Dfr w1 H w a.defers → Rel X w φ H → Out X H1 w1 φ1 H w φ → (Ext H0 H ∨ L = []) → L.length + U.length ≤ fuel →
      wpAnyIn (fen N.ro) 0 X.P .any ops (Post X N H1 w1 φ1 Q) fuel listed a w := by
  intro fuel
  induction fuel with
  | zero =>
    intro listed L U t m a w φ fr H H1 w1 φ1 hsz hcl hun hun' hdis hep hLE htr hAE hf hd hr ho hext hlen
    have hU : U = [] := List.length_eq_zero_iff.1 (by omega)
    subst hU
    obtain rfl := trOk_nil htr
    exact drawn ht hK hQ 0 listed L [] m a w φ fr H hsz hcl hun hun' hdis hep hLE rfl hAE hf hd hr ho hext hlen
  | succ fuel ih =>
    intro listed L U t m a w φ fr H H1 w1 φ1 hsz hcl hun hun' hdis hep hLE htr hAE hf hd hr ho hext hlen
    by_cases hU : U = []
    · subst hU
      obtain rfl := trOk_nil htr
      exact drawn ht hK hQ (fuel + 1) listed L [] m a w φ fr H hsz hcl hun hun' hdis hep hLE rfl hAE hf hd hr ho hext hlen
    refine ⟨fun hrd => ?_, fun i hi => ?_⟩
    · have none_left : ∀ i, i ∈ L ∨ i ∈ U → False := fun i h => by
        have h0 := hun' i h
        refine ready_of_left ht (i + 1) i (by omega) ?_ h0 hrd
        rw [← hsz]
        refine Classical.byContradiction fun hge => ?_
        rw [Array.getD_eq_getD_getElem?, Array.getElem?_eq_none (by omega)] at h0
        simp at h0
      obtain ⟨i, hi⟩ := List.exists_mem_of_ne_nil U hU
      exact (none_left i (.inr hi)).elim
    · have hanc := fun b hb => anc_listed (a := b) ht hcl hi hb
      obtain ⟨h0, o, hop, hall⟩ := mem_ready.1 hi
      have hlt : i < listed.size := by rw [hsz]; exact (Array.getElem?_eq_some_iff.1 hop).1
      have hcl' := hcl.set ht hsz hi
      have hno : ∀ p, p ∈ L ∨ p ∈ U → p ∉ tab.getD i [] := fun p hp hm => by
        have h1 := hanc p hm
        have h2 := hun' p hp
        rw [Array.getD_eq_getD_getElem?] at h1 h2
        cases hq : listed[p]? with
        | none => rw [hq] at h1; cases h1
        | some b => rw [hq] at h1 h2; simp at h1 h2; rw [h1] at h2; cases h2
      unfold wpOpIn
      rw [hop]
      simp only
      rcases hun i h0 with hiL | hiR
      · obtain ⟨l1, l2, rfl⟩ := List.append_of_mem hiL
        obtain ⟨_, g2, g3, g4⟩ := ePairs_split hep
        have hap : ∀ p ∈ l1, apartAt ops p i = true := fun p hp => (g2 p hp).resolve_left (hno p (.inl (by simp [hp])))
        rw [opsOf_cut hop] at hAE
        obtain ⟨d, av, k1, k2, k3, k4⟩ := AE_pull (fun g g' k hs => AU_same hK k hs) (apart_of hop hap) hAE
        have hE : Ext H0 H := hext.resolve_right (by simp)
        have hstep := QVal.step (X := X) (N := N) (next := fun a' w' => wpAnyIn (fen N.ro) 0 X.P .any ops (Post X N H1 w1 φ1 Q) fuel (listed.setIfInBounds i true) a' w') (Q := Post X N H1 w1 φ1 Q) k3 hf hr hE (fun v w' φ' h1 h2 => by
          refine ih _ (l1 ++ l2) U t m _ _ φ' ((d, av) :: fr) H (by simp [hsz]) hcl' (fun j hj => ?_) (fun j hj => ?_) (fun j hj => ?_) g3 (fun j hj => ?_) htr ?_ ?_ (by rw [defers_put]; exact hd.out h2) h2.rel (ho.trans h2) (.inl hE) (by simp at hlen ⊢; omega)
          · rw [getD_of_set hlt] at hj
            split at hj
            · cases hj
            · rename_i hji
              rcases hun j hj with h | h
              · left
                rw [List.mem_append, List.mem_cons] at h
                rw [List.mem_append]
                rcases h with h | h | h
                · exact .inl h
                · exact absurd h hji
                · exact .inr h
              · exact .inr h
          · rw [getD_of_set hlt]
            rw [if_neg]
            · exact hun' j (hj.imp (fun h => by rw [List.mem_append] at h; rcases h with h | h <;> simp [h]) id)
            · rintro rfl
              rcases hj with h | h
              · exact g4 h
              · exact hdis j (by simp) h
          · exact hdis j (by rw [List.mem_append] at hj; rcases hj with h | h <;> simp [h])
          · exact hLE j (by rw [List.mem_append] at hj; rcases hj with h | h <;> simp [h])
          · rw [opsOf_append]; exact k4
          · rw [k1]; exact (hf.out h2).put k2 h1)
        split
        · rename_i hw; rw [if_pos hw] at hstep; exact hstep
        · rename_i hw; rw [if_neg hw] at hstep; exact hstep
      · obtain ⟨s, hhd, htr2, himp⟩ := trOk_at (X := X) (N := N) (H0 := H0) (K := K) htr hiR (fun p hp => hno p (.inr hp))
        simp only [headOk, List.all_eq_true, List.contains_iff_mem, Bool.or_eq_true, Bool.and_eq_true, Bool.not_eq_true', beq_eq_false_iff_ne] at hhd
        have hap : ∀ p ∈ L, m ≠ 0 ∧ apartAt ops p i = true := fun p hp => (hhd p (hLE p hp)).resolve_left (hno p (.inl hp))
        have hcut : opsOf ops [i] = o :: opsOf ops [] := opsOf_cut (l1 := []) hop
        have hAE := AE_mono hAE (Same.refl _) (K' := fun fr' => AT X N H0 m (opsOf ops [i]) (fun g L => AU X N ops H0 (m - 1) s K g L) fr' H) (fun g g' k hs => AT_same (K := fun g L => AU X N ops H0 (m - 1) s K g L) (fun g g' H k hs => AU_same hK k hs) (himp _ _ k) hs)
        rw [hcut] at hAE
        obtain ⟨k1, k2, k3⟩ := AT_pull (K := fun g L => AU X N ops H0 (m - 1) s K g L) (fun g g' H k hs => AU_same hK k hs) (apart_of hop fun p hp => (hap p hp).2) hAE
        have hw : Region.wanted o (yielded ops a.tmps) = true := by unfold Region.wanted; rw [k2]
        rw [if_pos hw]
        refine ow_of (AOp_nd k3) (upon_ok (fr := fr) (AOp_ok (X := X) (w := w) (φ := φ) k3 hf.ev hr) fun v w' av H' φ' h1 ⟨h2, h3⟩ h4 => ?_)
        have hiL : i ∉ L := fun h => hdis i h hiR
        have hfl : (U.filter fun k => !(k == i)).length + 1 ≤ U.length := filter_less hiR
        refine ih _ L (U.filter fun k => !(k == i)) s (m - 1) _ _ φ' (AFr.put o.dst av fr) H' (by simp [hsz]) hcl' (fun j hj => ?_) (fun j hj => ?_) (fun j hj => ?_) hep hLE htr2 h3 ((hf.out h4).put' k1 h1) (by rw [defers_put]; exact hd.out h4) h4.rel (ho.trans h4) ?_ (by omega)
        · rw [getD_of_set hlt] at hj
          split at hj
          · cases hj
          · rename_i hji
            rcases hun j hj with h | h
            · exact .inl h
            · exact .inr (List.mem_filter.2 ⟨h, by simpa using hji⟩)
        · rw [getD_of_set hlt, if_neg]
          · exact hun' j (hj.imp id fun h => (List.mem_filter.1 h).1)
          · rintro rfl
            rcases hj with h | h
            · exact hiL h
            · have := (List.mem_filter.1 h).2; simp at this
        · exact fun h => hdis j hj (List.mem_filter.1 h).1
        · cases L with
          | nil => exact .inr rfl
          | cons p l => exact .inl (h2 (Nat.pos_of_ne_zero (hap p (by simp)).1))

def drawTOk (ops : Array Oper) (tab : Array (List Nat)) (E U : List Nat) (t : Tr) (m : Nat) : Bool :=
  tabOk ops tab && (List.range ops.size).all (fun i => E.contains i || U.contains i) && E.all (fun i => Nat.blt i ops.size && !U.contains i) && U.all (fun i => Nat.blt i ops.size) && ePairs ops tab E && trOk ops tab E m U t && Nat.ble (E.length + U.length) ops.size
theorem AWp_drawT (E U : List Nat) (t : Tr) (m : Nat) {id : Nat} {lE : List Oper} {Q : Exit → AFr → AHeap → Prop} {fr : AFr} {H : AHeap} (hm : X.P.follows .mixedOrders = true) (hok : drawTOk ops (ancTab ops) E U t m = true)
    (hE : opsOf ops E = lE) (h : AE X N ops H lE (fun fr' => AU X N ops H m t (fun fr H => Q .normal fr H) fr' H) fr) : AWp X N (.region id ops true) Q fr H := fun a w φ H0 w0 φ0 hf hd hr ho => by
  subst hE
  simp only [drawTOk, Bool.and_eq_true, List.all_eq_true, Bool.or_eq_true, List.contains_iff_mem, List.mem_range, Bool.not_eq_true'] at hok
  obtain ⟨⟨⟨⟨⟨⟨h1, h2⟩, h3⟩, h4⟩, h5⟩, h6⟩, h7⟩ := hok
  have hr' : Rel X { w with drawn := w.drawn + 1 } φ H := ⟨fun b o hb => hr.obj b o hb, hr.lim, hr.env⟩
  have ho' : Out X H w φ H { w with drawn := w.drawn + 1 } φ := ⟨⟨rfl, rfl, rfl, Nat.le_refl _, fun _ _ h => h, fun _ _ h => h, fun _ _ _ => ⟨rfl, rfl⟩⟩, hr', fun _ h => .inl h, fun _ => Nat.le_add_right _ _⟩
  refine wpIn_region_any hm (drawnU h1 (E := E) (H0 := H) (K := fun fr H => ∃ fr', Same fr' fr ∧ Q .normal fr' H) (fun g g' H ⟨f, k1, k2⟩ hs => ⟨f, k1.trans hs, k2⟩) (fun fr H ⟨f, k1, k2⟩ => ⟨f, fun t => (k1 t).symm, k2⟩) ops.size (Array.replicate ops.size false) E U t m a _ φ fr H (by simp) (fun i hi => ?_) (fun i hi => ?_) (fun i hi => ?_) (fun i hi => ?_) h5 (fun i hi => hi) h6 ?_ (hf.out ho') (hd.out ho') hr' (ho.trans ho') (.inl (Ext.refl H)) ?_)
  · exfalso
    rw [Array.getD_eq_getD_getElem?, Array.getElem?_replicate] at hi
    split at hi <;> cases hi
  · rw [Array.getD_eq_getD_getElem?, Array.getElem?_replicate] at hi
    split at hi
    · rename_i hlt; exact h2 i hlt
    · cases hi
  · have hlt : i < ops.size := by
      rcases hi with hi | hi
      · exact (by simpa using (h3 i hi).1 : i < ops.size)
      · exact (by simpa using h4 i hi : i < ops.size)
    rw [Array.getD_eq_getD_getElem?, Array.getElem?_replicate, if_pos hlt]; rfl
  · intro hT
    have := (h3 i hi).2
    rw [List.contains_eq_mem] at this
    simp [hT] at this
  · refine AE_mono h (Same.refl _) fun g g' k hs => ?_
    exact AU_same (fun g g' H ⟨f, k1, k2⟩ hs => ⟨f, k1.trans hs, k2⟩) (AU_mono (fun fr H q => ⟨fr, Same.refl _, q⟩) k) hs
  · exact (by simpa using h7 : E.length + U.length ≤ ops.size)
end
end Go.AL

/-
  AL, part zw: short names for the steps of long walks.
-/
set_option linter.unusedSimpArgs false
set_option linter.unusedVariables false
namespace Go.AL
open Go

section
variable {X : Ctx} {N : NR} {ops : Array Oper} {K : AFr → AHeap → Prop} {fr : AFr} {H : AHeap} {rest : List Oper} {Q : Exit → AFr → AHeap → Prop} {d : Nat} {ty : TypeId} {pos : String} {aft : Array Edge}
theorem sK {x y : Code} (h : ∀ K : AFr → AHeap → Prop, (∀ fr H, AWp X N y Q fr H → K fr H) → AWp X N x (AThen K Q) fr H) : AWp X N (.seq x y) Q fr H := AWp_seq_k h
theorem sR {y : Code} {id : Nat} (h : ∀ K : AFr → AHeap → Prop, (∀ fr H, AWp X N y Q fr H → K fr H) → SOps X N ops ops.toList (fun fr H => AThen K Q .normal fr H) fr H) : AWp X N (.seq (.region id ops false) y) Q fr H := AWp_seq_k fun K hK => s_region (h K hK)
theorem qr {op : Op} {av : AV} (k : SOps X N ops rest K ((d, av) :: fr) H) (hd : d < N.n := by decide) (hp : isPick op = false := by rfl) (h : pvK X.P H fr.ev op = some av := by simp only [go_sem]; rfl) : SOps X N ops (⟨some d, op, ty, pos, aft, none⟩ :: rest) K fr H := s_q hd hp h k
theorem cs {c : Operand} {x y : Code} {t : Bool} (ht : t = true → AWp X N x Q fr H) (hf : t = false → AWp X N y Q fr H) (hc : fr.ev c = .v (.bool t) := by simp only [go_sem]; try rfl) : AWp X N (.cond c x y) Q fr H := cond_split hc ht hf
theorem sp {op : Op} {av gv : AV} {c : Bool} {ds : List Bool} {j : Nat} {want : Bool} (k : SOps X N ops rest K ((d, .whn c av) :: fr) H) (hd : d < N.n := by decide) (hp : isPick op = false := by rfl) (hs : spec op = true := by rfl) (hgv : guardV ops fr j = gv := by simp only [go_sem]; rfl) (hg : gcond want gv = some c := by simp only [go_sem]; rfl) (hw : whnConds fr op.operands.toList = ds := by simp only [go_sem]; rfl)
    (h : pvK X.P H fr.evS op = some av := by simp only [go_sem]; rfl) (hc : condsOk c ds := by first | trivial | simp [condsOk]) : SOps X N ops (⟨some d, op, ty, pos, aft, some (j, want)⟩ :: rest) K fr H := s_spec hd hp hs hgv hg hw h hc k
theorem pk {c a b : Operand} {t x y : Bool} {dc da db : List Bool} (k : SOps X N ops rest K ((d, .v (.bool (if t then x else y))) :: fr) H) (hd : d < N.n := by decide) (hc : fr.evS c = .v (.bool t) := by simp only [go_sem]; rfl) (ha : fr.evS a = .v (.bool x) := by simp only [go_sem]; rfl) (hb : fr.evS b = .v (.bool y) := by simp only [go_sem]; rfl) (h0 : whnConds fr [c] = dc := by simp only [go_sem]; rfl) (h1 : whnConds fr [a] = da := by simp only [go_sem]; rfl) (h2 : whnConds fr [b] = db := by simp only [go_sem]; rfl)
    (h3 : condsOk true dc := by first | trivial | simp [condsOk]) (h4 : condsOk (true && t) da := by first | trivial | simp [condsOk]) (h5 : condsOk (true && !t) db := by first | trivial | simp [condsOk]) : SOps X N ops (⟨some d, .pick c a b, ty, pos, aft, none⟩ :: rest) K fr H := s_pick hd hc ha hb h0 h1 h2 h3 h4 h5 k
end
end Go.AL
