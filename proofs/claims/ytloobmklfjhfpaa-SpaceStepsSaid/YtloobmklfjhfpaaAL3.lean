/-
  A small logic of abstract values and owned memory over the given model, part 3. No statement of the program.
-/
import Derived.Test.YtloobmklfjhfpaaAL2
import Derived.Shelf.GgSortFunc.RowK
import Derived.Shelf.GgSortFunc.InsertionK
import Derived.Shelf.SlSortCmp.Insertion
/-
  AL, part zj: variables frozen; slices.SortFunc out of the library's contract.
-/
set_option linter.unusedSimpArgs false
set_option linter.unusedVariables false
namespace Go.AL
open Go Go.Sort

section
variable {X : Ctx} {H : AHeap} {w : World} {φ : Nat → Nat} {K : AV → AHeap → Prop}

/-- a variable is never written again -/
theorem phi_box {q : Nat} {T : TypeId} {cs : List AV} (hr : Rel X w φ H) (hb : H.get q = some (.box T cs)) :
    Out X H w φ (H.del q) w (fun c => if c = q then cs.length else φ c) ∧ CRs (Fz w (fun c => if c = q then cs.length else φ c)) (Sh w) ⟨q, 0, none⟩ 0 cs := by
  obtain ⟨h1, arr, h2, h3⟩ := hr.obj q _ hb
  have hFz : ∀ ad u, Fz w φ ad u → Fz w (fun c => if c = q then cs.length else φ c) ad u := fun ad u ⟨k1, k2⟩ => ⟨k1, by
    simp only
    split
    · rename_i e; rw [e, h1] at k2; omega
    · exact k2⟩
  have hlt := hr.lt hb
  refine ⟨⟨⟨rfl, rfl, rfl, Nat.le_refl _, hFz, fun _ _ h => h, fun c hc hn => ⟨rfl, ?_⟩, Nat.le_refl _⟩, ⟨fun c o hc => ?_, fun c hc => ?_, X.mono _ _ hFz hr.env⟩, fun c hc => ?_⟩, ?_⟩
  · rw [if_neg]
    rintro rfl
    rw [hb] at hn; cases hn
  · rw [AHeap.get_del] at hc
    split at hc
    · cases hc
    · rename_i e
      exact (hr.obj c o hc).keep rfl (if_neg e) hFz fun _ _ h => h
  · show (if c = q then cs.length else φ c) = 0
    rw [if_neg (by omega)]
    exact hr.lim c hc
  · left
    rw [AHeap.get_del] at hc
    split at hc
    · exact absurd rfl hc
    · exact hc
  · refine CRs.of_get _ _ (fun j a hj => ?_)
    obtain ⟨u, hu, hv⟩ := h3.get j a hj
    have hjl : j < cs.length := (List.getElem?_eq_some_iff.1 hj).1
    refine ⟨u, ⟨?_, ?_⟩, hv.mono hFz fun _ _ h => h⟩
    · rw [add_none]
      simp only [World.cell?, h2]
      simpa using hu
    · rw [add_none]; simp; omega

theorem AWp.freeze {N : NR} {c : Code} {Q : Exit → AFr → AHeap → Prop} {fr : AFr} {t q : Nat} {T : TypeId} {cs : List AV} (hb : H.get q = some (.box T cs)) (ht : AFr.get t fr = ptrTo q) (htN : t < N.n)
    (h : AWp X N c Q ((t, .fp cs) :: fr) (H.del q)) : AWp X N c Q fr H := fun a w φ H0 w0 φ0 hf hd hr ho => by
  obtain ⟨h1, h2⟩ := phi_box hr hb
  have hfo := hf.out h1
  refine h a w _ H0 w0 φ0 ⟨hf.size, fun s => ?_⟩ (hd.out h1) h1.rel (ho.trans h1)
  simp only [AFr.get]
  split
  · rename_i e; subst e
    have := hfo.at_ t
    rw [ht] at this
    unfold ptrTo at this
    generalize a.tmps.getD t undef = x at this
    cases this
    exact .fp h2
  · exact hfo.at_ s
end
end Go.AL

/-
  AL, part zk: slices.SortFunc out of the library's contract.
-/
set_option linter.unusedSimpArgs false
set_option linter.unusedVariables false
namespace Go.AL
open Go Go.Sort Go.Proofs

/-- what the library's contract of slices.SortFunc says, elements being k cells, handed to cmp as 'mk' says -/
def SortsAt (P : Program) (f k : Nat) (mk : List Value → Value) : Prop :=
  (∀ (p : Option Addr) (cap : Nat) (fv : Value) (w : World), Calls P f #[.slice p 0 cap, fv] w fun e w' => e = .returned (.tuple #[]) ∧ w' = w) ∧
  ∀ (enc : Nat → List Value) (hk : ∀ x, (enc x).length = k) (h1 : ∀ x, ∀ v ∈ enc x, v.oneCell' = true) (cf : Nat → Nat → Int) (hO : SWO (ltOf cf)) (g : Nat) (cb : Array Value) (blk cap : Nat) (d : Array Nat) (w : World)
    (eg : ∀ args w, (callFunc g args).run P w = .ok (.enter g args) w)
    (hcmp : ∀ (m : Nat) (os : Array Obj) (dk : Array Nat), dk.size = d.size → ∀ x y : Nat, Calls P g (#[mk (enc x), mk (enc y)] ++ cb) (sortWorldK enc k w blk 0 m dk os) fun e w' => e = .returned (.int .i64 (cf x y)) ∧ ∃ q os', w' = grow ((sortWorldK enc k w blk 0 m dk os).drewN q) os')
    (hH : HoldsK enc k w blk 0 d) (hblk : blk < w.heap.size) (hsz : d.size < 4611686018427387904),
    Calls P f #[.slice (some ⟨blk, 0, none⟩) d.size cap, .func (.func g) #[] cb] w fun e w' =>
      e = .returned (.tuple #[]) ∧ ∃ d' n os, PermIn 0 d.size d d' ∧ SortedIn (ltOf cf) 0 d.size d' ∧ w' = sortWorldK enc k w blk 0 n d' os

/-- 'c i j < 0' is a strict weak order of the places below n -/
structure Swo (n : Nat) (c : Nat → Nat → Int) : Prop where
  irrefl : ∀ i, i < n → ¬ c i i < 0
  trans : ∀ i j l, i < n → j < n → l < n → c i j < 0 → c j l < 0 → c i l < 0
  ntrans : ∀ i j l, i < n → j < n → l < n → ¬ c i j < 0 → ¬ c j l < 0 → ¬ c i l < 0

theorem world_grow {w w' : World} (hos : w'.os = w.os) (ht : w'.tape = w.tape) (hout : w'.output = w.output) (hs : w.heap.size ≤ w'.heap.size) (hb : ∀ b, b < w.heap.size → w'.heap[b]? = w.heap[b]?) (hd : w.drawn ≤ w'.drawn) :
    ∃ q os, w' = grow (w.drewN q) os := by
  refine ⟨w'.drawn - w.drawn, w'.heap.extract w.heap.size w'.heap.size, ?_⟩
  obtain ⟨h1, t1, d1, o1, u1⟩ := w
  obtain ⟨h2, t2, d2, o2, u2⟩ := w'
  simp only at hos ht hout hs hb hd
  subst hos ht hout
  simp only [grow, World.drewN, World.mk.injEq, and_true, true_and]
  refine ⟨?_, by omega⟩
  apply Array.ext_getElem?
  intro i
  by_cases hi : i < h1.size
  · rw [hb i hi, Array.getElem?_append_left hi]
  · rw [Array.getElem?_append_right (by omega), Array.getElem?_extract]
    split
    · congr 1; omega
    · rw [Array.getElem?_eq_none]; omega

theorem canEnter_run {P : Program} {g : Nat} (h : canEnter P g = true) (args : Array Value) (w : World) : (callFunc g args).run P w = .ok (.enter g args) w := by
  simp only [callFunc, Sem.run_bind, run_program, Result.andThen_ok]
  unfold canEnter at h
  split at h
  · rename_i fn' hfn
    simp only [Bool.and_eq_true, bne_iff_ne, ne_eq] at h
    obtain ⟨hc1, hc2⟩ := h
    have hbn : (fn'.name == "runtime.NumGoroutine") = false := by simpa using hc1
    have hbody : fn'.body.isNone = false := by cases hb : fn'.body <;> simp [hb] at hc2 ⊢
    simp only [hfn, hbn, hbody, Bool.false_eq_true, if_false, Sem.run_pure]
  · cases h

theorem heap_putRow {w : World} {enc : Nat → List Value} {k blk m : Nat} {dk : Array Nat} {os : Array Obj} (hblk : blk < w.heap.size) :
    (∀ c, c < w.heap.size → c ≠ blk → (sortWorldK enc k w blk 0 m dk os).heap[c]? = w.heap[c]?) ∧
    (∀ arr T fr, w.heap[blk]? = some (.cells arr T fr) → (sortWorldK enc k w blk 0 m dk os).heap[blk]? = some (.cells (putCells id 0 (flatK enc k dk) arr) T fr)) := by
  have hsz : (putRowK enc k (Sort.ahead w m) blk 0 dk).heap.size = w.heap.size := by simp [putRowK, putRow, mapBlock, Sort.ahead]
  refine ⟨fun c hc hne => ?_, fun arr T fr h => ?_⟩
  · unfold sortWorldK grow
    simp only
    rw [Array.getElem?_append_left (by rw [hsz]; exact hc)]
    simp only [putRowK, putRow, mapBlock, Sort.ahead]
    rw [Array.getElem?_modify, if_neg (Ne.symm hne)]
  · unfold sortWorldK grow
    simp only
    rw [Array.getElem?_append_left (by rw [hsz]; exact hblk)]
    simp only [putRowK, putRow, mapBlock, Sort.ahead]
    rw [Array.getElem?_modify, if_pos rfl, h]
    rfl

theorem sortWorld_size (w : World) (enc : Nat → List Value) (k blk m : Nat) (dk : Array Nat) (os : Array Obj) : w.heap.size ≤ (sortWorldK enc k w blk 0 m dk os).heap.size := by
  simp [sortWorldK, putRowK, putRow, mapBlock, Sort.ahead, grow]

section
variable {X : Ctx} {H : AHeap} {w : World} {φ : Nat → Nat} {K : AV → AHeap → Prop}

theorem ACall_sort {f g k e b n : Nat} {cap : List AV} {es : List (List AV)} {c : Nat → Nat → Int} {mk : List Value → Value} {mkA : List AV → AV} (hs : SortsAt X.P f k mk) (hcan : canEnter X.P f = true) (hcang : canEnter X.P g = true)
    (hmk : ∀ F S (vs : List Value) (bs : List AV), bs.length = k → VRs F S vs bs → VR F S (mk vs) (mkA bs))
    (hb : H.get b = some (.row e k false es)) (hn : n = es.length) (hlt : n < 4611686018427387904) (hone : ∀ x ∈ es, x.all AV.one = true) (hO : Swo n c)
    (hcmp : ∀ (i j : Nat) (x y : List AV), es[i]? = some x → es[j]? = some y → ∀ K : AV → AHeap → Prop, K (.v (.int .i64 (c i j))) AHeap.nil → ACall X g ([mkA x, mkA y] ++ cap) AHeap.nil K)
    (h : ∀ p : List Nat, p.Perm (List.range n) → (∀ i j a d : Nat, i < j → p[i]? = some a → p[j]? = some d → ¬ c d a < 0) → K (.tup []) (H.put b (.row e k false (p.map fun i => es.getD i [])))) :
    ACall X f [.row b k n, .fn (.func g) [] cap] H K := by
  subst hn
  refine ⟨hcan, fun w φ xs hr hx => ?_⟩
  cases hx with
  | cons hx1 hx2 =>
  rename_i xs1 x1
  cases hx2 with
  | cons hx2 hx3 =>
  rename_i x2 xs2
  cases hx3
  cases hx1 with
  | row hsh hsize hle =>
  rename_i cap' size
  cases hx2 with
  | fn hvs hus =>
  rename_i vs0 us
  cases hvs
  obtain ⟨h1, h0, arr, vs, rest, h2, h3, h4⟩ := hr.obj b _ hb
  have hφ : φ b = 0 := by simpa using h1
  have hblk : b < w.heap.size := (Array.getElem?_eq_some_iff.1 h2).1
  have hfl : es.flatten.length = es.length * k := flatten_len h0
  have hvl : vs.length = es.length * k := h4.len.trans hfl
  cases hes : es with
  | nil =>
    subst hes
    refine (hs.1 _ _ _ _).mono fun e' w' ⟨he, hw⟩ => ?_
    subst he hw
    refine ⟨_, .tup [], H.put b (.row e k false []), φ, rfl, .tup .nil, ?_, Out.retell hr hb (hr.obj b _ hb)⟩
    have := h [] (by simp) (by simp)
    simpa using this
  | cons e0 es' =>
  rw [← hes]
  have hpos : 0 < es.length := by rw [hes]; simp
  clear hes e0 es'
  let cl : Nat → Nat := fun i => if i < es.length then i else 0
  have hcl : ∀ i, cl i < es.length := fun i => by simp only [cl]; split <;> omega
  have hcli : ∀ i, i < es.length → cl i = i := fun i hi => if_pos hi
  let enc : Nat → List Value := fun i => (vs.drop (cl i * k)).take k
  have hmul : ∀ i, i < es.length → i * k + k ≤ es.length * k := fun i hi => by
    have := Nat.mul_le_mul_right k (show i + 1 ≤ es.length from hi)
    rwa [Nat.succ_mul] at this
  have henk : ∀ x, (enc x).length = k := fun x => by
    have := hmul _ (hcl x)
    simp only [enc, List.length_take, List.length_drop, hvl]; omega
  have hel : ∀ i (x : List AV), es[i]? = some x → x = (es.flatten.drop (i * k)).take k := fun i x hi => by
    have hxk := h0 x (List.mem_of_getElem? hi)
    apply List.ext_getElem?
    intro j
    by_cases hj : j < k
    · rw [List.getElem?_take, if_pos hj, List.getElem?_drop]
      rw [flatten_get h0 i j x (x[j]'(by omega)) hi (List.getElem?_eq_getElem (by omega)), List.getElem?_eq_getElem (by omega)]
    · rw [List.getElem?_eq_none (by omega), List.getElem?_eq_none]
      simp; omega
  have hvr : ∀ {F S}, VRs F S vs es.flatten → ∀ x, VRs F S (enc x) (es[cl x]'(hcl x)) := fun hv x => by
    rw [hel (cl x) _ (List.getElem?_eq_getElem (hcl x))]
    exact (hv.drop _).take _
  have henc1 : ∀ x, ∀ v ∈ enc x, v.oneCell' = true := fun x v hv => by
    obtain ⟨j, hj, rfl⟩ := List.getElem_of_mem hv
    have hvx := hvr h4 x
    have hj2 : j < (es[cl x]'(hcl x)).length := by rw [← hvx.len]; exact hj
    have := hvx.get' j _ _ (List.getElem?_eq_getElem hj) (List.getElem?_eq_getElem hj2)
    have ho := hone _ (List.getElem_mem (hcl x))
    rw [List.all_eq_true] at ho
    exact one_ok (ho _ (List.getElem_mem hj2)) this
  have hflat : ∀ t (ht : t < es.length * k), (flatK enc k (Array.range es.length))[t]! = vs[t]'(by omega) := fun t ht => by
    have hk0 : 0 < k := by
      rcases Nat.eq_zero_or_pos k with h | h
      · subst h; simp at ht
      · exact h
    rw [get_flatK _ _ _ _ (by simpa using ht)]
    have hdiv : t / k < es.length := Nat.div_lt_of_lt_mul (by rw [Nat.mul_comm]; exact ht)
    have e1 : (Array.range es.length)[t / k]! = t / k := by
      rw [getElem!_pos _ _ (by simpa using hdiv)]; simp
    have hmod := Nat.mod_lt t hk0
    rw [e1, getElem!_pos _ _ (by rw [henk]; exact hmod)]
    simp only [enc, List.getElem_take, List.getElem_drop]
    congr 1
    rw [hcli _ hdiv, Nat.mul_comm]
    exact Nat.div_add_mod t k
  have hH : HoldsK enc k w b 0 (Array.range es.length) := fun j hj => by
    rw [size_flatK, Array.size_range] at hj
    refine ⟨?_, ?_⟩
    · rw [hflat j hj]
      simp only [World.cell?, h2, Nat.zero_add, id]
      have : arr.toList[j]? = some (vs[j]'(by omega)) := by
        rw [h3, List.getElem?_append_left (by omega), List.getElem?_eq_getElem]
      simpa using this
    · simp [World.frozen?, h2]
  have mono : ∀ m dk os, (∀ ad u, Fz w φ ad u → Fz (sortWorldK enc k w b 0 m dk os) φ ad u) ∧ (∀ d n, Sh w d n → Sh (sortWorldK enc k w b 0 m dk os) d n) := fun m dk os => by
    obtain ⟨g1, g2⟩ := heap_putRow (enc := enc) (k := k) (m := m) (dk := dk) (os := os) hblk
    refine ⟨fun ad u ⟨k1, k2⟩ => ⟨?_, k2⟩, fun d n ⟨ar, T, fr, k1, k2⟩ => ?_⟩
    · have hne : ad.block ≠ b := fun e => by rw [e, hφ] at k2; exact absurd k2 (Nat.not_lt_zero _)
      have hl := World.block_lt_of_cell? w ad k1
      rw [World.cell?_of_block (w := w) (g1 _ hl hne)]
      exact k1
    · have hl := (Array.getElem?_eq_some_iff.1 k1).1
      by_cases hne : d = b
      · subst hne
        exact ⟨_, T, fr, g2 ar T fr k1, by simp [putCells, k2]⟩
      · exact ⟨ar, T, fr, by rw [g1 _ hl hne]; exact k1, k2⟩
  have hfin := hs.2 enc henk henc1 (fun x y => c (cl x) (cl y)) ⟨fun x => by simp only [ltOf, decide_eq_false_iff_not]; exact hO.irrefl _ (hcl x),
    fun x y z h1 h2 => by simp only [ltOf, decide_eq_true_eq] at *; exact hO.trans _ _ _ (hcl x) (hcl y) (hcl z) h1 h2,
    fun x y z h1 h2 => by simp only [ltOf, decide_eq_false_iff_not] at *; exact hO.ntrans _ _ _ (hcl x) (hcl y) (hcl z) h1 h2⟩ g ⟨us⟩ b cap' (Array.range es.length) w (canEnter_run hcang) (fun m os dk hdk x y => by
      obtain ⟨m1, m2⟩ := mono m dk os
      have hx := hcmp (cl x) (cl y) _ _ (List.getElem?_eq_getElem (hcl x)) (List.getElem?_eq_getElem (hcl y)) (fun a _ => a = .v (.int .i64 (c (cl x) (cl y)))) rfl
      have hrel : Rel X (sortWorldK enc k w b 0 m dk os) φ AHeap.nil := ⟨(fun _ _ h => by cases h), fun d hd => hr.lim d (Nat.le_trans (sortWorld_size ..) hd), X.mono _ _ m1 hr.env⟩
      have hargs : VRs (Fz (sortWorldK enc k w b 0 m dk os) φ) (Sh (sortWorldK enc k w b 0 m dk os)) ([mk (enc x), mk (enc y)] ++ us) ([mkA (es[cl x]'(hcl x)), mkA (es[cl y]'(hcl y))] ++ cap) := by
        refine VRs.append (.cons ?_ (.cons ?_ .nil)) (hus.mono m1 m2)
        · exact hmk _ _ _ _ (h0 _ (List.getElem_mem (hcl x))) ((hvr h4 x).mono m1 m2)
        · exact hmk _ _ _ _ (h0 _ (List.getElem_mem (hcl y))) ((hvr h4 y).mono m1 m2)
      have hargv : (#[mk (enc x), mk (enc y)] ++ (⟨us⟩ : Array Value)) = ⟨[mk (enc x), mk (enc y)] ++ us⟩ := by simp
      rw [hargv]
      refine (hx.2 _ φ _ hrel hargs).mono ?_
      rintro e' w' ⟨v, av, H', φ', rfl, hv, rfl, ho⟩
      cases hv
      exact ⟨rfl, world_grow ho.step.os ho.step.tape ho.step.output ho.step.size (fun d hd => (ho.step.un d hd rfl).1) ho.step.drawn⟩) hH hblk (by simpa using hlt)
  simp only [Array.size_range] at hfin
  refine hfin.mono ?_
  rintro e' w' ⟨rfl, d', m, os, ⟨hp1, _, hp3⟩, hsd, rfl⟩
  rw [Array.size_range] at hp1
  have hperm : d'.toList.Perm (List.range es.length) := by
    have e1 : d'.extract 0 es.length = d' := by rw [← hp1]; exact Array.extract_size
    have e2 : (Array.range es.length).extract 0 es.length = Array.range es.length := by
      have : ∀ (r : Array Nat) (n : Nat), r.size = n → r.extract 0 n = r := fun r n h => by rw [← h]; exact Array.extract_size
      exact this _ _ Array.size_range
    rw [e1, e2] at hp3
    simpa using hp3
  have hd'lt : ∀ i (hi : i < d'.size), d'[i] < es.length := fun i hi => by
    have := hperm.mem_iff.1 (show d'[i] ∈ d'.toList by simp)
    simpa using this
  obtain ⟨m1, m2⟩ := mono m d' os
  obtain ⟨g1, g2⟩ := heap_putRow (enc := enc) (k := k) (m := m) (dk := d') (os := os) hblk
  refine ⟨_, .tup [], H.put b (.row e k false (d'.toList.map fun i => es.getD i [])), φ, rfl, .tup .nil, h _ hperm (fun i j x y hij hx hy => ?_), ?_⟩
  · have hj : j < d'.size := by
      have h8 := (List.getElem?_eq_some_iff.1 hy).1
      simpa using h8
    have hi : i < d'.size := by omega
    have h9 := hsd i j (Nat.zero_le _) hij (by omega)
    rw [getElem!_pos d' i hi, getElem!_pos d' j hj] at h9
    simp only [ltOf, decide_eq_false_iff_not, hcli _ (hd'lt i hi), hcli _ (hd'lt j hj)] at h9
    have ea : (d'[i]'hi) = x := by simpa [hi] using hx
    have ed : (d'[j]'hj) = y := by simpa [hj] using hy
    rw [← ea, ← ed]; exact h9
  · have hst : Step H w φ (sortWorldK enc k w b 0 m d' os) φ := by
      refine ⟨rfl, rfl, rfl, sortWorld_size .., m1, m2, fun d hd hdn => ⟨g1 d hd (fun e => by rw [e, hb] at hdn; cases hdn), rfl⟩, ?_⟩
      show w.drawn ≤ w.drawn + m
      omega
    refine ⟨hst, ⟨fun d o hd => ?_, fun d hd => hr.lim d (Nat.le_trans (sortWorld_size ..) hd), X.mono _ _ m1 hr.env⟩, fun d hd => ?_⟩
    · rw [AHeap.get_put] at hd
      split at hd
      · rename_i hdb; subst hdb; cases hd
        have hel2 : ∀ i (hi : i < d'.size), (d'.toList.map fun i => es.getD i [])[i]? = some (es[d'[i]]'(hd'lt i hi)) := fun i hi => by
          simp [hi, hd'lt i hi]
        have hlen' : ∀ e ∈ (d'.toList.map fun i => es.getD i []), e.length = k := fun x hx => by
          obtain ⟨i, hi, rfl⟩ := List.mem_map.1 hx
          have := hperm.mem_iff.1 hi
          rw [List.mem_range] at this
          simp [this]
          exact h0 _ (List.getElem_mem this)
        have hfl' : (d'.toList.map fun i => es.getD i []).flatten.length = es.length * k := by
          rw [flatten_len hlen']; simp [hp1]
        have hck : arr.size = cap' * k := by
          obtain ⟨ar2, T2, fr2, j1, j2⟩ := hsh
          rw [h2] at j1; cases j1
          omega
        have harr : es.length * k ≤ arr.size := by
          rw [hck]; exact Nat.mul_le_mul_right k hle
        refine ⟨by simpa using hφ, hlen', _, (flatK enc k d').toList, (putCells id 0 (flatK enc k d') arr).toList.drop (es.length * k), g2 _ _ _ h2, ?_, ?_⟩
        · apply List.ext_getElem?
          intro i
          by_cases hi : i < es.length * k
          · rw [List.getElem?_append_left (by simp [hp1]; exact hi)]
            have hia : i < arr.size := by omega
            simp [putCells, Array.getElem?_mapIdx, hia, hp1, hi]
          · rw [List.getElem?_append_right (by simp [hp1]; omega), List.getElem?_drop]
            congr 1
            simp [hp1]; omega
        · refine VRs.of_get (by rw [hfl']; simp [hp1]) (fun t x a hx ha => ?_)
          have ht : t < es.length * k := by have := (List.getElem?_eq_some_iff.1 hx).1; simpa [hp1] using this
          have hk0 : 0 < k := by
            rcases Nat.eq_zero_or_pos k with h | h
            · subst h; simp at ht
            · exact h
          have hdiv : t / k < d'.size := by rw [hp1]; exact Nat.div_lt_of_lt_mul (by rw [Nat.mul_comm]; exact ht)
          have hmod := Nat.mod_lt t hk0
          have hdm : t / k * k + t % k = t := by rw [Nat.mul_comm]; exact Nat.div_add_mod t k
          have hfx : x = (enc d'[t / k])[t % k]'(by rw [henk]; exact hmod) := by
            have h5 : (flatK enc k d')[t]! = x := by
              rw [getElem!_pos _ _ (by simp [hp1]; exact ht)]
              simpa [hp1, ht] using hx
            rw [get_flatK _ _ _ _ (by rw [hp1]; exact ht), getElem!_pos d' _ hdiv, getElem!_pos (enc d'[t / k]) _ (by rw [henk]; exact hmod)] at h5
            exact h5.symm
          have hea := hel2 (t / k) hdiv
          have hle2 : t % k < (es[d'[t / k]]'(hd'lt _ hdiv)).length := by rw [h0 _ (List.getElem_mem _)]; exact hmod
          have h6 := flatten_get hlen' (t / k) (t % k) _ _ hea (List.getElem?_eq_getElem hle2)
          rw [hdm, ha] at h6
          cases h6
          have h7 := hvr (h4.mono m1 m2) d'[t / k]
          simp only [hcli _ (hd'lt _ hdiv)] at h7
          subst hfx
          exact h7.get' (t % k) _ _ (List.getElem?_eq_getElem _) (List.getElem?_eq_getElem _)
      · rename_i hne
        exact (hr.obj d o hd).keep (g1 d (hr.lt hd) hne) rfl m1 m2
    · rw [AHeap.get_put] at hd
      split at hd
      · rename_i e; subst e; left; rw [hb]; simp
      · exact .inl hd

theorem ACall_sortAt {f g k e : Nat} {cap : List AV} {es : List (List AV)} {a : AV} {H0 L : AHeap} {c : Nat → Nat → Int} {mk : List Value → Value} {mkA : List AV → AV} (hs : SortsAt X.P f k mk) (hcan : canEnter X.P f = true) (hcang : canEnter X.P g = true)
    (hmk : ∀ F S (vs : List Value) (bs : List AV), bs.length = k → VRs F S vs bs → VR F S (mk vs) (mkA bs))
    (hE : Ext H0 L) (hr : RowAt e k H0 L es a) (hlt : es.length < 4611686018427387904) (hone : ∀ x ∈ es, x.all AV.one = true) (hO : Swo es.length c)
    (hcmp : ∀ (i j : Nat) (x y : List AV), es[i]? = some x → es[j]? = some y → ∀ K : AV → AHeap → Prop, K (.v (.int .i64 (c i j))) AHeap.nil → ACall X g ([mkA x, mkA y] ++ cap) AHeap.nil K)
    (h : ∀ (p : List Nat) (L' : AHeap), p.Perm (List.range es.length) → (∀ i j a d : Nat, i < j → p[i]? = some a → p[j]? = some d → ¬ c d a < 0) → RowAt e k H0 L' (p.map fun i => es.getD i []) a → Ext H0 L' → Keeps e L L' → K (.tup []) L') :
    ACall X f [a, .fn (.func g) [] cap] L K := by
  rcases hr with ⟨rfl, rfl⟩ | ⟨b, h1, rfl, h3⟩
  · refine ⟨hcan, fun w φ xs hr hx => ?_⟩
    cases hx with
    | cons hx1 hx2 =>
    rename_i x1 xs1
    cases hx2 with
    | cons hx2 hx3 =>
    rename_i x2 xs2
    cases hx3
    have hv : ∃ p cap, x1 = .slice p 0 cap := by
      cases hx1 with
      | slnil => exact ⟨_, _, rfl⟩
      | sl h1 h2 h3 => exact ⟨_, _, rfl⟩
    obtain ⟨p, cp, rfl⟩ := hv
    refine (hs.1 p cp x2 w).mono fun e' w' ⟨he, hw⟩ => ?_
    subst he hw
    exact ⟨_, .tup [], L, φ, rfl, .tup .nil, h [] L (by simp) (by simp) (.inl ⟨rfl, rfl⟩) hE (Keeps.refl _ _), Out.refl hr⟩
  · refine ACall_sort hs hcan hcang hmk h3 rfl hlt hone hO hcmp (fun p hp hsd => ?_)
    have hlen : p.length = es.length := by have := hp.length_eq; simpa using this
    refine h p _ hp hsd (.inr ⟨b, h1, ?_, AHeap.get_put_same _ _ _⟩) (hE.over h1) (fun c' o hc' ho => ?_)
    · simp [hlen]
    · rw [AHeap.get_put, if_neg]
      · exact hc'
      · rintro rfl; rw [h3] at hc'; cases hc'; exact ho _ _ _ rfl

/-- what the library's contract of slices.Sort says, elements being one cell -/
def SortsOrd {α : Type} [Inhabited α] (P : Program) (f : Nat) (enc : α → Value) (sf : List α → List α) : Prop :=
  (∀ (p : Option Addr) (cap : Nat) (w : World), Calls P f #[.slice p 0 cap] w fun e w' => e = .returned (.tuple #[]) ∧ w' = w) ∧
  ∀ (blk cap : Nat) (ss : List α) (w : World) (hH : Holds enc w blk 0 ss.toArray) (hblk : blk < w.heap.size) (hsz : ss.length < 4611686018427387904),
    Calls P f #[.slice (some ⟨blk, 0, none⟩) ss.length cap] w fun e w' => e = .returned (.tuple #[]) ∧ ∃ n os, w' = grow (putRow enc (Sort.ahead w n) blk 0 (sf ss).toArray) os

theorem flat1 {α : Type} (av : α → AV) : ∀ l : List α, (l.map fun x => [av x]).flatten = l.map av
  | [] => rfl
  | x :: l => by simp only [List.map_cons, List.flatten_cons, flat1 av l]; rfl
theorem vrs_enc {α : Type} {enc : α → Value} {av : α → AV} {F : Addr → Value → Prop} {S : Nat → Nat → Prop} (hav : ∀ x, VR F S (enc x) (av x)) : ∀ l : List α, VRs F S (l.map enc) (l.map av)
  | [] => .nil
  | x :: l => .cons (hav x) (vrs_enc hav l)
theorem ACall_ord {α : Type} [Inhabited α] {f e : Nat} {enc : α → Value} {av : α → AV} {sf : List α → List α} {ss : List α} {a : AV} {H0 L : AHeap} (hs : SortsOrd X.P f enc sf) (hcan : canEnter X.P f = true)
    (hav : ∀ F S x, VR F S (enc x) (av x)) (hinv : ∀ F S v x, VR F S v (av x) → v = enc x) (hsf : (sf ss).length = ss.length)
    (hE : Ext H0 L) (hr : RowAt e 1 H0 L (ss.map fun x => [av x]) a) (hlt : ss.length < 4611686018427387904)
    (h : ∀ L', RowAt e 1 H0 L' ((sf ss).map fun x => [av x]) a → Ext H0 L' → Keeps e L L' → K (.tup []) L') : ACall X f [a] L K := by
  rcases hr with ⟨rfl, h0⟩ | ⟨b, h1, rfl, h3⟩
  · have hss : ss = [] := by simpa using h0
    subst hss
    have hnil : sf [] = [] := List.length_eq_zero_iff.1 (by simpa using hsf)
    refine ⟨hcan, fun w φ xs hr hx => ?_⟩
    cases hx with
    | cons hx1 hx2 =>
    rename_i x1 xs1
    cases hx2
    have hv : ∃ p cap, x1 = .slice p 0 cap := by
      cases hx1 with
      | slnil => exact ⟨_, _, rfl⟩
      | sl h1 h2 h3 => exact ⟨_, _, rfl⟩
    obtain ⟨p, cp, rfl⟩ := hv
    refine (hs.1 p cp w).mono fun e' w' ⟨he, hw⟩ => ?_
    subst he hw
    exact ⟨_, .tup [], L, φ, rfl, .tup .nil, h L (by rw [hnil]; exact .inl ⟨rfl, rfl⟩) hE (Keeps.refl _ _), Out.refl hr⟩
  · refine ⟨hcan, fun w φ xs hr hx => ?_⟩
    cases hx with
    | cons hx1 hx2 =>
    rename_i x1 xs1
    cases hx2
    cases hx1 with
    | row hsh hsize hle =>
    rename_i cap size
    rw [List.length_map] at hle ⊢
    obtain ⟨k1, k0, arr, vs, rest, k2, k3, k4⟩ := hr.obj b _ h3
    have hφ : φ b = 0 := by simpa using k1
    have hblk : b < w.heap.size := (Array.getElem?_eq_some_iff.1 k2).1
    have hfl := flat1 av ss
    rw [hfl] at k4
    have hvl : vs.length = ss.length := by rw [k4.len, List.length_map]
    have hvi : ∀ i (hi : i < ss.length), vs[i]? = some (enc ss[i]) := fun i hi => by
      obtain ⟨v, g1, g2⟩ := k4.get i (av ss[i]) (by simp [hi])
      rw [g1, hinv _ _ _ _ g2]
    have hH : Holds enc w b 0 ss.toArray := fun j hj => by
      have hj' : j < ss.length := by simpa using hj
      refine ⟨?_, by simp [World.frozen?, k2]⟩
      have : arr.toList[j]? = some (enc ss[j]) := by rw [k3, List.getElem?_append_left (by omega), hvi j hj']
      rw [getElem!_pos ss.toArray j hj]
      simp only [World.cell?, k2, Nat.zero_add]
      simpa using this
    have mono : ∀ m (d : Array α) os, (∀ c, c < w.heap.size → c ≠ b → (grow (putRow enc (Sort.ahead w m) b 0 d) os).heap[c]? = w.heap[c]?) ∧ (grow (putRow enc (Sort.ahead w m) b 0 d) os).heap[b]? = some (.cells (putCells enc 0 d arr) e (0, 0)) := fun m d os => by
      have hsz : (putRow enc (Sort.ahead w m) b 0 d).heap.size = w.heap.size := by simp [putRow, mapBlock, Sort.ahead]
      refine ⟨fun c hc hne => ?_, ?_⟩
      · unfold grow
        simp only
        rw [Array.getElem?_append_left (by rw [hsz]; exact hc)]
        simp only [putRow, mapBlock, Sort.ahead]
        rw [Array.getElem?_modify, if_neg (Ne.symm hne)]
      · unfold grow
        simp only
        rw [Array.getElem?_append_left (by rw [hsz]; exact hblk)]
        simp only [putRow, mapBlock, Sort.ahead]
        rw [Array.getElem?_modify, if_pos rfl, k2]
        rfl
    refine (hs.2 b cap ss w hH hblk hlt).mono ?_
    rintro e' w' ⟨rfl, m, os, rfl⟩
    obtain ⟨g1, g2⟩ := mono m (sf ss).toArray os
    have hsw : w.heap.size ≤ (grow (putRow enc (Sort.ahead w m) b 0 (sf ss).toArray) os).heap.size := by simp [putRow, mapBlock, Sort.ahead, grow]
    have m1 : ∀ ad u, Fz w φ ad u → Fz (grow (putRow enc (Sort.ahead w m) b 0 (sf ss).toArray) os) φ ad u := fun ad u ⟨k1, k2⟩ => ⟨by
      have hne : ad.block ≠ b := fun e => by rw [e, hφ] at k2; exact absurd k2 (Nat.not_lt_zero _)
      have hl := World.block_lt_of_cell? w ad k1
      rw [World.cell?_of_block (w := w) (g1 _ hl hne)]
      exact k1, k2⟩
    have m2 : ∀ d n, Sh w d n → Sh (grow (putRow enc (Sort.ahead w m) b 0 (sf ss).toArray) os) d n := fun d n ⟨ar, T, fr, j1, j2⟩ => by
      have hl := (Array.getElem?_eq_some_iff.1 j1).1
      by_cases hne : d = b
      · subst hne
        rw [k2] at j1; cases j1
        exact ⟨_, _, _, g2, by simp [putCells, j2]⟩
      · exact ⟨ar, T, fr, by rw [g1 _ hl hne]; exact j1, j2⟩
    have hEb := hE.over h1 (o := .row e 1 false ((sf ss).map fun x => [av x]))
    refine ⟨_, .tup [], L.put b (.row e 1 false ((sf ss).map fun x => [av x])), φ, rfl, .tup .nil, h _ (.inr ⟨b, h1, by simp [hsf], AHeap.get_put_same _ _ _⟩) hEb (fun c' o hc' ho => ?_), ?_⟩
    · rw [AHeap.get_put, if_neg]
      · exact hc'
      · rintro rfl; rw [h3] at hc'; cases hc'; exact ho _ _ _ rfl
    · have hck : arr.size = cap := by
        obtain ⟨ar2, T2, fr2, j1, j2⟩ := hsh
        rw [k2] at j1; cases j1
        omega
      refine ⟨⟨rfl, rfl, rfl, hsw, m1, m2, fun d hd hdn => ⟨g1 d hd (fun e => by rw [e, h3] at hdn; cases hdn), rfl⟩, ?_⟩, ⟨fun d o hd => ?_, fun d hd => hr.lim d (Nat.le_trans hsw hd), X.mono _ _ m1 hr.env⟩, fun d hd => ?_⟩
      · show w.drawn ≤ w.drawn + m
        omega
      · rw [AHeap.get_put] at hd
        split at hd
        · rename_i hdb; subst hdb; cases hd
          refine ⟨by simpa using hφ, fun x hx => by obtain ⟨y, _, rfl⟩ := List.mem_map.1 hx; rfl, _, (sf ss).map enc, (putCells enc 0 (sf ss).toArray arr).toList.drop ss.length, g2, ?_, ?_⟩
          · apply List.ext_getElem?
            intro i
            by_cases hi : i < ss.length
            · rw [List.getElem?_append_left (by simp [hsf]; exact hi)]
              have hia : i < arr.size := by omega
              have hi2 : i < (sf ss).length := by omega
              simp [putCells, Array.getElem?_mapIdx, hia, hi2]
            · rw [List.getElem?_append_right (by simp [hsf]; omega), List.getElem?_drop]
              congr 1
              simp [hsf]; omega
          · rw [flat1 av]; exact vrs_enc (fun x => hav _ _ x) _
        · rename_i hne
          exact (hr.obj d o hd).keep (g1 d (hr.lt hd) hne) rfl m1 m2
      · rw [AHeap.get_put] at hd
        split at hd
        · rename_i e; subst e; left; rw [h3]; simp
        · exact .inl hd
end
end Go.AL
