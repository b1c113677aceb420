/-
  A small logic of abstract values and owned memory over the given model, part 3. No statement of the program.
-/
import Derived.Test.YtcpfgjfiacfmoaaGreatDoorPAL2
import Derived.RangeFuncRecord
/-
  AL, part zg: JSON values (five cells: kind, number, text, keys, values).
-/
set_option linter.unusedSimpArgs false
set_option linter.unusedVariables false
namespace Go.AL
open Go

def strCells (l : List UInt8) : List AV := [.s l]

inductive J where
  | mk (kind : Int) (int : Int) (text : List UInt8) (keys : List (List UInt8)) (list : List J)
def J.kind : J → Int
  | .mk k _ _ _ _ => k
def J.int : J → Int
  | .mk _ n _ _ _ => n
def J.text : J → List UInt8
  | .mk _ _ t _ _ => t
def J.keys : J → List (List UInt8)
  | .mk _ _ _ ks _ => ks
def J.list : J → List J
  | .mk _ _ _ _ l => l
mutual
def J.cells : J → List AV
  | .mk k n t ks l => [.v (.int .i64 k), .v (.int .i64 n), .s t, .sl false (ks.map strCells), .sl false (J.cellss l)]
def J.cellss : List J → List (List AV)
  | [] => []
  | j :: l => J.cells j :: J.cellss l
end
theorem J.cellss_eq : ∀ l : List J, J.cellss l = l.map J.cells
  | [] => rfl
  | j :: l => by simp only [J.cellss, List.map_cons, J.cellss_eq l]
theorem J.cells_eq (j : J) : j.cells = [.v (.int .i64 j.kind), .v (.int .i64 j.int), .s j.text, .sl false (j.keys.map strCells), .sl false (j.list.map J.cells)] := by
  cases j; simp only [J.cells, J.cellss_eq, J.kind, J.int, J.text, J.keys, J.list]
theorem J.one (j : J) : j.cells.length = 5 ∧ j.cells.all AV.one = true := by
  rw [J.cells_eq]; exact ⟨rfl, rfl⟩
theorem str_one (a : List UInt8) : (strCells a).length = 1 ∧ (strCells a).all AV.one = true := ⟨rfl, rfl⟩
theorem loosen_strs (l : List (List UInt8)) : AV.loosenss (l.map strCells) = l.map strCells := loosenss_map (fun _ => rfl) l
mutual
theorem J.loosen : ∀ j : J, AV.loosens j.cells = j.cells
  | .mk k n t ks l => by
    simp only [J.cells, AV.loosens, AV.loosen, loosen_strs, J.loosens l]
theorem J.loosens : ∀ l : List J, AV.loosenss (J.cellss l) = J.cellss l
  | [] => rfl
  | j :: l => by simp only [J.cellss, AV.loosenss, J.loosen j, J.loosens l]
end
theorem J.loosenss (l : List J) : AV.loosenss (l.map J.cells) = l.map J.cells := loosenss_map J.loosen l
theorem snap_strs (b sz : Nat) (es : List (List AV)) (l : List (List UInt8)) : AV.snapss b sz es (l.map strCells) = l.map strCells := snapss_map (fun _ => rfl) l
mutual
theorem J.snap (b sz : Nat) (es : List (List AV)) : ∀ j : J, AV.snaps b sz es j.cells = j.cells
  | .mk k n t ks l => by
    simp only [J.cells, AV.snaps, AV.snap, snap_strs, J.snaps b sz es l]
theorem J.snaps (b sz : Nat) (es : List (List AV)) : ∀ l : List J, AV.snapss b sz es (J.cellss l) = J.cellss l
  | [] => rfl
  | j :: l => by simp only [J.cellss, AV.snapss, J.snap b sz es j, J.snaps b sz es l]
end
theorem J.snapss (b sz : Nat) (es : List (List AV)) (l : List J) : AV.snapss b sz es (l.map J.cells) = l.map J.cells := snapss_map (J.snap b sz es) l

mutual
def J.Ok : J → Prop
  | .mk k n t ks l => (-9223372036854775808 ≤ k ∧ k < 9223372036854775808) ∧ (-9223372036854775808 ≤ n ∧ n < 9223372036854775808) ∧ t.length ≤ reachBytes ∧ (ks.length * 16 ≤ reachBytes ∧ ∀ x ∈ ks, x.length ≤ reachBytes) ∧ l.length ≤ reachBytes ∧ J.Oks l
def J.Oks : List J → Prop
  | [] => True
  | j :: l => J.Ok j ∧ J.Oks l
end
theorem J.oks_iff : ∀ {l : List J}, J.Oks l ↔ ∀ j ∈ l, J.Ok j
  | [] => by simp [J.Oks]
  | j :: l => by simp [J.Oks, J.oks_iff (l := l)]

theorem o_json {H : Type} {enc : TypeId × Value → H} {P : Program} {w : World} {T tk ti ts tks tl : TypeId} {f0 f1 f2 f3 f4 : Field} (hT : P.underlying T = some (.struct #[f0, f1, f2, f3, f4]))
    (e0 : f0.type = tk ∧ f0.offset = 0) (e1 : f1.type = ti ∧ f1.offset = 1) (e2 : f2.type = ts ∧ f2.offset = 2) (e3 : f3.type = tks ∧ f3.offset = 3) (e4 : f4.type = tl ∧ f4.offset = 4)
    (h0 : P.underlying tk = some (.int .i64) ∧ P.cellsOf tk = 1) (h1 : P.underlying ti = some (.int .i64) ∧ P.cellsOf ti = 1) (h2 : P.underlying ts = some .string ∧ P.cellsOf ts = 1 ∧ P.bytesOf ts = 16)
    (h3 : P.underlying tks = some (.slice ts) ∧ P.cellsOf tks = 1) (h4 : P.underlying tl = some (.slice T) ∧ P.cellsOf tl = 1) (h5 : P.cellsOf T = 5) (h6 : 0 < P.bytesOf T) :
    ∀ n, OpensL enc P w n T fun xs => ∃ j : J, xs = j.cells ∧ j.Ok := fun n => by
  induction n using Nat.strongRecOn with
  | ind n ih =>
    match n, ih with
    | 0, _ => exact OpensL.zero
    | n + 1, ih =>
      have hkeys : OpensL enc P w n tks fun xs => ∃ ks : List (List UInt8), xs = [.sl false (ks.map strCells)] ∧ ks.length * 16 ≤ reachBytes ∧ ∀ x ∈ ks, x.length ≤ reachBytes := by
        match n with
        | 0 => exact OpensL.zero
        | n + 1 => exact (o_list (c := strCells) (p := fun l => l.length ≤ reachBytes) h3.1 h3.2 (o_str h2.1 h2.2.1 n)).mono fun xs ⟨l, k1, k2, _, k4⟩ => ⟨l, k1, by rw [h2.2.2] at k2; exact k2, k4⟩
      have hlist : OpensL enc P w n tl fun xs => ∃ l : List J, xs = [.sl false (l.map J.cells)] ∧ l.length ≤ reachBytes ∧ ∀ x ∈ l, J.Ok x := by
        match n, ih with
        | 0, _ => exact OpensL.zero
        | n + 1, ih => exact (o_list (c := J.cells) (p := J.Ok) h4.1 h4.2 (ih n (by omega))).mono fun xs ⟨l, k1, k2, _, k4⟩ => ⟨l, k1, Nat.le_trans (Nat.le_mul_of_pos_right _ h6) k2, k4⟩
      have g0 := o_i64 (enc := enc) (w := w) h0.1 h0.2 n
      have g1 := o_i64 (enc := enc) (w := w) h1.1 h1.2 n
      have g2 := o_str (enc := enc) (w := w) h2.1 h2.2.1 n
      rw [← e0.1] at g0
      rw [← e1.1] at g1
      rw [← e2.1] at g2
      rw [← e3.1] at hkeys
      rw [← e4.1] at hlist
      refine (o_struct hT (.cons e0.2 g0 (.cons (by rw [e1.2, e0.1, h0.2]) g1 (.cons (by rw [e2.2, e0.1, h0.2, e1.1, h1.2]) g2 (.cons (by rw [e3.2, e0.1, h0.2, e1.1, h1.2, e2.1, h2.2.1]) hkeys (.cons (by rw [e4.2, e0.1, h0.2, e1.1, h1.2, e2.1, h2.2.1, e3.1, h3.2]) hlist .nil)))))
        (by simp [h5, e0.1, e1.1, e2.1, e3.1, e4.1, h0.2, h1.2, h2.2.1, h3.2, h4.2])).mono fun xs h => ?_
      obtain ⟨x0, y0, rfl, ⟨k, rfl, a1⟩, p1⟩ := h.head
      obtain ⟨x1, y1, rfl, ⟨i, rfl, a2⟩, p2⟩ := p1.head
      obtain ⟨x2, y2, rfl, ⟨t, rfl, a3⟩, p3⟩ := p2.head
      obtain ⟨x3, y3, rfl, ⟨ks, rfl, a4⟩, p4⟩ := p3.head
      obtain ⟨x4, y4, rfl, ⟨l, rfl, a5, a6⟩, p5⟩ := p4.head
      rw [p5.done]
      refine ⟨.mk k i t ks l, ?_, ?_⟩
      · simp only [J.cells, J.cellss_eq]; rfl
      · simp only [J.Ok]; exact ⟨a1, a2, a3, a4, a5, J.oks_iff.2 a6⟩

mutual
def J.same : J → J → Bool
  | .mk k n t ks l, .mk k' n' t' ks' l' => decide (k = k') && decide (n = n') && decide (t = t') && decide (ks = ks') && J.sames l l'
def J.sames : List J → List J → Bool
  | [], [] => true
  | j :: l, j' :: l' => J.same j j' && J.sames l l'
  | _, _ => false
end
mutual
def J.Len : J → Prop
  | .mk _ _ _ ks l => ks.length ≤ 4611686018427387904 ∧ l.length ≤ 4611686018427387904 ∧ J.Lens l
def J.Lens : List J → Prop
  | [] => True
  | j :: l => J.Len j ∧ J.Lens l
end
theorem J.lens_iff : ∀ {l : List J}, J.Lens l ↔ ∀ j ∈ l, J.Len j
  | [] => by simp [J.Lens]
  | j :: l => by simp [J.Lens, J.lens_iff (l := l)]
theorem J.len_eq {j : J} : j.Len ↔ j.keys.length ≤ 4611686018427387904 ∧ j.list.length ≤ 4611686018427387904 ∧ ∀ x ∈ j.list, x.Len := by
  cases j; simp only [J.Len, J.keys, J.list, J.lens_iff]
mutual
def J.size : J → Nat
  | .mk _ _ _ _ l => J.sizes l + 1
def J.sizes : List J → Nat
  | [] => 0
  | j :: l => J.size j + J.sizes l
end
theorem J.size_mem : ∀ {l : List J} {j : J}, j ∈ l → j.size ≤ J.sizes l
  | a :: l, j, h => by
    simp only [J.sizes]
    rcases List.mem_cons.1 h with rfl | h
    · omega
    · have := J.size_mem h; omega
theorem J.size_list {j x : J} (h : x ∈ j.list) : x.size < j.size := by
  cases j with
  | mk k n t ks l =>
    have := J.size_mem (l := l) h
    simp only [J.size]; omega
theorem s_gno {X : Ctx} {N : NR} {d j : Nat} {H : AHeap} {fr fr2 : AFr} {ops : Array Oper} {rest : List Oper} {K : AFr → AHeap → Prop} {ty : TypeId} {pos : String} {aft : Array Edge} {op : Op} {gv : AV} {ds : List Bool} {want : Bool} (av0 : AV) (hd : d < N.n) (hs : spec op = false) (hgv : guardV ops fr j = gv) (hg : gcond want gv = some false)
    (hw : whnConds fr op.operands.toList = ds) (e2 : setG ops j want false fr = fr2) (hc : condsOk false ds) (k : SOps X N ops rest K ((d, .whn false av0) :: fr2) H) : SOps X N ops (⟨some d, op, ty, pos, aft, some (j, want)⟩ :: rest) K fr H :=
  s_guard hd hs hgv hg hw rfl e2 hc (fun h => by cases h) (fun _ => s_weaken k (fun F S x hx t => by
    have := hx t
    simp only [AFr.get] at this ⊢
    split
    · rename_i e; rw [if_pos e] at this; generalize x t = y at this ⊢; cases this; exact .whnF _
    · rename_i e; rw [if_neg e] at this; exact this) (fun _ _ h => h))
end Go.AL

/-
  AL, part zh: ranges over functions: the statement, and its rounds.
-/
set_option linter.unusedSimpArgs false
set_option linter.unusedVariables false
namespace Go.AL
open Go

def putAll : List Tmp → List AV → AFr → AFr
  | p :: ps, a :: as, fr => putAll ps as ((p, a) :: fr)
  | _, _, fr => fr

def ARound (l sz : Nat) (fr : AFr) (ps : Array Tmp) (assign body : Code) (K : AV → AHeap → Prop) : Exit → AFr → AHeap → Prop
  | .normal, _, H => H.get l = some (.loop sz fr ps assign body .busy none) ∧ K (.v (.bool true)) (H.put l (.loop sz fr ps assign body .ready none))
  | .ret, _, H => H.get l = some (.loop sz fr ps assign body .busy none) ∧ K (.v (.bool false)) (H.put l (.loop sz fr ps assign body .done (some .ret)))
  | .exit id, _, H => H.get l = some (.loop sz fr ps assign body .busy none) ∧ K (.v (.bool false)) (H.put l (.loop sz fr ps assign body .done (some (.exit id))))
  | _, _, _ => False

section
variable {X : Ctx} {H : AHeap} {w : World} {φ : Nat → Nat} {K : AV → AHeap → Prop}

theorem putAll_ok {N : NR} {ds : List Deferred} : ∀ {ps : List Tmp} {as : List AV} {xs : List Value} {tmps : Array Value} {fr : AFr}, (∀ p ∈ ps, p < N.n) → VRs (Fz w φ) (Sh w) xs as → xs.length = ps.length → FR w φ N ⟨tmps, ds⟩ fr →
    FR w φ N ⟨(ps.zip xs).foldl (fun t (p : Tmp × Value) => t.setIfInBounds p.1 p.2) tmps, ds⟩ (putAll ps as fr)
  | [], _, _, _, _, _, hx, _, hf => by cases hx <;> exact hf
  | p :: ps, as, [], _, _, _, _, hl, _ => by simp at hl
  | p :: ps, a :: as, x :: xs, tmps, fr, hp, .cons h hs, hl, hf => by
    simp only [List.zip_cons_cons, List.foldl_cons, putAll]
    exact putAll_ok (fun q hq => hp q (by simp [hq])) hs (by simpa using hl) (hf.put (a := ⟨tmps, ds⟩) (hp p (by simp)) h)

theorem AYield_intro {l sz : Nat} {fr : AFr} {ps : Array Tmp} {assign body : Code} {args : List AV} (hl : H.get l = some (.loop sz fr ps assign body .ready none)) (hn : args.length = ps.size) (hps : ∀ p ∈ ps.toList, p < sz)
    (h : AWp X ⟨sz, some l⟩ assign (AThen (fun fr1 H1 => H1.get l = some (.loop sz fr ps assign body .ready none) ∧
      AWp X ⟨sz, some l⟩ body (ARound l sz fr ps assign body K) fr1 (H1.put l (.loop sz fr ps assign body .busy none))) (fun _ _ _ => False)) (putAll ps.toList args fr) H) : AYield X l args H K := by
  intro w φ xs hr hx
  obtain ⟨g1, tmps, fn, D, g2, g3, g4⟩ := hr.obj l _ hl
  have hxl := hx.len
  have hy := run_yield (P := X.P) (args := ⟨xs⟩) g2 (by simpa using hxl.trans hn)
  refine ⟨fn, _, assign, body, hy, roundIn_of_wpIn (F := Fence.wide) trivial ?_⟩
  have hf0 : FR w φ ⟨sz, some l⟩ ⟨tmps, []⟩ fr := ⟨g3, g4⟩
  have hfr : FR w φ ⟨sz, some l⟩ { tmps := ((ps.zip ⟨xs⟩).foldl (fun t (p : Tmp × Value) => t.setIfInBounds p.1 p.2) tmps), defers := [] } (putAll ps.toList args fr) := by
    have := putAll_ok (N := ⟨sz, some l⟩) (w := w) (φ := φ) (ds := []) (ps := ps.toList) (as := args) (xs := xs) (tmps := tmps) (fr := fr) hps hx (by simpa using hxl.trans hn) hf0
    have e : (ps.zip (⟨xs⟩ : Array Value)).foldl (fun t (p : Tmp × Value) => t.setIfInBounds p.1 p.2) tmps = (ps.toList.zip xs).foldl (fun t (p : Tmp × Value) => t.setIfInBounds p.1 p.2) tmps := by
      rw [← Array.foldl_toList, Array.toList_zip]
    rw [e]; exact this
  refine wpIn_mono (h _ w φ H w φ hfr Dfr.nil hr (Out.refl hr)) ?_
  rintro e a1 w1 ⟨fr1, H1, φ1, hq, hf1, hd1, ho1⟩
  cases e with
  | normal =>
    obtain ⟨hl1, hbody⟩ := hq
    obtain ⟨k1, tm1, fn1, D1, k2, k3, k4⟩ := ho1.rel.obj l _ hl1
    have hb := run_beginRound (P := X.P) k2 rfl
    have hlt : l < w1.heap.size := (Array.getElem?_eq_some_iff.1 k2).1
    have o2 := nc_out (o' := .loop { state := .busy, pending := none, fn := fn1, tmps := tm1, params := ps, assign, body, defers := D1 }) (a' := .loop sz fr ps assign body .busy none) ho1.rel hl1 k2 rfl (fun hst => ⟨k1, tm1, fn1, D1, blk_same _ hlt, k3, fun t => hst.vr (k4 t)⟩)
    refine ⟨_, hb, wpIn_mono (hbody a1 _ φ1 H w φ (hf1.out o2) (hd1.out o2) o2.rel (ho1.trans o2)) ?_⟩
    rintro e a2 w2 ⟨fr2, H2, φ2, hq2, hf2, hd2, ho2⟩
    have fin : ∀ (jump : Option Code), H2.get l = some (.loop sz fr ps assign body .busy none) → K (.v (.bool jump.isNone)) (H2.put l (.loop sz fr ps assign body (if jump.isNone then .ready else .done) jump)) →
        ∃ v w', (Instr.endRound l jump).run X.P w2 = .ok v w' ∧ ∃ v' av H' φ', Ending.returned v = .returned v' ∧ VR (Fz w' φ') (Sh w') v' av ∧ K av H' ∧ Out X H w φ H' w' φ' := fun jump hg hk => by
      obtain ⟨k1, tm1, fn1, D1, k2, k3, k4⟩ := ho2.rel.obj l _ hg
      have hlt : l < w2.heap.size := (Array.getElem?_eq_some_iff.1 k2).1
      have he := run_endRound (P := X.P) jump k2
      have o3 := nc_out (o' := .loop { state := if jump.isNone then .ready else .done, pending := jump, fn := fn1, tmps := tm1, params := ps, assign, body, defers := D1 }) (a' := .loop sz fr ps assign body (if jump.isNone then .ready else .done) jump) ho2.rel hg k2 rfl (fun hst => ⟨k1, tm1, fn1, D1, blk_same _ hlt, k3, fun t => hst.vr (k4 t)⟩)
      exact ⟨_, _, he, _, _, _, φ2, rfl, .v _, hk, ho2.trans o3⟩
    cases e with
    | normal => exact fin none hq2.1 hq2.2
    | ret => exact fin (some .ret) hq2.1 hq2.2
    | exit id => exact fin (some (.exit id)) hq2.1 hq2.2
    | goto t => exact hq2.elim
    | panic ch => exact hq2.elim
    | outgrown => exact hq2.elim
  | ret => exact hq.elim
  | exit id => exact hq.elim
  | goto t => exact hq.elim
  | panic ch => exact hq.elim
  | outgrown => exact hq.elim

theorem AWp_rangeFunc {n gf : Nat} {g : Operand} {first cap : List AV} {ps : Array Tmp} {assign body : Code} {Q : Exit → AFr → AHeap → Prop} {fr : AFr} (hg : fr.ev g = .fn (.func gf) first cap)
    (h : ∀ l, H.get l = none → ACall X gf (first ++ [.fn (.yield l) [] []] ++ cap) (H.put l (.loop n fr ps assign body .ready none)) (fun _ H' => ∃ fr' st pe, H'.get l = some (.loop n fr' ps assign body st pe) ∧ st ≠ .busy ∧
      match pe with | none => Q .normal fr (H'.del l) | some c => AWp X ⟨n, none⟩ c Q fr (H'.del l))) : AWp X ⟨n, none⟩ (.rangeFunc g ps assign body) Q fr H := by
  intro a w φ H0 w0 φ0 hf hd hr ho
  refine wpIn_rangeFunc fun fn _ => ?_
  have hD : H.get w.heap.size = none := hr.none (Nat.le_refl _)
  have o1 := alloc_out (.deferred (some [])) (φ' := φ) (fun _ _ => rfl) hr
  have hl : H.get (w.heap.size + 1) = none := hr.none (by omega)
  have hsz1 : (w.alloc (.deferred (some []))).heap.size = w.heap.size + 1 := by simp
  obtain ⟨L, hL⟩ : ∃ L : Loop, L = { state := .ready, pending := none, fn, tmps := a.tmps, params := ps, assign, body, defers := w.heap.size } := ⟨_, rfl⟩
  have o2 := alloc_own (.loop L) (.loop n fr ps assign body .ready none) (φ' := φ) (fun _ _ => rfl) o1.rel
    ⟨hr.lim _ (by simp), a.tmps, fn, w.heap.size, by rw [heap_new, hL], hf.size, fun t => by
      have h1 := o1.step.vr (hf.at_ t)
      exact (alloc_step (H := H) (φ' := φ) _ (fun _ _ => rfl) o1.rel.lim).vr h1⟩
  rw [hsz1] at o2
  have hen := run_enterLoop_outer (P := X.P) (w := w) fn a.tmps ps assign body
  rw [← hL] at hen
  have hdef : ((w.alloc (.deferred (some []))).alloc (.loop L)).heap[w.heap.size]? = some (.deferred (some [])) := by rw [heap_old _ (by simp), heap_new]
  have hsz2 : ((w.alloc (.deferred (some []))).alloc (.loop L)).heap.size = w.heap.size + 2 := by simp
  have o3 := o1.trans o2
  clear hL o1 o2
  generalize (w.alloc (.deferred (some []))).alloc (.loop L) = W1 at o3 hen hdef hsz2
  obtain ⟨hc, hcall⟩ := h _ hl
  have hgv := hf.ev g
  rw [hg] at hgv
  generalize hx : a.eval g = x at hgv
  cases hgv
  rename_i vs us hvs hus
  have hargs := ((o3.step.vrs hvs).append (VRs.cons (VR.fn (f := .yield (w.heap.size + 1)) VRs.nil VRs.nil) .nil)).append (o3.step.vrs hus)
  have hcl := hcall _ _ _ o3.rel hargs
  have hres : (resolve a.eval (rangeCall g (w.heap.size + 1)) 0).run X.P W1 = .ok { target := .fn (.func gf) ⟨us⟩, args := ⟨vs ++ [.func (.yield (w.heap.size + 1)) #[] #[]]⟩ } W1 := by
    have e1 : (Array.map a.eval #[.const (.func (.yield (w.heap.size + 1)) #[] #[])]) = #[.func (.yield (w.heap.size + 1)) #[] #[]] := by simp [Act.eval]
    simp only [resolve, rangeCall, hx, e1]
    simp [Deferred.ofValue]
  have hinv : (invoke (.fn (.func gf) ⟨us⟩) ⟨vs ++ [.func (.yield (w.heap.size + 1)) #[] #[]]⟩).run X.P W1 = .ok (.enter gf ⟨vs ++ [.func (.yield (w.heap.size + 1)) #[] #[]] ++ us⟩) W1 := by
    simp only [invoke, callFunc, Sem.run_bind, run_program, Result.andThen_ok]
    unfold canEnter at hc
    split at hc
    · rename_i fn' hfn
      simp only [Bool.and_eq_true, bne_iff_ne, ne_eq] at hc
      obtain ⟨hc1, hc2⟩ := hc
      have hbn : (fn'.name == "runtime.NumGoroutine") = false := by simpa using hc1
      have hbody : fn'.body.isNone = false := by cases hb : fn'.body <;> simp [hb] at hc2 ⊢
      simp only [hfn, hbn, hbody, Bool.false_eq_true, if_false, Sem.run_pure]
      congr 3
      simp
    · cases hc
  refine ⟨w.heap.size + 1, _, W1, _, W1, gf, _, W1, hen, hres, ?_, hinv, ?_, ?_⟩
  · intro _ _; trivial
  · intro h; exact absurd h (by simp [fen])
  refine callsIn_fen (hcl.mono ?_)
  · rintro e w' ⟨v, av, H', φ', rfl, _, ⟨fr', st, pe, hg', hst, hq⟩, ho'⟩
    obtain ⟨k1, tm1, fn1, D1, k2, k3, k4⟩ := ho'.rel.obj _ _ hg'
    have hlt : w.heap.size + 1 < w'.heap.size := (Array.getElem?_eq_some_iff.1 k2).1
    have he := run_endLoop (P := X.P) k2 (by simpa using hst)
    obtain ⟨L', hL'⟩ : ∃ L' : Loop, L' = { state := .exhausted, pending := pe, fn := fn1, tmps := tm1, params := ps, assign, body, defers := D1 } := ⟨_, rfl⟩
    have o4 := nc_out (o' := .loop L') (a' := .loop n fr' ps assign body .exhausted pe) ho'.rel hg' k2 rfl (fun hst => ⟨k1, tm1, fn1, D1, by rw [blk_same _ hlt, hL'], k3, fun t => hst.vr (k4 t)⟩)
    have he' : (Instr.endLoop (w.heap.size + 1)).run X.P w' = .ok pe (blk w' (w.heap.size + 1) (.loop L')) := by rw [he, hL']; rfl
    have hdw : (blk w' (w.heap.size + 1) (.loop L')).heap[w.heap.size]? = some (.deferred (some [])) := by
      rw [blk_other _ (by omega)]
      have hDn1 : (H.put (w.heap.size + 1) (.loop n fr ps assign body .ready none)).get w.heap.size = none := by rw [AHeap.get_put, if_neg (by omega)]; exact hD
      rw [(ho'.step.un w.heap.size (by omega) hDn1).1, hdef]
    clear hL' he k2 k3 k4
    have o5 := ((o3.trans ho').trans o4).forget (H2 := H'.del (w.heap.size + 1)) (fun b o hb => by
      rw [AHeap.get_del] at hb
      split at hb
      · cases hb
      · rename_i hne; rw [AHeap.get_put, if_neg hne]; exact hb)
    clear o4
    generalize blk w' (w.heap.size + 1) (.loop L') = W3 at o5 he' hdw
    have hfr : FR W3 φ' ⟨n, none⟩ { a with defers := [{ target := .collected w.heap.size, args := #[] }] ++ a.defers } fr := ⟨hf.size, (hf.out o5).at_⟩
    have hDn : H'.get w.heap.size = none := by
      cases e : H'.get w.heap.size with
      | none => rfl
      | some o =>
        rcases ho'.dom w.heap.size (by rw [e]; simp) with h1 | h1
        · rw [AHeap.get_put] at h1
          split at h1
          · omega
          · exact absurd hD h1
        · omega
    have hdf : Dfr w0 (H'.del (w.heap.size + 1)) W3 ({ target := .collected w.heap.size, args := #[] } :: a.defers) := by
      obtain ⟨Ds', f1, f2, f3⟩ := hd
      obtain ⟨Ds, e1, e2, e3⟩ := Dfr.out ⟨Ds', f1, f2, f3⟩ o5
      have hinj : Ds = Ds' := by
        rw [e1] at f1
        have : ∀ {l m : List Nat}, l.map (fun D => ({ target := .collected D, args := #[] } : Deferred)) = m.map (fun D => { target := .collected D, args := #[] }) → l = m := by
          intro l
          induction l with
          | nil => intro m h; cases m <;> simp at h ⊢
          | cons x l ih => intro m h; cases m with
            | nil => simp at h
            | cons y m => simp at h; rw [h.1]; congr 1; exact ih (by simpa using h.2)
        exact this f1
      refine ⟨w.heap.size :: Ds, by simp [e1], List.nodup_cons.2 ⟨fun hm => ?_, e2⟩, fun D hD' => ?_⟩
      · have := (Array.getElem?_eq_some_iff.1 (f3 _ (hinj ▸ hm)).2.1).1
        omega
      · rcases List.mem_cons.1 hD' with rfl | hD'
        · refine ⟨ho.step.size, hdw, ?_⟩
          rw [AHeap.get_del]; split
          · rfl
          · exact hDn
        · exact e3 D hD'
    refine ⟨pe, _, he', ?_⟩
    cases pe with
    | none => exact ⟨fr, _, φ', hq, hfr, hdf, ho.trans o5⟩
    | some c => exact hq _ _ φ' H0 w0 φ0 hfr hdf o5.rel (ho.trans o5)
end
end Go.AL

/-
  AL, part zi: small helpers of contracts.
-/
set_option linter.unusedSimpArgs false
set_option linter.unusedVariables false
namespace Go.AL
open Go

theorem wrap64 {x : Int} (h : -9223372036854775808 ≤ x ∧ x < 9223372036854775808) : IntKind.i64.wrap x = x := by
  simp [IntKind.wrap, IntKind.signed, IntKind.bits]; omega
theorem wrapS {i n : Nat} (h : i < n) (hn : n ≤ 9223372036854775807) : IntKind.i64.wrap ((i : Int) + 1) = ((i + 1 : Nat) : Int) := by
  rw [wrap64 (by omega)]; omega
theorem all_take {α : Type} {p : α → Bool} {l : List α} {i : Nat} {m : α} (hm : l[i]? = some m) (h : (l.take i).all p = true) : (l.take (i + 1)).all p = p m := by
  rw [List.take_add_one, hm]; simp [List.all_append, h]
theorem not_all {α : Type} {p : α → Bool} {l : List α} {i : Nat} {m : α} (hm : l[i]? = some m) (h : p m = false) : l.all p = false := by
  rw [List.all_eq_false]; exact ⟨m, List.mem_of_getElem? hm, by simp [h]⟩
theorem take_mem_succ {α : Type} {l : List α} {i : Nat} {m x : α} (hm : l[i]? = some m) (h : x ∈ l.take (i + 1)) : x ∈ l.take i ∨ x = m := by
  rw [List.take_add_one, hm, List.mem_append] at h
  simpa using h
theorem take_succ {α : Type} {l : List α} {i : Nat} {m : α} (hm : l[i]? = some m) : l.take (i + 1) = l.take i ++ [m] := by
  rw [List.take_add_one, hm]; rfl

theorem fin {K : AV → AHeap → Prop} {H : AHeap} {a b : AV} (h : K b H) (e : a = b) : K a H := e ▸ h
theorem finB {K : AV → AHeap → Prop} {H : AHeap} {a b : Bool} (h : K (.v (.bool b)) H) (e : a = b) : K (.v (.bool a)) H := e ▸ h
theorem finI {K : AV → AHeap → Prop} {H : AHeap} {k : IntKind} {a b : Int} (h : K (.v (.int k b)) H) (e : a = b) : K (.v (.int k a)) H := e ▸ h
def cmp (a b : Int) : Int := if a < b then -1 else if b < a then 1 else 0
def cmpS (x y : List UInt8) : Int := if x < y then -1 else if y < x then 1 else 0
theorem getc {l : List UInt8} {i : Nat} (h : i < l.length) : ∃ c, l[i]? = some c := ⟨_, List.getElem?_eq_getElem h⟩
theorem gete {α : Type} {l : List α} {i : Nat} (h : i < l.length) : ∃ c, l[i]? = some c := ⟨_, List.getElem?_eq_getElem h⟩
def intCells (n : Int) : List AV := [.v (.int .i64 n)]
def firstNZ : List Int → Int
  | [] => 0
  | a :: l => if a = 0 then firstNZ l else a
theorem firstNZ_take {l : List Int} {i : Nat} {a : Int} (ha : l[i]? = some a) (h : ∀ x ∈ l.take i, x = 0) (hz : a ≠ 0) : firstNZ l = a := by
  induction l generalizing i with
  | nil => simp at ha
  | cons b l ih =>
    cases i with
    | zero => simp at ha; subst ha; simp [firstNZ, hz]
    | succ i => simp at ha h; simp [firstNZ, h.1]; exact ih ha h.2
theorem firstNZ_all {l : List Int} (h : ∀ x ∈ l, x = 0) : firstNZ l = 0 := by
  induction l with
  | nil => rfl
  | cons b l ih => simp at h; simp [firstNZ, h.1]; exact ih h.2

def firstI {α : Type} (p : α → Bool) (l : List α) : Int := match l.findIdx? p with | some i => i | none => -1
theorem firstI_some {α : Type} {p : α → Bool} : ∀ {l : List α} {i : Nat} {a : α}, (∀ x ∈ l.take i, p x = false) → l[i]? = some a → p a = true → firstI p l = i := fun {l i a} h1 h2 h3 => by
  have : l.findIdx? p = some i := by
    rw [List.findIdx?_eq_some_iff_getElem]
    obtain ⟨hi, rfl⟩ := List.getElem?_eq_some_iff.1 h2
    refine ⟨hi, h3, fun j hj => ?_⟩
    have := h1 (l[j]'(by omega)) (by
      rw [List.mem_take_iff_getElem]
      exact ⟨j, by omega, rfl⟩)
    simp [this]
  rw [firstI, this]
theorem firstI_none {α : Type} {p : α → Bool} {l : List α} (h : ∀ x ∈ l, p x = false) : firstI p l = -1 := by
  have : l.findIdx? p = none := by rw [List.findIdx?_eq_none_iff]; exact h
  rw [firstI, this]
theorem firstI_any {α : Type} (p : α → Bool) (l : List α) : decide (0 ≤ firstI p l) = l.any p := by
  unfold firstI
  cases h : l.findIdx? p with
  | none =>
    rw [List.findIdx?_eq_none_iff] at h
    have : l.any p = false := by rw [List.any_eq_false]; intro x hx; simp [h x hx]
    rw [this]; decide
  | some i =>
    rw [List.findIdx?_eq_some_iff_getElem] at h
    obtain ⟨hi, hp, _⟩ := h
    have : l.any p = true := List.any_eq_true.2 ⟨_, List.getElem_mem hi, hp⟩
    rw [this]; simp
theorem Ext.del {H H' : AHeap} {b : Nat} (h : Ext H H') (hb : H.get b = none) : Ext H (H'.del b) := fun c o hc => by
  rw [AHeap.get_del, if_neg (by rintro rfl; rw [hb] at hc; cases hc)]; exact h c o hc
theorem RowAt.toGr {e sz : Nat} {H L : AHeap} {es : List (List AV)} {a : AV} (h : RowAt e sz H L es a) (hE : Ext H L) : ∃ L0, Ext H L0 ∧ Gr e sz L0 es a L := by
  rcases h with ⟨rfl, rfl⟩ | ⟨b, h1, rfl, h3⟩
  · exact ⟨L, hE, .inl ⟨rfl, rfl, rfl⟩⟩
  · refine ⟨L.del b, hE.del h1, .inr ⟨b, ?_, rfl, ?_⟩⟩
    · rw [AHeap.get_del, if_pos rfl]
    · funext c
      simp only [AHeap.put, AHeap.del]
      split
      · rename_i e1; subst e1; exact h3
      · rfl
theorem AWp_gr2 {X : Ctx} {N : NR} {c : Code} {Q : Exit → AFr → AHeap → Prop} {e sz t : Nat} {H0 H : AHeap} {es : List (List AV)} {a : AV} {fr : AFr} (hg : Gr e sz H0 es a H) (hs : ∀ b, H0.get b = none → AFr.snap b sz es fr = fr) (h : AWp X N c Q ((t, .sl false es) :: fr) H0) : AWp X N c Q ((t, a) :: fr) H := by
  rcases hg with ⟨rfl, rfl, rfl⟩ | ⟨b, hb, rfl, rfl⟩
  · refine AWp_weaken h (fun F S x hx d => ?_) (fun _ _ h => h)
    have := hx d
    simp only [AFr.get] at this ⊢
    split
    · rename_i e; rw [if_pos e] at this; exact this.loose_sl
    · rename_i e; rw [if_neg e] at this; exact this
  · refine AWp.snap (AHeap.get_put_same b _ _) ?_
    have e1 : AFr.snap b sz es ((t, .row b sz es.length) :: fr) = (t, .sl false es) :: fr := by
      simp only [AFr.snap, AV.snap, if_true, Nat.le_refl, and_self, List.take_length, hs b hb]
    rw [e1, AHeap.put_put]
    exact AWp.drop (Ext.fresh hb) h
def HeldAt (e sz : Nat) (L : AHeap) (es : List (List AV)) (s : AV) : Prop := s = .sl true es ∨ ∃ b, s = .row b sz es.length ∧ L.get b = some (.row e sz false es)
theorem AApp_push {X : Ctx} {L : AHeap} {T e xT : TypeId} {sz by_ : Nat} {es nes : List (List AV)} {s x : AV} {K : AV → AHeap → Prop} (hT : elT X.P T = some (e, sz, by_)) (hs : HeldAt e sz L es s) (hes : ∀ c ∈ es, c.length = sz)
    (hx : ∀ M : AHeap, srcV X.P M sz xT x = some nes) (hne : nes ≠ []) (hby : (es.length + nes.length) * by_ ≤ 140737488355328) (h63 : es.length + nes.length ≤ 9223372036854775807)
    (hK : ∀ b' L', L'.get b' = some (.row e sz false (es ++ nes)) → (∀ c o, L.get c = some o → (∀ b, s = .row b sz es.length → c ≠ b) → L'.get c = some o ∧ c ≠ b') → K (.row b' sz (es ++ nes).length) L') : AApp X T xT s x L K := by
  rcases hs with rfl | ⟨b, rfl, hb⟩
  · refine AApp_tight hT hes (hx L) hby h63 (fun h => absurd h hne) (fun _ b' hb' => ?_)
    rw [← List.length_append]
    refine hK b' _ (AHeap.get_put_same _ _ _) (fun c o hc _ => ?_)
    have hcb : c ≠ b' := by rintro rfl; rw [hc] at hb'; cases hb'
    exact ⟨by rw [AHeap.get_put, if_neg hcb]; exact hc, hcb⟩
  · refine AApp_row hT hb rfl (hx L) hby h63 (fun b' hb' => ?_)
    rw [← List.length_append]
    refine hK b' _ (AHeap.get_put_same _ _ _) (fun c o hc hne => ?_)
    have hcb := hne b rfl
    have hd : (L.del b).get c = some o := by rw [AHeap.get_del, if_neg hcb]; exact hc
    have hcb' : c ≠ b' := by rintro rfl; rw [hd] at hb'; cases hb'
    exact ⟨by rw [AHeap.get_put, if_neg hcb']; exact hd, hcb'⟩

theorem ACall.grP {X : Ctx} {H : AHeap} {f : FuncId} {xs : List AV} {e sz : Nat} {es : List (List AV)} {y : Value} {K : AV → AHeap → Prop} (hk : K (.tup [.sl false es, .v y]) H)
    (h : ACall X f xs H fun a L => ∃ L0 a1, a = .tup [a1, .v y] ∧ Ext H L0 ∧ Gr e sz L0 es a1 L) : ACall X f xs H K :=
  ACall.post ⟨h.1, fun w φ ys hr hx => (h.2 w φ ys hr hx).mono fun e' w' ⟨v, av, L, φ', e1, h1, ⟨L0, a1, he, h2, h3⟩, h4⟩ => by
    subst he
    rcases h3 with ⟨rfl, rfl, rfl⟩ | ⟨b, hb, rfl, rfl⟩
    · refine ⟨v, .tup [.sl false [], .v y], L, φ', e1, ?_, ⟨_, H, Snap.drop h2, hk⟩, h4⟩
      cases h1 with
      | tup h => cases h with
        | cons h hs => exact .tup (.cons h.loose_sl hs)
    · refine ⟨v, _, _, φ', e1, h1, ?_, h4⟩
      have h5 := Snap.row (X := X) (as := [.tup [.row b sz es.length, .v y]]) (AHeap.get_put_same b (.row e sz false es) L0)
      simp only [AV.snaps, AV.snap] at h5
      rw [if_pos trivial, if_pos ⟨trivial, Nat.le_refl _⟩, List.take_length] at h5
      exact ⟨_, H, h5.trans (Snap.drop (by rw [AHeap.put_put]; exact Ext.put h2 hb)), hk⟩⟩
theorem kfind_kput {κ : Type} [DecidableEq κ] (k k' : κ) (a : AV) : ∀ es : List (κ × AV), kfind k (kput k' a es) = if k' = k then some a else kfind k es
  | [] => by simp only [kput, kfind]
  | p :: es => by
    have ih := kfind_kput k k' a es
    simp only [kput]
    by_cases h : p.1 = k'
    · rw [if_pos h]
      simp only [kfind]
      by_cases h2 : k' = k
      · rw [if_pos h2, if_pos h2]
      · rw [if_neg h2, if_neg h2, if_neg (by rw [h]; exact h2)]
    · rw [if_neg h]
      simp only [kfind, ih]
      by_cases h2 : p.1 = k
      · rw [if_pos h2, if_pos h2, if_neg (by rintro rfl; exact h h2)]
      · rw [if_neg h2, if_neg h2]
theorem HeldAt.put {e sz c : Nat} {L : AHeap} {es : List (List AV)} {s : AV} {o o' : AObj} (h : HeldAt e sz L es s) (hc : L.get c = some o) (ho : ∀ sz sn es, o ≠ .row e sz sn es) : HeldAt e sz (L.put c o') es s := by
  rcases h with h | ⟨b, h1, h2⟩
  · exact .inl h
  · refine .inr ⟨b, h1, ?_⟩
    rw [AHeap.get_put, if_neg]
    · exact h2
    · rintro rfl; rw [h2] at hc; cases hc; exact ho _ _ _ rfl
theorem HeldAt.fresh {e sz c : Nat} {L : AHeap} {es : List (List AV)} {s : AV} {o' : AObj} (h : HeldAt e sz L es s) (hc : L.get c = none) : HeldAt e sz (L.put c o') es s := by
  rcases h with h | ⟨b, h1, h2⟩
  · exact .inl h
  · exact .inr ⟨b, h1, get_fresh h2 hc⟩
theorem HeldAt.del {e sz c : Nat} {L : AHeap} {es : List (List AV)} {s : AV} {o : AObj} (h : HeldAt e sz L es s) (hc : L.get c = some o) (ho : ∀ sz sn es, o ≠ .row e sz sn es) : HeldAt e sz (L.del c) es s := by
  rcases h with h | ⟨b, h1, h2⟩
  · exact .inl h
  · refine .inr ⟨b, h1, ?_⟩
    rw [AHeap.get_del, if_neg]
    · exact h2
    · rintro rfl; rw [h2] at hc; cases hc; exact ho _ _ _ rfl
theorem RowAt.del {e sz c : Nat} {H L : AHeap} {es : List (List AV)} {s : AV} {o : AObj} (h : RowAt e sz H L es s) (hc : L.get c = some o) (ho : ∀ sz sn es, o ≠ .row e sz sn es) : RowAt e sz H (L.del c) es s := by
  rcases h with h | ⟨b, h1, h2, h3⟩
  · exact .inl h
  · refine .inr ⟨b, h1, h2, ?_⟩
    rw [AHeap.get_del, if_neg]
    · exact h3
    · rintro rfl; rw [h3] at hc; cases hc; exact ho _ _ _ rfl
theorem rowAt_len {e sz e' : Nat} {s' : Option Nat} {H0 L : AHeap} {es : List (List AV)} {a : AV} (h : RowAt e sz H0 L es a) (M : AHeap) : lenK M (.sl e' s') a = some (.v (.int .i64 es.length)) := by
  rcases h with ⟨rfl, rfl⟩ | ⟨b, _, rfl, _⟩ <;> rfl
theorem held_len {e sz e' : Nat} {s' : Option Nat} {L : AHeap} {es : List (List AV)} {a : AV} (h : HeldAt e sz L es a) (M : AHeap) : lenK M (.sl e' s') a = some (.v (.int .i64 es.length)) := by
  rcases h with rfl | ⟨b, rfl, _⟩ <;> rfl
theorem get_ne_fresh {H : AHeap} {b c : Nat} {o : AObj} (h : H.get b = some o) (hc : H.get c = none) : b ≠ c := by rintro rfl; rw [h] at hc; cases hc

theorem lt_tri (a b : List UInt8) : a < b ∨ a = b ∨ b < a := by
  rcases Classical.em (a < b) with h | h
  · exact .inl h
  · rcases Classical.em (b < a) with h2 | h2
    · exact .inr (.inr h2)
    · exact .inr (.inl (List.le_antisymm (List.not_lt.1 h2) (List.not_lt.1 h)))
theorem lt_irr (a : List UInt8) : ¬ a < a := List.lt_irrefl a
theorem lt_tr {a b c : List UInt8} (h : a < b) (k : b < c) : a < c := List.lt_trans h k
theorem cmpS_lt {a b : List UInt8} : cmpS a b < 0 ↔ a < b := by
  unfold cmpS
  split
  · simp [*]
  · split <;> simp [*]
theorem cmpS_zero {a b : List UInt8} : cmpS a b = 0 ↔ a = b := by
  unfold cmpS
  rcases lt_tri a b with h | h | h
  · simp [h]; rintro rfl; exact lt_irr _ h
  · subst h; simp [lt_irr]
  · have : ¬ a < b := fun k => lt_irr _ (lt_tr h k)
    simp [h, this]; rintro rfl; exact lt_irr _ h
theorem cmp_lt {a b : Int} : cmp a b < 0 ↔ a < b := by unfold cmp; split <;> (try split) <;> omega
theorem cmp_zero {a b : Int} : cmp a b = 0 ↔ a = b := by unfold cmp; split <;> (try split) <;> omega

section
variable {X : Ctx} {N : NR} {d : Nat} {H : AHeap} {fr : AFr} {ops : Array Oper} {rest : List Oper} {K : AFr → AHeap → Prop} {ty : TypeId} {pos : String} {aft : Array Edge}
theorem s_op {op : Op} (hd : d < N.n) (hp : isPick op = false) (h : AOp X H fr.ev op fun av H' => SOps X N ops rest K ((d, av) :: fr) H') : SOps X N ops (⟨some d, op, ty, pos, aft, none⟩ :: rest) K fr H :=
  s_cons (AOps_op (by simpa [dstOk] using hd) hp (AOp_mono (fun _ _ h => st_nil h) h))
theorem s_yield {f : Operand} {args : Array Operand} {ats : Array TypeId} {l : Nat} {first as : List AV} (hd : d < N.n) (hf : fr.ev f = .fn (.yield l) first []) (ha : first ++ args.toList.map fr.ev = as)
    (k : AYield X l as H fun av H' => SOps X N ops rest K ((d, av) :: fr) H') : SOps X N ops (⟨some d, .call ⟨.value f, args, ats⟩, ty, pos, aft, none⟩ :: rest) K fr H :=
  s_op hd rfl (by subst ha; simp only [AOp, callV, hf]; exact k)
end
end Go.AL
