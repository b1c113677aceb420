/-
  Names of events: base64 letters, in the program and in the document. Contracts.
-/
import Derived.Test.YtmloandpjbimkaaIdent
import Derived.Test.YtmloandpjbimkaaIb
set_option linter.unusedSimpArgs false
set_option linter.unusedVariables false
set_option maxRecDepth 100000
namespace Go.Proofs.Ytmloandpjbimkaa
open Go Go.AL
attribute [local irreducible] AOps AWp SOps AE AT ACall AApp

def alph : List UInt8 := [65, 66, 67, 68, 69, 70, 71, 72, 73, 74, 75, 76, 77, 78, 79, 80, 81, 82, 83, 84, 85, 86, 87, 88, 89, 90, 97, 98, 99, 100, 101, 102, 103, 104, 105, 106, 107, 108, 109, 110, 111, 112, 113, 114, 115, 116, 117, 118, 119, 120, 121, 122, 48, 49, 50, 51, 52, 53, 54, 55, 56, 57, 43, 47]
/-- a letter's number, -1 if it is none -/
def num (c : UInt8) : Int := Lib.indexByte alph c
theorem indexByte_ge : ∀ (l : List UInt8) (c : UInt8), -1 ≤ Lib.indexByte l c ∧ Lib.indexByte l c < l.length
  | [], c => by simp [Lib.indexByte]
  | b :: l, c => by
    have ih := indexByte_ge l c
    unfold Lib.indexByte
    split
    · simp
    · split
      · simp only [List.length_cons]; omega
      · rename_i h; simp at h; simp; omega
theorem num_ge (c : UInt8) : -1 ≤ num c ∧ num c < 64 := indexByte_ge alph c
theorem indexByte_first : ∀ {l : List UInt8} {i : Nat} {c : UInt8}, l[i]? = some c → (∀ j, j < i → l[j]? ≠ some c) → Lib.indexByte l c = i
  | [], i, c, h, _ => by simp at h
  | b :: l, 0, c, h, _ => by simp at h; subst h; simp [Lib.indexByte]
  | b :: l, i + 1, c, h, hj => by
    have hb : b ≠ c := fun e => hj 0 (by omega) (by simp [e])
    have ih := indexByte_first (l := l) (i := i) (c := c) (by simpa using h) (fun j hlt => by have := hj (j + 1) (by omega); simpa using this)
    unfold Lib.indexByte
    rw [if_neg (by simpa using hb), ih, if_neg (by simp)]; simp
theorem indexByte_none : ∀ {l : List UInt8} {c : UInt8}, (∀ j : Nat, l[j]? ≠ some c) → Lib.indexByte l c = -1
  | [], c, _ => rfl
  | b :: l, c, hj => by
    have hb : b ≠ c := fun e => hj 0 (by simp [e])
    have ih := indexByte_none (l := l) (c := c) (fun j => by have := hj (j + 1); simpa using this)
    unfold Lib.indexByte
    rw [if_neg (by simpa using hb), ih]; rfl
theorem num_c (c : UInt8) (H : AHeap) (K : AV → AHeap → Prop) (h : K (.v (.int .i64 (num c))) H) : ACall X 62 [.s alph, .v (.int .u8 c.toNat)] H K :=
  indexByte_c alph c.toNat H K (by rw [show ((c.toNat : Int)).toNat.toUInt8 = c from by simp]; exact h)
def byteCells (n : Int) : List AV := [.v (.int .u8 n)]
theorem byte_one (n : Int) : (byteCells n).length = 1 ∧ (byteCells n).all AV.one = true := ⟨rfl, rfl⟩
def intCell (n : Int) : List AV := [.v (.int .i64 n)]
theorem int_one (n : Int) : (intCell n).length = 1 ∧ (intCell n).all AV.one = true := ⟨rfl, rfl⟩
theorem snap_bytes (b sz : Nat) (es : List (List AV)) (l : List Int) : AV.snapss b sz es (l.map byteCells) = l.map byteCells := snapss_map (fun _ => rfl) l
theorem snap_ints (b sz : Nat) (es : List (List AV)) (l : List Int) : AV.snapss b sz es (l.map intCell) = l.map intCell := snapss_map (fun _ => rfl) l
/-- does a text have letters alone, and nothing behind its last byte? (eleven letters) -/
def decE (s : List UInt8) : Int := if s.all (fun c => decide (0 ≤ num c)) then (if num (s.getD 10 0) % 4 = 0 then 0 else 21) else 20
theorem size8_c (H : AHeap) (K : AV → AHeap → Prop) (h : K (.v (.int .i64 11)) H) : ACall X 48 [.v (.int .i64 8)] H K := by
  refine ACall_intro Try.func48 rfl (by kernel_rfl) (by rw [Try.ntmps48]; simp) ?_; rw [Try.ntmps48]; simp only [frame0, Nat.reduceAdd]
  (refine AWp_seq_k (fun K hK => ?_); apply s_region; apply s_q; decide; rfl; (simp only [go_sem]; rfl); apply s_nil; simp only [AThen, ABlock]; refine hK _ _ ?_; clear hK K; (iterate 2 (refine AWp_seq_k (fun K hK => ?_))); apply s_region; (iterate 2 (apply s_q; decide; rfl; (simp only [go_sem]; rfl))); apply s_nil; simp only [AThen, ABlock]; refine hK _ _ ?_; clear hK K)
  refine cond_split (by simp only [go_sem]; try rfl) (fun hc => ?_) (fun hc => ?_)
  · cases hc
  (apply AWp_skip; simp only [AThen, ABlock]; refine hK _ _ ?_; clear hK K; refine AWp_seq_k (fun K hK => ?_); apply s_region; (iterate 6 (apply s_q; decide; rfl; (simp only [go_sem]; rfl))); apply s_nil; simp only [AThen, ABlock]; refine hK _ _ ?_; clear hK K; (iterate 2 (refine AWp_seq_k (fun K hK => ?_))); apply s_region; (iterate 2 (apply s_q; decide; rfl; (simp only [go_sem]; rfl))); apply s_nil; simp only [AThen, ABlock]; refine hK _ _ ?_; clear hK K)
  refine cond_split (by simp only [go_sem]; try rfl) (fun hd => ?_) (fun hd => ?_)
  · (apply s_region; (iterate 3 (apply s_q; decide; rfl; (simp only [go_sem]; rfl))); apply s_nil; simp only [AThen, ABlock]; refine hK _ _ ?_; clear hK K; refine AWp_seq_k (fun K hK => ?_); apply s_region; (iterate 5 (apply s_q; decide; rfl; (simp only [go_sem]; rfl))); apply s_nil; simp only [AThen, ABlock]; refine hK _ _ ?_; clear hK K; apply AWp_ret)
    exact h
  · cases hd
/-- how many bits are left over behind i letters -/
def nAt (i : Nat) : Int := if i % 4 = 0 then 0 else if i % 4 = 1 then 6 else if i % 4 = 2 then 4 else 2
theorem w_or {w v : Int} (hw : 0 ≤ w ∧ w < 64) (hv : 0 ≤ v ∧ v < 64) : IntKind.u64.wrap ((BitVec.ofInt 64 (IntKind.u64.wrap (w * 2 ^ min 6 64)) ||| BitVec.ofInt 64 (IntKind.u64.wrap v)).toNat : Int) = w * 64 + v := by
  obtain ⟨a, rfl⟩ := Int.eq_ofNat_of_zero_le hw.1
  obtain ⟨b, rfl⟩ := Int.eq_ofNat_of_zero_le hv.1
  have e1 : IntKind.u64.wrap ((a : Int) * 2 ^ min 6 64) = ((64 * a : Nat) : Int) := by simp [IntKind.wrap, IntKind.signed, IntKind.bits]; omega
  have e2 : IntKind.u64.wrap (b : Int) = (b : Int) := by simp [IntKind.wrap, IntKind.signed, IntKind.bits]; omega
  rw [e1, e2, BitVec.ofInt_natCast, BitVec.ofInt_natCast, BitVec.toNat_or, BitVec.toNat_ofNat, BitVec.toNat_ofNat, Nat.mod_eq_of_lt (by omega), Nat.mod_eq_of_lt (by omega)]
  have := Nat.two_pow_add_eq_or_of_lt (i := 6) (b := b) (by omega) a
  rw [show 64 * a = 2 ^ 6 * a from rfl, ← this]
  simp [IntKind.wrap, IntKind.signed, IntKind.bits]; omega
theorem w_and {w : Int} {n : Nat} (hw : 0 ≤ w ∧ w < 4096) (hn : n ≤ 4) : IntKind.u64.wrap ((BitVec.ofInt 64 w &&& BitVec.ofInt 64 (IntKind.u64.wrap (IntKind.u64.wrap (1 * 2 ^ min ((n : Int)).toNat 64) - 1))).toNat : Int) = w % 2 ^ n := by
  obtain ⟨a, rfl⟩ := Int.eq_ofNat_of_zero_le hw.1
  have e1 : IntKind.u64.wrap (IntKind.u64.wrap (1 * 2 ^ min ((n : Int)).toNat 64) - 1) = ((2 ^ n - 1 : Nat) : Int) := by
    have : n = 0 ∨ n = 1 ∨ n = 2 ∨ n = 3 ∨ n = 4 := by omega
    rcases this with rfl | rfl | rfl | rfl | rfl <;> decide
  have hp : 2 ^ n ≤ 16 := by
    have : n = 0 ∨ n = 1 ∨ n = 2 ∨ n = 3 ∨ n = 4 := by omega
    rcases this with rfl | rfl | rfl | rfl | rfl <;> decide
  rw [e1, BitVec.ofInt_natCast, BitVec.ofInt_natCast, BitVec.toNat_and, BitVec.toNat_ofNat, BitVec.toNat_ofNat, Nat.mod_eq_of_lt (by omega), Nat.mod_eq_of_lt (by omega), Nat.and_two_pow_sub_one_eq_mod]
  have : a % 2 ^ n < 2 ^ n := Nat.mod_lt _ (Nat.pow_pos (by decide))
  have e3 : ((a % 2 ^ n : Nat) : Int) = (a : Int) % 2 ^ n := by simp
  rw [← e3]
  simp [IntKind.wrap, IntKind.signed, IntKind.bits]; omega
theorem decode_c (s : List UInt8) (hl : s.length = 11) (H : AHeap) (K : AV → AHeap → Prop) (h : ∀ t bs n, K (.tup [.sl t bs, .v (.int .i64 (decE s)), .v (.int .i64 n)]) H) : ACall X 49 [.s s] H K := by
  refine ACall_intro Try.func49 rfl (by kernel_rfl) (by rw [Try.ntmps49]; simp) ?_; rw [Try.ntmps49]; simp only [frame0, Nat.reduceAdd]
  (refine AWp_seq_k (fun K hK => ?_); apply s_region; (iterate 3 (apply s_q; decide; rfl; (simp only [go_sem]; rfl))); apply s_nil; simp only [AThen, ABlock]; refine hK _ _ ?_; clear hK K; (iterate 2 (refine AWp_seq_k (fun K hK => ?_))); apply s_region; (iterate 3 (apply s_q; decide; rfl; (simp only [go_sem]; rfl))); apply s_nil; simp only [AThen, ABlock]; refine hK _ _ ?_; clear hK K; apply AWp_block)
  refine AWp_loop_s (σ := Nat) [0, 11, 12] (fun i => [.s s, .v (.int .i64 s.length), .v (.int .i64 i)]) (fun _ => H) (fun i => s.length - i) (fun i => i ≤ s.length ∧ ∀ c ∈ s.take i, 0 ≤ num c) 0 ⟨Nat.zero_le _, by simp⟩ rfl rfl (fun i hi => ?_)
  simp only [List.zip_cons_cons, List.zip_nil_right]
  (refine AWp_seq_k (fun K hK => ?_); apply s_region; apply s_q; decide; rfl; (simp only [go_sem]; rfl); apply s_nil; simp only [AThen, ABlock]; refine hK _ _ ?_; clear hK K; refine AWp_seq_k (fun K hK => ?_))
  refine cond_split (by simp only [go_sem]; try rfl) (fun hc => ?_) (fun hc => ?_)
  · have hlt : i < s.length := by simpa using hc
    obtain ⟨a, hm⟩ := getc hlt
    (apply AWp_skip; simp only [AThen, ABlock]; refine hK _ _ ?_; clear hK K; refine AWp_seq_k (fun K hK => ?_); apply AWp_block; refine AWp_seq_k (fun K hK => ?_); apply s_region; (iterate 2 (apply s_q; decide; rfl; (simp only [go_sem, hm]; rfl))); apply s_nil; simp only [AThen, ABlock]; refine hK _ _ ?_; clear hK K; refine AWp_seq_k (fun K hK => ?_); apply s_region; (iterate 3 (apply s_q; decide; rfl; (simp only [go_sem, hm]; rfl))); apply s_call; decide; (simp only [go_sem, hm]; rfl); (simp only [go_sem, hm]; rfl); apply num_c; apply s_q; decide; rfl; (simp only [go_sem, hm]; rfl); apply s_nil; simp only [AThen, ABlock]; refine hK _ _ ?_; clear hK K)
    refine cond_split (by simp only [go_sem]; try rfl) (fun hd => ?_) (fun hd => ?_)
    · have hbad : decE s = 20 := by
        unfold decE
        rw [if_neg]
        intro hall
        rw [List.all_eq_true] at hall
        have := hall a (List.mem_of_getElem? hm)
        simp at hd this; omega
      (refine AWp_seq_k (fun K hK => ?_); apply s_region; (iterate 4 (apply s_q; decide; rfl; (simp only [go_sem]; rfl))); apply s_nil; simp only [AThen, ABlock]; refine hK _ _ ?_; clear hK K; apply AWp_ret; simp only [AThen, ABlock]; apply end_ret; rfl; simp only [AFr.get, reduceIte, Nat.reduceEqDiff])
      have := h true [] i; rw [hbad] at this; exact this
    · (apply AWp_skip; simp only [AThen, ABlock]; refine hK _ _ ?_; clear hK K; apply s_region; (iterate 2 (apply s_q; decide; rfl; (simp only [go_sem]; rfl))); apply s_nil; simp only [AThen, ABlock])
      refine ⟨i + 1, by omega, ⟨by omega, ?_⟩, ?_, by trivial⟩
      · intro c hcm
        rcases take_mem_succ hm hcm with hx | hx
        · exact hi.2 c hx
        · subst hx; simpa using hd
      · simp only [getAll, List.map_cons, List.map_nil, AFr.get]
        rw [wrapS hlt (by omega)]; rfl
  · have hge : s.length ≤ i := by simpa using hc
    have hall : ∀ c ∈ s, 0 ≤ num c := fun c hcm => hi.2 c (by rw [List.take_of_length_le hge]; exact hcm)
    (apply AWp_exit; simp only [AThen, ABlock, reduceIte, Nat.reduceEqDiff]; clear hK K; refine hK _ _ ?_; clear hK K; (iterate 2 (refine AWp_seq_k (fun K hK => ?_))); apply s_region; (iterate 4 (apply s_q; decide; rfl; (simp only [go_sem]; rfl))); apply s_nil; simp only [AThen, ABlock]; refine hK _ _ ?_; clear hK K)
    refine cond_split (by simp only [go_sem]; try rfl) (fun hd => ?_) (fun hd => ?_)
    · simp [hl] at hd
    (apply AWp_skip; simp only [AThen, ABlock]; refine hK _ _ ?_; clear hK K; refine AWp_seq_k (fun K hK => ?_); apply s_region; apply s_q; decide; rfl; (simp only [go_sem]; rfl); apply s_nil; simp only [AThen, ABlock]; refine hK _ _ ?_; clear hK K; refine AWp_seq_k (fun K hK => ?_); apply s_region; (iterate 2 (apply s_q; decide; rfl; (simp only [go_sem]; rfl))); apply s_nil; simp only [AThen, ABlock]; refine hK _ _ ?_; clear hK K; (iterate 2 (refine AWp_seq_k (fun K hK => ?_))); apply s_region; (iterate 3 (apply s_q; decide; rfl; (simp only [go_sem]; rfl))); apply s_nil; simp only [AThen, ABlock]; refine hK _ _ ?_; clear hK K; apply AWp_block)
    refine AWp_loop_s (σ := Nat × List Int × AV × AHeap × Int) [0, 6, 7, 8, 29, 30] (fun t => [.s s, t.2.2.1, .v (.int .u64 t.2.2.2.2), .v (.int .u64 (nAt t.1)), .v (.int .i64 s.length), .v (.int .i64 t.1)]) (fun t => t.2.2.2.1) (fun t => s.length - t.1)
      (fun t => t.1 ≤ s.length ∧ t.2.1.length ≤ t.1 ∧ (0 ≤ t.2.2.2.2 ∧ t.2.2.2.2 < 2 ^ (nAt t.1).toNat) ∧ (∀ j c, t.1 = j + 1 → t.1 % 4 = 3 → s[j]? = some c → t.2.2.2.2 = num c % 4) ∧ Gr 5 1 H (t.2.1.map byteCells) t.2.2.1 t.2.2.2.1) (0, [], .sl true [], H, 0) ⟨Nat.zero_le _, by simp, by simp [nAt], by omega, .inl ⟨rfl, rfl, rfl⟩⟩ rfl rfl (fun t ht => ?_)
    obtain ⟨i, bs, a, L, w⟩ := t
    obtain ⟨hi, hbl, hw, hlast, hG⟩ := ht
    simp only [List.zip_cons_cons, List.zip_nil_right] at hi hbl hw hlast hG ⊢
    (refine AWp_seq_k (fun K hK => ?_); apply s_region; apply s_q; decide; rfl; (simp only [go_sem]; rfl); apply s_nil; simp only [AThen, ABlock]; refine hK _ _ ?_; clear hK K; refine AWp_seq_k (fun K hK => ?_))
    refine cond_split (by simp only [go_sem]; try rfl) (fun he => ?_) (fun he => ?_)
    · have hlt : i < s.length := by simpa using he
      obtain ⟨c, hm⟩ := getc hlt
      have hc0 := hall c (List.mem_of_getElem? hm)
      have hc1 := (num_ge c).2
      have hw64 : 0 ≤ w ∧ w < 64 := by
        have : i % 4 = 0 ∨ i % 4 = 1 ∨ i % 4 = 2 ∨ i % 4 = 3 := by omega
        rcases this with h4 | h4 | h4 | h4 <;> simp [nAt, h4] at hw <;> omega
      (apply AWp_skip; simp only [AThen, ABlock]; refine hK _ _ ?_; clear hK K; refine AWp_seq_k (fun K hK => ?_); apply AWp_block; refine AWp_seq_k (fun K hK => ?_); apply s_region; (iterate 2 (apply s_q; decide; rfl; (simp only [go_sem, hm]; rfl))); apply s_nil; simp only [AThen, ABlock]; refine hK _ _ ?_; clear hK K; refine AWp_seq_k (fun K hK => ?_); apply s_region; (iterate 5 (apply s_q; decide; rfl; (simp only [go_sem, hm]; rfl))); apply s_call; decide; (simp only [go_sem, hm]; rfl); (simp only [go_sem, hm]; rfl); apply num_c; (iterate 3 (apply s_q; decide; rfl; (simp only [go_sem, hm]; rfl))); apply s_nil; simp only [AThen, ABlock]; refine hK _ _ ?_; clear hK K; refine AWp_seq_k (fun K hK => ?_); apply s_region; (iterate 3 (apply s_q; decide; rfl; (simp only [go_sem, hm]; rfl))); apply s_nil; simp only [AThen, ABlock]; refine hK _ _ ?_; clear hK K; refine AWp_seq_k (fun K hK => ?_); apply s_region; (iterate 2 (apply s_q; decide; rfl; (simp only [go_sem, hm]; rfl))); apply s_nil; simp only [AThen, ABlock]; refine hK _ _ ?_; clear hK K)
      have eW : IntKind.u64.wrap ((BitVec.ofInt 64 (IntKind.u64.wrap (w * 2 ^ min 6 64)) ||| BitVec.ofInt 64 (IntKind.u64.wrap (num c))).toNat : Int) = w * 64 + num c := w_or hw64 ⟨hc0, hc1⟩
      have eN : IntKind.u64.wrap (nAt i + 6) = nAt i + 6 := by unfold nAt; split; rfl; split; rfl; split <;> rfl
      refine AWp_cut [44, 0, 6, 7, 8, 29, 30] (vs := [.v (.bool (decide (8 ≤ IntKind.u64.wrap (nAt i + 6)))), .s s, a, .v (.int .u64 (IntKind.u64.wrap ((BitVec.ofInt 64 (IntKind.u64.wrap (w * 2 ^ min 6 64)) ||| BitVec.ofInt 64 (IntKind.u64.wrap (num c))).toNat : Int))), .v (.int .u64 (IntKind.u64.wrap (nAt i + 6))), .v (.int .i64 s.length), .v (.int .i64 i)]) rfl ?_
      rw [eW, eN]
      simp only [List.zip_cons_cons, List.zip_nil_right]
      refine cond_split (by simp only [go_sem]; try rfl) (fun hf => ?_) (fun hf => ?_)
      · obtain ⟨m, hm4, eM, hnx, hmn⟩ : ∃ m : Nat, m ≤ 4 ∧ IntKind.u64.wrap (nAt i + 6 - 8) = (m : Int) ∧ nAt (i + 1) = m ∧ ((i + 1) % 4 = 3 → m = 2) := by
          have : i % 4 = 0 ∨ i % 4 = 1 ∨ i % 4 = 2 ∨ i % 4 = 3 := by omega
          rcases this with h4 | h4 | h4 | h4
          · simp [nAt, h4] at hf
          · exact ⟨4, by omega, by simp [nAt, h4]; rfl, by simp [nAt, show (i + 1) % 4 = 2 from by omega], by omega⟩
          · exact ⟨2, by omega, by simp [nAt, h4]; rfl, by simp [nAt, show (i + 1) % 4 = 3 from by omega], by omega⟩
          · exact ⟨0, by omega, by simp [nAt, h4]; rfl, by simp [nAt, show (i + 1) % 4 = 0 from by omega], by omega⟩
        (refine AWp_seq_k (fun K hK => ?_); apply s_region; (iterate 3 (apply s_q; decide; rfl; (simp only [go_sem, eM]; rfl))); apply s_nil; simp only [AThen, ABlock]; refine hK _ _ ?_; clear hK K; refine AWp_seq_k (fun K hK => ?_); apply s_region; (iterate 5 (apply s_q; decide; rfl; (simp only [go_sem, eM]; rfl))); apply s_lit; decide; exact el_84; (simp only [go_sem, eM]; rfl); (simp only [go_sem, eM]; rfl); decide; apply s_append; decide; (simp only [go_sem, eM]; rfl); (simp only [go_sem, eM]; rfl); apply AApp_map el_84 hG (l := bs) (m := [_]) (g := byteCells) rfl rfl tk_84 byte_one (by simp; omega) (by simp; omega); intro s1 H1 hG1; apply s_q; decide; rfl; (simp only [go_sem, eM]; rfl); apply s_nil; simp only [AThen, ABlock]; refine hK _ _ ?_; clear hK K; apply s_region; (iterate 6 (apply s_q; decide; rfl; (simp only [go_sem, eM]; rfl))); apply s_nil; simp only [AThen, ABlock]; refine hK _ _ ?_; clear hK K; apply s_region; (iterate 2 (apply s_q; decide; rfl; (simp only [go_sem, eM]; rfl))); apply s_nil; simp only [AThen, ABlock])
        have eA := w_and (w := w * 64 + num c) (by omega) hm4
        refine ⟨(i + 1, bs ++ [_], s1, H1, (w * 64 + num c) % 2 ^ m), by simp only; omega, ⟨by simp only; omega, by simp; omega, ?_, ?_, by simpa using hG1⟩, ?_, by trivial⟩
        · have := Int.emod_lt_of_pos (w * 64 + num c) (b := 2 ^ m) (Int.pow_pos (by decide))
          refine ⟨Int.emod_nonneg _ (Int.ne_of_gt (Int.pow_pos (by decide))), ?_⟩
          simp only [hnx, Int.toNat_natCast]; exact this
        · intro j c' hj h3 hjc
          simp only at hj h3 hjc ⊢
          have : j = i := by omega
          subst this
          rw [hm] at hjc; cases hjc
          rw [hmn h3]; omega
        · simp only [getAll, List.map_cons, List.map_nil, AFr.get, reduceIte, Nat.reduceEqDiff]
          rw [wrapS hlt (by omega), hnx, ← eA]; rfl
      · have h4 : i % 4 = 0 := by
          have : i % 4 = 0 ∨ i % 4 = 1 ∨ i % 4 = 2 ∨ i % 4 = 3 := by omega
          rcases this with h4 | h4 | h4 | h4
          · exact h4
          all_goals simp [nAt, h4] at hf
        have hnx : nAt (i + 1) = nAt i + 6 := by simp [nAt, h4, show (i + 1) % 4 = 1 from by omega]
        have hw0 : w = 0 := by simp [nAt, h4] at hw; omega
        (apply AWp_skip; simp only [AThen, ABlock]; refine hK _ _ ?_; clear hK K; apply s_region; (iterate 2 (apply s_q; decide; rfl; (simp only [go_sem]; rfl))); apply s_nil; simp only [AThen, ABlock])
        refine ⟨(i + 1, bs, a, L, w * 64 + num c), by simp only; omega, ⟨by simp only; omega, by simp only; omega, ?_, ?_, hG⟩, ?_, by trivial⟩
        · simp only [nAt, show (i + 1) % 4 = 1 from by omega]
          rw [hw0]; simp; try omega
        · intro j c' hj h3; simp only at h3; omega
        · simp only [getAll, List.map_cons, List.map_nil, AFr.get, reduceIte, Nat.reduceEqDiff]
          rw [wrapS hlt (by omega), hnx]
    · have hge' : s.length ≤ i := by simpa using he
      have ei : i = 11 := by omega
      obtain ⟨c, hm⟩ := getc (l := s) (i := 10) (by omega)
      have hw4 := hlast 10 c ei (by omega) hm
      have hde : decE s = if num c % 4 = 0 then 0 else 21 := by
        unfold decE
        rw [if_pos (List.all_eq_true.2 fun c hc => by simpa using hall c hc), List.getD_eq_getElem?_getD, hm]; rfl
      refine AWp_cut [6, 0, 7] (vs := [a, .s s, .v (.int .u64 w)]) rfl ?_
      simp only [List.zip_cons_cons, List.zip_nil_right]
      refine AWp_gr hG (fun _ => rfl) ?_
      (apply AWp_exit; simp only [AThen, ABlock, reduceIte, Nat.reduceEqDiff]; clear hK K; refine hK _ _ ?_; clear hK K; (iterate 2 (refine AWp_seq_k (fun K hK => ?_))); apply s_region; (iterate 2 (apply s_q; decide; rfl; (simp only [go_sem]; rfl))); apply s_nil; simp only [AThen, ABlock]; refine hK _ _ ?_; clear hK K)
      refine cond_split (by simp only [go_sem]; try rfl) (fun hg => ?_) (fun hg => ?_)
      · rw [if_neg (by rw [← hw4]; simpa using hg)] at hde
        (refine AWp_seq_k (fun K hK => ?_); apply s_region; (iterate 6 (apply s_q; decide; rfl; (simp only [go_sem]; rfl))); apply s_nil; simp only [AThen, ABlock]; refine hK _ _ ?_; clear hK K; apply AWp_ret; simp only [AThen, ABlock]; apply end_ret; rfl; simp only [AFr.get, reduceIte, Nat.reduceEqDiff])
        have := h true [] 10; rw [hde] at this
        rw [hl]; exact this
      · rw [if_pos (by rw [← hw4]; simpa using hg)] at hde
        (apply AWp_skip; simp only [AThen, ABlock]; refine hK _ _ ?_; clear hK K; refine AWp_seq_k (fun K hK => ?_); apply s_region; (iterate 4 (apply s_q; decide; rfl; (simp only [go_sem]; rfl))); apply s_nil; simp only [AThen, ABlock]; refine hK _ _ ?_; clear hK K; apply AWp_ret)
        have := h false (bs.map byteCells) 0; rw [hde] at this
        exact this
/-- is a text the name of an event? -/
def isEv (l : List UInt8) : Bool := decide (l.length = 12) && (decide (l.getD 0 0 = 36) && decide (decE (l.drop 1) = 0))
theorem isEv_pre {l : List UInt8} : isEv l = (hasPre l [36] && (decide ((l.drop 1).length = 11) && decide (decE (l.drop 1) = 0))) := by
  unfold isEv hasPre
  cases l with
  | nil => rfl
  | cons a l => simp; generalize decE l = e; by_cases h1 : a = 36 <;> by_cases h2 : l.length = 11 <;> simp [h1, h2]
theorem event_c (l : List UInt8) (H : AHeap) (K : AV → AHeap → Prop) (h : K (.v (.bool (isEv l))) H) : ACall X 26 [.s l] H K := by
  rw [isEv_pre] at h
  refine ACall_intro Try.func26 rfl (by kernel_rfl) (by rw [Try.ntmps26]; simp) ?_; rw [Try.ntmps26]; simp only [frame0, Nat.reduceAdd]
  (refine AWp_seq_k (fun K hK => ?_); apply s_region; apply s_q; decide; rfl; (simp only [go_sem]; rfl); apply s_nil; simp only [AThen, ABlock]; refine hK _ _ ?_; clear hK K; refine AWp_seq_k (fun K hK => ?_); apply s_region; apply s_q; decide; rfl; (simp only [go_sem]; rfl); apply s_call; decide; (simp only [go_sem]; rfl); (simp only [go_sem]; rfl); apply cutPrefix_c; (iterate 5 (apply s_q; decide; rfl; (simp only [go_sem]; rfl))); apply s_nil; simp only [AThen, ABlock]; refine hK _ _ ?_; clear hK K; (iterate 2 (refine AWp_seq_k (fun K hK => ?_))); apply s_region; (iterate 3 (apply s_q; decide; rfl; (simp only [go_sem]; rfl))); apply s_spec; decide; rfl; rfl; (simp only [go_sem]; rfl); (simp only [go_sem]; rfl); (simp only [go_sem]; rfl); (simp only [go_sem]; rfl); trivial; apply s_spec; decide; rfl; rfl; (simp only [go_sem]; rfl); (simp only [go_sem]; rfl); (simp only [go_sem]; rfl); (simp only [go_sem]; rfl); simp [condsOk]; apply s_gpure; decide; (simp only [go_sem]; rfl); (simp only [go_sem]; rfl); (simp only [go_sem]; rfl); trivial; (simp only [go_sem]; rfl); (simp only [go_sem]; rfl); (apply size8_c; exact ⟨rfl, rfl⟩); apply s_spec; decide; rfl; rfl; (simp only [go_sem]; rfl); (simp only [go_sem]; rfl); (simp only [go_sem]; rfl); (simp only [go_sem]; rfl); simp [condsOk]; apply s_pick; decide; (simp only [go_sem]; rfl); (simp only [go_sem]; rfl); (simp only [go_sem]; rfl); (simp only [go_sem]; rfl); (simp only [go_sem]; rfl); (simp only [go_sem]; rfl); trivial; trivial; simp [condsOk]; apply s_nil; simp only [AThen, ABlock]; refine hK _ _ ?_; clear hK K)
  refine cond_split (by simp only [go_sem]; try rfl) (fun hc => ?_) (fun hc => ?_)
  · (refine AWp_seq_k (fun K hK => ?_); apply s_region; apply s_q; decide; rfl; (simp only [go_sem]; rfl); apply s_nil; simp only [AThen, ABlock]; refine hK _ _ ?_; clear hK K; apply AWp_ret; simp only [AThen, ABlock]; apply end_ret; rfl; simp only [AFr.get, reduceIte, Nat.reduceEqDiff])
    refine finB h ?_
    cases hp : hasPre l [36] with
    | false => simp
    | true =>
      simp [hp] at hc ⊢
      intro h11
      exact absurd h11 (by omega)
  · have hp : hasPre l [36] = true := by
      cases hp : hasPre l [36] with
      | false => simp [hp] at hc
      | true => rfl
    simp only [hp] at hc h ⊢
    have h11 : (l.drop 1).length = 11 := by
      simp at hc ⊢; omega
    (apply AWp_skip; simp only [AThen, ABlock]; refine hK _ _ ?_; clear hK K; refine AWp_seq_k (fun K hK => ?_); apply s_region; apply s_q; decide; rfl; (simp only [go_sem]; rfl); apply s_call; decide; (simp only [go_sem]; rfl); (simp only [go_sem]; rfl); apply decode_c _ h11; intro t bs n; (iterate 7 (apply s_q; decide; rfl; (simp only [go_sem]; rfl))); apply s_nil; simp only [AThen, ABlock]; refine hK _ _ ?_; clear hK K; refine AWp_seq_k (fun K hK => ?_); apply s_region; (iterate 3 (apply s_q; decide; rfl; (simp only [go_sem]; rfl))); apply s_nil; simp only [AThen, ABlock]; refine hK _ _ ?_; clear hK K; apply AWp_ret)
    refine finB h ?_
    have h12 : l.length = 12 := by rw [List.length_drop] at h11; omega
    simp [h12]
theorem letter_c (i : Nat) (a : UInt8) (ha : alph[i]? = some a) (H : AHeap) (K : AV → AHeap → Prop) (h : K (.v (.int .u8 a.toNat)) H) : ACall X 79 [.v (.int .i64 i)] H K := by
  have ha' : ([65, 66, 67, 68, 69, 70, 71, 72, 73, 74, 75, 76, 77, 78, 79, 80, 81, 82, 83, 84, 85, 86, 87, 88, 89, 90, 97, 98, 99, 100, 101, 102, 103, 104, 105, 106, 107, 108, 109, 110, 111, 112, 113, 114, 115, 116, 117, 118, 119, 120, 121, 122, 48, 49, 50, 51, 52, 53, 54, 55, 56, 57, 43, 47] : List UInt8)[i]? = some a := ha
  refine ACall_intro Try.func79 rfl (by kernel_rfl) (by rw [Try.ntmps79]; simp) ?_; rw [Try.ntmps79]; simp only [frame0, Nat.reduceAdd]
  (refine AWp_seq_k (fun K hK => ?_); apply s_region; apply s_q; decide; rfl; (simp only [go_sem, ha']; rfl); apply s_nil; simp only [AThen, ABlock]; refine hK _ _ ?_; clear hK K; refine AWp_seq_k (fun K hK => ?_); apply s_region; (iterate 3 (apply s_q; decide; rfl; (simp only [go_sem, ha']; rfl))); apply s_nil; simp only [AThen, ABlock]; refine hK _ _ ?_; clear hK K; apply AWp_ret)
  exact h
theorem number_c (c : UInt8) (H : AHeap) (K : AV → AHeap → Prop) (h : K (.v (.int .i64 (num c))) H) : ACall X 63 [.v (.int .u8 c.toNat)] H K := by
  refine ACall_intro Try.func63 rfl (by kernel_rfl) (by rw [Try.ntmps63]; simp) ?_; rw [Try.ntmps63]; simp only [frame0, Nat.reduceAdd]
  (refine AWp_seq_k (fun K hK => ?_); apply s_region; apply s_q; decide; rfl; (simp only [go_sem]; rfl); apply s_nil; simp only [AThen, ABlock]; refine hK _ _ ?_; clear hK K; (iterate 2 (refine AWp_seq_k (fun K hK => ?_))); apply s_region; apply s_q; decide; rfl; (simp only [go_sem]; rfl); apply s_nil; simp only [AThen, ABlock]; refine hK _ _ ?_; clear hK K; apply AWp_block)
  refine AWp_loop_s (σ := Nat) [0, 3] (fun i => [.v (.int .u8 c.toNat), .v (.int .i64 i)]) (fun _ => H) (fun i => 64 - i) (fun i => i ≤ 64 ∧ ∀ j, j < i → alph[j]? ≠ some c) 0 ⟨by omega, by simp⟩ rfl rfl (fun i hi => ?_)
  simp only [List.zip_cons_cons, List.zip_nil_right]
  ((iterate 2 (refine AWp_seq_k (fun K hK => ?_))); apply s_region; (iterate 2 (apply s_q; decide; rfl; (simp only [go_sem]; rfl))); apply s_nil; simp only [AThen, ABlock]; refine hK _ _ ?_; clear hK K)
  refine cond_split (by simp only [go_sem]; try rfl) (fun hc => ?_) (fun hc => ?_)
  · have hlt : i < 64 := by simp at hc; omega
    obtain ⟨a, hm⟩ := getc (l := alph) (i := i) hlt
    (apply AWp_skip; simp only [AThen, ABlock]; refine hK _ _ ?_; clear hK K; refine AWp_seq_k (fun K hK => ?_); apply AWp_block; refine AWp_seq_k (fun K hK => ?_); apply s_region; apply s_q; decide; rfl; (simp only [go_sem]; rfl); apply s_call; decide; (simp only [go_sem]; rfl); (simp only [go_sem]; rfl); apply letter_c i a hm; (iterate 2 (apply s_q; decide; rfl; (simp only [go_sem]; rfl))); apply s_nil; simp only [AThen, ABlock]; refine hK _ _ ?_; clear hK K)
    refine cond_split (by simp only [go_sem]; try rfl) (fun hd => ?_) (fun hd => ?_)
    · have hac : a = c := by
        have : (a.toNat : Int) = c.toNat := by simpa using hd
        exact UInt8.toNat_inj.1 (by omega)
      (refine AWp_seq_k (fun K hK => ?_); apply s_region; (iterate 2 (apply s_q; decide; rfl; (simp only [go_sem]; rfl))); apply s_nil; simp only [AThen, ABlock]; refine hK _ _ ?_; clear hK K; apply AWp_ret; simp only [AThen, ABlock]; apply end_ret; rfl; simp only [AFr.get, reduceIte, Nat.reduceEqDiff])
      exact finI h (by rw [num, indexByte_first (by rw [hm, hac]) hi.2])
    · (apply AWp_skip; simp only [AThen, ABlock]; refine hK _ _ ?_; clear hK K; apply s_region; (iterate 3 (apply s_q; decide; rfl; (simp only [go_sem]; rfl))); apply s_nil; simp only [AThen, ABlock])
      refine ⟨i + 1, by omega, ⟨by omega, ?_⟩, ?_, by trivial⟩
      · intro j hj
        rcases Nat.lt_succ_iff_lt_or_eq.1 hj with hj | rfl
        · exact hi.2 j hj
        · rw [hm]; rintro e; cases e; simp at hd
      · simp only [getAll, List.map_cons, List.map_nil, AFr.get]
        rw [wrapS hlt (by omega)]; rfl
  · have hge : 64 ≤ i := by simp at hc; omega
    (apply AWp_exit; simp only [AThen, ABlock, reduceIte, Nat.reduceEqDiff]; clear hK K; refine hK _ _ ?_; clear hK K; refine AWp_seq_k (fun K hK => ?_); apply s_region; apply s_q; decide; rfl; (simp only [go_sem]; rfl); apply s_nil; simp only [AThen, ABlock]; refine hK _ _ ?_; clear hK K; apply AWp_ret)
    refine finI h ?_
    rw [num, indexByte_none]
    intro j hj
    have hlt : j < 64 := (List.getElem?_eq_some_iff.1 hj).1
    exact hi.2 j (by omega) hj
/-- the six bits of a letter -/
def bits6 (c : UInt8) : List Int := (List.range 6).map fun k => num c / 2 ^ (5 - k) % 2
theorem bits6_len (c : UInt8) : (bits6 c).length = 6 := by simp [bits6]
theorem bits6_at (c : UInt8) {k : Nat} (hk : k < 6) : (bits6 c)[k]? = some (num c / 2 ^ (5 - k) % 2) := by simp [bits6, hk]
theorem b_and {v : Int} {k : Nat} (hv : 0 ≤ v ∧ v < 64) (hk : k < 6) : IntKind.i64.wrap ((BitVec.ofInt 64 (v.fdiv (2 ^ min (5 - (k : Int)).toNat 64)) &&& BitVec.ofInt 64 1).toNat : Int) = v / 2 ^ (5 - k) % 2 := by
  obtain ⟨a, rfl⟩ := Int.eq_ofNat_of_zero_le hv.1
  have e0 : min (5 - (k : Int)).toNat 64 = 5 - k := by omega
  rw [e0, Int.fdiv_eq_ediv_of_nonneg _ (by exact Int.le_of_lt (Int.pow_pos (by decide)))]
  have e1 : (a : Int) / 2 ^ (5 - k) = ((a / 2 ^ (5 - k) : Nat) : Int) := by simp
  have hle : a / 2 ^ (5 - k) ≤ a := Nat.div_le_self _ _
  rw [e1]
  generalize a / 2 ^ (5 - k) = q at hle ⊢
  rw [BitVec.ofInt_natCast, show BitVec.ofInt 64 1 = BitVec.ofNat 64 1 from rfl, BitVec.toNat_and, BitVec.toNat_ofNat, BitVec.toNat_ofNat, Nat.mod_eq_of_lt (by omega), Nat.mod_eq_of_lt (by omega), Nat.and_one_is_mod]
  simp [IntKind.wrap, IntKind.signed, IntKind.bits]; omega
theorem flat_len (l : List UInt8) : (l.flatMap bits6).length = 6 * l.length := by
  induction l with
  | nil => rfl
  | cons a l ih => simp [List.flatMap_cons, bits6_len, ih]; omega
theorem decode2_c (s : List UInt8) (hl : s.length = 11) (H : AHeap) (K : AV → AHeap → Prop) (h : ∀ t bs n, (decE s = 0 → bs.length = 8) → K (.tup [.sl t bs, .v (.int .i64 (decE s)), .v (.int .i64 n)]) H) : ACall X 50 [.s s] H K := by
  refine ACall.drop ?_
  refine ACall_intro Try.func50 rfl (by kernel_rfl) (by rw [Try.ntmps50]; simp) ?_; rw [Try.ntmps50]; simp only [frame0, Nat.reduceAdd]
  (refine AWp_seq_k (fun K hK => ?_); apply s_region; (iterate 3 (apply s_q; decide; rfl; (simp only [go_sem]; rfl))); apply s_nil; simp only [AThen, ABlock]; refine hK _ _ ?_; clear hK K; refine AWp_seq_k (fun K hK => ?_); apply s_region; apply s_q; decide; rfl; (simp only [go_sem]; rfl); apply s_nil; simp only [AThen, ABlock]; refine hK _ _ ?_; clear hK K; (iterate 2 (refine AWp_seq_k (fun K hK => ?_))); apply s_region; apply s_q; decide; rfl; (simp only [go_sem]; rfl); apply s_nil; simp only [AThen, ABlock]; refine hK _ _ ?_; clear hK K; apply AWp_block)
  refine AWp_loop_s (σ := Nat × AV × AHeap) [0, 5, 6] (fun t => [.s s, t.2.1, .v (.int .i64 t.1)]) (fun t => t.2.2) (fun t => s.length - t.1) (fun t => t.1 ≤ s.length ∧ (∀ c ∈ s.take t.1, 0 ≤ num c) ∧ Gr 3 1 H (((s.take t.1).flatMap bits6).map intCell) t.2.1 t.2.2) (0, .sl true [], H) ⟨Nat.zero_le _, by simp, .inl ⟨rfl, rfl, rfl⟩⟩ rfl rfl (fun t ht => ?_)
  obtain ⟨i, a, L⟩ := t
  obtain ⟨hi, hall, hG⟩ := ht
  simp only [List.zip_cons_cons, List.zip_nil_right] at hi hall hG ⊢
  ((iterate 2 (refine AWp_seq_k (fun K hK => ?_))); apply s_region; (iterate 4 (apply s_q; decide; rfl; (simp only [go_sem]; rfl))); apply s_nil; simp only [AThen, ABlock]; refine hK _ _ ?_; clear hK K)
  refine cond_split (by simp only [go_sem]; try rfl) (fun hc => ?_) (fun hc => ?_)
  · have hlt : i < s.length := by simpa using hc
    obtain ⟨c, hm⟩ := getc hlt
    have hng := num_ge c
    (apply AWp_skip; simp only [AThen, ABlock]; refine hK _ _ ?_; clear hK K; refine AWp_seq_k (fun K hK => ?_); apply AWp_block; refine AWp_seq_k (fun K hK => ?_); apply s_region; (iterate 3 (apply s_q; decide; rfl; (simp only [go_sem, hm]; rfl))); apply s_call; decide; (simp only [go_sem, hm]; rfl); (simp only [go_sem, hm]; rfl); apply number_c c; apply s_q; decide; rfl; (simp only [go_sem, hm]; rfl); apply s_nil; simp only [AThen, ABlock]; refine hK _ _ ?_; clear hK K; (iterate 2 (refine AWp_seq_k (fun K hK => ?_))); apply s_region; (iterate 2 (apply s_q; decide; rfl; (simp only [go_sem, hm]; rfl))); apply s_nil; simp only [AThen, ABlock]; refine hK _ _ ?_; clear hK K)
    refine cond_split (by simp only [go_sem]; try rfl) (fun hd => ?_) (fun hd => ?_)
    · have hbad : decE s = 20 := by
        unfold decE
        rw [if_neg]
        intro hall
        rw [List.all_eq_true] at hall
        have := hall c (List.mem_of_getElem? hm)
        simp at hd this; omega
      (refine AWp_seq_k (fun K hK => ?_); apply s_region; (iterate 4 (apply s_q; decide; rfl; (simp only [go_sem]; rfl))); apply s_nil; simp only [AThen, ABlock]; refine hK _ _ ?_; clear hK K; apply AWp_ret; simp only [AThen, ABlock]; apply end_ret; rfl; simp only [AFr.get, reduceIte, Nat.reduceEqDiff])
      have := h true [] i (by rw [hbad]; intro e; cases e)
      rw [hbad] at this
      exact ⟨H, hG.ext, this⟩
    · have hn0 : 0 ≤ num c := by simpa using hd
      (apply AWp_skip; simp only [AThen, ABlock]; refine hK _ _ ?_; clear hK K; refine AWp_seq_k (fun K hK => ?_); apply s_region; apply s_q; decide; rfl; (simp only [go_sem]; rfl); apply s_nil; simp only [AThen, ABlock]; refine hK _ _ ?_; clear hK K; apply AWp_block)
      refine AWp_loop_s (σ := Nat × AV × AHeap) [0, 5, 6, 7, 8] (fun t => [.s s, t.2.1, .v (.int .i64 i), .v (.int .i64 (num c)), .v (.int .i64 (5 - (t.1 : Int)))]) (fun t => t.2.2) (fun t => 6 - t.1) (fun t => t.1 ≤ 6 ∧ Gr 3 1 H (((s.take i).flatMap bits6 ++ (bits6 c).take t.1).map intCell) t.2.1 t.2.2) (0, a, L) ⟨Nat.zero_le _, by simpa using hG⟩ rfl rfl (fun t ht => ?_)
      obtain ⟨k, a2, L2⟩ := t
      obtain ⟨hk, hG2⟩ := ht
      simp only [List.zip_cons_cons, List.zip_nil_right] at hk hG2 ⊢
      ((iterate 2 (refine AWp_seq_k (fun K hK => ?_))); apply s_region; (iterate 2 (apply s_q; decide; rfl; (simp only [go_sem]; rfl))); apply s_nil; simp only [AThen, ABlock]; refine hK _ _ ?_; clear hK K)
      refine cond_split (by simp only [go_sem]; try rfl) (fun he => ?_) (fun he => ?_)
      · have hk6 : k < 6 := by simp at he; omega
        have hfl := flat_len (s.take i)
        have htl : (s.take i).length ≤ 11 := by rw [List.length_take]; omega
        have hb6 := bits6_len c
        have hsh : (0 : Int) ≤ 5 - (k : Int) := by omega
        obtain ⟨pre, hpre⟩ : ∃ pre, (s.take i).flatMap bits6 ++ (bits6 c).take k = pre := ⟨_, rfl⟩
        have hpl : pre.length ≤ 100 := by rw [← hpre, List.length_append, List.length_take, hfl]; omega
        rw [hpre] at hG2
        (apply AWp_skip; simp only [AThen, ABlock]; refine hK _ _ ?_; clear hK K; refine AWp_seq_k (fun K hK => ?_); apply AWp_block; apply s_region; (iterate 5 (apply s_q; decide; rfl; (simp only [go_sem, hsh]; rfl))); apply s_lit; decide; exact el_95; (simp only [go_sem, hsh]; rfl); (simp only [go_sem, hsh]; rfl); decide; apply s_append; decide; (simp only [go_sem, hsh]; rfl); (simp only [go_sem, hsh]; rfl); apply AApp_map el_95 hG2 (l := pre) (m := [_]) (g := intCell) rfl rfl tk_95 int_one (by simp; omega) (by simp; omega); intro s1 H1 hG1; apply s_q; decide; rfl; (simp only [go_sem, hsh]; rfl); apply s_nil; simp only [AThen, ABlock]; refine hK _ _ ?_; clear hK K; apply s_region; (iterate 3 (apply s_q; decide; rfl; (simp only [go_sem, hsh]; rfl))); apply s_nil; simp only [AThen, ABlock])
        have eA := b_and (v := num c) (k := k) ⟨hn0, hng.2⟩ hk6
        refine ⟨(k + 1, s1, H1), by simp only; omega, ⟨by simp only; omega, ?_⟩, ?_, by trivial⟩
        · simp only
          have : (s.take i).flatMap bits6 ++ (bits6 c).take (k + 1) = pre ++ [num c / 2 ^ (5 - k) % 2] := by
            rw [List.take_add_one, bits6_at c hk6, ← List.append_assoc, hpre]; rfl
          rw [this, ← eA]
          exact hG1
        · simp only [getAll, List.map_cons, List.map_nil, AFr.get, reduceIte, Nat.reduceEqDiff]
          rw [wrap64 (by omega), show (5 : Int) - (k : Int) - 1 = 5 - ((k + 1 : Nat) : Int) from by omega]
      · have hk6 : k = 6 := by simp at he; omega
        subst hk6
        (apply AWp_exit; simp only [AThen, ABlock, reduceIte, Nat.reduceEqDiff]; clear hK K; refine hK _ _ ?_; clear hK K; apply s_region; (iterate 3 (apply s_q; decide; rfl; (simp only [go_sem]; rfl))); apply s_nil; simp only [AThen, ABlock])
        refine ⟨(i + 1, a2, L2), by simp only; omega, ⟨by simp only; omega, ?_, ?_⟩, ?_, by trivial⟩
        · intro c' hcm
          rcases take_mem_succ hm hcm with hx | hx
          · exact hall c' hx
          · subst hx; exact hn0
        · simp only
          rw [take_succ hm, List.flatMap_append]
          rw [List.take_of_length_le (l := bits6 c) (by rw [bits6_len]; omega)] at hG2
          simpa using hG2
        · simp only [getAll, List.map_cons, List.map_nil, AFr.get]
          rw [wrapS hlt (by omega)]; rfl
  · have hge : s.length ≤ i := by simpa using hc
    rw [List.take_of_length_le hge] at hall hG
    have hfl := flat_len s
    refine AWp_cut [5, 0] (vs := [a, .s s]) rfl ?_
    simp only [List.zip_cons_cons, List.zip_nil_right]
    refine AWp_gr hG (fun _ => rfl) ?_
    obtain ⟨bt, hbt⟩ : ∃ bt, s.flatMap bits6 = bt := ⟨_, rfl⟩
    rw [hbt] at hfl ⊢
    (apply AWp_exit; simp only [AThen, ABlock, reduceIte, Nat.reduceEqDiff]; clear hK K; refine hK _ _ ?_; clear hK K; (iterate 2 (refine AWp_seq_k (fun K hK => ?_))); apply s_region; (iterate 4 (apply s_q; decide; rfl; (simp only [go_sem]; rfl))); apply s_nil; simp only [AThen, ABlock]; refine hK _ _ ?_; clear hK K)
    refine cond_split (by simp only [go_sem]; try rfl) (fun hd => ?_) (fun hd => ?_)
    · simp [hl] at hd
    (apply AWp_skip; simp only [AThen, ABlock]; refine hK _ _ ?_; clear hK K; refine AWp_seq_k (fun K hK => ?_); apply s_region; apply s_q; decide; rfl; (simp only [go_sem]; rfl); apply s_nil; simp only [AThen, ABlock]; refine hK _ _ ?_; clear hK K; (iterate 2 (refine AWp_seq_k (fun K hK => ?_))); apply s_region; apply s_q; decide; rfl; (simp only [go_sem]; rfl); apply s_nil; simp only [AThen, ABlock]; refine hK _ _ ?_; clear hK K; apply AWp_block)
    refine AWp_loop_s (σ := Nat × List Int × AV × AHeap) [0, 5, 9, 10] (fun t => [.s s, .sl false (bt.map intCell), t.2.2.1, .v (.int .i64 (8 * (t.1 : Int)))]) (fun t => t.2.2.2) (fun t => 8 - t.1) (fun t => t.1 ≤ 8 ∧ t.2.1.length = t.1 ∧ Gr 5 1 H (t.2.1.map byteCells) t.2.2.1 t.2.2.2) (0, [], .sl true [], H) ⟨Nat.zero_le _, rfl, .inl ⟨rfl, rfl, rfl⟩⟩ rfl rfl (fun t ht => ?_)
    obtain ⟨j, bs, a2, L2⟩ := t
    obtain ⟨hj, hbl, hG2⟩ := ht
    simp only [List.zip_cons_cons, List.zip_nil_right] at hj hbl hG2 ⊢
    have ew : IntKind.i64.wrap (8 * (j : Int) + 8) = 8 * (j : Int) + 8 := wrap64 (by omega)
    ((iterate 2 (refine AWp_seq_k (fun K hK => ?_))); apply s_region; (iterate 5 (apply s_q; decide; rfl; (simp only [go_sem, ew]; rfl))); apply s_nil; simp only [AThen, ABlock]; refine hK _ _ ?_; clear hK K)
    refine cond_split (by simp only [go_sem]; try rfl) (fun he => ?_) (fun he => ?_)
    · have hj8 : j < 8 := by simp at he; omega
      (apply AWp_skip; simp only [AThen, ABlock]; refine hK _ _ ?_; clear hK K; refine AWp_seq_k (fun K hK => ?_); apply AWp_block; refine AWp_seq_k (fun K hK => ?_); apply s_region; apply s_q; decide; rfl; (simp only [go_sem]; rfl); apply s_nil; simp only [AThen, ABlock]; refine hK _ _ ?_; clear hK K; (iterate 2 (refine AWp_seq_k (fun K hK => ?_))); apply s_region; apply s_q; decide; rfl; (simp only [go_sem]; rfl); apply s_nil; simp only [AThen, ABlock]; refine hK _ _ ?_; clear hK K; apply AWp_block)
      refine AWp_loop_s (σ := Nat × Int) [0, 5, 9, 10, 11, 12] (fun t => [.s s, .sl false (bt.map intCell), a2, .v (.int .i64 (8 * (j : Int))), .v (.int .i64 t.2), .v (.int .i64 t.1)]) (fun t => L2) (fun t => 8 - t.1) (fun t => t.1 ≤ 8) (0, 0) (Nat.zero_le _) rfl rfl (fun t ht => ?_)
      obtain ⟨k, v⟩ := t
      simp only [List.zip_cons_cons, List.zip_nil_right] at ht ⊢
      ((iterate 2 (refine AWp_seq_k (fun K hK => ?_))); apply s_region; (iterate 2 (apply s_q; decide; rfl; (simp only [go_sem]; rfl))); apply s_nil; simp only [AThen, ABlock]; refine hK _ _ ?_; clear hK K)
      refine cond_split (by simp only [go_sem]; try rfl) (fun hf => ?_) (fun hf => ?_)
      · have hk8 : k < 8 := by simp at hf; omega
        have ek : IntKind.i64.wrap (8 * (j : Int) + (k : Int)) = ((8 * j + k : Nat) : Int) := by rw [wrap64 (by omega)]; omega
        obtain ⟨bv, hbv⟩ := gete (l := bt) (i := 8 * j + k) (by omega)
        have hg : (bt.map intCell)[8 * j + k]? = some [.v (.int .i64 bv)] := by rw [List.getElem?_map, hbv]; rfl
        (apply AWp_skip; simp only [AThen, ABlock]; refine hK _ _ ?_; clear hK K; refine AWp_seq_k (fun K hK => ?_); apply AWp_block; apply s_region; (iterate 10 (apply s_q; decide; rfl; (simp only [go_sem, ek, hg]; rfl))); apply s_nil; simp only [AThen, ABlock]; refine hK _ _ ?_; clear hK K; apply s_region; (iterate 3 (apply s_q; decide; rfl; (simp only [go_sem, ek, hg]; rfl))); apply s_nil; simp only [AThen, ABlock])
        refine ⟨(k + 1, IntKind.i64.wrap (IntKind.i64.wrap (2 * v) + bv)), by simp only; omega, by simp only; omega, ?_, by trivial⟩
        simp only [getAll, List.map_cons, List.map_nil, AFr.get, reduceIte, Nat.reduceEqDiff]
        rw [wrapS hk8 (by omega)]
      · (apply AWp_exit; simp only [AThen, ABlock, reduceIte, Nat.reduceEqDiff]; clear hK K; refine hK _ _ ?_; clear hK K; apply s_region; (iterate 3 (apply s_q; decide; rfl; (simp only [go_sem]; rfl))); apply s_lit; decide; exact el_84; (simp only [go_sem]; rfl); (simp only [go_sem]; rfl); decide; apply s_append; decide; (simp only [go_sem]; rfl); (simp only [go_sem]; rfl); apply AApp_map el_84 hG2 (l := bs) (m := [_]) (g := byteCells) rfl rfl tk_84 byte_one (by simp; omega) (by simp; omega); intro s1 H1 hG1; apply s_q; decide; rfl; (simp only [go_sem]; rfl); apply s_nil; simp only [AThen, ABlock]; refine hK _ _ ?_; clear hK K; apply s_region; (iterate 3 (apply s_q; decide; rfl; (simp only [go_sem]; rfl))); apply s_nil; simp only [AThen, ABlock])
        refine ⟨(j + 1, bs ++ [_], s1, H1), by simp only; omega, ⟨by simp only; omega, by simp [hbl], by simpa using hG1⟩, ?_, by trivial⟩
        simp only [getAll, List.map_cons, List.map_nil, AFr.get, reduceIte, Nat.reduceEqDiff]
        rw [ew]; congr 5
    · have hj8 : j = 8 := by simp [hl, hfl] at he; omega
      subst hj8
      have hall' : s.all (fun c => decide (0 ≤ num c)) = true := List.all_eq_true.2 fun c hc => by simpa using hall c hc
      obtain ⟨c, hm⟩ := getc (l := s) (i := 10) (by omega)
      have hde : decE s = if num c % 4 = 0 then 0 else 21 := by
        unfold decE
        rw [if_pos hall', List.getD_eq_getElem?_getD, hm]; rfl
      have hlast : ∀ k, k < 6 → bt[60 + k]? = some (num c / 2 ^ (5 - k) % 2) := fun k hk => by
        have e1 : s = s.take 10 ++ [c] := by rw [← take_succ hm, List.take_of_length_le (by omega)]
        rw [← hbt, e1, List.flatMap_append, List.getElem?_append_right (by rw [flat_len, List.length_take]; omega), flat_len, List.length_take]
        simp only [List.flatMap_cons, List.flatMap_nil, List.append_nil]
        rw [show 60 + k - 6 * min 10 s.length = k from by omega]
        exact bits6_at c hk
      refine AWp_cut [9, 0, 5] (vs := [a2, .s s, .sl false (bt.map intCell)]) rfl ?_
      simp only [List.zip_cons_cons, List.zip_nil_right]
      refine AWp_gr hG2 (fun _ => by simp only [AFr.snap, AV.snap, snap_ints]) ?_
      have ew8 : IntKind.i64.wrap (8 * (bs.length : Int)) = 64 := by rw [hbl]; rfl
      (apply AWp_exit; simp only [AThen, ABlock, reduceIte, Nat.reduceEqDiff]; clear hK K; refine hK _ _ ?_; clear hK K; (iterate 2 (refine AWp_seq_k (fun K hK => ?_))); apply s_region; (iterate 4 (apply s_q; decide; rfl; (simp only [go_sem, ew8]; rfl))); apply s_nil; simp only [AThen, ABlock]; refine hK _ _ ?_; clear hK K; apply AWp_block)
      refine AWp_loop_s (σ := Nat) [0, 5, 9, 13] (fun e => [.s s, .sl false (bt.map intCell), .sl false (bs.map byteCells), .v (.int .i64 (64 + (e : Int)))]) (fun _ => H) (fun e => 2 - e) (fun e => e ≤ 2 ∧ ∀ q, q < e → bt[64 + q]? = some 0) 0 ⟨Nat.zero_le _, by omega⟩ rfl rfl (fun e he2 => ?_)
      simp only [List.zip_cons_cons, List.zip_nil_right]
      ((iterate 2 (refine AWp_seq_k (fun K hK => ?_))); apply s_region; (iterate 4 (apply s_q; decide; rfl; (simp only [go_sem]; rfl))); apply s_nil; simp only [AThen, ABlock]; refine hK _ _ ?_; clear hK K)
      refine cond_split (by simp only [go_sem]; try rfl) (fun hf => ?_) (fun hf => ?_)
      · have he3 : e < 2 := by simp [hl, hfl] at hf; omega
        have ek : (64 : Int) + (e : Int) = ((64 + e : Nat) : Int) := by omega
        have hb1 := hlast (4 + e) (by omega)
        rw [show 60 + (4 + e) = 64 + e from by omega] at hb1
        obtain ⟨bv, hbv⟩ : ∃ bv, num c / 2 ^ (5 - (4 + e)) % 2 = bv := ⟨_, rfl⟩
        rw [hbv] at hb1
        have hg : (bt.map intCell)[64 + e]? = some [.v (.int .i64 bv)] := by rw [List.getElem?_map, hb1]; rfl
        rw [ek]
        (apply AWp_skip; simp only [AThen, ABlock]; refine hK _ _ ?_; clear hK K; refine AWp_seq_k (fun K hK => ?_); apply AWp_block; refine AWp_seq_k (fun K hK => ?_); apply s_region; (iterate 5 (apply s_q; decide; rfl; (simp only [go_sem, hg]; rfl))); apply s_nil; simp only [AThen, ABlock]; refine hK _ _ ?_; clear hK K)
        refine cond_split (by simp only [go_sem]; try rfl) (fun hq => ?_) (fun hq => ?_)
        · have h4 : ¬ num c % 4 = 0 := by
            intro h4
            have : e = 0 ∨ e = 1 := by omega
            rcases this with rfl | rfl
            · simp at hbv hq; omega
            · simp at hbv hq; omega
          rw [if_neg h4] at hde
          (refine AWp_seq_k (fun K hK => ?_); apply s_region; (iterate 6 (apply s_q; decide; rfl; (simp only [go_sem]; rfl))); apply s_nil; simp only [AThen, ABlock]; refine hK _ _ ?_; clear hK K; apply AWp_ret; simp only [AThen, ABlock]; apply end_ret; rfl; simp only [AFr.get, reduceIte, Nat.reduceEqDiff])
          have := h true [] 10 (by rw [hde]; intro e; cases e)
          rw [hde] at this
          refine ⟨H, Ext.refl H, ?_⟩
          rw [hl]; exact this
        · (apply AWp_skip; simp only [AThen, ABlock]; refine hK _ _ ?_; clear hK K; apply s_region; (iterate 3 (apply s_q; decide; rfl; (simp only [go_sem]; rfl))); apply s_nil; simp only [AThen, ABlock])
          refine ⟨e + 1, by omega, ⟨by omega, ?_⟩, ?_, by trivial⟩
          · intro q hqe
            rcases Nat.lt_succ_iff_lt_or_eq.1 hqe with hqe | rfl
            · exact he2.2 q hqe
            · rw [hb1]; simp at hq; rw [hq]
          · simp only [getAll, List.map_cons, List.map_nil, AFr.get]
            rw [wrap64 (by omega)]; congr 5
      · have he3 : e = 2 := by simp [hl, hfl] at hf; omega
        subst he3
        have h1 := hlast 4 (by omega)
        have h2 := hlast 5 (by omega)
        have g1 := he2.2 0 (by omega)
        have g2 := he2.2 1 (by omega)
        have h4 : num c % 4 = 0 := by
          rw [h1] at g1; rw [h2] at g2
          simp at g1 g2; omega
        rw [if_pos h4] at hde
        (apply AWp_exit; simp only [AThen, ABlock, reduceIte, Nat.reduceEqDiff]; clear hK K; refine hK _ _ ?_; clear hK K; refine AWp_seq_k (fun K hK => ?_); apply s_region; (iterate 4 (apply s_q; decide; rfl; (simp only [go_sem]; rfl))); apply s_nil; simp only [AThen, ABlock]; refine hK _ _ ?_; clear hK K; apply AWp_ret)
        have := h false (bs.map byteCells) 0 (fun _ => by simp [hbl])
        rw [hde] at this
        exact ⟨H, Ext.refl H, this⟩
theorem event2_c (l : List UInt8) (H : AHeap) (K : AV → AHeap → Prop) (h : K (.v (.bool (isEv l))) H) : ACall X 29 [.s l] H K := by
  by_cases h12 : l.length = 12
  · obtain ⟨a, ha⟩ := getc (l := l) (i := 0) (by omega)
    have h11 : (l.drop 1).length = 11 := by rw [List.length_drop]; omega
    have hev : isEv l = (decide (a.toNat = 36) && decide (decE (l.drop 1) = 0)) := by
      unfold isEv
      rw [decide_eq_true h12, Bool.true_and, List.getD_eq_getElem?_getD, ha]
      have : (a = 36) ↔ (a.toNat = 36) := ⟨fun h => by subst h; rfl, fun h => UInt8.toNat_inj.1 h⟩
      simp [this]
    rw [hev] at h
    refine ACall_intro Try.func29 rfl (by kernel_rfl) (by rw [Try.ntmps29]; simp) ?_; rw [Try.ntmps29]; simp only [frame0, Nat.reduceAdd]
    have h00 : (0 : Int) ≤ 0 := Int.le_refl 0
    have ht0 : Int.toNat 0 = 0 := rfl
    (refine AWp_seq_k (fun K hK => ?_); apply s_region; apply s_q; decide; rfl; (simp only [go_sem, ha]; rfl); apply s_nil; simp only [AThen, ABlock]; refine hK _ _ ?_; clear hK K; (iterate 2 (refine AWp_seq_k (fun K hK => ?_))); apply s_region; (iterate 4 (apply s_q; decide; rfl; (simp only [go_sem, ha]; rfl))); apply s_spec; decide; rfl; rfl; (simp only [go_sem, ha]; rfl); (simp only [go_sem, ha]; rfl); (simp only [go_sem, ha]; rfl); (simp only [go_sem, ha]; rfl); trivial; apply s_when; decide; (simp only [go_sem, ha]; rfl); (simp only [go_sem, ha]; rfl); (simp only [go_sem, ha]; rfl); simp [condsOk]; (intro hg; simp only [go_sem, ha, h00, ht0]; try rfl); apply s_spec; decide; rfl; rfl; (simp only [go_sem, ha]; rfl); (simp only [go_sem, ha]; rfl); (simp only [go_sem, ha]; rfl); (simp only [go_sem, ha]; rfl); simp [condsOk]; apply s_pick; decide; (simp only [go_sem, ha]; rfl); (simp only [go_sem, ha]; rfl); (simp only [go_sem, ha]; rfl); (simp only [go_sem, ha]; rfl); (simp only [go_sem, ha]; rfl); (simp only [go_sem, ha]; rfl); trivial; trivial; simp [condsOk]; apply s_nil; simp only [AThen, ABlock]; refine hK _ _ ?_; clear hK K)
    refine cond_split (by simp only [go_sem]; try rfl) (fun hc => ?_) (fun hc => ?_)
    · (refine AWp_seq_k (fun K hK => ?_); apply s_region; apply s_q; decide; rfl; (simp only [go_sem]; rfl); apply s_nil; simp only [AThen, ABlock]; refine hK _ _ ?_; clear hK K; apply AWp_ret; simp only [AThen, ABlock]; apply end_ret; rfl; simp only [AFr.get, reduceIte, Nat.reduceEqDiff])
      refine finB h ?_
      have : a.toNat ≠ 36 := fun e => by simp [h12, e] at hc
      simp [this]
    · have h36 : a.toNat = 36 := by simp [h12] at hc; omega
      have hle : (1 : Int).toNat ≤ l.length := by show 1 ≤ _; omega
      have h01 : (0 : Int) ≤ 1 := by decide
      have ht1 : (1 : Int).toNat = 1 := rfl
      have hle1 : 1 ≤ l.length := by omega
      (apply AWp_skip; simp only [AThen, ABlock]; refine hK _ _ ?_; clear hK K; refine AWp_seq_k (fun K hK => ?_); apply s_region; (iterate 2 (apply s_q; decide; rfl; (simp only [go_sem, hle, h01, ht1, hle1, Nat.le_refl, List.take_length]; rfl))); apply s_call; decide; (simp only [go_sem, hle, h01, ht1, hle1, Nat.le_refl, List.take_length]; rfl); (simp only [go_sem, hle, h01, ht1, hle1, Nat.le_refl, List.take_length]; rfl); apply decode2_c _ h11; intro t bs n hb8; (iterate 7 (apply s_q; decide; rfl; (simp only [go_sem, hle, h01, ht1, hle1, Nat.le_refl, List.take_length]; rfl))); apply s_nil; simp only [AThen, ABlock]; refine hK _ _ ?_; clear hK K; refine AWp_seq_k (fun K hK => ?_); apply s_region; (iterate 3 (apply s_q; decide; rfl; (simp only [go_sem, hle, h01, ht1, hle1, Nat.le_refl, List.take_length]; rfl))); apply s_spec; decide; rfl; rfl; (simp only [go_sem, hle, h01, ht1, hle1, Nat.le_refl, List.take_length]; rfl); (simp only [go_sem, hle, h01, ht1, hle1, Nat.le_refl, List.take_length]; rfl); (simp only [go_sem, hle, h01, ht1, hle1, Nat.le_refl, List.take_length]; rfl); (simp only [go_sem, hle, h01, ht1, hle1, Nat.le_refl, List.take_length]; rfl); trivial; (iterate 2 (apply s_spec; decide; rfl; rfl; (simp only [go_sem, hle, h01, ht1, hle1, Nat.le_refl, List.take_length]; rfl); (simp only [go_sem, hle, h01, ht1, hle1, Nat.le_refl, List.take_length]; rfl); (simp only [go_sem, hle, h01, ht1, hle1, Nat.le_refl, List.take_length]; rfl); (simp only [go_sem, hle, h01, ht1, hle1, Nat.le_refl, List.take_length]; rfl); simp [condsOk])); apply s_pick; decide; (simp only [go_sem, hle, h01, ht1, hle1, Nat.le_refl, List.take_length]; rfl); (simp only [go_sem, hle, h01, ht1, hle1, Nat.le_refl, List.take_length]; rfl); (simp only [go_sem, hle, h01, ht1, hle1, Nat.le_refl, List.take_length]; rfl); (simp only [go_sem, hle, h01, ht1, hle1, Nat.le_refl, List.take_length]; rfl); (simp only [go_sem, hle, h01, ht1, hle1, Nat.le_refl, List.take_length]; rfl); (simp only [go_sem, hle, h01, ht1, hle1, Nat.le_refl, List.take_length]; rfl); trivial; simp [condsOk]; trivial; apply s_q; decide; rfl; (simp only [go_sem, hle, h01, ht1, hle1, Nat.le_refl, List.take_length]; rfl); apply s_nil; simp only [AThen, ABlock]; refine hK _ _ ?_; clear hK K; apply AWp_ret)
      refine finB h ?_
      by_cases hd0 : decE (l.drop 1) = 0
      · simp only [h36, hd0, hb8 hd0]; rfl
      · simp only [h36, hd0]; simp
  · have hev : isEv l = false := by unfold isEv; rw [decide_eq_false h12]; rfl
    rw [hev] at h
    have hn : ¬ (l.length : Int) = 12 := by omega
    refine ACall_intro Try.func29 rfl (by kernel_rfl) (by rw [Try.ntmps29]; simp) ?_; rw [Try.ntmps29]; simp only [frame0, Nat.reduceAdd]
    (refine AWp_seq_k (fun K hK => ?_); apply s_region; apply s_q; decide; rfl; (simp only [go_sem, hn]; rfl); apply s_nil; simp only [AThen, ABlock]; refine hK _ _ ?_; clear hK K; (iterate 2 (refine AWp_seq_k (fun K hK => ?_))); apply s_region; (iterate 4 (apply s_q; decide; rfl; (simp only [go_sem, hn]; rfl))); apply s_spec; decide; rfl; rfl; (simp only [go_sem, hn]; rfl); (simp only [go_sem, hn]; rfl); (simp only [go_sem, hn]; rfl); (simp only [go_sem, hn]; rfl); trivial; apply s_when (av := (.v (.int .u8 0))); decide; (simp only [go_sem, hn]; rfl); (simp only [go_sem, hn]; rfl); (simp only [go_sem, hn]; rfl); trivial; (focus (intro hg; first | (cases hg; done) | (simp at hg; done))); apply s_spec; decide; rfl; rfl; (simp only [go_sem, hn]; rfl); (simp only [go_sem, hn]; rfl); (simp only [go_sem, hn]; rfl); (simp only [go_sem, hn]; rfl); trivial; apply s_pick; decide; (simp only [go_sem, hn]; rfl); (simp only [go_sem, hn]; rfl); (simp only [go_sem, hn]; rfl); (simp only [go_sem, hn]; rfl); (simp only [go_sem, hn]; rfl); (simp only [go_sem, hn]; rfl); trivial; trivial; trivial; apply s_nil; simp only [AThen, ABlock]; refine hK _ _ ?_; clear hK K)
    refine cond_split (by simp only [go_sem]; try rfl) (fun hc => ?_) (fun hc => ?_)
    · (refine AWp_seq_k (fun K hK => ?_); apply s_region; apply s_q; decide; rfl; (simp only [go_sem]; rfl); apply s_nil; simp only [AThen, ABlock]; refine hK _ _ ?_; clear hK K; apply AWp_ret; simp only [AThen, ABlock]; apply end_ret; rfl; simp only [AFr.get, reduceIte, Nat.reduceEqDiff])
      exact h
    · simp [hn] at hc
end Go.Proofs.Ytmloandpjbimkaa
