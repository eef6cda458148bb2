/- What BagOwn's loops do to the bags that it was told: they stay bags, and nothing else turns. -/
import Derived.Test.YtoookgkhelcngaaH9
namespace Go.Proofs.Ytoookgkhelcngaa.G
open Go.RowKit Go.Proofs.YtoookgkhelcngaaW.PrintWords Go.Proofs.YtoookgkhelcngaaW.PrintLast Go.Proofs.YtoookgkhelcngaaW.PrintMore
set_option linter.unusedVariables false
set_option linter.unusedSimpArgs false

/-- A row of one datagram. -/
theorem row1 {W : World} {g c : Nat} {A : Option Addr} {x : S26} (h : W.heap[g]? = some (.cells #[.int .i64 x.f0, .slice A x.f1.length c, .bool x.f2] 26 (0, 0))) (hc : x.f1.length ≤ c) (hC : (Kd.int .u8).C W A x.f1.length x.f1) : Kd.C k26 W (some ⟨g, 0, none⟩) ([x] : List S26).length [x] :=
  ⟨rfl, by simp, fun _ => ⟨_, rfl, fun j p hj => by
    match j, hj with
    | 0, hj =>
      obtain rfl := Option.some.inj hj
      refine ⟨_, rfl, k26_mk W x hc hC, fun i u hu => ?_⟩
      match i, hu with
      | 0, hu => obtain rfl := Option.some.inj hu; exact (blk_cell h 0).trans rfl
      | 1, hu => obtain rfl := Option.some.inj hu; exact (blk_cell h 1).trans rfl
      | 2, hu => obtain rfl := Option.some.inj hu; exact (blk_cell h 2).trans rfl⟩⟩
section
variable {W : World} {N : Nat} {ok : Nat → Prop} {g n c : Nat} {l : List S26}
/-- A datagram of a row of one's own gets another place to go. -/
theorem put_to (h : Kd.S k26 26 W N ok (.slice (some ⟨g, 0, none⟩) n c) l) (m : Nat) (hm : m < n) :
    (∃ v, W.cell? ⟨g, m * 3, none⟩ = some (.int .i64 v)) ∧ W.frozen? ⟨g, m * 3, none⟩ = false ∧ ∀ u : Int, ∃ l', l'.length = l.length ∧ Kd.S k26 26 (W.setCell ⟨g, m * 3, none⟩ (.int .i64 u)) N ok (.slice (some ⟨g, 0, none⟩) n c) l' := by
  obtain ⟨oki, cs, hcl, hM, hcu, hfr, hoki, hH⟩ := Kd.S_elem h z26 (m : Int) (by omega) (by omega)
  obtain ⟨v1, rfl, hR⟩ := k26_openM hM
  have h0 := hcu 0 _ rfl
  have f0 := hfr 0
  rw [Int.toNat_natCast] at h0 f0
  refine ⟨⟨_, h0⟩, f0, fun u => ⟨l.set m ⟨u, (rd_T26 l m).f1, (rd_T26 l m).f2⟩, by rw [List.length_set], ?_⟩⟩
  have hH2 := (Kd.H_seg hH (by omega) (by omega) (seg := [.int .i64 u]) (j := 0) (by show 0 + 1 ≤ 3; omega) (by simp [Value.oneCell'])).1
  rw [Int.toNat_natCast] at hH2
  have hR2 := Kd.R_far (p := ⟨g, m * 3, none⟩) hR (fun k hk => (hoki k hk).2) (.int .i64 u)
  have hB := Kd.H_back hH2 (k26_mkM _ _ _ (⟨u, (rd_T26 l m).f1, (rd_T26 l m).f2⟩ : S26) hR2) (fun k hk => hk)
  rw [Int.toNat_natCast] at hB
  exact hB
/-- A datagram's bytes, in a row of one's own: where they are told. -/
theorem bytes_of (h : Kd.S k26 26 W N ok (.slice (some ⟨g, 0, none⟩) n c) l) (m : Nat) (hm : m < n) : ∃ B cb, W.cell? ⟨g, m * 3 + 1, none⟩ = some (.slice B (rd_T26 l m).f1.length cb) ∧ (rd_T26 l m).f1.length ≤ 9223372036854775807 := by
  obtain ⟨oki, cs, hcl, hM, hcu, hfr, hoki, hH⟩ := Kd.S_elem h z26 (m : Int) (by omega) (by omega)
  obtain ⟨v1, rfl, hR⟩ := k26_openM hM
  obtain ⟨B, cb, rfl⟩ := Kd.R_slice hR
  have h1 := hcu 1 _ rfl
  have hmx := (Kd.R_reads' hR).2.2.2.1
  rw [Int.toNat_natCast] at h1 hmx
  exact ⟨B, cb, h1, hmx⟩
/-- One of them is another one then. -/
theorem put_byte (h : Kd.S k26 26 W N ok (.slice (some ⟨g, 0, none⟩) n c) l) (m : Nat) (hm : m < n) {B : Option Addr} {L cb : Nat} (hc : W.cell? ⟨g, m * 3 + 1, none⟩ = some (.slice B L cb)) (j : Nat) (hj : j < L) :
    ∃ bb v, B = some ⟨bb, 0, none⟩ ∧ bb ≠ g ∧ ok bb ∧ N ≤ bb ∧ L ≤ 9223372036854775807 ∧ W.cell? ⟨bb, j, none⟩ = some (.int .u8 v) ∧ W.frozen? ⟨bb, j, none⟩ = false ∧
      ∀ u : Int, ∃ l', l'.length = l.length ∧ Kd.S k26 26 (W.setCell ⟨bb, j, none⟩ (.int .u8 u)) N ok (.slice (some ⟨g, 0, none⟩) n c) l' := by
  obtain ⟨oki, cs, hcl, hM, hcu, hfr, hoki, hH⟩ := Kd.S_elem h z26 (m : Int) (by omega) (by omega)
  obtain ⟨v1, rfl, hR⟩ := k26_openM hM
  have h1 : W.cell? ⟨g, m * 3 + 1, none⟩ = some v1 := by have h := hcu 1 _ rfl; rw [Int.toNat_natCast] at h; exact h
  rw [hc] at h1
  obtain rfl := Option.some.inj h1
  rw [Int.toNat_natCast] at hR
  change (Kd.int .u8).R 5 W N oki (.slice B L cb) (rd_T26 l m).f1 at hR
  have hL := (Kd.R_reads' hR).1
  obtain ⟨bb, cb', e, hNb, hbl, _⟩ := Kd.R_form hR (by omega)
  injection e with e1 e2 e3
  subst e1
  have hb := hR.1 bb (by simp [Value.ownBlock])
  obtain ⟨hx, hf⟩ := Kd.R_celln (0 : Int) hR (j : Int) (by omega) (by omega)
  rw [Int.toNat_natCast] at hx hf
  have hLs : L ≤ 9223372036854775807 := by rw [hL]; exact (Kd.R_reads' hR).2.2.2.1
  refine ⟨bb, _, rfl, (hoki bb hb).2, (hoki bb hb).1, hNb, hLs, hx, hf, fun u => ⟨l.set m ⟨(rd_T26 l m).f0, (rd_T26 l m).f1.set j u, (rd_T26 l m).f2⟩, by rw [List.length_set], ?_⟩⟩
  have hR1 := Kd.R_putn (enc := Value.int .u8) hR (j : Int) u
  rw [Int.toNat_natCast] at hR1
  have hH1 := Kd.H_grown hH (grownBy_row (tb := bb) ⟨rfl, rfl, rfl, Nat.le_refl _, fun _ _ _ => rfl⟩ j (.int .u8 u)) (fun k e => by cases e; exact hb)
  have hMM := k26_mkM (W.setCell ⟨bb, j, none⟩ (.int .u8 u)) N oki (⟨(rd_T26 l m).f0, (rd_T26 l m).f1.set j u, (rd_T26 l m).f2⟩ : S26) hR1
  have hB := Kd.H_back hH1 (x' := (⟨(rd_T26 l m).f0, (rd_T26 l m).f1.set j u, (rd_T26 l m).f2⟩ : S26)) hMM (fun k hk => hk)
  rw [Int.toNat_natCast] at hB
  exact hB
end

/-- A row of bytes of one's own: a place of it. -/
theorem own_at {W : World} {N : Nat} {ok : Nat → Prop} {A : Option Addr} {n c : Nat} {X : List Int} (h : (Kd.int .u8).R 5 W N ok (.slice A n c) X) {j : Nat} (hj : j < n) :
    ∃ bb v, A = some ⟨bb, 0, none⟩ ∧ N ≤ bb ∧ W.cell? ⟨bb, j, none⟩ = some (.int .u8 v) := by
  have hl := (Kd.R_reads' h).1
  obtain ⟨bb, cb, e, hN, _, _⟩ := Kd.R_form h (by omega)
  injection e with e1 e2 e3
  subst e1
  have hx := (Kd.R_celln (0 : Int) h (j : Int) (by omega) (by omega)).1
  rw [Int.toNat_natCast] at hx
  exact ⟨bb, _, rfl, hN, hx⟩
/-- That place written. -/
theorem put_row {W : World} {N bb : Nat} {ok : Nat → Prop} {n c : Nat} {X : List Int} (h : (Kd.int .u8).R 5 W N ok (.slice (some ⟨bb, 0, none⟩) n c) X) (j : Nat) (u : Int) :
    (Kd.int .u8).R 5 (W.setCell ⟨bb, j, none⟩ (.int .u8 u)) N ok (.slice (some ⟨bb, 0, none⟩) n c) (X.set j u) := by
  have hR := Kd.R_putn (enc := Value.int .u8) h (j : Int) u
  rw [Int.toNat_natCast] at hR
  exact hR
/-- The loops' world: the bags that were told, each in blocks of its own (ok m), and all else that lay as it lay. -/
structure Bags (w0 W0 : World) (Af : Nat → Option Addr) (nf cf : Nat → Nat) (ok : Nat → Nat → Prop) (W : World) : Prop where
  low : Below w0.heap.size w0 W
  size : W0.heap.size ≤ W.heap.size
  keep : ∀ q, q < W0.heap.size → (∀ m, m < 6 → ¬ ok m q) → W.heap[q]? = W0.heap[q]?
  bags : ∀ m, m < 6 → ∃ l : List S26, l.length = nf m ∧ Kd.S k26 26 W w0.heap.size (ok m) (.slice (Af m) (nf m) (cf m)) l
/-- What is known of the blocks for good. -/
structure Apart (w0 W0 : World) (ok : Nat → Nat → Prop) : Prop where
  one : ∀ m m' q, m < 6 → m' < 6 → ok m q → ok m' q → m = m'
  old : ∀ m q, m < 6 → ok m q → w0.heap.size ≤ q ∧ q < W0.heap.size
section
variable {w0 W0 : World} {Af : Nat → Option Addr} {nf cf : Nat → Nat} {ok : Nat → Nat → Prop} {W : World}
theorem Bags.step {W' : World} (h : Bags w0 W0 Af nf cf ok W) (hb : Below W.heap.size W W') : Bags w0 W0 Af nf cf ok W' :=
  ⟨h.low.trans (hb.mono h.low.size), Nat.le_trans h.size hb.size, fun q hq hn => (hb.block q (Nat.lt_of_lt_of_le hq h.size)).trans (h.keep q hq hn), fun m hm => by
    obtain ⟨l, h1, h3⟩ := h.bags m hm
    exact ⟨l, h1, Kd.S_below h3 hb⟩⟩
/-- A cell of bag m's was written, and bag m is a bag still. -/
theorem Bags.put (ha : Apart w0 W0 ok) (h : Bags w0 W0 Af nf cf ok W) {m : Nat} (hm : m < 6) {q i : Nat} {u : Value} (hq : ok m q)
    (hS : ∃ l : List S26, l.length = nf m ∧ Kd.S k26 26 (W.setCell ⟨q, i, none⟩ u) w0.heap.size (ok m) (.slice (Af m) (nf m) (cf m)) l) : Bags w0 W0 Af nf cf ok (W.setCell ⟨q, i, none⟩ u) :=
  ⟨h.low.setCell (p := ⟨q, i, none⟩) (ha.old m q hm hq).1 u, Nat.le_trans h.size ((Below.refl 0 W).setCell (p := ⟨q, i, none⟩) (Nat.zero_le _) u).size, fun k hk hn => (Below.heap_setCell W ⟨q, i, none⟩ u k (fun e => hn m hm (by rw [e]; exact hq))).trans (h.keep k hk hn), fun m' hm' => by
    by_cases e : m' = m
    · subst e
      exact hS
    · obtain ⟨l, h1, h3⟩ := h.bags m' hm'
      exact ⟨l, h1, Kd.S_far (p := ⟨q, i, none⟩) h3 (fun k hk e2 => e (ha.one m' m q hm' hm (by rw [← show k = q from e2]; exact hk) hq)) u⟩⟩
/-- In bag m datagram k gets another place to go. -/
theorem Bags.to (ha : Apart w0 W0 ok) (h : Bags w0 W0 Af nf cf ok W) {m k : Nat} (hm : m < 6) (hk : k < nf m) :
    ∃ g, Af m = some ⟨g, 0, none⟩ ∧ ok m g ∧ (∃ v, W.cell? ⟨g, k * 3, none⟩ = some (.int .i64 v)) ∧ W.frozen? ⟨g, k * 3, none⟩ = false ∧ ∀ u : Int, Bags w0 W0 Af nf cf ok (W.setCell ⟨g, k * 3, none⟩ (.int .i64 u)) := by
  obtain ⟨l, h1, h3⟩ := h.bags m hm
  obtain ⟨g, cap, e, _, _, _⟩ := Kd.S_form h3 (by omega)
  injection e with e1 e2 e3
  rw [e1] at h3
  have hg : ok m g := (Kd.S_R h3).1 g (by simp [Value.ownBlock])
  obtain ⟨hv, hf, hp⟩ := put_to h3 k hk
  refine ⟨g, e1, hg, hv, hf, fun u => Bags.put ha h hm hg ?_⟩
  obtain ⟨l', q1, q3⟩ := hp u
  exact ⟨l', by rw [q1, h1], by rw [e1]; exact q3⟩
/-- Where its bytes are told. -/
theorem Bags.bytes (h : Bags w0 W0 Af nf cf ok W) {m k g : Nat} (hm : m < 6) (hk : k < nf m) (hg : Af m = some ⟨g, 0, none⟩) : ∃ B L cb, W.cell? ⟨g, k * 3 + 1, none⟩ = some (.slice B L cb) ∧ L ≤ 9223372036854775807 := by
  obtain ⟨l, h1, h3⟩ := h.bags m hm
  rw [hg] at h3
  obtain ⟨B, cb, hc, hx⟩ := bytes_of h3 k hk
  exact ⟨B, _, cb, hc, hx⟩
/-- One of them becomes another one. -/
theorem Bags.byte (ha : Apart w0 W0 ok) (h : Bags w0 W0 Af nf cf ok W) {m k g : Nat} (hm : m < 6) (hk : k < nf m) (hg : Af m = some ⟨g, 0, none⟩) {B : Option Addr} {L cb : Nat} (hc : W.cell? ⟨g, k * 3 + 1, none⟩ = some (.slice B L cb)) {j : Nat} (hj : j < L) :
    ∃ bb v, B = some ⟨bb, 0, none⟩ ∧ bb ≠ g ∧ ok m bb ∧ W.cell? ⟨bb, j, none⟩ = some (.int .u8 v) ∧ W.frozen? ⟨bb, j, none⟩ = false ∧ ∀ u : Int, Bags w0 W0 Af nf cf ok (W.setCell ⟨bb, j, none⟩ (.int .u8 u)) := by
  obtain ⟨l, h1, h3⟩ := h.bags m hm
  have h3' := h3
  rw [hg] at h3'
  obtain ⟨bb, v, e, hne, hok, _, _, hx, hf, hp⟩ := put_byte h3' k hk hc j hj
  refine ⟨bb, v, e, hne, hok, hx, hf, fun u => Bags.put ha h hm hok ?_⟩
  obtain ⟨l', q1, q3⟩ := hp u
  exact ⟨l', by rw [q1, h1], by rw [hg]; exact q3⟩
theorem Bags.max (h : Bags w0 W0 Af nf cf ok W) {m : Nat} (hm : m < 6) : nf m ≤ 9223372036854775807 := by
  obtain ⟨l, h1, h3⟩ := h.bags m hm
  rw [← h1]
  exact (Kd.S_reads' h3).2.2.2.1
end
def sel6 {α : Type} (a0 a1 a2 a3 a4 a5 : α) : Nat → α
  | 0 => a0
  | 1 => a1
  | 2 => a2
  | 3 => a3
  | 4 => a4
  | _ => a5
theorem six {P : Nat → Prop} (h0 : P 0) (h1 : P 1) (h2 : P 2) (h3 : P 3) (h4 : P 4) (h5 : P 5) : ∀ m, m < 6 → P m
  | 0, _ => h0
  | 1, _ => h1
  | 2, _ => h2
  | 3, _ => h3
  | 4, _ => h4
  | 5, _ => h5
  | n + 6, h => absurd h (by omega)
/-- Between these two. -/
def Btw (a b : Nat) (q : Nat) : Prop := a ≤ q ∧ q < b
theorem apart6 {w0 Z : World} {y : Option Nat} {a0 b0 a1 b1 a2 b2 a3 b3 a4 b4 a5 b5 : Nat} (c0 : w0.heap.size ≤ a0) (d0 : a0 ≤ b0) (c1 : b0 ≤ a1) (d1 : a1 ≤ b1) (c2 : b1 ≤ a2) (d2 : a2 ≤ b2) (c3 : b2 ≤ a3) (d3 : a3 ≤ b3) (c4 : b3 ≤ a4) (d4 : a4 ≤ b4) (c5 : b4 ≤ a5) (d5 : a5 ≤ b5) (c6 : b5 ≤ Z.heap.size) :
    Apart w0 Z (sel6 (fun q => a0 ≤ q ∧ q < b0) (fun q => (a1 ≤ q ∧ q < b1) ∧ some q ≠ y) (fun q => a2 ≤ q ∧ q < b2) (fun q => a3 ≤ q ∧ q < b3) (fun q => a4 ≤ q ∧ q < b4) (fun q => a5 ≤ q ∧ q < b5)) := by
  have key : ∀ m, m < 6 → ∀ q, sel6 (fun q => a0 ≤ q ∧ q < b0) (fun q => (a1 ≤ q ∧ q < b1) ∧ some q ≠ y) (fun q => a2 ≤ q ∧ q < b2) (fun q => a3 ≤ q ∧ q < b3) (fun q => a4 ≤ q ∧ q < b4) (fun q => a5 ≤ q ∧ q < b5) m q → sel6 a0 a1 a2 a3 a4 a5 m ≤ q ∧ q < sel6 b0 b1 b2 b3 b4 b5 m :=
    six (fun q h => h) (fun q h => h.1) (fun q h => h) (fun q h => h) (fun q h => h) (fun q h => h)
  refine ⟨fun m m' q hm hm' h h' => ?_, fun m q hm h => ?_⟩
  · have k := key m hm q h
    have k' := key m' hm' q h'
    clear key h h'
    revert m' k'
    revert m k
    refine fun m hm k m' hm' k' => ?_
    match m, hm, k with
    | 0, _, k => match m', hm', k' with
      | 0, _, _ => rfl
      | 1, _, k' | 2, _, k' | 3, _, k' | 4, _, k' | 5, _, k' => simp only [sel6] at k k'; omega
      | n + 6, h, _ => omega
    | 1, _, k => match m', hm', k' with
      | 1, _, _ => rfl
      | 0, _, k' | 2, _, k' | 3, _, k' | 4, _, k' | 5, _, k' => simp only [sel6] at k k'; omega
      | n + 6, h, _ => omega
    | 2, _, k => match m', hm', k' with
      | 2, _, _ => rfl
      | 0, _, k' | 1, _, k' | 3, _, k' | 4, _, k' | 5, _, k' => simp only [sel6] at k k'; omega
      | n + 6, h, _ => omega
    | 3, _, k => match m', hm', k' with
      | 3, _, _ => rfl
      | 0, _, k' | 1, _, k' | 2, _, k' | 4, _, k' | 5, _, k' => simp only [sel6] at k k'; omega
      | n + 6, h, _ => omega
    | 4, _, k => match m', hm', k' with
      | 4, _, _ => rfl
      | 0, _, k' | 1, _, k' | 2, _, k' | 3, _, k' | 5, _, k' => simp only [sel6] at k k'; omega
      | n + 6, h, _ => omega
    | 5, _, k => match m', hm', k' with
      | 5, _, _ => rfl
      | 0, _, k' | 1, _, k' | 2, _, k' | 3, _, k' | 4, _, k' => simp only [sel6] at k k'; omega
      | n + 6, h, _ => omega
    | n + 6, h, _ => omega
  · have k := key m hm q h
    clear key h
    revert q
    revert m
    exact six (fun q k => by simp only [sel6] at k; omega) (fun q k => by simp only [sel6] at k; omega) (fun q k => by simp only [sel6] at k; omega) (fun q k => by simp only [sel6] at k; omega) (fun q k => by simp only [sel6] at k; omega) (fun q k => by simp only [sel6] at k; omega)
end Go.Proofs.Ytoookgkhelcngaa.G
