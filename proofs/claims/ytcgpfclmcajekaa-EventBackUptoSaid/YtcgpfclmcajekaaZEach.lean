-- Out of texts of this seat by a program of this session: what the claim does not reach is struck
import Derived.RangeFuncNested
import Derived.RangeFuncBound
import Derived.RangeFuncCalls
import Derived.RangeFuncLeaves
import Derived.ControlIn
import Derived.Shelf.Abstract
import Derived.Shelf.RegionOpen
import Derived.WalkKit
import Derived.OwnWalkIn
import Derived.TacticsInMore
import Derived.LoopNIn
import Derived.LoopIn
import Derived.Deep.RegionLawGrows
import Derived.Test.YtcgpfclmcajekaaProg
import Derived.Test.YtcgpfclmcajekaaZWMore
import Derived.Test.YtcgpfclmcajekaaZWLast
namespace Go.Proofs.Ytcgpfclmcajekaa.Each
open Go Go.RowKit Go.Shelf Go.Proofs.YtcgpfclmcajekaaW.PrintWords Go.Proofs.YtcgpfclmcajekaaW.PrintLast
attribute [local go_sem] Oper.semAt_some
set_option linter.unusedVariables false
set_option linter.unusedSimpArgs false
structure Tree (S : Type) where
  D : Kd S
  z : S
  kids : S → List S
  sz : S → Nat
  lt : ∀ x y, y ∈ kids x → sz y < sz x
  k : S → Int
  neg : S → Bool
  n : S → Int
  s : S → ByteArray
  size5 : D.sz = 5
  openK : ∀ {w : World} {x : S} {cs : List Value}, D.K w x cs → ∃ A c, cs = [.int .i64 (k x), .bool (neg x), .int .u64 (n x), .string (s x), .slice A (kids x).length c] ∧ (kids x).length ≤ c ∧ D.C w A (kids x).length (kids x)
namespace Tree
variable {S : Type} (T : Tree S)
def nodesL (f : List Int → S → List (List Int × S)) (p : List Int) : List S → Nat → List (List Int × S)
  | [], _ => []
  | y :: ys, i => f (p ++ [(i : Int)]) y ++ nodesL f p ys (i + 1)
def nodes : Nat → List Int → S → List (List Int × S)
  | 0, _, _ => []
  | m + 1, p, x => (p, x) :: nodesL (nodes m) p (T.kids x) 0
theorem at_ {w : World} {A : Option Addr} {n : Nat} {xs : List S} (h : T.D.C w A n xs) (i : Int) (h0 : 0 ≤ i) (h1 : i < n) :
    ∃ ad A4 c4, A = some ad ∧ w.cell? (ad.add (i.toNat * 5)) = some (.int .i64 (T.k (xs.getD i.toNat T.z))) ∧ w.cell? ⟨(ad.add (i.toNat * 5)).block, (ad.add (i.toNat * 5)).off + 1, none⟩ = some (.bool (T.neg (xs.getD i.toNat T.z))) ∧
      w.cell? ⟨(ad.add (i.toNat * 5)).block, (ad.add (i.toNat * 5)).off + 2, none⟩ = some (.int .u64 (T.n (xs.getD i.toNat T.z))) ∧ w.cell? ⟨(ad.add (i.toNat * 5)).block, (ad.add (i.toNat * 5)).off + 3, none⟩ = some (.string (T.s (xs.getD i.toNat T.z))) ∧
      w.cell? ⟨(ad.add (i.toNat * 5)).block, (ad.add (i.toNat * 5)).off + 4, none⟩ = some (.slice A4 (T.kids (xs.getD i.toNat T.z)).length c4) ∧
      T.D.K w (xs.getD i.toNat T.z) [.int .i64 (T.k (xs.getD i.toNat T.z)), .bool (T.neg (xs.getD i.toNat T.z)), .int .u64 (T.n (xs.getD i.toNat T.z)), .string (T.s (xs.getD i.toNat T.z)), .slice A4 (T.kids (xs.getD i.toNat T.z)).length c4] := by
  obtain ⟨ad, c, e, _, hK, hc0⟩ := Kd.C_get h T.z i h0 h1
  rw [T.size5] at hc0
  have hK' := hK
  obtain ⟨A4, c4, rfl, l4, g4⟩ := T.openK hK
  exact ⟨ad, A4, c4, e, hc0 0 _ rfl, by rw [← add_field _ _ 1 (by omega)]; exact hc0 1 _ rfl, by rw [← add_field _ _ 2 (by omega)]; exact hc0 2 _ rfl, by rw [← add_field _ _ 3 (by omega)]; exact hc0 3 _ rfl, by rw [← add_field _ _ 4 (by omega)]; exact hc0 4 _ rfl, hK'⟩
end Tree
theorem room_of_none {F : Fence} (hd : F.depth = none) (k : Nat) : F.room k := fun d h => by rw [hd] at h; cases h
theorem yield_any {m : Nat} (m' : Nat) {P : Program} {l : Nat} {args : Array Value} {W : World} {R : Ending → World → Prop} (h : YieldAt Fence.wide m P l args W R) : YieldAt Fence.wide m' P l args W R := by
  obtain ⟨fn, tmps, assign, body, hy, hR⟩ := h
  exact ⟨fn, tmps, assign, body, hy, hR.1, fun c cs _ => hR.2 c cs (room_of_none rfl _)⟩
structure Kp (n0 B0 u : Nat) (W W' : World) : Prop where
  below : Below n0 W W'
  cells : ∀ b cs t fz, B0 ≤ b → t ≠ u → W.heap[b]? = some (.cells cs t fz) → W'.heap[b]? = some (.cells cs t fz)
theorem Kp.refl (n0 B0 u : Nat) (W : World) : Kp n0 B0 u W W := ⟨Below.refl _ _, fun _ _ _ _ _ _ h => h⟩
theorem Kp.trans {n0 B0 u : Nat} {A B C : World} (h : Kp n0 B0 u A B) (k : Kp n0 B0 u B C) : Kp n0 B0 u A C := ⟨h.below.trans k.below, fun b cs t fz hb ht hc => k.cells b cs t fz hb ht (h.cells b cs t fz hb ht hc)⟩
theorem Kp.of_below {n0 B0 u : Nat} {A B : World} (hn : n0 ≤ A.heap.size) (h : Below A.heap.size A B) : Kp n0 B0 u A B :=
  ⟨h.mono hn, fun b cs t fz _ _ hc => (h.block b (Array.getElem?_eq_some_iff.1 hc).1).trans hc⟩
theorem Kp.own {n0 B0 u : Nat} {A B : World} (h : Kp n0 B0 u A B) {e n : Nat} {v : Value} {xs : List Value} (he : e ≠ u) (ho : A.ownsRow B0 e 1 v n xs) : B.ownsRow B0 e 1 v n xs :=
  own_move ho (fun k hk => by
    obtain ⟨cells, hc⟩ := own_typed ho k hk
    exact (h.cells k cells e (0, 0) (own_base ho k hk) he hc).trans hc.symm)
theorem info3 : (Try.prog.info? 3).map (fun i => (i.zero, i.size, i.bytes)) = some (some (.int .i64 0), 1, 8) := by kernel_rfl
theorem nodesL_snoc {S : Type} (f : List Int → S → List (List Int × S)) (p : List Int) (z : S) : ∀ (l : List S) (i j : Nat), j < l.length → Tree.nodesL f p (l.take (j + 1)) i = Tree.nodesL f p (l.take j) i ++ f (p ++ [((i + j : Nat) : Int)]) (l.getD j z)
  | [], i, j, h => by simp at h
  | y :: ys, i, 0, _ => by simp [Tree.nodesL]
  | y :: ys, i, j + 1, h => by
    simp only [List.take_succ_cons, Tree.nodesL, List.append_assoc]
    rw [nodesL_snoc f p z ys (i + 1) j (by simpa using h)]
    simp [Nat.add_assoc, Nat.add_comm 1 j]
theorem nodesL_split {S : Type} (f : List Int → S → List (List Int × S)) (p : List Int) (z : S) : ∀ (l : List S) (i j : Nat), j < l.length → ∃ r, Tree.nodesL f p l i = Tree.nodesL f p (l.take j) i ++ f (p ++ [((i + j : Nat) : Int)]) (l.getD j z) ++ r
  | [], i, j, h => by simp at h
  | y :: ys, i, 0, _ => ⟨Tree.nodesL f p ys (i + 1), by simp [Tree.nodesL]⟩
  | y :: ys, i, j + 1, h => by
    obtain ⟨r, hr⟩ := nodesL_split f p z ys (i + 1) j (by simpa using h)
    refine ⟨r, ?_⟩
    simp only [List.take_succ_cons, Tree.nodesL, List.append_assoc, hr]
    simp [Nat.add_assoc, Nat.add_comm 1 j]
theorem run_full {P : Program} (t e : TypeId) {i : TypeInfo} (ht : P.underlying t = some (.slice e)) (hi : P.info? e = some i) (A : Option Addr) (n c : Nat) (hc : n ≤ c) :
    ∀ W : World, (Instr.slice t (.slice A n c) none (some (.int .i64 (n : Int))) (some (.int .i64 (n : Int)))).run P W = .ok (.slice A n n) W := by
  intro W
  have hel : P.elem t = e := by simp [Program.elem, ht]
  have hu : P.underlying t = some (.slice (P.elem t)) := by rw [hel]; exact ht
  have ha : (A.map fun x => x.add 0) = A := by cases A <;> simp [Addr.add]
  rw [run_slice_hm W t A n c hu .i64 .i64 n n (by omega) (by omega) (by omega), hel]
  simp [sizeOf, typeInfo, hi, sliced, Result.andThen, ha]
theorem own_form {w : World} {base : Nat} {v : Value} {p : List Int} (h : w.ownsRow base 3 1 v p.length (nums .i64 p)) :
    ∃ A c, v = .slice A p.length c ∧ p.length ≤ c ∧ (A = none → p.length = 0) ∧ ∀ b, A = some b → ∀ j u, (nums .i64 p)[j]? = some u → w.cell? (b.add j) = some u := by
  have h0 := h
  rcases h with ⟨h1, ⟨rfl, h2⟩ | ⟨g, cap, cur, rfl, hg, hh, h3, r⟩⟩
  · exact ⟨none, 0, by rw [h2], by omega, fun _ => h2, fun b hb => by cases hb⟩
  · exact ⟨_, cap, rfl, h3, (fun h => by cases h), fun b hb => by cases hb; exact h0.cells rfl⟩
theorem cells5 {W : World} {g t : Nat} {a b c d e : Value} (h : W.heap[g]? = some (.cells #[a, b, c, d, e] t (0, 0))) :
    W.cell? ⟨g, 0, none⟩ = some a ∧ W.cell? ⟨g, 1, none⟩ = some b ∧ W.cell? ⟨g, 2, none⟩ = some c ∧ W.cell? ⟨g, 3, none⟩ = some d ∧ W.cell? ⟨g, 4, none⟩ = some e :=
  ⟨(blk_cell h 0).trans rfl, (blk_cell h 1).trans rfl, (blk_cell h 2).trans rfl, (blk_cell h 3).trans rfl, (blk_cell h 4).trans rfl⟩
def Out (G X : World → Prop) (e : Ending) (W' : World) : Prop := ∃ b : Bool, e = .returned (.bool b) ∧ (b = true → G W') ∧ (b = false → X W')
section down
variable {S : Type} (T : Tree S) (l Bd By B0 u : Nat) (w0 : World) (J : List (List Int × S) → World → Prop) (Jx : World → Prop) (all : List (List Int × S))
def Rounds : Prop := ∀ pre p x rest v cs W, pre ++ (p, x) :: rest = all → J pre W → W.ownsRow B0 3 1 v p.length (nums .i64 p) → T.D.K w0 x cs → Below w0.heap.size w0 W → B0 ≤ W.heap.size →
  YieldAt Fence.wide 0 Try.prog l #[v, .agg cs.toArray] W (Out (fun W' => J (pre ++ [(p, x)]) W' ∧ Kp w0.heap.size B0 u W W') Jx)
theorem yield_in {pre : List (List Int × S)} {p : List Int} {x : S} {rest : List (List Int × S)} {v : Value} {cs : List Value} {W : World} (hY : Rounds T l B0 u w0 J Jx all) (h1 : pre ++ (p, x) :: rest = all) (h2 : J pre W) (h3 : W.ownsRow B0 3 1 v p.length (nums .i64 p)) (h4 : T.D.K w0 x cs) (h5 : Below w0.heap.size w0 W) (h6 : B0 ≤ W.heap.size) :
    ∃ fn tmps assign body, (Instr.yield l #[v, .agg cs.toArray]).run Try.prog W = .ok (.round l fn tmps assign body) W ∧ RoundIn Fence.wide (0 - 1) Try.prog l fn tmps assign body W (Out (fun W' => J (pre ++ [(p, x)]) W' ∧ Kp w0.heap.size B0 u W W') Jx) := yield_any _ (hY pre p x rest v cs W h1 h2 h3 h4 h5 h6)
set_option maxRecDepth 100000 in
set_option maxHeartbeats 4000000 in
theorem down_calls (hB : w0.heap.size ≤ B0) (hBd : B0 ≤ Bd) (hBy : B0 ≤ By) (hu3 : 3 ≠ u) (hu46 : 74 ≠ u) (hu25 : 25 ≠ u)
    (hJ : ∀ pre A B, Below A.heap.size A B → J pre A → J pre B) (hY : Rounds T l B0 u w0 J Jx all) :
    ∀ m x p pre rest v cs W, pre ++ T.nodes m p x ++ rest = all → T.sz x < m → p.length + m ≤ 17592186044416 → J pre W → W.ownsRow B0 3 1 v p.length (nums .i64 p) → T.D.K w0 x cs → Below w0.heap.size w0 W → B0 ≤ W.heap.size →
      W.heap[By]? = some (.cells #[.func (.yield l) #[] #[]] 74 (0, 0)) → W.heap[Bd]? = some (.cells #[.func (.func 48) #[] #[.pointer (some ⟨By, 0, none⟩), .pointer (some ⟨Bd, 0, none⟩)]] 74 (0, 0)) →
      Calls Try.prog 48 #[v, .agg cs.toArray, .pointer (some ⟨By, 0, none⟩), .pointer (some ⟨Bd, 0, none⟩)] W (Out (fun W' => J (pre ++ T.nodes m p x) W' ∧ Kp w0.heap.size B0 u W W') Jx) := by
  intro m
  induction m with
  | zero => intro x p pre rest v cs W _ h; omega
  | succ m ih =>
  intro x p pre rest v cs W hall hsz hlen hj hown hK hb0 hBW hby hbd
  have hK' := hK
  obtain ⟨A4, c4, rfl, hc4, g4⟩ := T.openK hK
  have hgo : T.nodes (m + 1) p x = (p, x) :: Tree.nodesL (T.nodes m) p (T.kids x) 0 := rfl
  have n0_ := Aside0.mk hB
  obtain ⟨W1, hW1⟩ : ∃ W1, W.alloc (.cells #[.int .i64 (T.k x), .bool (T.neg x), .int .u64 (T.n x), .string (T.s x), .slice A4 (T.kids x).length c4] 25 (0, 0)) = W1 := ⟨_, rfl⟩
  have hb1 : Below W.heap.size W W1 := by rw [← hW1]; exact below_alloc (Below.refl _ _) _
  obtain ⟨fn, tmps, assign, body, hyr, hR⟩ := yield_in T l B0 u w0 J Jx all (W := W1) (rest := Tree.nodesL (T.nodes m) p (T.kids x) 0 ++ rest) hY (by rw [← hall, hgo]; simp) (hJ _ _ _ hb1 hj) (pw_own_below hown hb1) hK' (hb0.trans (hb1.mono hb0.size)) (Nat.le_trans hBW hb1.size)
  have hby1 : W1.cell? ⟨By, 0, none⟩ = some (.func (.yield l) #[] #[]) := (blk_cell ((hb1.block By (blk_lt hby)).trans hby) 0).trans rfl
  have hbx1 : W1.heap[W.heap.size]? = some (.cells #[.int .i64 (T.k x), .bool (T.neg x), .int .u64 (T.n x), .string (T.s x), .slice A4 (T.kids x).length c4] 25 (0, 0)) := by rw [← hW1]; exact World.alloc_heap_new W _
  obtain ⟨b0, b1, b2, b3, b4⟩ := cells5 hbx1
  have HBX := Aside0.mk hbx1
  clear hbx1
  have HR := Aside0.mk hR
  have HG := Aside0.mk hgo
  have HJ := Aside0.mk hJ
  have HIH := Aside0.mk ih
  have HALL := Aside0.mk hall
  have HB0 := Aside0.mk hb0
  have HB1 := Aside0.mk hb1
  have HO := Aside0.mk hown
  have HBY := Aside0.mk hby
  have HBD := Aside0.mk hbd
  have HG4 := Aside0.mk g4
  clear hR hgo hJ ih hall hb0 hb1 hown hby hbd g4 hK hK' hj hY
  refine (callsIn_wide (n := 0)).1 ?_
  refine callsIn_of_wp Try.func48 rfl trivial ?_
  simp only [Try.ntmps48, List.size_toArray, List.length_cons, List.length_nil, Nat.reduceAdd, Nat.reduceSub, Array.replicate_succ, Array.replicate_zero, List.push_toArray, List.append_toArray, List.nil_append, List.cons_append]
  gi_wp2_with (refine ⟨rfl, ?_⟩; refine HR.out.mono ?_; clear HR hyr; rintro e W2 ⟨_ | _, rfl, ht, hf⟩; all_goals (first | (have HF := Aside0.mk (hf rfl); clear ht hf) | (have HT := Aside0.mk (ht rfl); clear ht hf; have hcz : W2.cell? ⟨W.heap.size, 4, none⟩ = some (.slice A4 (T.kids x).length c4) := (cells5 (HT.out.2.cells _ _ _ _ hBW hu25 HBX.out)).2.2.2.2)))
  · go_ret
    exact ⟨false, rfl, (fun h => by cases h), fun _ => HF.out⟩
  · gi_loopw [17] (fun i wr => ∃ j : Nat, i = .int .i64 (j : Int) ∧ j ≤ (T.kids x).length ∧ Aside0 (J (pre ++ ((p, x) :: Tree.nodesL (T.nodes m) p ((T.kids x).take j) 0)) wr) ∧ Aside0 (Kp w0.heap.size B0 u W wr)) (fun i _ => (T.kids x).length - (intOf i).toNat)
    case atStart => exact ⟨0, rfl, Nat.zero_le _, ⟨by simpa [Tree.nodesL] using HT.out.1⟩, ⟨(Kp.of_below HB0.out.size HB1.out).trans HT.out.2⟩⟩
    case round =>
      obtain ⟨j, rfl, hj, HJ2, HK⟩ := hrel
      clear HT hcz hby1 b0 b1 b2 b3 b4 HBX HB1 hW1
      by_cases hlt : j < (T.kids x).length
      · have hmem : (T.kids x).getD j T.z ∈ T.kids x := by rw [List.getD_eq_getElem?_getD, List.getElem?_eq_getElem hlt]; exact List.getElem_mem hlt
        have hb3 : Below w0.heap.size w0 wr := HB0.out.trans HK.out.below
        obtain ⟨ad, A5, c5, e5, hx0, hx1, hx2, hx3, hx4, hKy⟩ := T.at_ HG4.out (j : Int) (by omega) (by omega)
        cases e5
        replace hx0 := (hb3.cell (World.block_lt_of_cell? w0 _ hx0)).trans hx0
        replace hx1 := (hb3.cell (World.block_lt_of_cell? w0 _ hx1)).trans hx1
        replace hx2 := (hb3.cell (World.block_lt_of_cell? w0 _ hx2)).trans hx2
        replace hx3 := (hb3.cell (World.block_lt_of_cell? w0 _ hx3)).trans hx3
        replace hx4 := (hb3.cell (World.block_lt_of_cell? w0 _ hx4)).trans hx4
        simp only [Int.toNat_natCast] at hx0 hx1 hx2 hx3 hx4 hKy
        obtain ⟨y, hy⟩ : ∃ y, (T.kids x).getD j T.z = y := ⟨_, rfl⟩
        rw [hy] at hx0 hx1 hx2 hx3 hx4 hKy hmem
        have HKY := Aside0.mk hKy
        have HY := Aside0.mk hy
        have HB3 := Aside0.mk hb3
        clear hKy hy hb3
        have hbd3 : wr.heap[Bd]? = some (.cells #[.func (.func 48) #[] #[.pointer (some ⟨By, 0, none⟩), .pointer (some ⟨Bd, 0, none⟩)]] 74 (0, 0)) := HK.out.cells _ _ _ _ hBd hu46 HBD.out
        obtain ⟨W4, hW4⟩ : ∃ W4, wr.alloc (.cells #[.int .i64 (T.k y), .bool (T.neg y), .int .u64 (T.n y), .string (T.s y), .slice A5 (T.kids y).length c5] 25 (0, 0)) = W4 := ⟨_, rfl⟩
        have hb4 : Below wr.heap.size wr W4 := by rw [← hW4]; exact below_alloc (Below.refl _ _) _
        have hbx4 : W4.heap[wr.heap.size]? = some (.cells #[.int .i64 (T.k y), .bool (T.neg y), .int .u64 (T.n y), .string (T.s y), .slice A5 (T.kids y).length c5] 25 (0, 0)) := by rw [← hW4]; exact World.alloc_heap_new wr _
        obtain ⟨b0, b1, b2, b3, b4⟩ := cells5 hbx4
        have hbd4 : W4.cell? ⟨Bd, 0, none⟩ = some (.func (.func 48) #[] #[.pointer (some ⟨By, 0, none⟩), .pointer (some ⟨Bd, 0, none⟩)]) := (blk_cell ((hb4.block Bd (blk_lt hbd3)).trans hbd3) 0).trans rfl
        have HB4 := Aside0.mk hb4
        have HBD3 := Aside0.mk hbd3
        have HBX5 : Aside0 (((W4.alloc (.cells #[.int .i64 (j : Int)] 3)).drew).heap[wr.heap.size]? = some (.cells #[.int .i64 (T.k y), .bool (T.neg y), .int .u64 (T.n y), .string (T.s y), .slice A5 (T.kids y).length c5] 25 (0, 0))) := ⟨blk_drew (blk_alloc hbx4 _)⟩
        have HB5 : Aside0 (Below wr.heap.size wr ((W4.alloc (.cells #[.int .i64 (j : Int)] 3)).drew)) := ⟨below_drew (hb4.trans ((below_alloc (Below.refl _ _) _).mono hb4.size))⟩
        have HN : Aside0 (∀ q u, [Value.int .i64 (j : Int)][q]? = some u → ((W4.alloc (.cells #[.int .i64 (j : Int)] 3)).drew).cell? ((⟨W4.heap.size, 0, none⟩ : Addr).add q) = some u) := ⟨fun q u hq => by
          rw [add_plain]
          exact (blk_cell (blk_drew (World.alloc_heap_new W4 _)) q).trans (by simpa using hq)⟩
        have HBW : Aside0 (B0 ≤ wr.heap.size) := ⟨Nat.le_trans hBW HK.out.below.size⟩
        have HBS : Aside0 (B0 ≤ ((W4.alloc (.cells #[.int .i64 (j : Int)] 3)).drew).heap.size) := ⟨Nat.le_trans HBW.out HB5.out.size⟩
        have hbz4 : wr.heap.size < W4.heap.size := blk_lt hbx4
        obtain ⟨i0, hi, hz0, hz1, hz2⟩ := info_parts info3
        obtain ⟨d0, d1, d2, d3, d4⟩ := cells5 (blk_alloc hbx4 (.cells #[.int .i64 (j : Int)] 3))
        have hbd6 : (W4.alloc (.cells #[.int .i64 (j : Int)] 3)).cell? ⟨Bd, 0, none⟩ = some (.func (.func 48) #[] #[.pointer (some ⟨By, 0, none⟩), .pointer (some ⟨Bd, 0, none⟩)]) := (blk_cell (blk_alloc ((hb4.block Bd (blk_lt hbd3)).trans hbd3) _) 0).trans rfl
        clear hb4 hbx4 hbd3
        have HBY3 : Aside0 (wr.heap[By]? = some (.cells #[.func (.yield l) #[] #[]] 74 (0, 0))) := ⟨HK.out.cells _ _ _ _ hBy hu46 HBY.out⟩
        obtain ⟨r, hr⟩ : ∃ r, (pre ++ ((p, x) :: Tree.nodesL (T.nodes m) p ((T.kids x).take j) 0)) ++ T.nodes m (p ++ [(j : Int)]) y ++ r = all := by
          obtain ⟨r, hr⟩ := nodesL_split (T.nodes m) p T.z (T.kids x) 0 j hlt
          refine ⟨r ++ rest, ?_⟩
          rw [← HALL.out, HG.out, hr, HY.out]
          simp
        have HALL2 := Aside0.mk hr
        have HSZ : Aside0 (T.sz y < m) := ⟨by have := T.lt x y hmem; omega⟩
        have HLEN : Aside0 ((p ++ [(j : Int)]).length + m ≤ 17592186044416) := ⟨by simp; omega⟩
        clear hr hmem
        obtain ⟨Ap, cp, rfl, hcp, hAn, hAc⟩ := own_form (HK.out.own hu3 HO.out)
        have hfl := run_full (P := Try.prog) 68 3 Try.underlying68 hi Ap p.length cp hcp
        gi_wp2
        refine wpIn_wide.2 ?_
        have HAC : Aside0 (∀ b, Ap = some b → ∀ q u, (nums .i64 p)[q]? = some u → ((W4.alloc (.cells #[.int .i64 (j : Int)] 3)).drew).cell? (b.add q) = some u) :=
          ⟨fun b hb q u hu => (HB5.out.cell (World.block_lt_of_cell? wr _ (hAc b hb q u hu))).trans (hAc b hb q u hu)⟩
        clear hAc
        go_region_law (first
          | (refine step_append_grows rfl (.tmp 28) (.tmp 30) 68 rfl 3 i0 (.int .i64 0) 1 8 Try.underlying68 hi hz0 hz1 hz2 rfl (by decide) Ap p.length p.length (nums .i64 p) (by simp [Act.eval, Act.put]) (fun h => ⟨hAn h, hAn h⟩) (by simp [nums]) HAC.out ⟨W4.heap.size, 0, none⟩ 1 1 [.int .i64 (j : Int)] (by simp [Act.eval, Act.put]) rfl HN.out (by simp [Value.oneCell']) (by omega) (by unfold maxLen; omega) (by omega) ?_
             intro v5 W5 hown5 hgrow5
             have hb5 : Below wr.heap.size wr W5 := HB5.out.grown hgrow5 HB5.out.size (fun k e => by cases e)
             have HB6 := Aside0.mk hb5
             have hbd5 : W5.cell? ⟨Bd, 0, none⟩ = some (.func (.func 48) #[] #[.pointer (some ⟨By, 0, none⟩), .pointer (some ⟨Bd, 0, none⟩)]) := (blk_cell ((hb5.block Bd (blk_lt HBD3.out)).trans HBD3.out) 0).trans rfl
             obtain ⟨e0, e1, e2, e3, e4⟩ := cells5 (blk_grown HBX5.out hgrow5 (by simp))
             have HO5 : Aside0 (W5.ownsRow B0 3 1 v5 (p ++ [(j : Int)]).length (nums .i64 (p ++ [(j : Int)]))) := ⟨by rw [nums_append, List.length_append]; exact own_weaken hown5 HBS.out⟩
             clear hown5 hgrow5 hb5)
          | (refine call_ 48 #[v5, .agg #[.int .i64 (T.k y), .bool (T.neg y), .int .u64 (T.n y), .string (T.s y), .slice A5 (T.kids y).length c5], .pointer (some ⟨By, 0, none⟩), .pointer (some ⟨Bd, 0, none⟩)] rfl rfl (by
                have he := fun args (w : World) => enters_ (P := Try.prog) Try.func48 (by kernel_rfl) rfl args w
                unfold execOp
                simp [resolve, Deferred.ofValue, invoke, Act.eval, Act.put, he]) ((HIH.out y (p ++ [(j : Int)]) _ _ v5 _ _ HALL2.out HSZ.out HLEN.out (HJ.out _ _ _ HB6.out HJ2.out) HO5.out HKY.out (HB3.out.trans (HB6.out.mono HB3.out.size)) (Nat.le_trans HBW.out HB6.out.size) ((HB6.out.block By (blk_lt HBY3.out)).trans HBY3.out) ((HB6.out.block Bd (blk_lt HBD3.out)).trans HBD3.out)).mono ?_)
             rintro e W6 ⟨b, rfl, ht, hf⟩
             refine ⟨_, rfl, ?_⟩
             have HT := Aside0.mk ht
             have HF := Aside0.mk hf
             clear ht hf))
        all_goals
          have HJK := Aside0.mk (fun h_ : b = true => (And.intro (by have h := (HT.out h_).1; rw [nodesL_snoc (T.nodes m) p T.z (T.kids x) 0 j hlt, HY.out]; simpa using h) ((HK.out.trans (Kp.of_below HB3.out.size HB6.out)).trans (HT.out h_).2) : J (pre ++ ((p, x) :: Tree.nodesL (T.nodes m) p ((T.kids x).take (j + 1)) 0)) W6 ∧ Kp w0.heap.size B0 u W W6))
          clear HT
          have HLT := Aside0.mk hlt
          have hmax : (T.kids x).length ≤ 9223372036854775807 := HG4.out.2.1
          cases b
          · gi_wp2
            go_ret
            exact ⟨false, rfl, (fun h => by cases h), fun _ => by first | exact HF.out rfl | exact HF.out trivial⟩
          · gi_wp2
            go_roundw
            case rel => exact ⟨j + 1, by go_num, HLT.out, ⟨(HJK.out (by trivial)).1⟩, ⟨(HJK.out (by trivial)).2⟩⟩
            case measure => have hlt_ := HLT.out; simp [intOf]; omega
      · obtain rfl : j = (T.kids x).length := by omega
        gi_wp2
        go_ret
        exact ⟨true, rfl, fun _ => ⟨by have h_ := HJ2.out; rw [List.take_length] at h_; rw [HG.out]; exact h_, HK.out⟩, fun h => by cases h⟩
end down
end Go.Proofs.Ytcgpfclmcajekaa.Each
