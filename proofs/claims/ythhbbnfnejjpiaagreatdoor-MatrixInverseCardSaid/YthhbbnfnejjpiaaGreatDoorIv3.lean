/- Plain facts and contracts of functions of the program, out of walks. Their conditions stand ahead of each. -/
import Derived.Test.YthhbbnfnejjpiaaGreatDoorIv2
import Derived.Below
import Derived.Deep.Draws
import Derived.Laws.CopyOwn
import Derived.Laws.NewBlocks
import Derived.Laws.OwnMore
import Derived.Laws.Rows
import Derived.Lib.BitFns
import Derived.Lib.ItoaNum
import Derived.Maps.AppendAt
import Derived.RangeFuncNested
import Derived.WalkKit
import Derived.RangeFuncWrites
set_option linter.unusedVariables false
set_option linter.unusedSimpArgs false
namespace Go.Proofs.YthhbbnfnejjpiaaGreatDoor.GW
open Go
open Go.RowKit NL
abbrev I64 (x : Int) : Prop := -9223372036854775808 ≤ x ∧ x < 9223372036854775808
/-- a slice of n ints -/
structure Frag.Ir (f : Frag) (A : Option Addr) (c n : Nat) (v : Nat → Int) : Prop where
 cap : n ≤ c
 max : c ≤ 9223372036854775807
 len : n ≤ 140737488355328
 row : 0 < n → ∃ b o, A = some ⟨b, o, none⟩ ∧ ∃ cs T fr, f b = some (.cells cs T fr) ∧ ∀ j, j < n → cs[o + j]? = some (.int .i64 (v j))
 ok : ∀ j, j < n → I64 (v j)
theorem Frag.Ir.mono {f f' : Frag} {A : Option Addr} {c n : Nat} {v : Nat → Int} (h : f.Ir A c n v) (s : f.le f') : f'.Ir A c n v := by
 refine ⟨h.cap, h.max, h.len, fun hl => ?_, h.ok⟩
 obtain ⟨b, o, e, cs, T, fr, hb, hc⟩ := h.row hl
 exact ⟨b, o, e, cs, T, fr, s _ _ hb, hc⟩
theorem Frag.Ir.at {f : Frag} {A : Option Addr} {c n : Nat} {v : Nat → Int} (h : f.Ir A c n v) (h0 : 0 < n) : ∃ b o, A = some ⟨b, o, none⟩ ∧ ∀ j, j < n → f.C1 b (o + j) (.int .i64 (v j)) := by
 obtain ⟨b, o, e, cs, T, fr, hb, hc⟩ := h.row h0
 exact ⟨b, o, e, fun j hj w0 X M I g hI => g.cellF hI (o := o) hb (hc j hj)⟩
/-- a slice of n rows of ints -/
structure Frag.Im (f : Frag) (A : Option Addr) (c n : Nat) (m : Nat → Nat) (v : Nat → Nat → Int) : Prop where
 cap : n ≤ c
 max : c ≤ 9223372036854775807
 len : n ≤ 140737488355328
 rows : 0 < n → ∃ b o, A = some ⟨b, o, none⟩ ∧ ∃ cs T fr, f b = some (.cells cs T fr) ∧ ∀ i, i < n → ∃ B k, cs[o + i]? = some (.slice B (m i) k) ∧ f.Ir B k (m i) (v i)
theorem Frag.Im.mono {f f' : Frag} {A : Option Addr} {c n : Nat} {m : Nat → Nat} {v : Nat → Nat → Int} (h : f.Im A c n m v) (s : f.le f') : f'.Im A c n m v := by
 refine ⟨h.cap, h.max, h.len, fun hl => ?_⟩
 obtain ⟨b, o, e, cs, T, fr, hb, hc⟩ := h.rows hl
 refine ⟨b, o, e, cs, T, fr, s _ _ hb, fun i hi => ?_⟩
 obtain ⟨B, k, h1, h2⟩ := hc i hi
 exact ⟨B, k, h1, h2.mono s⟩
theorem Frag.Im.rowAt {f : Frag} {A : Option Addr} {c n : Nat} {m : Nat → Nat} {v : Nat → Nat → Int} (h : f.Im A c n m v) (h0 : 0 < n) : ∃ b o, A = some ⟨b, o, none⟩ ∧ ∀ i, i < n → ∃ B k, f.C1 b (o + i) (.slice B (m i) k) ∧ f.Ir B k (m i) (v i) := by
 obtain ⟨b, o, e, cs, T, fr, hb, hc⟩ := h.rows h0
 refine ⟨b, o, e, fun i hi => ?_⟩
 obtain ⟨B, k, h1, h2⟩ := hc i hi
 exact ⟨B, k, fun w0 X M I g hI => g.cellF hI (o := o) hb h1, h2⟩
section
variable {w0 : World} {X : List Nat} {M : List Blk} {I : List Frag}
/-- a written-out row of ints in a block that the walk owns -/
theorem irM (g : G w0 X M I) {b : Nat} {T : TypeId} (l : List Int) {n : Nat} (hm : (b, T, l.map fun x : Int => Value.int .i64 x) ∈ M) (hn : l.length = n) (hx : n ≤ 140737488355328) (ok : ∀ x ∈ l, I64 x) : (heapOf g.w).Ir (some ⟨b, 0, none⟩) n n (fun j => l.getD j 0) := by
 subst hn
 refine ⟨Nat.le_refl _, by omega, hx, fun hl => ⟨b, 0, rfl, _, T, _, g.own _ hm, fun j hj => ?_⟩, fun j hj => ?_⟩
 ·show ((l.map fun x : Int => Value.int .i64 x).toArray)[0 + j]? = _
  rw [Nat.zero_add, List.getElem?_toArray, List.getElem?_map, List.getElem?_eq_getElem hj, List.getD_eq_getElem?_getD, List.getElem?_eq_getElem hj]
  rfl
 ·rw [List.getD_eq_getElem?_getD, List.getElem?_eq_getElem hj]
  exact ok _ (List.getElem_mem hj)
/-- written-out rows -/
theorem imM (g : G w0 X M I) {b : Nat} {T : TypeId} {cs : List Value} {n : Nat} {m : Nat → Nat} {v : Nat → Nat → Int} (hm : (b, T, cs) ∈ M) (hx : n ≤ 140737488355328) (h : ∀ i, i < n → ∃ B k, cs[i]? = some (.slice B (m i) k) ∧ (heapOf g.w).Ir B k (m i) (v i)) : (heapOf g.w).Im (some ⟨b, 0, none⟩) n n m v := by
 refine ⟨Nat.le_refl _, by omega, hx, fun hl => ⟨b, 0, rfl, _, T, _, g.own _ hm, fun i hi => ?_⟩⟩
 obtain ⟨B, k, h1, h2⟩ := h i hi
 refine ⟨B, k, ?_, h2⟩
 show (cs.toArray)[0 + i]? = _
 rw [Nat.zero_add, List.getElem?_toArray]
 exact h1
end
/-- a matrix that was built by append of its rows becomes part of what stays -/
theorem G.freezeV {w0 : World} {n : Nat} {m : Nat → Nat} {x : Nat → Nat → Raw} {T Ts : TypeId} {F : Frag} {R M sc : List Blk} {I : List Frag} {xs : List Value} {Ac : Option Addr} {cc : Nat} (g : G w0 [] (sc ++ (R ++ M)) (F :: I)) (hv : RowV w0.heap.size Ts 1 n xs Ac cc sc) (h : OwnOn (List.range n) (fun i => NumRow w0.heap.size T F (m i) (x i)) R xs) (h0 : 0 < n) (h3 : n ≤ 140737488355328) (h4 : ∀ i, i < n → m i ≤ 140737488355328) :
  ∃ (F' : Frag) (b : Nat) (g' : G w0 [] M (F' :: I)), Ac = some ⟨b, 0, Option.none⟩ ∧ g.w = g'.w ∧ F'.Mt (some ⟨b, 0, Option.none⟩) cc n m x ∧ F.le F' ∧ (F.Nw w0 → F'.Nw w0) := by
 rcases hv with ⟨_, _, e, _⟩ | ⟨cb, cs, rfl, rfl, hcb, hrow⟩
 ·omega
 ·have hxl : xs.length = n := by
   have := hrow.xl
   omega
  have hown' := h.next (oc' := cs) (Q' := fun i => NumRow w0.heap.size T F (m i) (x i)) (fun j hj => by
   have hj' := List.mem_range.1 hj
   have e : xs[j]? = some xs[j] := List.getElem?_eq_getElem (by omega)
   rw [e]
   exact hrow.get1 e) (fun j hj v s h => h)
  obtain ⟨g2, e2⟩ := g.as (M' := ((cb, Ts, cs) :: R) ++ M) (by simp)
  obtain ⟨F5, g3, e3, hle, hbl, hnw⟩ := G.layR ((cb, Ts, cs) :: R) g2
  refine ⟨F5, cb, g3, rfl, e2.trans e3, ?_, hle, hnw⟩
  exact hown'.mt (F' := F5) (ob := cb) (cap := cc) (Ts := Ts) hle (fun m hm => hbl m (List.mem_cons_of_mem _ hm)) (hbl (cb, Ts, cs) (List.mem_cons_self ..)) hrow.le hrow.max h3 h4
/-- a call whose result may share the part F -/
theorem G.nor_ex {w0 : World} {M : List Blk} {I : List Frag} {F H : Frag} {w1 : World} (g : G w0 [] M I) (hF : F ∈ I) (hno : NewOr F g.w w1 H) : ∃ g' : G w0 [] M (H :: I), w1 = g'.w ∧ H.over F w0 :=
 g.newor_ex (F0 := F) ⟨hno.below, hno.sub, fun k o hk => (hno.new k o hk).elim (fun h => .inl (g.fr_of hF (Frag.over_self F w0) k o h)) .inr⟩
theorem two_cases {P : Nat → Prop} (h0 : P 0) (h1 : P 1) : ∀ i, i < 2 → P i
 | 0, _ => h0
 | 1, _ => h1
/-- a written-out row of numbers in a block that the walk owns -/
theorem rwM {w0 : World} {X : List Nat} {M : List Blk} {I : List Frag} (g : G w0 X M I) {b : Nat} {T : TypeId} (l : List Tri) {n : Nat} {x : Nat → Raw} (hm : (b, T, cells3 l) ∈ M) (hl : (heapOf g.w).Tris l n x) (hx : n ≤ 140737488355328) : (heapOf g.w).Rw (some ⟨b, 0, Option.none⟩) n n x :=
 row_rw (T := T) (cs := cells3 l) ⟨Nat.le_refl _, Nat.le_trans hx (by decide), by rw [cells3_len, hl.1], by rw [List.take_of_length_le (by rw [cells3_len, hl.1]; omega)], by rw [cells3_len, hl.1]⟩ (g.own _ hm) hl hx
theorem mtM {w0 : World} {X : List Nat} {M : List Blk} {I : List Frag} (g : G w0 X M I) {b : Nat} {T : TypeId} {cs : List Value} {n : Nat} {m : Nat → Nat} {x : Nat → Nat → Raw} (hm : (b, T, cs) ∈ M) (hx : n ≤ 140737488355328) (h : ∀ i, i < n → ∃ B k, cs[i]? = some (.slice B (m i) k) ∧ (heapOf g.w).Rw B k (m i) (x i)) : (heapOf g.w).Mt (some ⟨b, 0, Option.none⟩) n n m x :=
 blk_mt (g.own _ hm) (Nat.le_refl _) (by omega) hx h
theorem tris1 {f : Frag} {p q r : Value} {x : Nat → Raw} (h : f.Rt p q r (x 0)) : f.Tris [(p, q, r)] 1 x := by
 refine ⟨rfl, fun j hj => ?_⟩
 obtain rfl : j = 0 := by omega
 exact ⟨p, q, r, rfl, h⟩
theorem tris2 {f : Frag} {p q r p' q' r' : Value} {x : Nat → Raw} (h : f.Rt p q r (x 0)) (h' : f.Rt p' q' r' (x 1)) : f.Tris [(p, q, r), (p', q', r')] 2 x := (tris1 h).snoc h'
/-- two rows of two ints -/
def m22 (x y z t : Int) : Nat → Nat → Int := fun i j => if i = 0 then (if j = 0 then x else y) else (if j = 0 then z else t)
theorem im22 {w0 : World} {X : List Nat} {M : List Blk} {I : List Frag} (g : G w0 X M I) {b b1 b2 : Nat} {T T1 T2 : TypeId} (x y z t : Int) (h : (b, T, [.slice (some ⟨b1, 0, Option.none⟩) 2 2, .slice (some ⟨b2, 0, Option.none⟩) 2 2]) ∈ M) (h1 : (b1, T1, [.int .i64 x, .int .i64 y]) ∈ M) (h2 : (b2, T2, [.int .i64 z, .int .i64 t]) ∈ M) (hx : I64 x) (hy : I64 y) (hz : I64 z) (ht : I64 t) : (heapOf g.w).Im (some ⟨b, 0, Option.none⟩) 2 2 (fun _ => 2) (m22 x y z t) := by
 refine imM g h (by decide) (two_cases ⟨_, _, rfl, ?_⟩ ⟨_, _, rfl, ?_⟩)
 ·have := irM g [x, y] (n := 2) h1 rfl (by decide) (by intro u hu; simp at hu; rcases hu with rfl | rfl <;> assumption)
  refine ⟨this.cap, this.max, this.len, fun hl => ?_, fun j hj => ?_⟩
  ·obtain ⟨b, o, e, cs, T, fr, hb, hc⟩ := this.row hl
   exact ⟨b, o, e, cs, T, fr, hb, two_cases (hc 0 (by decide)) (hc 1 (by decide))⟩
  ·exact two_cases (P := fun j => I64 (m22 x y z t 0 j)) hx hy j hj
 ·have := irM g [z, t] (n := 2) h2 rfl (by decide) (by intro u hu; simp at hu; rcases hu with rfl | rfl <;> assumption)
  refine ⟨this.cap, this.max, this.len, fun hl => ?_, fun j hj => ?_⟩
  ·obtain ⟨b, o, e, cs, T, fr, hb, hc⟩ := this.row hl
   exact ⟨b, o, e, cs, T, fr, hb, two_cases (hc 0 (by decide)) (hc 1 (by decide))⟩
  ·exact two_cases (P := fun j => I64 (m22 x y z t 1 j)) hz ht j hj
/-- a row that was appended to -/
theorem NumRow.of {lo : Nat} {T : TypeId} {F : Frag} {n c : Nat} {x : Nat → Raw} {A : Option Addr} {l : List Tri} {s : List Blk} (h : RowV lo T 3 n (cells3 l) A c s) (hl : F.Tris l n x) : NumRow lo T F n x (.slice A n c) s := ⟨A, c, l, rfl, h, hl⟩
end Go.Proofs.YthhbbnfnejjpiaaGreatDoor.GW
namespace Go.Proofs.YthhbbnfnejjpiaaGreatDoor.GW
open Go
open Go Go.RowKit
variable {F : Fence} {n : Nat} {P : Program}
/-- a word on memory that blocks without cells do not touch -/
def Calm (B : Nat) (p : World → Prop) : Prop := ∀ W W' row, p W → W.grownBy W' row → (∀ r, row = some r → B ≤ r ∧ ∃ o : Obj, W.heap[r]? = some o ∧ o.isCells = false) → p W'
theorem Calm.put {B : Nat} {p : World → Prop} (h : Calm B p) {W : World} {l : Nat} {o : Obj} (o' : Obj) (hp : p W) (hB : B ≤ l) (hl : W.heap[l]? = some o) (ho : o.isCells = false) : p (W.putObj l o') :=
 h W _ (some l) hp (grownBy_putObj' W l o') (fun r e => by cases e; exact ⟨hB, o, hl, ho⟩)
theorem Calm.alloc {B : Nat} {p : World → Prop} (h : Calm B p) {W : World} (o : Obj) (hp : p W) : p (W.alloc o) :=
 h W _ none hp (World.grownBy_alloc W o none) (fun r e => by cases e)
/-- how a round ends: always at its end -/
def roundEnds {β : Type} (B : Nat) (Ia : β → World → Prop) (s : β) (W : World) : Exit → Act → World → Prop
 | .normal, _, W' => (∀ (k : Nat) (o : Obj), B ≤ k → W.heap[k]? = some o → o.isCells = false → W'.heap[k]? = some o) ∧ Ia s W'
 | _, _, _ => False
theorem wpIn_range_state {β : Type} {g : Operand} {ps : Array Tmp} {assign body : Code} {Q : Exit → Act → World → Prop} {a : Act} {w : World}
  (hro : F.round = none) (h1 : 1 ≤ n) {gf : Nat} {lb : Array Value} (hg : a.eval g = .func (.func gf) #[] lb) (hFg : F.fn gf) (eg : ∀ args w, (callFunc gf args).run P w = .ok (.enter gf args) w)
  {encs : β → Array Value} (hps : ∀ s, (encs s).size = ps.size)
  (I0 Ie : World → Prop) (Iy Ia : β → World → Prop) (c0 : Calm w.heap.size I0) (ce : Calm w.heap.size Ie) (cy : ∀ s, Calm w.heap.size (Iy s)) (ca : ∀ s, Calm w.heap.size (Ia s)) (h0 : I0 w) (a₁ : β → Act)
  (hassign : ∀ (l : Nat) (s : β) (W : World) (K : Act → World → Prop), K (a₁ s) W →
   assign.wpIn (F.inRound l) (n - 1 - 1) P (Exit.then K (fun _ _ _ => False)) { tmps := (ps.zip (encs s)).foldl (fun t (p, v) => t.setIfInBounds p v) a.tmps, defers := [] } W)
  (hbody : ∀ (l : Nat) (s : β) (W : World), Iy s W → body.wpIn (F.inRound l) (n - 1 - 1) P (roundEnds w.heap.size Ia s W) (a₁ s) W)
  (hiter : ∀ (l D : Nat) (oL oD : Obj) (W1 : World), w.heap.size ≤ l → w.heap.size ≤ D → oL.isCells = false → oD.isCells = false → W1.heap[l]? = some oL → W1.heap[D]? = some oD → I0 W1 →
   (∀ (s : β) (W : World), Iy s W → W.heap[l]? = some oL → W.heap[D]? = some oD → YieldAt F (n - 1 - 1) P l (encs s) W fun e W' => e = .returned (.bool true) ∧ Ia s W' ∧ W'.heap[l]? = some oL ∧ W'.heap[D]? = some oD) →
   CallsIn F (n - 1) P gf (#[.func (.yield l) #[] #[]] ++ lb) W1 fun e W' => (∃ v, e = .returned v) ∧ Ie W' ∧ W'.heap[l]? = some oL ∧ W'.heap[D]? = some oD)
  (hdone : ∀ (D : Nat) (W : World), w.heap.size ≤ D → Ie W → W.heap[D]? = some (.deferred (some [])) → Q .normal { a with defers := { target := .collected D, args := #[] } :: a.defers } W) :
  (Code.rangeFunc g ps assign body).wpIn F n P Q a w := by
 refine wpIn_rangeFunc fun fn hfn => ?_
 rw [hro]
 let rc : LoopState → Loop := fun st => { state := st, pending := none, fn, tmps := a.tmps, params := ps, assign, body, defers := w.heap.size }
 let wA := w.alloc (.deferred (some []))
 let wB := wA.alloc (.loop (rc .ready))
 have sA : wA.heap.size = w.heap.size + 1 := by simp [wA]
 have sB : wB.heap.size = w.heap.size + 2 := by simp [wB, wA]
 have bL : wB.heap[w.heap.size + 1]? = some (.loop (rc .ready)) := by
  have := World.alloc_heap_new wA (.loop (rc .ready)); rwa [sA] at this
 have bD : wB.heap[w.heap.size]? = some (.deferred (some [])) := (Below.heap_alloc wA _ _ (by omega)).trans (World.alloc_heap_new w _)
 have i0 : I0 wB := c0.alloc _ (c0.alloc _ h0)
 refine ⟨w.heap.size + 1, [{ target := .collected w.heap.size, args := #[] }], wB, { target := .fn (.func gf) lb, args := #[.func (.yield (w.heap.size + 1)) #[] #[]] }, wB, gf,
  #[.func (.yield (w.heap.size + 1)) #[] #[]] ++ lb, wB, run_enterLoop_outer _ _ _ _ _, ?_, ?_, ?_, fun _ => h1, ?_⟩
 ·simp only [resolve, hg]
  simp [go_sem]
 ·intro f' hf'
  simp [Target.leads] at hf'
  subst hf'
  exact hFg
 ·simp [invoke, go_sem, eg]
 ·refine (hiter (w.heap.size + 1) w.heap.size _ _ wB (by omega) (Nat.le_refl _) rfl rfl bL bD i0 ?_).mono ?_
  ·intro s W hi hl hd
   have hlt : w.heap.size + 1 < W.heap.size := (Array.getElem?_eq_some_iff.1 hl).1
   have hy := run_yield (P := P) (args := encs s) hl (hps s)
   refine ⟨fn, _, assign, body, hy, roundIn_of_wpIn hfn (hassign _ s W _ ⟨_, run_beginRound hl rfl, ?_⟩)⟩
   have hl2 : (W.putObj (w.heap.size + 1) (.loop (rc .busy))).heap[w.heap.size + 1]? = some (.loop (rc .busy)) := World.putObj_heap_same hlt
   have hd2 : (W.putObj (w.heap.size + 1) (.loop (rc .busy))).heap[w.heap.size]? = some (.deferred (some [])) := (World.putObj_heap_other (by omega)).trans hd
   refine wpIn_mono (hbody _ s _ ((cy s).put _ hi (by omega) hl rfl)) ?_
   rintro e a3 W3 hp
   cases e with
   | normal =>
    obtain ⟨hk3, hi3⟩ := hp
    have hl3 := hk3 _ _ (by omega) hl2 rfl
    have hd3 := hk3 _ _ (Nat.le_refl _) hd2 rfl
    exact ⟨_, _, run_endRound (P := P) none hl3, rfl, (ca s).put _ hi3 (by omega) hl3 rfl, World.putObj_heap_same (Array.getElem?_eq_some_iff.1 hl3).1, (World.putObj_heap_other (by omega)).trans hd3⟩
   | ret => exact hp.elim
   | exit id => exact hp.elim
   | goto t => exact hp.elim
   | panic ch => exact hp.elim
   | outgrown => exact hp.elim
  ·rintro e W2 ⟨⟨v, rfl⟩, hi, hl, hd⟩
   exact ⟨none, _, run_endLoop (P := P) hl (by simp [rc]), hdone _ _ (Nat.le_refl _) (ce.put _ hi (by omega) hl rfl) ((World.putObj_heap_other (by omega)).trans hd)⟩
end Go.Proofs.YthhbbnfnejjpiaaGreatDoor.GW
