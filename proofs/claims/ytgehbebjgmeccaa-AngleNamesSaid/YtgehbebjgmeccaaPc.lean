/- Plain facts on the carrier table: where the boundaries lie, and that a number has one sector alone. No conditions. -/

set_option linter.unusedVariables false
set_option linter.unusedSimpArgs false
namespace Go.Proofs.Ytgehbebjgmeccaa.Ang
def wv : List Int := [127, 126, 125, 122, 117, 112, 106, 98, 90, 81, 71, 60, 49, 37, 25, 12, 0]
def tab : List (Int × Int) :=
  let q := (List.range 16).map fun j => (wv.getD j 0, wv.getD (16 - j) 0)
  q ++ q.map (fun p => (-p.2, p.1)) ++ q.map (fun p => (-p.1, -p.2)) ++ q.map (fun p => (p.2, -p.1))
/-- The entry with an index. -/
def ti (k : Int) : Int := (tab.getD (k % 64).toNat (0, 0)).1
def tq (k : Int) : Int := (tab.getD (k % 64).toNat (0, 0)).2
def mi (k : Int) : Int := ti k + ti (k + 1)
def mq (k : Int) : Int := tq k + tq (k + 1)
def IsSec (k x y : Int) : Prop := 0 ≤ k ∧ k < 64 ∧ 0 ≤ mi (k - 1) * y - mq (k - 1) * x ∧ 0 < x * mq k - y * mi k
theorem cases64 {P : Int → Prop} (k : Int) (h0 : 0 ≤ k) (h1 : k < 64) (h : ∀ j : Fin 64, P (j.val : Int)) : P k := by
  have := h ⟨k.toNat, by omega⟩
  simpa [Int.toNat_of_nonneg h0] using this
def bnd : List (Int × Int) := [(253, 12), (251, 37), (247, 62), (239, 86), (229, 109), (218, 131), (204, 152), (188, 171), (171, 188), (152, 204), (131, 218), (109, 229), (86, 239), (62, 247), (37, 251), (12, 253), (-12, 253), (-37, 251), (-62, 247), (-86, 239), (-109, 229), (-131, 218), (-152, 204), (-171, 188), (-188, 171), (-204, 152), (-218, 131), (-229, 109), (-239, 86), (-247, 62), (-251, 37), (-253, 12), (-253, -12), (-251, -37), (-247, -62), (-239, -86), (-229, -109), (-218, -131), (-204, -152), (-188, -171), (-171, -188), (-152, -204), (-131, -218), (-109, -229), (-86, -239), (-62, -247), (-37, -251), (-12, -253), (12, -253), (37, -251), (62, -247), (86, -239), (109, -229), (131, -218), (152, -204), (171, -188), (188, -171), (204, -152), (218, -131), (229, -109), (239, -86), (247, -62), (251, -37), (253, -12)]

/-- The boundaries, written out. -/
theorem m_lit (k : Int) (h0 : 0 ≤ k) (h1 : k < 64) : (mi k, mq k) = (bnd.getD k.toNat (0, 0)) := by
  refine cases64 (P := fun k => (mi k, mq k) = (bnd.getD k.toNat (0, 0))) k h0 h1 ?_
  decide
/-- The cross product of a boundary and a number. -/
def d (k x y : Int) : Int := mi k * y - mq k * x
/-- In which quarter a number lies. -/
def Quarter (q x y : Int) : Prop := (q = 0 ∧ 0 < x ∧ 0 ≤ y) ∨ (q = 1 ∧ x ≤ 0 ∧ 0 < y) ∨ (q = 2 ∧ x < 0 ∧ y ≤ 0) ∨ (q = 3 ∧ 0 ≤ x ∧ y < 0)
theorem quarter_ex (x y : Int) (h : x ≠ 0 ∨ y ≠ 0) : ∃ q, Quarter q x y := by
  unfold Quarter
  by_cases a : 0 < x ∧ 0 ≤ y
  · exact ⟨0, by omega⟩
  by_cases b : x ≤ 0 ∧ 0 < y
  · exact ⟨1, by omega⟩
  by_cases c : x < 0 ∧ y ≤ 0
  · exact ⟨2, by omega⟩
  · exact ⟨3, by omega⟩
theorem at0 (x y : Int) : (d 0 x y < 0 → 0 ≤ d (-1) x y → (Quarter 0 x y ∨ Quarter 3 x y)) ∧ (Quarter 0 x y → d 0 x y < 0 → d 1 x y < 0) := by
  show ((253 * y - 12 * x : Int) < 0 → 0 ≤ (253 * y - (-12) * x : Int) → _) ∧ (_ → (253 * y - 12 * x : Int) < 0 → (251 * y - 37 * x : Int) < 0)
  unfold Quarter; omega
theorem at1 (x y : Int) : (d 1 x y < 0 → 0 ≤ d 0 x y → (Quarter 0 x y ∨ Quarter 0 x y)) ∧ (Quarter 0 x y → d 1 x y < 0 → d 2 x y < 0) := by
  show ((251 * y - 37 * x : Int) < 0 → 0 ≤ (253 * y - 12 * x : Int) → _) ∧ (_ → (251 * y - 37 * x : Int) < 0 → (247 * y - 62 * x : Int) < 0)
  unfold Quarter; omega
theorem at2 (x y : Int) : (d 2 x y < 0 → 0 ≤ d 1 x y → (Quarter 0 x y ∨ Quarter 0 x y)) ∧ (Quarter 0 x y → d 2 x y < 0 → d 3 x y < 0) := by
  show ((247 * y - 62 * x : Int) < 0 → 0 ≤ (251 * y - 37 * x : Int) → _) ∧ (_ → (247 * y - 62 * x : Int) < 0 → (239 * y - 86 * x : Int) < 0)
  unfold Quarter; omega
theorem at3 (x y : Int) : (d 3 x y < 0 → 0 ≤ d 2 x y → (Quarter 0 x y ∨ Quarter 0 x y)) ∧ (Quarter 0 x y → d 3 x y < 0 → d 4 x y < 0) := by
  show ((239 * y - 86 * x : Int) < 0 → 0 ≤ (247 * y - 62 * x : Int) → _) ∧ (_ → (239 * y - 86 * x : Int) < 0 → (229 * y - 109 * x : Int) < 0)
  unfold Quarter; omega
theorem at4 (x y : Int) : (d 4 x y < 0 → 0 ≤ d 3 x y → (Quarter 0 x y ∨ Quarter 0 x y)) ∧ (Quarter 0 x y → d 4 x y < 0 → d 5 x y < 0) := by
  show ((229 * y - 109 * x : Int) < 0 → 0 ≤ (239 * y - 86 * x : Int) → _) ∧ (_ → (229 * y - 109 * x : Int) < 0 → (218 * y - 131 * x : Int) < 0)
  unfold Quarter; omega
theorem at5 (x y : Int) : (d 5 x y < 0 → 0 ≤ d 4 x y → (Quarter 0 x y ∨ Quarter 0 x y)) ∧ (Quarter 0 x y → d 5 x y < 0 → d 6 x y < 0) := by
  show ((218 * y - 131 * x : Int) < 0 → 0 ≤ (229 * y - 109 * x : Int) → _) ∧ (_ → (218 * y - 131 * x : Int) < 0 → (204 * y - 152 * x : Int) < 0)
  unfold Quarter; omega
theorem at6 (x y : Int) : (d 6 x y < 0 → 0 ≤ d 5 x y → (Quarter 0 x y ∨ Quarter 0 x y)) ∧ (Quarter 0 x y → d 6 x y < 0 → d 7 x y < 0) := by
  show ((204 * y - 152 * x : Int) < 0 → 0 ≤ (218 * y - 131 * x : Int) → _) ∧ (_ → (204 * y - 152 * x : Int) < 0 → (188 * y - 171 * x : Int) < 0)
  unfold Quarter; omega
theorem at7 (x y : Int) : (d 7 x y < 0 → 0 ≤ d 6 x y → (Quarter 0 x y ∨ Quarter 0 x y)) ∧ (Quarter 0 x y → d 7 x y < 0 → d 8 x y < 0) := by
  show ((188 * y - 171 * x : Int) < 0 → 0 ≤ (204 * y - 152 * x : Int) → _) ∧ (_ → (188 * y - 171 * x : Int) < 0 → (171 * y - 188 * x : Int) < 0)
  unfold Quarter; omega
theorem at8 (x y : Int) : (d 8 x y < 0 → 0 ≤ d 7 x y → (Quarter 0 x y ∨ Quarter 0 x y)) ∧ (Quarter 0 x y → d 8 x y < 0 → d 9 x y < 0) := by
  show ((171 * y - 188 * x : Int) < 0 → 0 ≤ (188 * y - 171 * x : Int) → _) ∧ (_ → (171 * y - 188 * x : Int) < 0 → (152 * y - 204 * x : Int) < 0)
  unfold Quarter; omega
theorem at9 (x y : Int) : (d 9 x y < 0 → 0 ≤ d 8 x y → (Quarter 0 x y ∨ Quarter 0 x y)) ∧ (Quarter 0 x y → d 9 x y < 0 → d 10 x y < 0) := by
  show ((152 * y - 204 * x : Int) < 0 → 0 ≤ (171 * y - 188 * x : Int) → _) ∧ (_ → (152 * y - 204 * x : Int) < 0 → (131 * y - 218 * x : Int) < 0)
  unfold Quarter; omega
theorem at10 (x y : Int) : (d 10 x y < 0 → 0 ≤ d 9 x y → (Quarter 0 x y ∨ Quarter 0 x y)) ∧ (Quarter 0 x y → d 10 x y < 0 → d 11 x y < 0) := by
  show ((131 * y - 218 * x : Int) < 0 → 0 ≤ (152 * y - 204 * x : Int) → _) ∧ (_ → (131 * y - 218 * x : Int) < 0 → (109 * y - 229 * x : Int) < 0)
  unfold Quarter; omega
theorem at11 (x y : Int) : (d 11 x y < 0 → 0 ≤ d 10 x y → (Quarter 0 x y ∨ Quarter 0 x y)) ∧ (Quarter 0 x y → d 11 x y < 0 → d 12 x y < 0) := by
  show ((109 * y - 229 * x : Int) < 0 → 0 ≤ (131 * y - 218 * x : Int) → _) ∧ (_ → (109 * y - 229 * x : Int) < 0 → (86 * y - 239 * x : Int) < 0)
  unfold Quarter; omega
theorem at12 (x y : Int) : (d 12 x y < 0 → 0 ≤ d 11 x y → (Quarter 0 x y ∨ Quarter 0 x y)) ∧ (Quarter 0 x y → d 12 x y < 0 → d 13 x y < 0) := by
  show ((86 * y - 239 * x : Int) < 0 → 0 ≤ (109 * y - 229 * x : Int) → _) ∧ (_ → (86 * y - 239 * x : Int) < 0 → (62 * y - 247 * x : Int) < 0)
  unfold Quarter; omega
theorem at13 (x y : Int) : (d 13 x y < 0 → 0 ≤ d 12 x y → (Quarter 0 x y ∨ Quarter 0 x y)) ∧ (Quarter 0 x y → d 13 x y < 0 → d 14 x y < 0) := by
  show ((62 * y - 247 * x : Int) < 0 → 0 ≤ (86 * y - 239 * x : Int) → _) ∧ (_ → (62 * y - 247 * x : Int) < 0 → (37 * y - 251 * x : Int) < 0)
  unfold Quarter; omega
theorem at14 (x y : Int) : (d 14 x y < 0 → 0 ≤ d 13 x y → (Quarter 0 x y ∨ Quarter 0 x y)) ∧ (Quarter 0 x y → d 14 x y < 0 → d 15 x y < 0) := by
  show ((37 * y - 251 * x : Int) < 0 → 0 ≤ (62 * y - 247 * x : Int) → _) ∧ (_ → (37 * y - 251 * x : Int) < 0 → (12 * y - 253 * x : Int) < 0)
  unfold Quarter; omega
theorem at15 (x y : Int) : (d 15 x y < 0 → 0 ≤ d 14 x y → (Quarter 0 x y ∨ Quarter 0 x y)) ∧ (Quarter 0 x y → d 15 x y < 0 → d 16 x y < 0) := by
  show ((12 * y - 253 * x : Int) < 0 → 0 ≤ (37 * y - 251 * x : Int) → _) ∧ (_ → (12 * y - 253 * x : Int) < 0 → (-12 * y - 253 * x : Int) < 0)
  unfold Quarter; omega
theorem at16 (x y : Int) : (d 16 x y < 0 → 0 ≤ d 15 x y → (Quarter 1 x y ∨ Quarter 0 x y)) ∧ (Quarter 1 x y → d 16 x y < 0 → d 17 x y < 0) := by
  show ((-12 * y - 253 * x : Int) < 0 → 0 ≤ (12 * y - 253 * x : Int) → _) ∧ (_ → (-12 * y - 253 * x : Int) < 0 → (-37 * y - 251 * x : Int) < 0)
  unfold Quarter; omega
theorem at17 (x y : Int) : (d 17 x y < 0 → 0 ≤ d 16 x y → (Quarter 1 x y ∨ Quarter 1 x y)) ∧ (Quarter 1 x y → d 17 x y < 0 → d 18 x y < 0) := by
  show ((-37 * y - 251 * x : Int) < 0 → 0 ≤ (-12 * y - 253 * x : Int) → _) ∧ (_ → (-37 * y - 251 * x : Int) < 0 → (-62 * y - 247 * x : Int) < 0)
  unfold Quarter; omega
theorem at18 (x y : Int) : (d 18 x y < 0 → 0 ≤ d 17 x y → (Quarter 1 x y ∨ Quarter 1 x y)) ∧ (Quarter 1 x y → d 18 x y < 0 → d 19 x y < 0) := by
  show ((-62 * y - 247 * x : Int) < 0 → 0 ≤ (-37 * y - 251 * x : Int) → _) ∧ (_ → (-62 * y - 247 * x : Int) < 0 → (-86 * y - 239 * x : Int) < 0)
  unfold Quarter; omega
theorem at19 (x y : Int) : (d 19 x y < 0 → 0 ≤ d 18 x y → (Quarter 1 x y ∨ Quarter 1 x y)) ∧ (Quarter 1 x y → d 19 x y < 0 → d 20 x y < 0) := by
  show ((-86 * y - 239 * x : Int) < 0 → 0 ≤ (-62 * y - 247 * x : Int) → _) ∧ (_ → (-86 * y - 239 * x : Int) < 0 → (-109 * y - 229 * x : Int) < 0)
  unfold Quarter; omega
theorem at20 (x y : Int) : (d 20 x y < 0 → 0 ≤ d 19 x y → (Quarter 1 x y ∨ Quarter 1 x y)) ∧ (Quarter 1 x y → d 20 x y < 0 → d 21 x y < 0) := by
  show ((-109 * y - 229 * x : Int) < 0 → 0 ≤ (-86 * y - 239 * x : Int) → _) ∧ (_ → (-109 * y - 229 * x : Int) < 0 → (-131 * y - 218 * x : Int) < 0)
  unfold Quarter; omega
theorem at21 (x y : Int) : (d 21 x y < 0 → 0 ≤ d 20 x y → (Quarter 1 x y ∨ Quarter 1 x y)) ∧ (Quarter 1 x y → d 21 x y < 0 → d 22 x y < 0) := by
  show ((-131 * y - 218 * x : Int) < 0 → 0 ≤ (-109 * y - 229 * x : Int) → _) ∧ (_ → (-131 * y - 218 * x : Int) < 0 → (-152 * y - 204 * x : Int) < 0)
  unfold Quarter; omega
theorem at22 (x y : Int) : (d 22 x y < 0 → 0 ≤ d 21 x y → (Quarter 1 x y ∨ Quarter 1 x y)) ∧ (Quarter 1 x y → d 22 x y < 0 → d 23 x y < 0) := by
  show ((-152 * y - 204 * x : Int) < 0 → 0 ≤ (-131 * y - 218 * x : Int) → _) ∧ (_ → (-152 * y - 204 * x : Int) < 0 → (-171 * y - 188 * x : Int) < 0)
  unfold Quarter; omega
theorem at23 (x y : Int) : (d 23 x y < 0 → 0 ≤ d 22 x y → (Quarter 1 x y ∨ Quarter 1 x y)) ∧ (Quarter 1 x y → d 23 x y < 0 → d 24 x y < 0) := by
  show ((-171 * y - 188 * x : Int) < 0 → 0 ≤ (-152 * y - 204 * x : Int) → _) ∧ (_ → (-171 * y - 188 * x : Int) < 0 → (-188 * y - 171 * x : Int) < 0)
  unfold Quarter; omega
theorem at24 (x y : Int) : (d 24 x y < 0 → 0 ≤ d 23 x y → (Quarter 1 x y ∨ Quarter 1 x y)) ∧ (Quarter 1 x y → d 24 x y < 0 → d 25 x y < 0) := by
  show ((-188 * y - 171 * x : Int) < 0 → 0 ≤ (-171 * y - 188 * x : Int) → _) ∧ (_ → (-188 * y - 171 * x : Int) < 0 → (-204 * y - 152 * x : Int) < 0)
  unfold Quarter; omega
theorem at25 (x y : Int) : (d 25 x y < 0 → 0 ≤ d 24 x y → (Quarter 1 x y ∨ Quarter 1 x y)) ∧ (Quarter 1 x y → d 25 x y < 0 → d 26 x y < 0) := by
  show ((-204 * y - 152 * x : Int) < 0 → 0 ≤ (-188 * y - 171 * x : Int) → _) ∧ (_ → (-204 * y - 152 * x : Int) < 0 → (-218 * y - 131 * x : Int) < 0)
  unfold Quarter; omega
theorem at26 (x y : Int) : (d 26 x y < 0 → 0 ≤ d 25 x y → (Quarter 1 x y ∨ Quarter 1 x y)) ∧ (Quarter 1 x y → d 26 x y < 0 → d 27 x y < 0) := by
  show ((-218 * y - 131 * x : Int) < 0 → 0 ≤ (-204 * y - 152 * x : Int) → _) ∧ (_ → (-218 * y - 131 * x : Int) < 0 → (-229 * y - 109 * x : Int) < 0)
  unfold Quarter; omega
theorem at27 (x y : Int) : (d 27 x y < 0 → 0 ≤ d 26 x y → (Quarter 1 x y ∨ Quarter 1 x y)) ∧ (Quarter 1 x y → d 27 x y < 0 → d 28 x y < 0) := by
  show ((-229 * y - 109 * x : Int) < 0 → 0 ≤ (-218 * y - 131 * x : Int) → _) ∧ (_ → (-229 * y - 109 * x : Int) < 0 → (-239 * y - 86 * x : Int) < 0)
  unfold Quarter; omega
theorem at28 (x y : Int) : (d 28 x y < 0 → 0 ≤ d 27 x y → (Quarter 1 x y ∨ Quarter 1 x y)) ∧ (Quarter 1 x y → d 28 x y < 0 → d 29 x y < 0) := by
  show ((-239 * y - 86 * x : Int) < 0 → 0 ≤ (-229 * y - 109 * x : Int) → _) ∧ (_ → (-239 * y - 86 * x : Int) < 0 → (-247 * y - 62 * x : Int) < 0)
  unfold Quarter; omega
theorem at29 (x y : Int) : (d 29 x y < 0 → 0 ≤ d 28 x y → (Quarter 1 x y ∨ Quarter 1 x y)) ∧ (Quarter 1 x y → d 29 x y < 0 → d 30 x y < 0) := by
  show ((-247 * y - 62 * x : Int) < 0 → 0 ≤ (-239 * y - 86 * x : Int) → _) ∧ (_ → (-247 * y - 62 * x : Int) < 0 → (-251 * y - 37 * x : Int) < 0)
  unfold Quarter; omega
theorem at30 (x y : Int) : (d 30 x y < 0 → 0 ≤ d 29 x y → (Quarter 1 x y ∨ Quarter 1 x y)) ∧ (Quarter 1 x y → d 30 x y < 0 → d 31 x y < 0) := by
  show ((-251 * y - 37 * x : Int) < 0 → 0 ≤ (-247 * y - 62 * x : Int) → _) ∧ (_ → (-251 * y - 37 * x : Int) < 0 → (-253 * y - 12 * x : Int) < 0)
  unfold Quarter; omega
theorem at31 (x y : Int) : (d 31 x y < 0 → 0 ≤ d 30 x y → (Quarter 1 x y ∨ Quarter 1 x y)) ∧ (Quarter 1 x y → d 31 x y < 0 → d 32 x y < 0) := by
  show ((-253 * y - 12 * x : Int) < 0 → 0 ≤ (-251 * y - 37 * x : Int) → _) ∧ (_ → (-253 * y - 12 * x : Int) < 0 → (-253 * y - (-12) * x : Int) < 0)
  unfold Quarter; omega
theorem at32 (x y : Int) : (d 32 x y < 0 → 0 ≤ d 31 x y → (Quarter 2 x y ∨ Quarter 1 x y)) ∧ (Quarter 2 x y → d 32 x y < 0 → d 33 x y < 0) := by
  show ((-253 * y - (-12) * x : Int) < 0 → 0 ≤ (-253 * y - 12 * x : Int) → _) ∧ (_ → (-253 * y - (-12) * x : Int) < 0 → (-251 * y - (-37) * x : Int) < 0)
  unfold Quarter; omega
theorem at33 (x y : Int) : (d 33 x y < 0 → 0 ≤ d 32 x y → (Quarter 2 x y ∨ Quarter 2 x y)) ∧ (Quarter 2 x y → d 33 x y < 0 → d 34 x y < 0) := by
  show ((-251 * y - (-37) * x : Int) < 0 → 0 ≤ (-253 * y - (-12) * x : Int) → _) ∧ (_ → (-251 * y - (-37) * x : Int) < 0 → (-247 * y - (-62) * x : Int) < 0)
  unfold Quarter; omega
theorem at34 (x y : Int) : (d 34 x y < 0 → 0 ≤ d 33 x y → (Quarter 2 x y ∨ Quarter 2 x y)) ∧ (Quarter 2 x y → d 34 x y < 0 → d 35 x y < 0) := by
  show ((-247 * y - (-62) * x : Int) < 0 → 0 ≤ (-251 * y - (-37) * x : Int) → _) ∧ (_ → (-247 * y - (-62) * x : Int) < 0 → (-239 * y - (-86) * x : Int) < 0)
  unfold Quarter; omega
theorem at35 (x y : Int) : (d 35 x y < 0 → 0 ≤ d 34 x y → (Quarter 2 x y ∨ Quarter 2 x y)) ∧ (Quarter 2 x y → d 35 x y < 0 → d 36 x y < 0) := by
  show ((-239 * y - (-86) * x : Int) < 0 → 0 ≤ (-247 * y - (-62) * x : Int) → _) ∧ (_ → (-239 * y - (-86) * x : Int) < 0 → (-229 * y - (-109) * x : Int) < 0)
  unfold Quarter; omega
theorem at36 (x y : Int) : (d 36 x y < 0 → 0 ≤ d 35 x y → (Quarter 2 x y ∨ Quarter 2 x y)) ∧ (Quarter 2 x y → d 36 x y < 0 → d 37 x y < 0) := by
  show ((-229 * y - (-109) * x : Int) < 0 → 0 ≤ (-239 * y - (-86) * x : Int) → _) ∧ (_ → (-229 * y - (-109) * x : Int) < 0 → (-218 * y - (-131) * x : Int) < 0)
  unfold Quarter; omega
theorem at37 (x y : Int) : (d 37 x y < 0 → 0 ≤ d 36 x y → (Quarter 2 x y ∨ Quarter 2 x y)) ∧ (Quarter 2 x y → d 37 x y < 0 → d 38 x y < 0) := by
  show ((-218 * y - (-131) * x : Int) < 0 → 0 ≤ (-229 * y - (-109) * x : Int) → _) ∧ (_ → (-218 * y - (-131) * x : Int) < 0 → (-204 * y - (-152) * x : Int) < 0)
  unfold Quarter; omega
theorem at38 (x y : Int) : (d 38 x y < 0 → 0 ≤ d 37 x y → (Quarter 2 x y ∨ Quarter 2 x y)) ∧ (Quarter 2 x y → d 38 x y < 0 → d 39 x y < 0) := by
  show ((-204 * y - (-152) * x : Int) < 0 → 0 ≤ (-218 * y - (-131) * x : Int) → _) ∧ (_ → (-204 * y - (-152) * x : Int) < 0 → (-188 * y - (-171) * x : Int) < 0)
  unfold Quarter; omega
theorem at39 (x y : Int) : (d 39 x y < 0 → 0 ≤ d 38 x y → (Quarter 2 x y ∨ Quarter 2 x y)) ∧ (Quarter 2 x y → d 39 x y < 0 → d 40 x y < 0) := by
  show ((-188 * y - (-171) * x : Int) < 0 → 0 ≤ (-204 * y - (-152) * x : Int) → _) ∧ (_ → (-188 * y - (-171) * x : Int) < 0 → (-171 * y - (-188) * x : Int) < 0)
  unfold Quarter; omega
theorem at40 (x y : Int) : (d 40 x y < 0 → 0 ≤ d 39 x y → (Quarter 2 x y ∨ Quarter 2 x y)) ∧ (Quarter 2 x y → d 40 x y < 0 → d 41 x y < 0) := by
  show ((-171 * y - (-188) * x : Int) < 0 → 0 ≤ (-188 * y - (-171) * x : Int) → _) ∧ (_ → (-171 * y - (-188) * x : Int) < 0 → (-152 * y - (-204) * x : Int) < 0)
  unfold Quarter; omega
theorem at41 (x y : Int) : (d 41 x y < 0 → 0 ≤ d 40 x y → (Quarter 2 x y ∨ Quarter 2 x y)) ∧ (Quarter 2 x y → d 41 x y < 0 → d 42 x y < 0) := by
  show ((-152 * y - (-204) * x : Int) < 0 → 0 ≤ (-171 * y - (-188) * x : Int) → _) ∧ (_ → (-152 * y - (-204) * x : Int) < 0 → (-131 * y - (-218) * x : Int) < 0)
  unfold Quarter; omega
theorem at42 (x y : Int) : (d 42 x y < 0 → 0 ≤ d 41 x y → (Quarter 2 x y ∨ Quarter 2 x y)) ∧ (Quarter 2 x y → d 42 x y < 0 → d 43 x y < 0) := by
  show ((-131 * y - (-218) * x : Int) < 0 → 0 ≤ (-152 * y - (-204) * x : Int) → _) ∧ (_ → (-131 * y - (-218) * x : Int) < 0 → (-109 * y - (-229) * x : Int) < 0)
  unfold Quarter; omega
theorem at43 (x y : Int) : (d 43 x y < 0 → 0 ≤ d 42 x y → (Quarter 2 x y ∨ Quarter 2 x y)) ∧ (Quarter 2 x y → d 43 x y < 0 → d 44 x y < 0) := by
  show ((-109 * y - (-229) * x : Int) < 0 → 0 ≤ (-131 * y - (-218) * x : Int) → _) ∧ (_ → (-109 * y - (-229) * x : Int) < 0 → (-86 * y - (-239) * x : Int) < 0)
  unfold Quarter; omega
theorem at44 (x y : Int) : (d 44 x y < 0 → 0 ≤ d 43 x y → (Quarter 2 x y ∨ Quarter 2 x y)) ∧ (Quarter 2 x y → d 44 x y < 0 → d 45 x y < 0) := by
  show ((-86 * y - (-239) * x : Int) < 0 → 0 ≤ (-109 * y - (-229) * x : Int) → _) ∧ (_ → (-86 * y - (-239) * x : Int) < 0 → (-62 * y - (-247) * x : Int) < 0)
  unfold Quarter; omega
theorem at45 (x y : Int) : (d 45 x y < 0 → 0 ≤ d 44 x y → (Quarter 2 x y ∨ Quarter 2 x y)) ∧ (Quarter 2 x y → d 45 x y < 0 → d 46 x y < 0) := by
  show ((-62 * y - (-247) * x : Int) < 0 → 0 ≤ (-86 * y - (-239) * x : Int) → _) ∧ (_ → (-62 * y - (-247) * x : Int) < 0 → (-37 * y - (-251) * x : Int) < 0)
  unfold Quarter; omega
theorem at46 (x y : Int) : (d 46 x y < 0 → 0 ≤ d 45 x y → (Quarter 2 x y ∨ Quarter 2 x y)) ∧ (Quarter 2 x y → d 46 x y < 0 → d 47 x y < 0) := by
  show ((-37 * y - (-251) * x : Int) < 0 → 0 ≤ (-62 * y - (-247) * x : Int) → _) ∧ (_ → (-37 * y - (-251) * x : Int) < 0 → (-12 * y - (-253) * x : Int) < 0)
  unfold Quarter; omega
theorem at47 (x y : Int) : (d 47 x y < 0 → 0 ≤ d 46 x y → (Quarter 2 x y ∨ Quarter 2 x y)) ∧ (Quarter 2 x y → d 47 x y < 0 → d 48 x y < 0) := by
  show ((-12 * y - (-253) * x : Int) < 0 → 0 ≤ (-37 * y - (-251) * x : Int) → _) ∧ (_ → (-12 * y - (-253) * x : Int) < 0 → (12 * y - (-253) * x : Int) < 0)
  unfold Quarter; omega
theorem at48 (x y : Int) : (d 48 x y < 0 → 0 ≤ d 47 x y → (Quarter 3 x y ∨ Quarter 2 x y)) ∧ (Quarter 3 x y → d 48 x y < 0 → d 49 x y < 0) := by
  show ((12 * y - (-253) * x : Int) < 0 → 0 ≤ (-12 * y - (-253) * x : Int) → _) ∧ (_ → (12 * y - (-253) * x : Int) < 0 → (37 * y - (-251) * x : Int) < 0)
  unfold Quarter; omega
theorem at49 (x y : Int) : (d 49 x y < 0 → 0 ≤ d 48 x y → (Quarter 3 x y ∨ Quarter 3 x y)) ∧ (Quarter 3 x y → d 49 x y < 0 → d 50 x y < 0) := by
  show ((37 * y - (-251) * x : Int) < 0 → 0 ≤ (12 * y - (-253) * x : Int) → _) ∧ (_ → (37 * y - (-251) * x : Int) < 0 → (62 * y - (-247) * x : Int) < 0)
  unfold Quarter; omega
theorem at50 (x y : Int) : (d 50 x y < 0 → 0 ≤ d 49 x y → (Quarter 3 x y ∨ Quarter 3 x y)) ∧ (Quarter 3 x y → d 50 x y < 0 → d 51 x y < 0) := by
  show ((62 * y - (-247) * x : Int) < 0 → 0 ≤ (37 * y - (-251) * x : Int) → _) ∧ (_ → (62 * y - (-247) * x : Int) < 0 → (86 * y - (-239) * x : Int) < 0)
  unfold Quarter; omega
theorem at51 (x y : Int) : (d 51 x y < 0 → 0 ≤ d 50 x y → (Quarter 3 x y ∨ Quarter 3 x y)) ∧ (Quarter 3 x y → d 51 x y < 0 → d 52 x y < 0) := by
  show ((86 * y - (-239) * x : Int) < 0 → 0 ≤ (62 * y - (-247) * x : Int) → _) ∧ (_ → (86 * y - (-239) * x : Int) < 0 → (109 * y - (-229) * x : Int) < 0)
  unfold Quarter; omega
theorem at52 (x y : Int) : (d 52 x y < 0 → 0 ≤ d 51 x y → (Quarter 3 x y ∨ Quarter 3 x y)) ∧ (Quarter 3 x y → d 52 x y < 0 → d 53 x y < 0) := by
  show ((109 * y - (-229) * x : Int) < 0 → 0 ≤ (86 * y - (-239) * x : Int) → _) ∧ (_ → (109 * y - (-229) * x : Int) < 0 → (131 * y - (-218) * x : Int) < 0)
  unfold Quarter; omega
theorem at53 (x y : Int) : (d 53 x y < 0 → 0 ≤ d 52 x y → (Quarter 3 x y ∨ Quarter 3 x y)) ∧ (Quarter 3 x y → d 53 x y < 0 → d 54 x y < 0) := by
  show ((131 * y - (-218) * x : Int) < 0 → 0 ≤ (109 * y - (-229) * x : Int) → _) ∧ (_ → (131 * y - (-218) * x : Int) < 0 → (152 * y - (-204) * x : Int) < 0)
  unfold Quarter; omega
theorem at54 (x y : Int) : (d 54 x y < 0 → 0 ≤ d 53 x y → (Quarter 3 x y ∨ Quarter 3 x y)) ∧ (Quarter 3 x y → d 54 x y < 0 → d 55 x y < 0) := by
  show ((152 * y - (-204) * x : Int) < 0 → 0 ≤ (131 * y - (-218) * x : Int) → _) ∧ (_ → (152 * y - (-204) * x : Int) < 0 → (171 * y - (-188) * x : Int) < 0)
  unfold Quarter; omega
theorem at55 (x y : Int) : (d 55 x y < 0 → 0 ≤ d 54 x y → (Quarter 3 x y ∨ Quarter 3 x y)) ∧ (Quarter 3 x y → d 55 x y < 0 → d 56 x y < 0) := by
  show ((171 * y - (-188) * x : Int) < 0 → 0 ≤ (152 * y - (-204) * x : Int) → _) ∧ (_ → (171 * y - (-188) * x : Int) < 0 → (188 * y - (-171) * x : Int) < 0)
  unfold Quarter; omega
theorem at56 (x y : Int) : (d 56 x y < 0 → 0 ≤ d 55 x y → (Quarter 3 x y ∨ Quarter 3 x y)) ∧ (Quarter 3 x y → d 56 x y < 0 → d 57 x y < 0) := by
  show ((188 * y - (-171) * x : Int) < 0 → 0 ≤ (171 * y - (-188) * x : Int) → _) ∧ (_ → (188 * y - (-171) * x : Int) < 0 → (204 * y - (-152) * x : Int) < 0)
  unfold Quarter; omega
theorem at57 (x y : Int) : (d 57 x y < 0 → 0 ≤ d 56 x y → (Quarter 3 x y ∨ Quarter 3 x y)) ∧ (Quarter 3 x y → d 57 x y < 0 → d 58 x y < 0) := by
  show ((204 * y - (-152) * x : Int) < 0 → 0 ≤ (188 * y - (-171) * x : Int) → _) ∧ (_ → (204 * y - (-152) * x : Int) < 0 → (218 * y - (-131) * x : Int) < 0)
  unfold Quarter; omega
theorem at58 (x y : Int) : (d 58 x y < 0 → 0 ≤ d 57 x y → (Quarter 3 x y ∨ Quarter 3 x y)) ∧ (Quarter 3 x y → d 58 x y < 0 → d 59 x y < 0) := by
  show ((218 * y - (-131) * x : Int) < 0 → 0 ≤ (204 * y - (-152) * x : Int) → _) ∧ (_ → (218 * y - (-131) * x : Int) < 0 → (229 * y - (-109) * x : Int) < 0)
  unfold Quarter; omega
theorem at59 (x y : Int) : (d 59 x y < 0 → 0 ≤ d 58 x y → (Quarter 3 x y ∨ Quarter 3 x y)) ∧ (Quarter 3 x y → d 59 x y < 0 → d 60 x y < 0) := by
  show ((229 * y - (-109) * x : Int) < 0 → 0 ≤ (218 * y - (-131) * x : Int) → _) ∧ (_ → (229 * y - (-109) * x : Int) < 0 → (239 * y - (-86) * x : Int) < 0)
  unfold Quarter; omega
theorem at60 (x y : Int) : (d 60 x y < 0 → 0 ≤ d 59 x y → (Quarter 3 x y ∨ Quarter 3 x y)) ∧ (Quarter 3 x y → d 60 x y < 0 → d 61 x y < 0) := by
  show ((239 * y - (-86) * x : Int) < 0 → 0 ≤ (229 * y - (-109) * x : Int) → _) ∧ (_ → (239 * y - (-86) * x : Int) < 0 → (247 * y - (-62) * x : Int) < 0)
  unfold Quarter; omega
theorem at61 (x y : Int) : (d 61 x y < 0 → 0 ≤ d 60 x y → (Quarter 3 x y ∨ Quarter 3 x y)) ∧ (Quarter 3 x y → d 61 x y < 0 → d 62 x y < 0) := by
  show ((247 * y - (-62) * x : Int) < 0 → 0 ≤ (239 * y - (-86) * x : Int) → _) ∧ (_ → (247 * y - (-62) * x : Int) < 0 → (251 * y - (-37) * x : Int) < 0)
  unfold Quarter; omega
theorem at62 (x y : Int) : (d 62 x y < 0 → 0 ≤ d 61 x y → (Quarter 3 x y ∨ Quarter 3 x y)) ∧ (Quarter 3 x y → d 62 x y < 0 → d 63 x y < 0) := by
  show ((251 * y - (-37) * x : Int) < 0 → 0 ≤ (247 * y - (-62) * x : Int) → _) ∧ (_ → (251 * y - (-37) * x : Int) < 0 → (253 * y - (-12) * x : Int) < 0)
  unfold Quarter; omega
theorem at63 (x y : Int) : (d 63 x y < 0 → 0 ≤ d 62 x y → (Quarter 3 x y ∨ Quarter 3 x y)) ∧ (Quarter 3 x y → d 63 x y < 0 → d 64 x y < 0) := by
  show ((253 * y - (-12) * x : Int) < 0 → 0 ≤ (251 * y - (-37) * x : Int) → _) ∧ (_ → (253 * y - (-12) * x : Int) < 0 → (253 * y - 12 * x : Int) < 0)
  unfold Quarter; omega

theorem cases64' {P : Int → Prop} (p0 : P 0) (p1 : P 1) (p2 : P 2) (p3 : P 3) (p4 : P 4) (p5 : P 5) (p6 : P 6) (p7 : P 7) (p8 : P 8) (p9 : P 9) (p10 : P 10) (p11 : P 11) (p12 : P 12) (p13 : P 13) (p14 : P 14) (p15 : P 15) (p16 : P 16) (p17 : P 17) (p18 : P 18) (p19 : P 19) (p20 : P 20) (p21 : P 21) (p22 : P 22) (p23 : P 23) (p24 : P 24) (p25 : P 25) (p26 : P 26) (p27 : P 27) (p28 : P 28) (p29 : P 29) (p30 : P 30) (p31 : P 31) (p32 : P 32) (p33 : P 33) (p34 : P 34) (p35 : P 35) (p36 : P 36) (p37 : P 37) (p38 : P 38) (p39 : P 39) (p40 : P 40) (p41 : P 41) (p42 : P 42) (p43 : P 43) (p44 : P 44) (p45 : P 45) (p46 : P 46) (p47 : P 47) (p48 : P 48) (p49 : P 49) (p50 : P 50) (p51 : P 51) (p52 : P 52) (p53 : P 53) (p54 : P 54) (p55 : P 55) (p56 : P 56) (p57 : P 57) (p58 : P 58) (p59 : P 59) (p60 : P 60) (p61 : P 61) (p62 : P 62) (p63 : P 63) (k : Int) (h0 : 0 ≤ k) (h1 : k < 64) : P k :=
  cases64 k h0 h1 (fun j => match j with
    | ⟨0, _⟩ => p0
    | ⟨1, _⟩ => p1
    | ⟨2, _⟩ => p2
    | ⟨3, _⟩ => p3
    | ⟨4, _⟩ => p4
    | ⟨5, _⟩ => p5
    | ⟨6, _⟩ => p6
    | ⟨7, _⟩ => p7
    | ⟨8, _⟩ => p8
    | ⟨9, _⟩ => p9
    | ⟨10, _⟩ => p10
    | ⟨11, _⟩ => p11
    | ⟨12, _⟩ => p12
    | ⟨13, _⟩ => p13
    | ⟨14, _⟩ => p14
    | ⟨15, _⟩ => p15
    | ⟨16, _⟩ => p16
    | ⟨17, _⟩ => p17
    | ⟨18, _⟩ => p18
    | ⟨19, _⟩ => p19
    | ⟨20, _⟩ => p20
    | ⟨21, _⟩ => p21
    | ⟨22, _⟩ => p22
    | ⟨23, _⟩ => p23
    | ⟨24, _⟩ => p24
    | ⟨25, _⟩ => p25
    | ⟨26, _⟩ => p26
    | ⟨27, _⟩ => p27
    | ⟨28, _⟩ => p28
    | ⟨29, _⟩ => p29
    | ⟨30, _⟩ => p30
    | ⟨31, _⟩ => p31
    | ⟨32, _⟩ => p32
    | ⟨33, _⟩ => p33
    | ⟨34, _⟩ => p34
    | ⟨35, _⟩ => p35
    | ⟨36, _⟩ => p36
    | ⟨37, _⟩ => p37
    | ⟨38, _⟩ => p38
    | ⟨39, _⟩ => p39
    | ⟨40, _⟩ => p40
    | ⟨41, _⟩ => p41
    | ⟨42, _⟩ => p42
    | ⟨43, _⟩ => p43
    | ⟨44, _⟩ => p44
    | ⟨45, _⟩ => p45
    | ⟨46, _⟩ => p46
    | ⟨47, _⟩ => p47
    | ⟨48, _⟩ => p48
    | ⟨49, _⟩ => p49
    | ⟨50, _⟩ => p50
    | ⟨51, _⟩ => p51
    | ⟨52, _⟩ => p52
    | ⟨53, _⟩ => p53
    | ⟨54, _⟩ => p54
    | ⟨55, _⟩ => p55
    | ⟨56, _⟩ => p56
    | ⟨57, _⟩ => p57
    | ⟨58, _⟩ => p58
    | ⟨59, _⟩ => p59
    | ⟨60, _⟩ => p60
    | ⟨61, _⟩ => p61
    | ⟨62, _⟩ => p62
    | ⟨63, _⟩ => p63
    | ⟨j + 64, h⟩ => absurd h (by omega))
theorem le16 (k x y : Int) (h0 : 0 ≤ k) (h1 : k < 64) (hq : Quarter 0 x y) (ha : 0 ≤ d (k - 1) x y) (hb : d k x y < 0) : k ≤ 16 := by
  refine cases64' (P := fun k => 0 ≤ d (k - 1) x y → d k x y < 0 → k ≤ 16) (fun _ _ => by decide) (fun _ _ => by decide) (fun _ _ => by decide) (fun _ _ => by decide) (fun _ _ => by decide) (fun _ _ => by decide) (fun _ _ => by decide) (fun _ _ => by decide) (fun _ _ => by decide) (fun _ _ => by decide) (fun _ _ => by decide) (fun _ _ => by decide) (fun _ _ => by decide) (fun _ _ => by decide) (fun _ _ => by decide) (fun _ _ => by decide) (fun _ _ => by decide) (fun ha hb => absurd ((at17 x y).1 hb ha) (by unfold Quarter at *; omega)) (fun ha hb => absurd ((at18 x y).1 hb ha) (by unfold Quarter at *; omega)) (fun ha hb => absurd ((at19 x y).1 hb ha) (by unfold Quarter at *; omega)) (fun ha hb => absurd ((at20 x y).1 hb ha) (by unfold Quarter at *; omega)) (fun ha hb => absurd ((at21 x y).1 hb ha) (by unfold Quarter at *; omega)) (fun ha hb => absurd ((at22 x y).1 hb ha) (by unfold Quarter at *; omega)) (fun ha hb => absurd ((at23 x y).1 hb ha) (by unfold Quarter at *; omega)) (fun ha hb => absurd ((at24 x y).1 hb ha) (by unfold Quarter at *; omega)) (fun ha hb => absurd ((at25 x y).1 hb ha) (by unfold Quarter at *; omega)) (fun ha hb => absurd ((at26 x y).1 hb ha) (by unfold Quarter at *; omega)) (fun ha hb => absurd ((at27 x y).1 hb ha) (by unfold Quarter at *; omega)) (fun ha hb => absurd ((at28 x y).1 hb ha) (by unfold Quarter at *; omega)) (fun ha hb => absurd ((at29 x y).1 hb ha) (by unfold Quarter at *; omega)) (fun ha hb => absurd ((at30 x y).1 hb ha) (by unfold Quarter at *; omega)) (fun ha hb => absurd ((at31 x y).1 hb ha) (by unfold Quarter at *; omega)) (fun ha hb => absurd ((at32 x y).1 hb ha) (by unfold Quarter at *; omega)) (fun ha hb => absurd ((at33 x y).1 hb ha) (by unfold Quarter at *; omega)) (fun ha hb => absurd ((at34 x y).1 hb ha) (by unfold Quarter at *; omega)) (fun ha hb => absurd ((at35 x y).1 hb ha) (by unfold Quarter at *; omega)) (fun ha hb => absurd ((at36 x y).1 hb ha) (by unfold Quarter at *; omega)) (fun ha hb => absurd ((at37 x y).1 hb ha) (by unfold Quarter at *; omega)) (fun ha hb => absurd ((at38 x y).1 hb ha) (by unfold Quarter at *; omega)) (fun ha hb => absurd ((at39 x y).1 hb ha) (by unfold Quarter at *; omega)) (fun ha hb => absurd ((at40 x y).1 hb ha) (by unfold Quarter at *; omega)) (fun ha hb => absurd ((at41 x y).1 hb ha) (by unfold Quarter at *; omega)) (fun ha hb => absurd ((at42 x y).1 hb ha) (by unfold Quarter at *; omega)) (fun ha hb => absurd ((at43 x y).1 hb ha) (by unfold Quarter at *; omega)) (fun ha hb => absurd ((at44 x y).1 hb ha) (by unfold Quarter at *; omega)) (fun ha hb => absurd ((at45 x y).1 hb ha) (by unfold Quarter at *; omega)) (fun ha hb => absurd ((at46 x y).1 hb ha) (by unfold Quarter at *; omega)) (fun ha hb => absurd ((at47 x y).1 hb ha) (by unfold Quarter at *; omega)) (fun ha hb => absurd ((at48 x y).1 hb ha) (by unfold Quarter at *; omega)) (fun ha hb => absurd ((at49 x y).1 hb ha) (by unfold Quarter at *; omega)) (fun ha hb => absurd ((at50 x y).1 hb ha) (by unfold Quarter at *; omega)) (fun ha hb => absurd ((at51 x y).1 hb ha) (by unfold Quarter at *; omega)) (fun ha hb => absurd ((at52 x y).1 hb ha) (by unfold Quarter at *; omega)) (fun ha hb => absurd ((at53 x y).1 hb ha) (by unfold Quarter at *; omega)) (fun ha hb => absurd ((at54 x y).1 hb ha) (by unfold Quarter at *; omega)) (fun ha hb => absurd ((at55 x y).1 hb ha) (by unfold Quarter at *; omega)) (fun ha hb => absurd ((at56 x y).1 hb ha) (by unfold Quarter at *; omega)) (fun ha hb => absurd ((at57 x y).1 hb ha) (by unfold Quarter at *; omega)) (fun ha hb => absurd ((at58 x y).1 hb ha) (by unfold Quarter at *; omega)) (fun ha hb => absurd ((at59 x y).1 hb ha) (by unfold Quarter at *; omega)) (fun ha hb => absurd ((at60 x y).1 hb ha) (by unfold Quarter at *; omega)) (fun ha hb => absurd ((at61 x y).1 hb ha) (by unfold Quarter at *; omega)) (fun ha hb => absurd ((at62 x y).1 hb ha) (by unfold Quarter at *; omega)) (fun ha hb => absurd ((at63 x y).1 hb ha) (by unfold Quarter at *; omega)) k h0 h1 ha hb
theorem next (k x y : Int) (h0 : 0 ≤ k) (h1 : k < 16) (hq : Quarter 0 x y) (hb : d k x y < 0) : d (k + 1) x y < 0 := by
  refine cases64' (P := fun k => k < 16 → d k x y < 0 → d (k + 1) x y < 0) (fun _ hb => (at0 x y).2 hq hb) (fun _ hb => (at1 x y).2 hq hb) (fun _ hb => (at2 x y).2 hq hb) (fun _ hb => (at3 x y).2 hq hb) (fun _ hb => (at4 x y).2 hq hb) (fun _ hb => (at5 x y).2 hq hb) (fun _ hb => (at6 x y).2 hq hb) (fun _ hb => (at7 x y).2 hq hb) (fun _ hb => (at8 x y).2 hq hb) (fun _ hb => (at9 x y).2 hq hb) (fun _ hb => (at10 x y).2 hq hb) (fun _ hb => (at11 x y).2 hq hb) (fun _ hb => (at12 x y).2 hq hb) (fun _ hb => (at13 x y).2 hq hb) (fun _ hb => (at14 x y).2 hq hb) (fun _ hb => (at15 x y).2 hq hb) (fun h _ => absurd h (by decide)) (fun h _ => absurd h (by decide)) (fun h _ => absurd h (by decide)) (fun h _ => absurd h (by decide)) (fun h _ => absurd h (by decide)) (fun h _ => absurd h (by decide)) (fun h _ => absurd h (by decide)) (fun h _ => absurd h (by decide)) (fun h _ => absurd h (by decide)) (fun h _ => absurd h (by decide)) (fun h _ => absurd h (by decide)) (fun h _ => absurd h (by decide)) (fun h _ => absurd h (by decide)) (fun h _ => absurd h (by decide)) (fun h _ => absurd h (by decide)) (fun h _ => absurd h (by decide)) (fun h _ => absurd h (by decide)) (fun h _ => absurd h (by decide)) (fun h _ => absurd h (by decide)) (fun h _ => absurd h (by decide)) (fun h _ => absurd h (by decide)) (fun h _ => absurd h (by decide)) (fun h _ => absurd h (by decide)) (fun h _ => absurd h (by decide)) (fun h _ => absurd h (by decide)) (fun h _ => absurd h (by decide)) (fun h _ => absurd h (by decide)) (fun h _ => absurd h (by decide)) (fun h _ => absurd h (by decide)) (fun h _ => absurd h (by decide)) (fun h _ => absurd h (by decide)) (fun h _ => absurd h (by decide)) (fun h _ => absurd h (by decide)) (fun h _ => absurd h (by decide)) (fun h _ => absurd h (by decide)) (fun h _ => absurd h (by decide)) (fun h _ => absurd h (by decide)) (fun h _ => absurd h (by decide)) (fun h _ => absurd h (by decide)) (fun h _ => absurd h (by decide)) (fun h _ => absurd h (by decide)) (fun h _ => absurd h (by decide)) (fun h _ => absurd h (by decide)) (fun h _ => absurd h (by decide)) (fun h _ => absurd h (by decide)) (fun h _ => absurd h (by decide)) (fun h _ => absurd h (by decide)) (fun h _ => absurd h (by decide)) k h0 (by omega) h1 hb
theorem nexts (n : Nat) (k x y : Int) (h0 : 0 ≤ k) (h1 : k + n ≤ 16) (hq : Quarter 0 x y) (hb : d k x y < 0) : d (k + n) x y < 0 := by
  induction n with
  | zero => simpa using hb
  | succ n ih =>
    have := next (k + n) x y (by omega) (by omega) hq (ih (by omega))
    rwa [show k + (n : Int) + 1 = k + ((n + 1 : Nat) : Int) from by omega] at this
theorem isSec_d {k x y : Int} : IsSec k x y ↔ 0 ≤ k ∧ k < 64 ∧ 0 ≤ d (k - 1) x y ∧ d k x y < 0 := by
  unfold IsSec d
  have e : x * mq k - y * mi k = - (mi k * y - mq k * x) := by
    rw [Int.mul_comm x, Int.mul_comm y]; omega
  rw [e]; omega
theorem uniq0 (k k' x y : Int) (hq : Quarter 0 x y) (h : IsSec k x y) (h' : IsSec k' x y) (hlt : k < k') : False := by
  rw [isSec_d] at h h'
  have l := le16 k x y h.1 h.2.1 hq h.2.2.1 h.2.2.2
  have l' := le16 k' x y h'.1 h'.2.1 hq h'.2.2.1 h'.2.2.2
  have := nexts (k' - 1 - k).toNat k x y h.1 (by omega) hq h.2.2.2
  rw [show k + ((k' - 1 - k).toNat : Int) = k' - 1 from by omega] at this
  omega
theorem mi_mod (k : Int) : mi (k % 64) = mi k ∧ mq (k % 64) = mq k := by
  unfold mi mq ti tq
  rw [show k % 64 % 64 = k % 64 from by omega, show (k % 64 + 1) % 64 = (k + 1) % 64 from by omega]
  exact ⟨rfl, rfl⟩
theorem m_rot (k : Int) : mi (k + 16) = - mq k ∧ mq (k + 16) = mi k := by
  rw [← (mi_mod (k + 16)).1, ← (mi_mod (k + 16)).2, ← (mi_mod k).1, ← (mi_mod k).2]
  rw [show (k + 16) % 64 = (k % 64 + 16) % 64 from by omega]
  have h := cases64 (P := fun k => mi ((k + 16) % 64) = - mq k ∧ mq ((k + 16) % 64) = mi k) (k % 64) (by omega) (by omega) (by decide)
  exact h
theorem d_mod (k x y : Int) : d (k % 64) x y = d k x y := by unfold d; rw [(mi_mod k).1, (mi_mod k).2]
theorem d_rot (k x y : Int) : d (k + 16) (-y) x = d k x y := by
  unfold d; rw [(m_rot k).1, (m_rot k).2, Int.neg_mul, Int.mul_neg]; omega
theorem isSec_rot {k x y : Int} (h : IsSec k x y) : IsSec ((k + 16) % 64) (-y) x := by
  rw [isSec_d] at *
  refine ⟨by omega, by omega, ?_, ?_⟩
  · rw [← d_mod, show ((k + 16) % 64 - 1) % 64 = (k - 1 + 16) % 64 from by omega, d_mod, d_rot]; exact h.2.2.1
  · rw [d_mod, d_rot]; exact h.2.2.2
theorem quarter_rot {q x y : Int} (h : Quarter q x y) : Quarter ((q + 1) % 4) (-y) x := by unfold Quarter at *; omega
theorem uniqN (n : Nat) : ∀ (k k' x y : Int), Quarter ((4 - n) % 4) x y → n ≤ 4 → IsSec k x y → IsSec k' x y → k = k' := by
  induction n with
  | zero =>
    intro k k' x y hq _ h h'
    have hq' : Quarter 0 x y := by simpa using hq
    rcases Int.lt_trichotomy k k' with g | g | g
    · exact (uniq0 k k' x y hq' h h' g).elim
    · exact g
    · exact (uniq0 k' k x y hq' h' h g).elim
  | succ n ih =>
    intro k k' x y hq hn h h'
    have r := quarter_rot hq
    have := ih ((k + 16) % 64) ((k' + 16) % 64) (-y) x (by rwa [show (((4 : Int) - ((n + 1 : Nat) : Int)) % 4 + 1) % 4 = (4 - (n : Int)) % 4 from by omega] at r) (by omega) (isSec_rot h) (isSec_rot h')
    have a := h.1; have b := h.2.1; have c := h'.1; have e := h'.2.1
    omega
theorem uniq {k k' x y : Int} (h : IsSec k x y) (h' : IsSec k' x y) : k = k' := by
  have hne : x ≠ 0 ∨ y ≠ 0 := by
    by_cases e : x = 0 ∧ y = 0
    · obtain ⟨rfl, rfl⟩ := e
      have := h.2.2.2; simp at this
    · omega
  obtain ⟨q, hq⟩ := quarter_ex x y hne
  have hq4 : 0 ≤ q ∧ q < 4 := by unfold Quarter at hq; omega
  refine uniqN ((4 - q) % 4).toNat k k' x y ?_ (by omega) h h'
  rwa [show ((4 : Int) - (((4 - q) % 4).toNat : Int)) % 4 = q from by omega]
end Go.Proofs.Ytgehbebjgmeccaa.Ang
