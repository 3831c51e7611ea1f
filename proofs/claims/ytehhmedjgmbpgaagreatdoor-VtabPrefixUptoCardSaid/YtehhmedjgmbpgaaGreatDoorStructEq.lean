/-
  EQUALITY of structs of texts: fields, lay's slots, tables' slots.
-/
import Derived.Test.YtehhmedjgmbpgaaGreatDoorFind
namespace Go.Proofs.YtehhmedjgmbpgaaGreatDoor
open Go.RowKit Go.Shelf Go.Lib
theorem two_of {l : List Go.Field} {a b : String × TypeId × Nat} (h : l.map (fun f => (f.name, f.type, f.offset)) = [a, b]) :
    ∃ g1 g2 : Go.Field, l = [g1, g2] ∧ (g1.name = a.1 ∧ g1.type = a.2.1 ∧ g1.offset = a.2.2) ∧ (g2.name = b.1 ∧ g2.type = b.2.1 ∧ g2.offset = b.2.2) := by
  match l, h with
  | [g1, g2], h =>
    simp only [List.map_cons, List.map_nil, List.cons.injEq, and_true] at h
    obtain ⟨rfl, rfl⟩ := h
    exact ⟨g1, g2, rfl, ⟨rfl, rfl, rfl⟩, ⟨rfl, rfl, rfl⟩⟩
theorem three_of {l : List Go.Field} {a b c : String × TypeId × Nat} (h : l.map (fun f => (f.name, f.type, f.offset)) = [a, b, c]) :
    ∃ g1 g2 g3 : Go.Field, l = [g1, g2, g3] ∧ (g1.name = a.1 ∧ g1.type = a.2.1 ∧ g1.offset = a.2.2) ∧ (g2.name = b.1 ∧ g2.type = b.2.1 ∧ g2.offset = b.2.2) ∧ (g3.name = c.1 ∧ g3.type = c.2.1 ∧ g3.offset = c.2.2) := by
  match l, h with
  | [g1, g2, g3], h =>
    simp only [List.map_cons, List.map_nil, List.cons.injEq, and_true] at h
    obtain ⟨rfl, rfl, rfl⟩ := h
    exact ⟨g1, g2, g3, rfl, ⟨rfl, rfl, rfl⟩, ⟨rfl, rfl, rfl⟩, ⟨rfl, rfl, rfl⟩⟩
theorem uField : Tryz.prog.underlying 145 = some (.struct (Tryz.prog.fieldsOf 145)) := by kernel_rfl
theorem sField : Tryz.prog.stoodInHeld 145 = false := by kernel_rfl
theorem fField : (Tryz.prog.fieldsOf 145).toList.map (fun f => (f.name, f.type, f.offset)) = [("Name", 9, 0), ("Type", 9, 1)] := by kernel_rfl
theorem field_eqIn (b c e f : Str) (d : Nat) (w : World) : (Op.equalIn (d + 2) 145 (.agg #[.string b, .string c]) (.agg #[.string e, .string f])).run Tryz.prog w = .ok ((b.toList == e.toList) && (c.toList == f.toList)) w := by
  rw [run_equalIn_agg _ (d+1) _ _ _ uField sField]
  obtain ⟨g1, g2, hg, ⟨n1, t1, o1⟩, n2, t2, o2⟩ := two_of fField
  rw [hg]
  have p0 : ∀ (x y : Str) (w : World), (part 9 #[.string x, .string y] 0).run Tryz.prog w = .ok (.string x) w := fun x y w => by kernel_rfl
  have p1 : ∀ (x y : Str) (w : World), (part 9 #[.string x, .string y] 1).run Tryz.prog w = .ok (.string y) w := fun x y w => by kernel_rfl
  have hs := fun (x y : Str) (w : World) => run_equalIn_string (P := Tryz.prog) w d 9 x y strType
  simp only [Op.eqFields, n1, t1, o1, n2, t2, o2, ne_eq, show ("Name" = "_") = False from by simp, show ("Type" = "_") = False from by simp, not_false_eq_true, if_true, Sem.run_bind, p0, p1, hs, Result.andThen_ok, Sem.run_ite]
  cases b.toList == e.toList <;> cases c.toList == f.toList <;> simp [Sem.run_pure]
theorem field_eql (b c e f : Str) (w : World) : (binOp .eql 145 (.agg #[.string b, .string c]) (.agg #[.string e, .string f])).run Tryz.prog w = .ok (.bool (decide ((b, c) = (e, f)))) w := by
  have h : decide ((b, c) = (e, f)) = (decide (b = e) && decide (c = f)) := by rw [Bool.eq_iff_iff]; simp
  rw [h, ← strEq b e, ← strEq c f, run_eql_struct, field_eqIn b c e f 9998 w]; rfl
theorem uLay : Tryz.prog.underlying 198 = some (.struct (Tryz.prog.fieldsOf 198)) := by kernel_rfl
theorem sLay : Tryz.prog.stoodInHeld 198 = false := by kernel_rfl
theorem fLay : (Tryz.prog.fieldsOf 198).toList.map (fun f => (f.name, f.type, f.offset)) = [("class", 9, 0), ("Field", 145, 1)] := by kernel_rfl
theorem slot_eql (a b c d e f : Str) (w : World) : (binOp .eql 198 (.agg #[.string a, .string b, .string c]) (.agg #[.string d, .string e, .string f])).run Tryz.prog w = .ok (.bool (decide ((a, b, c) = (d, e, f)))) w := by
  have h : decide ((a, b, c) = (d, e, f)) = (decide (a = d) && (decide (b = e) && decide (c = f))) := by rw [Bool.eq_iff_iff]; simp
  rw [h, ← strEq a d, ← strEq b e, ← strEq c f, run_eql_struct, run_equalIn_agg _ 9999 _ _ _ uLay sLay]
  obtain ⟨g1, g2, hg, ⟨n1, t1, o1⟩, n2, t2, o2⟩ := two_of fLay
  rw [hg]
  have p0 : ∀ (x y z : Str) (w : World), (part 9 #[.string x, .string y, .string z] 0).run Tryz.prog w = .ok (.string x) w := fun x y z w => by kernel_rfl
  have p1 : ∀ (x y z : Str) (w : World), (part 145 #[.string x, .string y, .string z] 1).run Tryz.prog w = .ok (.agg #[.string y, .string z]) w := fun x y z w => by kernel_rfl
  have hs := fun (x y : Str) (w : World) => run_equalIn_string (P := Tryz.prog) w 9998 9 x y strType
  have hf := fun (b c e f : Str) (w : World) => field_eqIn b c e f 9997 w
  simp only [Op.eqFields, n1, t1, o1, n2, t2, o2, ne_eq, show ("class" = "_") = False from by simp, show ("Field" = "_") = False from by simp, not_false_eq_true, if_true, Sem.run_bind, p0, p1, hs, hf, Result.andThen_ok, Sem.run_ite]
  cases a.toList == d.toList <;> cases b.toList == e.toList <;> cases c.toList == f.toList <;> simp [Sem.run_pure, Result.andThen]
theorem uSlot : Tryz.prog.underlying 39 = some (.struct (Tryz.prog.fieldsOf 39)) := by kernel_rfl
theorem sSlot : Tryz.prog.stoodInHeld 39 = false := by kernel_rfl
theorem fSlot : (Tryz.prog.fieldsOf 39).toList.map (fun f => (f.name, f.type, f.offset)) = [("Name", 9, 0), ("Type", 9, 1), ("Class", 9, 2)] := by kernel_rfl
theorem slot3_neq (a b c d e f : Str) (w : World) : (binOp .neq 39 (.agg #[.string a, .string b, .string c]) (.agg #[.string d, .string e, .string f])).run Tryz.prog w = .ok (.bool (!decide ((a, b, c) = (d, e, f)))) w := by
  have h : decide ((a, b, c) = (d, e, f)) = (decide (a = d) && (decide (b = e) && decide (c = f))) := by rw [Bool.eq_iff_iff]; simp
  rw [h, ← strEq a d, ← strEq b e, ← strEq c f, run_neq_struct, run_equalIn_agg _ 9999 _ _ _ uSlot sSlot]
  obtain ⟨g1, g2, g3, hg, ⟨n1, t1, o1⟩, ⟨n2, t2, o2⟩, n3, t3, o3⟩ := three_of fSlot
  rw [hg]
  have p0 : ∀ (x y z : Str) (w : World), (part 9 #[.string x, .string y, .string z] 0).run Tryz.prog w = .ok (.string x) w := fun x y z w => by kernel_rfl
  have p1 : ∀ (x y z : Str) (w : World), (part 9 #[.string x, .string y, .string z] 1).run Tryz.prog w = .ok (.string y) w := fun x y z w => by kernel_rfl
  have p2 : ∀ (x y z : Str) (w : World), (part 9 #[.string x, .string y, .string z] 2).run Tryz.prog w = .ok (.string z) w := fun x y z w => by kernel_rfl
  have hs := fun (x y : Str) (w : World) => run_equalIn_string (P := Tryz.prog) w 9998 9 x y strType
  simp only [Op.eqFields, n1, t1, o1, n2, t2, o2, n3, t3, o3, ne_eq, show ("Name" = "_") = False from by simp, show ("Type" = "_") = False from by simp, show ("Class" = "_") = False from by simp, not_false_eq_true, if_true, Sem.run_bind, p0, p1, p2, hs, Result.andThen_ok, Sem.run_ite]
  cases a.toList == d.toList <;> cases b.toList == e.toList <;> cases c.toList == f.toList <;> simp [Sem.run_pure, Result.andThen]
end Go.Proofs.YtehhmedjgmbpgaaGreatDoor
