/-
  When two files are the same: their numbers, one by one.
-/
import Derived.Test.YtjgjcfeifhaanaaGreatBase
import Derived.Laws.StructEq
import Derived.ChangeKeysEq
set_option linter.unusedVariables false
set_option linter.unusedSimpArgs false
namespace Go.Proofs.YtjgjcfeifhaanaaGreat.PQ
open Go.RowKit Go.Proofs.YtjgjcfeifhaanaaGreatW.PrintWords Go.Proofs.YtjgjcfeifhaanaaGreatW.PrintLast Go.Proofs.YtjgjcfeifhaanaaGreatW.PrintMore
theorem item_int (d : Nat) (x y : Int) (w : World) : (Op.equalIn (d + 1) 3 (.int .i64 x) (.int .i64 y)).run Tryz.prog w = .ok (decide (x = y)) w := by
  simp only [Op.equalIn, Sem.run_bind, run_underlying Tryz.underlying3, Result.andThen_ok]
  by_cases h : x = y <;> simp [h]
theorem part_num {a : Array Value} {i : Nat} {v : Value} (h : a[i]? = some v) (w : World) : (part 3 a i).run Tryz.prog w = .ok v w := by
  unfold part
  simp [isAgg, run_underlying Tryz.underlying3, h]
theorem item_step {d i : Nat} {xs ys : Array Value} {x y : Int} {is : List Nat} {r : Bool} {w : World} (hx : xs[i]? = some (.int .i64 x)) (hy : ys[i]? = some (.int .i64 y)) (hr : (Op.eqItems (d + 1) 3 1 xs ys is).run Tryz.prog w = .ok r w) : (Op.eqItems (d + 1) 3 1 xs ys (i :: is)).run Tryz.prog w = .ok (decide (x = y) && r) w := by
  rw [Op.eqItems]
  simp only [Nat.mul_one, Sem.run_bind, part_num hx, part_num hy, item_int, Result.andThen_ok]
  by_cases h : x = y
  · simp [h, hr]
  · simp [h]
theorem info3_ : ∃ i, Tryz.prog.info? 3 = some i ∧ Tryz.prog.cellsOf 3 = 1 := by
  have h := info3
  cases hi : Tryz.prog.info? 3 with
  | none => rw [hi] at h; cases h
  | some i =>
    rw [hi] at h
    refine ⟨i, rfl, ?_⟩
    simp only [Option.map_some, Option.some.injEq, Prod.mk.injEq] at h
    show ((Tryz.prog.info? 3).map (·.size)).getD 0 = 1
    rw [hi]
    exact h.2.1
theorem eqArr8 (d : Nat) (x0 x1 x2 x3 x4 x5 x6 x7 y0 y1 y2 y3 y4 y5 y6 y7 : Int) (w : World) :
    (Op.equalIn (d + 2) 22 (.agg #[.int .i64 x0, .int .i64 x1, .int .i64 x2, .int .i64 x3, .int .i64 x4, .int .i64 x5, .int .i64 x6, .int .i64 x7]) (.agg #[.int .i64 y0, .int .i64 y1, .int .i64 y2, .int .i64 y3, .int .i64 y4, .int .i64 y5, .int .i64 y6, .int .i64 y7])).run Tryz.prog w =
      .ok (decide (x0 = y0) && (decide (x1 = y1) && (decide (x2 = y2) && (decide (x3 = y3) && (decide (x4 = y4) && (decide (x5 = y5) && (decide (x6 = y6) && (decide (x7 = y7) && (true))))))))) w := by
  obtain ⟨i, hi, hc⟩ := info3_
  rw [run_equalIn_array w (d + 1) _ _ Tryz.underlying22 hi, hc]
  exact item_step rfl rfl (item_step rfl rfl (item_step rfl rfl (item_step rfl rfl (item_step rfl rfl (item_step rfl rfl (item_step rfl rfl (item_step rfl rfl (rfl))))))))
theorem part_arr (x0 x1 x2 x3 x4 x5 x6 x7 x8 x9 x10 x11 x12 : Int) (w : World) : (part 22 #[.int .i64 x0, .int .i64 x1, .int .i64 x2, .int .i64 x3, .int .i64 x4, .int .i64 x5, .int .i64 x6, .int .i64 x7, .int .i64 x8, .int .i64 x9, .int .i64 x10, .int .i64 x11, .int .i64 x12] 3).run Tryz.prog w = .ok (.agg #[.int .i64 x3, .int .i64 x4, .int .i64 x5, .int .i64 x6, .int .i64 x7, .int .i64 x8, .int .i64 x9, .int .i64 x10]) w := by
  unfold part
  simp [isAgg, run_underlying Tryz.underlying22]
theorem eqInode (d : Nat) (x0 x1 x2 x3 x4 x5 x6 x7 x8 x9 x10 x11 x12 y0 y1 y2 y3 y4 y5 y6 y7 y8 y9 y10 y11 y12 : Int) (w : World) :
    (Op.equalIn (d + 3) 24 (.agg #[.int .i64 x0, .int .i64 x1, .int .i64 x2, .int .i64 x3, .int .i64 x4, .int .i64 x5, .int .i64 x6, .int .i64 x7, .int .i64 x8, .int .i64 x9, .int .i64 x10, .int .i64 x11, .int .i64 x12]) (.agg #[.int .i64 y0, .int .i64 y1, .int .i64 y2, .int .i64 y3, .int .i64 y4, .int .i64 y5, .int .i64 y6, .int .i64 y7, .int .i64 y8, .int .i64 y9, .int .i64 y10, .int .i64 y11, .int .i64 y12])).run Tryz.prog w =
      .ok (decide (x0 = y0) && (decide (x1 = y1) && (decide (x2 = y2) && ((decide (x3 = y3) && (decide (x4 = y4) && (decide (x5 = y5) && (decide (x6 = y6) && (decide (x7 = y7) && (decide (x8 = y8) && (decide (x9 = y9) && (decide (x10 = y10) && (true))))))))) && (decide (x11 = y11) && (decide (x12 = y12))))))) w := by
  refine eqA_of Tryz.underlying24 (by kernel_rfl) ?_
  refine eqf_cons rfl (part_num rfl w) (part_num rfl w) (item_int _ _ _ w) ?_
  refine eqf_cons rfl (part_num rfl w) (part_num rfl w) (item_int _ _ _ w) ?_
  refine eqf_cons rfl (part_num rfl w) (part_num rfl w) (item_int _ _ _ w) ?_
  refine eqf_cons rfl (part_arr x0 x1 x2 x3 x4 x5 x6 x7 x8 x9 x10 x11 x12 w) (part_arr y0 y1 y2 y3 y4 y5 y6 y7 y8 y9 y10 y11 y12 w) (eqArr8 d x3 x4 x5 x6 x7 x8 x9 x10 y3 y4 y5 y6 y7 y8 y9 y10 w) ?_
  refine eqf_cons rfl (part_num rfl w) (part_num rfl w) (item_int _ _ _ w) ?_
  exact eqf_last rfl (part_num rfl w) (part_num rfl w) (item_int _ _ _ w)
theorem run_eql_inode (x0 x1 x2 x3 x4 x5 x6 x7 x8 x9 x10 x11 x12 y0 y1 y2 y3 y4 y5 y6 y7 y8 y9 y10 y11 y12 : Int) (w : World) : (binOp .eql 24 (.agg #[.int .i64 x0, .int .i64 x1, .int .i64 x2, .int .i64 x3, .int .i64 x4, .int .i64 x5, .int .i64 x6, .int .i64 x7, .int .i64 x8, .int .i64 x9, .int .i64 x10, .int .i64 x11, .int .i64 x12]) (.agg #[.int .i64 y0, .int .i64 y1, .int .i64 y2, .int .i64 y3, .int .i64 y4, .int .i64 y5, .int .i64 y6, .int .i64 y7, .int .i64 y8, .int .i64 y9, .int .i64 y10, .int .i64 y11, .int .i64 y12])).run Tryz.prog w =
    .ok (.bool (x0 == y0 && (x1 == y1 && (x2 == y2 && (x3 == y3 && (x4 == y4 && (x5 == y5 && (x6 == y6 && (x7 == y7 && (x8 == y8 && (x9 == y9 && (x10 == y10 && (x11 == y11 && (x12 == y12)))))))))))))) w := by
  rw [run_eql_struct, eqInode 9997]
  simp only [Result.andThen_ok]
  congr 2
  rw [Bool.eq_iff_iff]
  simp [and_assoc]
theorem run_neq_inode (x0 x1 x2 x3 x4 x5 x6 x7 x8 x9 x10 x11 x12 y0 y1 y2 y3 y4 y5 y6 y7 y8 y9 y10 y11 y12 : Int) (w : World) : (binOp .neq 24 (.agg #[.int .i64 x0, .int .i64 x1, .int .i64 x2, .int .i64 x3, .int .i64 x4, .int .i64 x5, .int .i64 x6, .int .i64 x7, .int .i64 x8, .int .i64 x9, .int .i64 x10, .int .i64 x11, .int .i64 x12]) (.agg #[.int .i64 y0, .int .i64 y1, .int .i64 y2, .int .i64 y3, .int .i64 y4, .int .i64 y5, .int .i64 y6, .int .i64 y7, .int .i64 y8, .int .i64 y9, .int .i64 y10, .int .i64 y11, .int .i64 y12])).run Tryz.prog w =
    .ok (.bool (!(x0 == y0 && (x1 == y1 && (x2 == y2 && (x3 == y3 && (x4 == y4 && (x5 == y5 && (x6 == y6 && (x7 == y7 && (x8 == y8 && (x9 == y9 && (x10 == y10 && (x11 == y11 && (x12 == y12))))))))))))))) w := by
  rw [run_neq_struct, eqInode 9997]
  simp only [Result.andThen_ok]
  congr 3
  rw [Bool.eq_iff_iff]
  simp [and_assoc]
end Go.Proofs.YtjgjcfeifhaanaaGreat.PQ
