/-
  Printed by a program of this session's own out of the program's form: plain functions, and proofs that the calls do what these say.
-/
import Derived.Test.YtfjfollomgjlbaaGreatPd0
import Derived.Test.YtfjfollomgjlbaaGreatSp1
import Derived.Lib.SlBytesConst
namespace Go.Proofs.YtfjfollomgjlbaaGreat.PQ
open Go.RowKit Go.Proofs.YtfjfollomgjlbaaGreatW.PrintWords Go.Proofs.YtfjfollomgjlbaaGreatW.PrintLast Go.Proofs.YtfjfollomgjlbaaGreatW.PrintMore
attribute [local go_sem] max2_int min2_int max_two min_two max_three min_three max_four min_four   
set_option linter.unusedVariables false
set_option linter.unusedSimpArgs false
set_option maxHeartbeats 4000000
theorem C_some {w : World} {A : Option Addr} {n : Nat} {l : List Int} (h : Kd.C (Kd.int .u8) w A n l) (hn : 0 < n) : ∃ b, A = some b := by
  obtain ⟨ad, e, _⟩ := h.2.2 hn
  exact ⟨ad, e⟩
theorem C_cells {w : World} {A : Option Addr} {n : Nat} {l : List Int} (h : Kd.C (Kd.int .u8) w A n l) : ∀ b, A = some b → ∀ j u, (l.map (Value.int .u8))[j]? = some u → w.cell? (b.add j) = some u := by
  rintro b rfl j u hj
  rw [List.getElem?_map, Option.map_eq_some_iff] at hj
  obtain ⟨x, hx, rfl⟩ := hj
  have hn : 0 < n := by have := (List.getElem?_eq_some_iff.1 hx).1; have := h.1; omega
  obtain ⟨ad, e, hc⟩ := h.2.2 hn
  cases e
  obtain ⟨c, h1, h2, h3⟩ := hc j x hx
  obtain rfl : c = [.int .u8 x] := h2
  have := h3 0 _ rfl
  rwa [show j * (Kd.int IntKind.u8).sz + 0 = j from Nat.mul_one j] at this
theorem put0_calls (k : Nat) (A0 : Addr) (l0 : List Int) (a1 : Int) (a2 : Int) (r : List Int) (w : World) (n : Nat) (hn : n = l0.length) (hr0 : Kd.C (Kd.int .u8) w (some A0) l0.length l0) (h : ashlarref11_put.f k l0 a1 a2 = some r)
    (hpos : ∀ t e, ashlarref01_Put.f k (IntKind.u64.wrap a1) a2 = some (t, e) → 0 < t.length) :
    Calls Tryz.prog 37 #[.slice (some A0) n n, .int .i64 a1, .int .i64 a2] w fun e w' => ∃ v0_ : Value, e = .returned (v0_) ∧ Kd.R (Kd.int .u8) 5 w' w.heap.size (fun _ => True) v0_ r ∧ Below w.heap.size w w' := by
  subst hn
  obtain ⟨i0, hi, hz0, hz1, hz2⟩ := info_parts info5
  have HR := Aside0.mk hr0
  have HB := Aside0.mk (Below.refl w.heap.size w)
  have H : ((ashlarref01_Put.f k (IntKind.u64.wrap (a1)) a2).bind fun bt147 => (if l0.length + bt147.1.length < 140737488355328 then (some (l0 ++ bt147.1)) else (none))) = some r := h
  clear h hr0
  replace H := Option.bind_eq_some_iff.mp H
  obtain ⟨⟨t147, t148⟩, A40, H⟩ := H
  replace H : (if l0.length + t147.length < 140737488355328 then (some (l0 ++ t147)) else (none)) = some r := H
  have P0 := Aside0.mk (hpos _ _ A40)
  clear hpos
  have A4 := Aside0.mk A40
  clear A40
  by_cases c5 : l0.length + t147.length < 140737488355328
  · rw [if_pos c5] at H
    have LMc5 := Aside0.mk c5
    clear c5
    obtain rfl := Option.some.inj H
    clear H
    go_enter Tryz.func37, Tryz.ntmps37
    go_wp2_with (first | ((with_reducible refine gate_callee (f := 66) rfl ?_); refine goesL_ (some 13) rfl rfl Tryz.func66 (by kernel_rfl) rfl #[.int .u64 (IntKind.u64.wrap (a1)), .int .i64 a2] rfl (by (try simp only [List.map_toArray, List.map_cons, List.map_nil]); first | done | rfl | (simp only [List.length_drop, List.length_take]; rfl)) ?_; (with_reducible refine (ashlarref01_Put.calls k (IntKind.u64.wrap (a1)) a2 t147 t148 _ A4.out).mono ?_); rintro e w6 ⟨v149, rfl, ho0, hb⟩; refine ⟨_, rfl, ?_⟩; have n0_ := Aside0.mk (Kd.C_below (by (with_reducible repeat (first | apply Kd.C_alloc | apply Kd.C_drewN | apply Kd.C_drew)); exact HR.out) hb); have n1_ := Aside0.mk (below_step (by repeat (first | (with_reducible first | exact HB.out | apply below_alloc | apply pw_below_drewN | apply below_drew1) | exact HB.out)) hb); clear HR; clear HB; have HR := n0_; have HB := n1_; clear n0_ n1_; obtain ⟨Ao8, co8, eo8⟩ := Kd.R_slice ho0; subst eo8; have HO := Aside0.mk (Kd.R_reads' ho0).2.2; clear ho0; obtain ⟨ad8, ead⟩ := C_some HO.out P0.out; subst ead; (try clear hb)) | ((with_reducible refine gate_builtin (b := .append) (xs := #[.tmp 16, .tmp 17]) rfl ?_); at_builtin; refine wpList_append_grows _ rfl (.tmp 16) (.tmp 17) 24 rfl 5 i0 (.int .u8 0) 1 1 Tryz.underlying24 hi hz0 hz1 hz2 rfl (by decide) (some A0) l0.length l0.length (l0.map (Value.int .u8)) rfl ?aN ?aL ?aC ad8 t147.length co8 (t147.map (Value.int .u8)) rfl ?bL ?bC ?bO ?bF ?bM ?bB ?_; (case aN => exact fun h => by cases h); (case aL => rw [List.length_map, Nat.mul_one]); (case aC => exact C_cells (by (with_reducible repeat (first | apply Kd.C_alloc | apply Kd.C_drewN | apply Kd.C_drew)); exact HR.out)); (case bL => rw [List.length_map, Nat.mul_one]); (case bC => exact C_cells (by (with_reducible repeat (first | apply Kd.C_alloc | apply Kd.C_drewN | apply Kd.C_drew)); exact HO.out) _ rfl); (case bO => intro u hu; obtain ⟨x, _, rfl⟩ := List.mem_map.1 hu; rfl); (case bF => have := P0.out; omega); (case bM => have := LMc5.out; unfold maxLen; omega); (case bB => have := LMc5.out; omega); intro v4 w4 hrow hgr; have n0_ := Aside0.mk (Below.grown (by repeat (first | (with_reducible first | exact HB.out | apply below_alloc | apply pw_below_drewN | apply below_drew1) | exact HB.out)) hgr (below_size (by repeat (first | (with_reducible first | exact HB.out | apply below_alloc | apply pw_below_drewN | apply below_drew1) | exact HB.out))) (fun k_ e_ => by cases e_)); have n1_ := Aside0.mk (show Kd.R (Kd.int .u8) 5 w4 _ (fun _ => True) v4 (l0 ++ t147) from Kd.R_lower (Kd.R_of_own (h1 := fun _ => rfl) (by simpa [encs] using hrow) (fun _ _ => trivial)) (below_size (by repeat (first | (with_reducible first | exact HB.out | apply below_alloc | apply pw_below_drewN | apply below_drew1) | exact HB.out)))); clear HB; have HB := n0_; have HO2 := n1_; clear n0_ n1_ hrow hgr))
    go_ret
    exact ⟨_, rfl, by (with_reducible repeat (first | apply Kd.R_alloc | apply Kd.R_drewN | apply Kd.R_drew)); exact HO2.out, by repeat (first | (with_reducible first | exact HB.out | apply below_alloc | apply pw_below_drewN | apply below_drew1) | exact HB.out)⟩
  · rw [if_neg c5] at H
    exact absurd H (by simp)
theorem lit_conv {P : Program} {ops : Array Oper} {rest : List Oper} {o1 o2 : Oper} {a : Act} {Q : Exit → Act → World → Prop} {w0 W : World} (base e : Nat) (hg1 : o1.guard = none) (N1 : Tmp) (t : TypeId) (xs : List Int) (n : Nat)
    (hrun : (execOp a.eval o1).run P W = .ok (.value (.slice (some ⟨W.heap.size, 0, none⟩) n n)) (W.alloc (.cells (xs.map (Value.int .u8)).toArray e)))
    (hn : n = xs.length) (hl : xs.length ≤ 1000) (hg2 : o2.guard = none) (ho2 : o2.op = .convert t t (.tmp N1)) (hev : ∀ v, (a.put o1.dst v).eval (.tmp N1) = v) (ht : P.underlying t = some (.slice e)) (he : P.underlying e = some (.int .u8)) (HB : Below base w0 W) (hbase : base ≤ W.heap.size)
    (h : ∀ ad w1, Kd.C (Kd.int .u8) w1 (some ad) xs.length xs → Below base w0 w1 → wpList P ops Q rest ((a.put o1.dst (.slice (some ad) n n)).put o2.dst (.slice (some ad) n n)) w1) : wpList P ops Q (o1 :: o2 :: rest) a W := by
  subst hn
  refine Kd.event_run hg1 hrun ?_
  refine Kd.event_run (w1 := W.alloc (.cells (xs.map (Value.int .u8)).toArray e ((xs.map (Value.int .u8)).toArray.size, (xs.map (Value.int .u8)).toArray.size + 1))) (v := .slice (some ⟨W.heap.size, 0, none⟩) xs.length xs.length) hg2 ?_ (h _ _ ?_ (HB.alloc hbase _))
  · have := Lib.run_convert_bytes_const (P := P) W t e (xs.map (Value.int .u8)).toArray xs.length xs.length ht he
    simp [execOp, ho2, hev, this, Result.andThen]
  · refine ⟨rfl, by omega, fun hn => ⟨_, rfl, fun j p hj => ⟨[.int .u8 p], rfl, rfl, fun i u hu => ?_⟩⟩⟩
    have hi : i = 0 := by
      have := (List.getElem?_eq_some_iff.1 hu).1
      simpa using this
    subst hi
    obtain rfl : u = .int .u8 p := by simpa using hu.symm
    have hsz : j * (Kd.int IntKind.u8).sz + 0 = j := Nat.mul_one j
    rw [hsz]
    have hadd : (⟨W.heap.size, 0, none⟩ : Addr).add j = ⟨W.heap.size, j, none⟩ := by unfold Addr.add; split <;> simp_all
    rw [hadd]
    unfold World.cell? World.alloc
    simp [hj]
end Go.Proofs.YtfjfollomgjlbaaGreat.PQ
