/-
  The statement PathOwn: the walk of its function. The names of a parent have no room behind them: what is put behind them is laid anew, and no other answer turns. Conditions: the two texts' sizes are within what memory can be.
-/
import Derived.Test.YtpnpbpgdclhbaaaDoorL2
import Derived.Test.YtpnpbpgdclhbaaaDoorO1
namespace Go.Proofs.YtpnpbpgdclhbaaaDoor.PQ
open Go.RowKit Go.Proofs.YtpnpbpgdclhbaaaDoorW.PrintWords Go.Proofs.YtpnpbpgdclhbaaaDoorW.PrintLast Go.Proofs.YtpnpbpgdclhbaaaDoorW.PrintMore

/-- Parent's answer: the names are a slice without room behind it. -/
def Gives (l : List ByteArray) (m : ByteArray) (E : Int) (w : World) (e : Ending) (w' : World) : Prop :=
  ∃ A : Option Addr, e = .returned (.tuple #[.slice A l.length l.length, .string m, .int .i64 E]) ∧ Kd.C Kd.string w' A l.length l ∧ (∀ b, A = some b → w.heap.size ≤ b.block) ∧ (A = none → l.length = 0) ∧ Below w.heap.size w w'

theorem parent_full (s : ByteArray) (hs : s.size ≤ 140737488351232) (w : World) :
    Calls Tryd.prog 15 #[.string s] w (Gives ((parentE (ofBs s)).1.map bsOf) (bsOf (parentE (ofBs s)).2.1) (parentE (ofBs s)).2.2 w) := by
  obtain ⟨⟨L, E⟩, hL⟩ : ∃ x, Sp.splitE (ofBs s) = x := ⟨_, rfl⟩
  by_cases he : E = 0
  · subst he
    by_cases hn : L.length = 0
    · have hp : parentE (ofBs s) = ([], [], 25) := by unfold parentE; rw [hL]; simp [List.length_eq_zero_iff.1 hn]
      have hn1 : ((L.length : Int) == 0) = true := by simp [hn]
      have HP := Lib.hid hp
      have HN := Lib.hid hn
      have HL := Lib.hid hL
      clear hp hn hL
      go_enter Tryd.func15, Tryd.ntmps15
      go_wp2_with (go_at_call 13; refine (split_at s hs L 0 HL.out _).mono ?_; rintro e w2 ⟨v, rfl, ho, hb2⟩; obtain ⟨p, c, rfl⟩ := row_slice ho; have HB := Lib.hid hb2; clear ho hb2)
      go_ret3
      rw [HP.out]
      exact ⟨none, rfl, Kd.C_nil _ _, (fun b h => by cases h), (fun _ => rfl), HB.out⟩
    · obtain ⟨n, hn'⟩ : ∃ n, L.length = n + 1 := ⟨L.length - 1, by omega⟩
      have hp : parentE (ofBs s) = (L.dropLast, L.getLastD [], 0) := by
        unfold parentE; rw [hL]
        rw [if_neg (by simp), if_neg (fun h => hn (by show L.length = 0; rw [show L = [] from h]; rfl))]
      have HP := Lib.hid hp
      have HN := Lib.hid hn'
      have HL := Lib.hid hL
      have hn1 : ((n : Int) + 1 == 0) = false := by simp; omega
      clear hp hn hn' hL
      go_enter Tryd.func15, Tryd.ntmps15
      go_wp2_with (first
        | (go_at_call 13; refine (split_at s hs L 0 HL.out _).mono ?_; rintro e w2 ⟨v, rfl, ho, hb2⟩; obtain ⟨g, cap, rfl, hcap, hcm, hcell⟩ := row_last ho HN.out; have HO := Lib.hid ho; have HB := Lib.hid hb2; clear ho hb2)
        | (go_at_call 24; refine (parted_any g n cap (bsOf (L.getLastD [])) hcap hcm _ hcell).mono ?_; rintro e w3 ⟨rfl, q, rfl⟩))
      go_ret3
      rw [HP.out]
      have hV := view_of HO.out HN.out q
      have hlen : (L.dropLast.map bsOf).length = n := by rw [List.length_map, List.length_dropLast, HN.out]; omega
      refine ⟨some ⟨g, 0, none⟩, ?_, ?_, fun b hb => ?_, (fun hb => by cases hb), below_drewN HB.out q⟩
      · rw [hlen, List.getLastD_eq_getLast?]
        rfl
      · exact (Kd.V_reads' hV).2.2
      · cases hb
        exact own_ge HO.out g rfl
  · have hp : parentE (ofBs s) = ([], [], E) := by unfold parentE; rw [hL, if_pos he]
    have hb : (E != 0) = true := by simpa using he
    have HP := Lib.hid hp
    have HL := Lib.hid hL
    clear hp hL
    go_enter Tryd.func15, Tryd.ntmps15
    go_wp2_with (go_at_call 13; refine (split_at s hs L E HL.out _).mono ?_; rintro e w2 ⟨v, rfl, ho, hb2⟩; have HB := Lib.hid hb2; clear ho hb2)
    go_ret3
    rw [HP.out]
    exact ⟨none, rfl, Kd.C_nil _ _, (fun b h => by cases h), (fun _ => rfl), HB.out⟩

theorem lives_walk (w : World) : Calls Tryd.prog 10 #[] w fun e w' => e = .returned (.bool true) ∧ Below w.heap.size w w' := by
  obtain ⟨k, h⟩ := Ev.rounds lives_ev
  exact ashlarlaw14_lives.calls k true w h
theorem same_walk (A0 A1 : Option Addr) (c0 c1 : Nat) (l : List ByteArray) (w : World) (hr0 : Kd.C Kd.string w A0 l.length l) (hc0 : l.length ≤ c0) (hr1 : Kd.C Kd.string w A1 l.length l) (hc1 : l.length ≤ c1) (hl : l.length < 9223372036854775807) :
    Calls Tryd.prog 16 #[.slice A0 l.length c0, .slice A1 l.length c1] w fun e w' => e = .returned (.bool true) ∧ Drawn0 w w' := by
  obtain ⟨k, h⟩ := Ev.rounds (refSame l l hl)
  rw [decide_eq_true rfl] at h
  exact ashlarref14_Same.calls k A0 c0 l A1 c1 l true w hr0 hc0 hr1 hc1 h
theorem add_blk (a : Addr) (n : Nat) : (a.add n).block = a.block := by
  unfold Addr.add
  split
  · rename_i h; subst h; rfl
  · rfl
/-- What is read in a block stays, where the block does. -/
theorem C_block {w w1 : World} {A : Option Addr} {n : Nat} {l : List ByteArray} (h : Kd.C Kd.string w A n l) (hb : ∀ b, A = some b → 0 < n → w1.heap[b.block]? = w.heap[b.block]?) : Kd.C Kd.string w1 A n l :=
  ⟨h.1, h.2.1, fun hn => by
    obtain ⟨ad, e, hc⟩ := h.2.2 hn
    refine ⟨ad, e, fun j p hj => ?_⟩
    obtain ⟨c, h1, h2, h3⟩ := hc j p hj
    refine ⟨c, h1, h2, fun i u hu => ?_⟩
    have := h3 i u hu
    unfold World.cell? at this ⊢
    rw [add_blk] at this ⊢
    rw [hb ad e hn]
    exact this⟩

/-- Where the loop stands: the new row is written; the two others are read. -/
structure Mid (w : World) (l : List ByteArray) (B C : Option Addr) (g cap : Nat) (wr : World) : Prop where
  row : ∃ xs : List ByteArray, wr.ownsRow w.heap.size 9 1 (.slice (some ⟨g, 0, none⟩) (l.length + 1) cap) (l.length + 1) (encs Value.string xs)
  b : Kd.C Kd.string wr B l.length l
  c : Kd.C Kd.string wr C l.length l
  nb : ∀ x, B = some x → 0 < l.length → x.block ≠ g
  nc : ∀ x, C = some x → 0 < l.length → x.block ≠ g
  base : w.heap.size ≤ g
  bel : Below w.heap.size w wr

theorem C_lt {w : World} {A : Option Addr} {n : Nat} {l : List ByteArray} (h : Kd.C Kd.string w A n l) : ∀ b, A = some b → 0 < n → b.block < w.heap.size := by
  rintro b rfl hn
  obtain ⟨ad, e, hc⟩ := h.2.2 hn
  cases e
  obtain ⟨c, h1, _, h3⟩ := hc 0 (l[0]'(by rw [h.1]; exact hn)) (List.getElem?_eq_getElem _)
  have := h3 0 (c[0]'(by rw [h1]; decide)) (List.getElem?_eq_getElem _)
  by_cases hb : b.block < w.heap.size
  · exact hb
  · unfold World.cell? at this
    rw [add_blk, Array.getElem?_eq_none (by omega)] at this
    cases this
theorem C_cells {w : World} {A : Option Addr} {n : Nat} {l : List ByteArray} (h : Kd.C Kd.string w A n l)  : ∀ b, A = some b → ∀ j u, (l.map Value.string)[j]? = some u → w.cell? (b.add j) = some u := by
  rintro b rfl j u hj
  rw [List.getElem?_map, Option.map_eq_some_iff] at hj
  obtain ⟨x, hx, rfl⟩ := hj
  have hn : 0 < n := by have := (List.getElem?_eq_some_iff.1 hx).1; have := h.1; omega
  obtain ⟨ad, e, hc⟩ := h.2.2 hn
  cases e
  obtain ⟨c, h1, h2, h3⟩ := hc j x hx
  obtain rfl : c = [.string x] := h2
  have := h3 0 _ rfl
  rwa [show j * Kd.string.sz + 0 = j from Nat.mul_one j] at this

/-- Behind the append. -/
structure Pre (w : World) (l : List ByteArray) (B : Option Addr) (g cap : Nat) (wr : World) : Prop where
  row : ∃ xs : List ByteArray, wr.ownsRow w.heap.size 9 1 (.slice (some ⟨g, 0, none⟩) (l.length + 1) cap) (l.length + 1) (encs Value.string xs)
  b : Kd.C Kd.string wr B l.length l
  nb : ∀ x, B = some x → 0 < l.length → x.block ≠ g
  base : w.heap.size ≤ g
  lt : g < wr.heap.size
  bel : Below w.heap.size w wr
theorem appended {w w3 w4 : World} {l : List ByteArray} {B : Option Addr} {g cap : Nat} {more : ByteArray} (hb : Below w.heap.size w w3) (hc : Kd.C Kd.string w3 B l.length l)
    (hr : w4.ownsRow (w3.alloc (.cells #[.string more] 9)).heap.size 9 1 (.slice (some ⟨g, 0, none⟩) (l.length + 1) cap) (l.length + 1) (l.map Value.string ++ [.string more])) (hg : (w3.alloc (.cells #[.string more] 9)).grownBy w4 none) : Pre w l B g cap w4 := by
  have hg1 : (w3.alloc (.cells #[.string more] 9)).heap.size ≤ g := own_ge hr g rfl
  have hs : (w3.alloc (.cells #[.string more] 9)).heap.size = w3.heap.size + 1 := by simp
  have h1 : Below (w3.alloc (.cells #[.string more] 9)).heap.size (w3.alloc (.cells #[.string more] 9)) w4 := ⟨hg.os, hg.tape, hg.output, hg.size, fun k hk => hg.block k hk (by simp)⟩
  have h2 := hb.size
  refine ⟨⟨l ++ [more], ?_⟩, Kd.C_below (Kd.C_alloc hc _) h1, fun x hx hn => ?_, by omega, ?_, ?_⟩
  · have := row_lower hr (b' := w.heap.size) (by omega)
    simpa [encs] using this
  · have := C_lt hc x hx hn
    omega
  · exact own_lt hr g rfl
  · exact (hb.alloc hb.size _).trans (h1.mono (by omega))
theorem Pre.third {w w4 w5 : World} {l : List ByteArray} {B C : Option Addr} {g cap : Nat} (h : Pre w l B g cap w4) (hc : Kd.C Kd.string w5 C l.length l) (nc : ∀ b, C = some b → w4.heap.size ≤ b.block) (hb : Below w4.heap.size w4 w5) : Mid w l B C g cap w5 := by
  obtain ⟨xs, hx⟩ := h.row
  refine ⟨⟨xs, row_below hx hb⟩, Kd.C_below h.b hb, hc, h.nb, fun x hx _ => ?_, h.base, h.bel.trans (hb.mono h.bel.size)⟩
  have := nc x hx
  have := h.lt
  omega
theorem Mid.store {w wr : World} {l : List ByteArray} {B C : Option Addr} {g cap : Nat} (h : Mid w l B C g cap wr) (i : Int) (x : ByteArray) : Mid w l B C g cap (wr.setCell ⟨g, i.toNat, none⟩ (.string x)) := by
  obtain ⟨xs, hx⟩ := h.row
  refine ⟨⟨_, (own_store_of hx i x).1⟩, C_block h.b fun b hb hn => ?_, C_block h.c fun b hb hn => ?_, h.nb, h.nc, h.base, h.bel.setCell h.base _⟩
  · exact Below.heap_setCell wr _ _ _ (h.nb b hb hn)
  · exact Below.heap_setCell wr _ _ _ (h.nc b hb hn)

set_option maxHeartbeats 4000000 in
set_option maxRecDepth 100000 in
theorem pathOwn_at (p more : ByteArray) (l : List ByteArray) (m : ByteArray) (E : Int) (hl : l.length ≤ 16) (PC : ∀ w, Calls Tryd.prog 15 #[.string p] w (Gives l m E w)) (w : World) :
    Calls Tryd.prog 9 #[.string p, .string more] w fun e w' => e = .returned (.bool true) ∧ Below w.heap.size w w' := by
  obtain ⟨i0, hi, hz0, hz1, hz2⟩ := info_parts info9'
  have HB := Aside0.mk (Below.refl w.heap.size w)
  have hee : (E != E) = false := bne_self_eq_false E
  have heq : (E == E) = true := beq_self_eq_true E
  have hmm : (m.toList == m.toList) = true := beq_self_eq_true _
  go_enter Tryd.func9, Tryd.ntmps9
  go_upto_region 5 with (first
    | ((with_reducible refine gate_callee (f := 15) rfl ?_); refine goesL_ (some 18) rfl rfl Tryd.func15 (by kernel_rfl) rfl #[.string p] rfl (by (try simp only [List.map_toArray, List.map_cons, List.map_nil]); first | done | rfl) ?_; (with_reducible refine (PC _).mono ?_); rintro e w1 ⟨A, rfl, ha, _, na, hb⟩; refine ⟨_, rfl, ?_⟩; have HA := Aside0.mk ha; have NA := Aside0.mk na; have n0_ := Aside0.mk (below_step (by repeat (first | (with_reducible first | exact HB.out | apply below_alloc | apply pw_below_drewN | apply below_drew1) | exact HB.out)) hb); clear HB; have HB := n0_; clear n0_ ha na hb)
    | ((with_reducible refine gate_callee (f := 15) rfl ?_); refine goesL_ (some 24) rfl rfl Tryd.func15 (by kernel_rfl) rfl #[.string p] rfl (by (try simp only [List.map_toArray, List.map_cons, List.map_nil]); first | done | rfl) ?_; (with_reducible refine (PC _).mono ?_); rintro e w2 ⟨B, rfl, hb0, _, nb, hb⟩; refine ⟨_, rfl, ?_⟩; have n1_ := Aside0.mk (Kd.C_below (by (with_reducible repeat (first | apply Kd.C_alloc | apply Kd.C_drewN | apply Kd.C_drew)); exact HA.out) hb); have HC := Aside0.mk hb0; have n0_ := Aside0.mk (below_step (by repeat (first | (with_reducible first | exact HB.out | apply below_alloc | apply pw_below_drewN | apply below_drew1) | exact HB.out)) hb); clear HB HA; have HB := n0_; have HA := n1_; clear n0_ n1_ hb0 nb hb)
    | ((with_reducible refine gate_callee (f := 10) rfl ?_); refine goesL_ (some 28) rfl rfl Tryd.func10 (by kernel_rfl) rfl #[] rfl (by (try simp only [List.map_toArray, List.map_cons, List.map_nil]); first | done | rfl) ?_; (with_reducible refine (lives_walk _).mono ?_); rintro e w3 ⟨rfl, hb⟩; refine ⟨_, rfl, ?_⟩; have n1_ := Aside0.mk (Kd.C_below (by (with_reducible repeat (first | apply Kd.C_alloc | apply Kd.C_drewN | apply Kd.C_drew)); exact HA.out) hb); have n2_ := Aside0.mk (Kd.C_below (by (with_reducible repeat (first | apply Kd.C_alloc | apply Kd.C_drewN | apply Kd.C_drew)); exact HC.out) hb); have n0_ := Aside0.mk (below_step (by repeat (first | (with_reducible first | exact HB.out | apply below_alloc | apply pw_below_drewN | apply below_drew1) | exact HB.out)) hb); clear HB HA HC; have HB := n0_; have HA := n1_; have HC := n2_; clear n0_ n1_ n2_ hb))
  go_wp2_with (first
    | ((with_reducible refine gate_builtin (b := .append) (xs := #[.tmp 35, .tmp 37]) rfl ?_); at_builtin; refine wpList_append_grows _ rfl (.tmp 35) (.tmp 37) 26 rfl 9 i0 (.string ⟨#[]⟩) 1 16 Tryd.underlying26 hi hz0 hz1 hz2 rfl (by decide) A l.length l.length (l.map Value.string) rfl ?aN ?aL ?aC ⟨w3.heap.size, 0, none⟩ 1 1 [.string more] rfl rfl (cell_one_new _ _ _) (by simp [Value.oneCell']) (by omega) (by unfold maxLen; omega) (by omega) ?_; (case aN => exact fun h => ⟨NA.out h, NA.out h⟩); (case aL => rw [List.length_map, Nat.mul_one]); (case aC => exact C_cells (by (with_reducible repeat (first | apply Kd.C_alloc | apply Kd.C_drewN | apply Kd.C_drew)); exact HA.out)); intro v4 w4 hrow hgr; obtain ⟨g, cap, rfl⟩ := ownsRow_succ hrow; have HM := Aside0.mk (appended HB.out HC.out hrow hgr); clear HB HC HA hrow hgr)
    | (go_at_call 15; refine (PC _).mono ?_; rintro e w5 ⟨C, rfl, hc0, nc, _, hb⟩; have n0_ := Aside0.mk (HM.out.third hc0 nc hb); clear HM; have HM := n0_; clear n0_ hc0 nc hb))
  go_loopw [15] (fun v wr => ∃ k : Nat, v = .int .i64 k ∧ k ≤ l.length + 1 ∧ Aside0 (Mid w l B C g cap wr)) (fun v _ => l.length + 1 - (intOf v).toNat)
  case atStart => exact ⟨0, rfl, Nat.zero_le _, HM⟩
  case round =>
    clear HM
    obtain ⟨k, rfl, hk, HM⟩ := hrel
    by_cases hlt : k < l.length + 1
    · obtain ⟨xs, hx⟩ := HM.out.row
      have hat := own_at_of (d := ByteArray.empty) hx k (by omega) (by omega)
      rw [Int.toNat_natCast] at hat
      obtain ⟨hcell, hfr⟩ := hat
      have hd : decide ((k : Int) < (l.length : Int) + 1) = true := decide_eq_true (by omega)
      have hst := Aside0.mk (HM.out.store k ⟨#[99, 104, 97, 110, 103, 101, 100]⟩)
      rw [Int.toNat_natCast] at hst
      have hw : wrap64 ((k : Int) + 1) = ((k + 1 : Nat) : Int) := by unfold wrap64; omega
      clear hx
      go_wp2
      refine ⟨⟨k + 1, ?_, by omega, hst⟩, ?_⟩
      · first | rfl | (push_cast; rfl) | simp [wrap64] 
      · simp only [intOf]; omega
    · have hd : decide ((k : Int) < (l.length : Int) + 1) = false := decide_eq_false (by omega)
      go_wp2_with (first
        | (go_at_call 16; (with_reducible refine (same_walk B C _ _ l _ ?side1 (Nat.le_refl _) ?side2 (Nat.le_refl _) (by omega)).mono ?_); (case side1 => (with_reducible repeat (first | apply Kd.C_alloc | apply Kd.C_drewN | apply Kd.C_drew)); exact HM.out.b); (case side2 => (with_reducible repeat (first | apply Kd.C_alloc | apply Kd.C_drewN | apply Kd.C_drew)); exact HM.out.c); rintro e w6 ⟨rfl, ⟨nd, rfl⟩⟩)
        | fail)
      go_ret
      exact ⟨rfl, by repeat (first | (with_reducible first | exact HM.out.bel | apply below_alloc | apply pw_below_drewN | apply below_drew1) | exact HM.out.bel)⟩
theorem pathOwn (p more : ByteArray) (w : World) (hp : p.size ≤ 140737488351232) (_hm : more.size ≤ 140737488351232) :
    Calls Tryd.prog 9 #[.string p, .string more] w fun e w' => e = .returned (.bool true) ∧ Below w.heap.size w w' := by
  refine pathOwn_at p more _ _ _ ?_ (fun w => parent_full p hp w) w
  rw [List.length_map]
  have := split_small (ofBs p)
  unfold parentE
  split
  · simp
  · split
    · simp
    · simp only [List.length_dropLast]; omega
end Go.Proofs.YtpnpbpgdclhbaaaDoor.PQ
