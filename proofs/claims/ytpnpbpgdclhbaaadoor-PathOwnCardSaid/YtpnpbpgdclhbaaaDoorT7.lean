/-
  The contracts of path.Split and path.Parent at any text; condition: the text takes at most 140737488351232 bytes.
-/
import Derived.Test.YtpnpbpgdclhbaaaDoorT6
namespace Go.Proofs.YtpnpbpgdclhbaaaDoor.PQ
open Go.RowKit Go.Shelf
open Go.Proofs.YtpnpbpgdclhbaaaDoorW.PrintWords Go.Proofs.YtpnpbpgdclhbaaaDoorW.PrintLast Go.Proofs.YtpnpbpgdclhbaaaDoorW.PrintMore

set_option maxRecDepth 100000 in
set_option maxHeartbeats 1000000 in
theorem split_no (s : ByteArray) (h47 : Lib.hasPrefix s.data.toList [47] = false) (w : World) :
    Calls Tryd.prog 13 #[.string s] w fun e w' => e = .returned (.tuple #[.slice none 0 0, .int .i64 25]) ∧ Below w.heap.size w w' := by
  go_enter Tryd.func13, Tryd.ntmps13
  go_wp2_with fail
  go_step3
  go_wp2_with (go_at_call 22; refine (Tryd.strings_HasPrefix _ _ _).mono ?_; rintro e w' ⟨rfl, hw⟩; rw [hw, h47])
  rw [Exit.noGoto_ret]
  have g0 := (Boxed.new w 26 (.slice none 0 0)).alloc (.cells #[.int .i64 25] 23)
  have g1 := Boxed.new (w.alloc (.cells #[.slice none 0 0] 26)) 23 (.int .i64 25)
  rw [World.size_alloc] at g1
  refine bodyPost_ret (results_two (b := w.heap.size) rfl rfl g0.cell g1.cell) rfl ⟨rfl, ?_⟩
  exact ((Below.refl _ w).alloc (Nat.le_refl _) _).alloc (by simp) _

set_option maxRecDepth 100000 in
set_option maxHeartbeats 1000000 in
theorem split_long (s : ByteArray) (h47 : Lib.hasPrefix s.data.toList [47] = true) (hl : 255 < s.size) (w : World) :
    Calls Tryd.prog 13 #[.string s] w fun e w' => e = .returned (.tuple #[.slice none 0 0, .int .i64 26]) ∧ Below w.heap.size w w' := by
  have hl' : (255 : Int) < s.size := by omega
  go_enter Tryd.func13, Tryd.ntmps13
  go_wp2_with fail
  go_step3
  go_wp2_with (go_at_call 22; refine (Tryd.strings_HasPrefix _ _ _).mono ?_; rintro e w' ⟨rfl, hw⟩; rw [hw, h47])
  rw [Exit.noGoto_ret]
  have g0 := (Boxed.new w 26 (.slice none 0 0)).alloc (.cells #[.int .i64 26] 23)
  have g1 := Boxed.new (w.alloc (.cells #[.slice none 0 0] 26)) 23 (.int .i64 26)
  rw [World.size_alloc] at g1
  refine bodyPost_ret (results_two (b := w.heap.size) rfl rfl g0.cell g1.cell) rfl ⟨rfl, ?_⟩
  exact ((Below.refl _ w).alloc (Nat.le_refl _) _).alloc (by simp) _

theorem hasPrefix_head (l : List UInt8) : Lib.hasPrefix l [47] = decide (l.head? = some 47) := by
  cases l with
  | nil => rfl
  | cons c l =>
    simp only [Lib.hasPrefix, List.isPrefixOf, Bool.and_true, List.head?_cons, Option.some.injEq]
    rw [Bool.eq_iff_iff, beq_iff_eq, decide_eq_true_eq]
    exact ⟨fun h => h.symm, fun h => h.symm⟩

/-- path.Split: its names in memory of its own. -/
theorem split_own (s : ByteArray) (hs : s.size ≤ 140737488351232) (w : World) :
    Calls Tryd.prog 13 #[.string s] w fun e w' => ∃ v0_ : Value, e = .returned (.tuple #[v0_, .int .i64 (Sp.splitE (ofBs s)).2]) ∧
      w'.ownsRow w.heap.size 9 1 v0_ (Sp.splitE (ofBs s)).1.length ((Sp.splitE (ofBs s)).1.map fun l => .string (bsOf l)) ∧ Below w.heap.size w w' := by
  have hp := hasPrefix_head s.data.toList
  unfold Sp.splitE
  by_cases h : (ofBs s).head? = some 47
  · rw [if_neg (by simpa using h), size_ofBs]
    have h47 : Lib.hasPrefix s.data.toList [47] = true := by rw [hp]; exact decide_eq_true h
    by_cases hl : 255 < s.size
    · rw [if_pos hl]
      exact (split_long s h47 hl w).mono fun e w' ⟨he, hb⟩ => ⟨_, he, World.ownsRow_nil _ _ _ _, hb⟩
    · rw [if_neg hl]
      exact split_path s hs h47 (by omega) w
  · rw [if_pos (by simpa using h)]
    have h47 : Lib.hasPrefix s.data.toList [47] = false := by rw [hp]; exact decide_eq_false h
    exact (split_no s h47 w).mono fun e w' ⟨he, hb⟩ => ⟨_, he, World.ownsRow_nil _ _ _ _, hb⟩

theorem path_Name.calls (k : Nat) (a0 : ByteArray) (r : Int) (w : World) (h : path_Name.f k a0 = some r) :
    Calls Tryd.prog 11 #[.string a0] w fun e w' => e = .returned (.int .i64 r) ∧ Below w.heap.size w w' := by
  unfold path_Name.f at h
  split at h
  · cases h
    exact name_any a0 (by assumption) w
  · cases h
theorem path_Split.calls (k : Nat) (a0 : ByteArray) (r1 : List ByteArray) (r2 : Int) (w : World) (h : path_Split.f k a0 = some (r1, r2)) :
    Calls Tryd.prog 13 #[.string a0] w fun e w' => ∃ v0_ : Value, e = .returned (.tuple #[v0_, .int .i64 r2]) ∧ Kd.R Kd.string 9 w' w.heap.size (fun _ => True) v0_ r1 ∧ Below w.heap.size w w' := by
  unfold path_Split.f at h
  split at h
  · cases h
    refine (split_own a0 (by assumption) w).mono fun e w' ⟨v, he, ho, hb⟩ => ⟨v, he, Kd.R_of_own (by rw [List.length_map, encs, List.map_map]; exact ho) (fun _ _ => trivial), hb⟩
  · cases h

set_option maxRecDepth 100000 in
set_option maxHeartbeats 1000000 in
theorem parted_any (b n c : Nat) (x : ByteArray) (hc : n + 1 ≤ c) (hm : c ≤ maxLen) (w : World) (hx : w.cell? ⟨b, n, none⟩ = some (.string x)) :
    Calls Tryd.prog 24 #[.slice (some ⟨b, 0, none⟩) (n + 1) c] w fun e w' => e = .returned (.tuple #[.slice (some ⟨b, 0, none⟩) n n, .string x]) ∧ ∃ q, w' = w.drewN q := by
  unfold maxLen at hm
  have h0 : (0 : Int) ≤ n := by omega
  have h1 : (n : Int) ≤ c := by omega
  have h2 : (n : Int) < (n : Int) + 1 := by omega
  go_enter Tryd.func24, Tryd.ntmps24
  go_wp2
  go_quiet (fail)
  go_wp2
  go_ret2
  exact ⟨rfl, _, rfl⟩

theorem addr_add (g n : Nat) : (⟨g, 0, none⟩ : Addr).add n = ⟨g, n, none⟩ := by
  unfold Addr.add
  split
  · rename_i h; subst h; rfl
  · simp
theorem split_at (s : ByteArray) (hs : s.size ≤ 140737488351232) (L : List (List UInt8)) (E : Int) (h : Sp.splitE (ofBs s) = (L, E)) (w : World) :
    Calls Tryd.prog 13 #[.string s] w fun e w' => ∃ v0_ : Value, e = .returned (.tuple #[v0_, .int .i64 E]) ∧
      w'.ownsRow w.heap.size 9 1 v0_ L.length (L.map fun l => .string (bsOf l)) ∧ Below w.heap.size w w' := by
  have := split_own s hs w
  rwa [h] at this

/-- A row's last element is cut off: what is left, with no room behind it; the element's cell. -/
theorem row_last {A : World} {b n : Nat} {v : Value} {l : List (List UInt8)} (h : A.ownsRow b 9 1 v l.length (l.map fun l => .string (bsOf l))) (hn : l.length = n + 1) :
    ∃ g cap, v = .slice (some ⟨g, 0, none⟩) (n + 1) cap ∧ n + 1 ≤ cap ∧ cap ≤ maxLen ∧ A.cell? ⟨g, n, none⟩ = some (.string (bsOf (l.getLastD []))) := by
  rw [hn] at h
  obtain ⟨g, cap, rfl⟩ := ownsRow_succ h
  have hc := h.cells (g := g) rfl n (.string (bsOf (l.getLastD []))) (by
    rw [List.getElem?_map]
    have : l[n]? = some (l.getLastD []) := by
      rw [List.getLastD_eq_getLast?, List.getLast?_eq_getElem?, hn, Nat.add_sub_cancel]
      rw [List.getElem?_eq_getElem (by omega)]
      rfl
    rw [this]
    rfl)
  rcases h.2 with ⟨h0, _⟩ | ⟨g', cap', cur, h1, h2, h3, h4, h5, _⟩
  · cases h0
  · cases h1
    refine ⟨_, _, rfl, h4, h5, ?_⟩
    rw [addr_add] at hc
    exact hc

theorem view_of {W w2 : World} {g n cap : Nat} {L : List (List UInt8)} (h : w2.ownsRow W.heap.size 9 1 (.slice (some ⟨g, 0, none⟩) (n + 1) cap) L.length (L.map fun l => .string (bsOf l))) (hn : L.length = n + 1) (q : Nat) :
    Kd.V Kd.string 9 (w2.drewN q) W.heap.size (fun k_ => True ∧ W.heap.size ≤ k_ ∧ True) (.slice (some ⟨g, 0, none⟩) n n) (L.dropLast.map bsOf) := by
  have hR : Kd.R Kd.string 9 w2 W.heap.size (fun _ => True) (.slice (some ⟨g, 0, none⟩) (n + 1) cap) (L.map bsOf) :=
    Kd.R_of_own (by rw [List.length_map, encs, List.map_map]; exact h) (fun _ _ => trivial)
  have hl : (L.map bsOf).length = n + 1 := by rw [List.length_map]; exact hn
  have hF0 : Kd.F Kd.string w2 (fun k_ => True ∧ W.heap.size ≤ k_ ∧ True) (some ⟨g, 0, none⟩) (n + 1) (L.map bsOf) :=
    Kd.F_mono (Kd.R_F (Kd.R_bound hR)) (fun k hk => ⟨trivial, hk.2.1, trivial⟩)
  have hF1 := Kd.F_drewN (Kd.F_take (m := n) (by rw [hl]; exact hF0) (by omega)) q
  have ht : (L.map bsOf).take n = L.dropLast.map bsOf := by
    rw [List.dropLast_eq_take, List.map_take, hn, Nat.add_sub_cancel]
  have hl2 : ((L.map bsOf).take n).length = n := by rw [List.length_take]; omega
  rw [← ht]
  have := Kd.V_mk (e := 9) (base := W.heap.size) (c := n) (by omega) hF1
  rwa [hl2] at this

set_option maxRecDepth 100000 in
set_option maxHeartbeats 1000000 in
theorem parent_any (s : ByteArray) (hs : s.size ≤ 140737488351232) (w : World) :
    Calls Tryd.prog 15 #[.string s] w fun e w' => ∃ (v0_ : Value), e = .returned (.tuple #[v0_, .string (bsOf (parentE (ofBs s)).2.1), .int .i64 (parentE (ofBs s)).2.2]) ∧
      Kd.V Kd.string 9 w' w.heap.size (fun k_ => True ∧ w.heap.size ≤ k_ ∧ True) v0_ ((parentE (ofBs s)).1.map bsOf) ∧ Below w.heap.size w w' := by
  obtain ⟨⟨L, E⟩, hL⟩ : ∃ x, Sp.splitE (ofBs s) = x := ⟨_, rfl⟩
  by_cases he : E = 0
  · subst he
    by_cases hn : L.length = 0
    · have hp : parentE (ofBs s) = ([], [], 25) := by unfold parentE; rw [hL]; simp [List.length_eq_zero_iff.1 hn]
      have hn1 : ((L.length : Int) == 0) = true := by simp [hn]
      have HP := Lib.hid hp
      have HN := Lib.hid hn
      have HL := Lib.hid hL
      clear hp hn hL
      go_enter Tryd.func15, Tryd.ntmps15
      go_wp2_with (go_at_call 13; refine (split_at s hs L 0 HL.out _).mono ?_; rintro e w2 ⟨v, rfl, ho, hb2⟩; obtain ⟨p, c, rfl⟩ := row_slice ho; have HB := Lib.hid hb2; clear ho hb2)
      go_ret3
      refine ⟨.slice none 0 0, ?_, ?_, HB.out⟩
      · rw [HP.out]; rfl
      · rw [HP.out]; exact Kd.V_nil _ _ _ _ _
    · obtain ⟨n, hn'⟩ : ∃ n, L.length = n + 1 := ⟨L.length - 1, by omega⟩
      have hp : parentE (ofBs s) = (L.dropLast, L.getLastD [], 0) := by
        unfold parentE; rw [hL]
        rw [if_neg (by simp), if_neg (fun h => hn (by show L.length = 0; rw [show L = [] from h]; rfl))]
      have HP := Lib.hid hp
      have HN := Lib.hid hn'
      have HL := Lib.hid hL
      have hn1 : ((n : Int) + 1 == 0) = false := by simp; omega
      clear hp hn hn' hL
      go_enter Tryd.func15, Tryd.ntmps15
      go_wp2_with (first
        | (go_at_call 13; refine (split_at s hs L 0 HL.out _).mono ?_; rintro e w2 ⟨v, rfl, ho, hb2⟩; obtain ⟨g, cap, rfl, hcap, hcm, hcell⟩ := row_last ho HN.out; have HO := Lib.hid ho; have HB := Lib.hid hb2; clear ho hb2)
        | (go_at_call 24; refine (parted_any g n cap (bsOf (L.getLastD [])) hcap hcm _ hcell).mono ?_; rintro e w3 ⟨rfl, q, rfl⟩))
      go_ret3
      refine ⟨.slice (some ⟨g, 0, none⟩) n n, ?_, ?_, ?_⟩
      · rw [HP.out, List.getLastD_eq_getLast?]
        rfl
      · rw [HP.out]
        exact view_of HO.out HN.out q
      · exact below_drewN HB.out q
  · have hp : parentE (ofBs s) = ([], [], E) := by unfold parentE; rw [hL, if_pos he]
    have hb : (E != 0) = true := by simpa using he
    have HP := Lib.hid hp
    have HL := Lib.hid hL
    clear hp hL
    go_enter Tryd.func15, Tryd.ntmps15
    go_wp2_with (go_at_call 13; refine (split_at s hs L E HL.out _).mono ?_; rintro e w2 ⟨v, rfl, ho, hb2⟩; have HB := Lib.hid hb2; clear ho hb2)
    go_ret3
    refine ⟨.slice none 0 0, ?_, ?_, HB.out⟩
    · rw [HP.out]; rfl
    · rw [HP.out]; exact Kd.V_nil _ _ _ _ _

theorem path_Parent.calls (k : Nat) (a0 : ByteArray) (r1 : List ByteArray) (r2 : ByteArray) (r3 : Int) (w : World) (h : path_Parent.f k a0 = some (r1, r2, r3)) :
    Calls Tryd.prog 15 #[.string a0] w fun e w' => ∃ v0_ : Value, e = .returned (.tuple #[v0_, .string r2, .int .i64 r3]) ∧ Kd.V Kd.string 9 w' w.heap.size (fun k_ => True ∧ w.heap.size ≤ k_ ∧ True) v0_ r1 ∧ Below w.heap.size w w' := by
  unfold path_Parent.f at h
  split at h
  · cases h
    exact parent_any a0 (by assumption) w
  · cases h
end Go.Proofs.YtpnpbpgdclhbaaaDoor.PQ
