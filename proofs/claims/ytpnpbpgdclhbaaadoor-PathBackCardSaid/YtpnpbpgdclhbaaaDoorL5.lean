/-
  The plain law: the statement PathBack, over what is computed.
-/
import Derived.Test.YtpnpbpgdclhbaaaDoorLB
import Derived.Test.YtpnpbpgdclhbaaaDoorPf
namespace Go.Proofs.YtpnpbpgdclhbaaaDoor.PQ
open Go.RowKit Go.Proofs.YtpnpbpgdclhbaaaDoorW.PrintWords Go.Proofs.YtpnpbpgdclhbaaaDoorW.PrintLast

theorem join_size (ns : List (List UInt8)) : (bsOf (Sp.joinE ns).1).size ≤ 140737488351232 := by
  rw [size_bsOf]
  by_cases h : (Sp.joinE ns).2 = 0
  · obtain ⟨_, _, h3, h4⟩ := join_facts h
    rw [h4]
    by_cases h5 : ns = []
    · rw [if_pos h5]; simp
    · rw [if_neg h5]; omega
  · have : (Sp.joinE ns).1 = [] := by
      unfold Sp.joinE at h ⊢
      by_cases h1 : Sp.namesE ns ≠ 0
      · rw [if_pos h1]
      · rw [if_neg h1] at h ⊢
        by_cases h2 : 16 < ns.length ∨ 255 < (Sp.slashed ns).length
        · rw [if_pos h2]
        · rw [if_neg h2] at h
          exact absurd rfl h
    rw [this]; simp
theorem map_back (l : List ByteArray) : (l.map ofBs).map bsOf = l := by
  rw [List.map_map]
  conv => rhs; rw [← List.map_id l]
  exact List.map_congr_left fun x _ => bsOf_ofBs x
theorem back_map (l : List (List UInt8)) : (l.map bsOf).map ofBs = l := by
  rw [List.map_map]
  conv => rhs; rw [← List.map_id l]
  exact List.map_congr_left fun x _ => ofBs_bsOf x
theorem backJ (p : ByteArray) (hp : p.size ≤ 140737488351232) : Ev (fun k => ashlarlaw14_PathBack.j0 k p) true := by
  refine Ev.head ?_
  simp only [ashlarlaw14_PathBack.j0]
  refine Ev.bind (progSplit p hp) ?_
  by_cases h : (Sp.splitE (ofBs p)).2 = 0
  · refine Ev.pos h ?_
    have hs := split_small (ofBs p)
    obtain ⟨g1, g2⟩ := split_good h
    have hj := progJoin ((Sp.splitE (ofBs p)).1.map bsOf) (by rw [List.length_map]; omega) (fun x hx => by
      obtain ⟨y, hy, rfl⟩ := List.mem_map.1 hx
      rw [size_bsOf]
      have := (name_short (names_all (join_facts g1).1 y hy)).1
      omega)
    rw [back_map] at hj
    refine Ev.bind hj (Ev.bind (progSplit _ (join_size _)) (Ev.pos g1 ?_))
    rw [ofBs_bsOf, split_join g1]
    refine Ev.pos rfl (Ev.bind (refSame _ _ (by rw [List.length_map]; omega)) ?_)
    rw [decide_eq_true rfl]
    refine Ev.pos rfl (Ev.val (decide_eq_true ?_))
    rw [size_bsOf]
    rw [size_ofBs] at g2
    omega
  · refine Ev.neg h (Ev.val ?_)
    rw [split_none _ h]
    rfl
theorem pathBack_pure (l : List ByteArray) (p : ByteArray) (hl : l.length ≤ 8796093021952) (hs : ∀ x ∈ l, x.size ≤ 140737488351232) (hp : p.size ≤ 140737488351232) : ∃ k, ashlarlaw14_PathBack.f k l p = some true := by
  refine Ev.rounds ?_
  unfold ashlarlaw14_PathBack.f
  refine Ev.bind (progJoin l hl hs) (Ev.bind lives_ev (Ev.pos rfl ?_))
  by_cases h : (Sp.joinE (l.map ofBs)).2 = 0
  · refine Ev.pos h (Ev.bind (progSplit _ (join_size _)) ?_)
    rw [ofBs_bsOf, split_join h, map_back]
    refine Ev.pos rfl (Ev.bind (refSame _ _ (by show l.length < _; omega)) ?_)
    rw [decide_eq_true rfl]
    exact Ev.pos rfl (backJ p hp)
  · exact Ev.neg h (backJ p hp)
end Go.Proofs.YtpnpbpgdclhbaaaDoor.PQ
