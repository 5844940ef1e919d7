/- A text of the proof. A text of the proof. -/
import Derived.Test.YtockphlpokoohaaGreatKq36
namespace Go.Proofs.YtockphlpokoohaaGreat
open Go Go.ChangeShapes Go.WideShapes Go.ChangeAt Go.RowKit
set_option linter.unusedVariables false
set_option linter.unusedSimpArgs false
set_option maxRecDepth 100000
theorem rep2_flatten {S : Store} : ∀ {xs : List (List D)} {rows : List (List C)} {js : List Nat}, Rep2 true S xs rows js → RepL true S xs.flatten rows.flatten js ∧ rows.map List.length = xs.map List.length
  | [], rows, js, h => by rw [rep2_nil] at h; rw [h.1, h.2]; exact ⟨by rw [List.flatten_nil, List.flatten_nil, repL_nil]; exact ⟨rfl, rfl⟩, rfl⟩
  | x :: xs, rows, js, h => by
    rw [rep2_cons] at h
    obtain ⟨c, cs', i, j, h1, h2, h3, h4⟩ := h
    obtain ⟨a, b⟩ := rep2_flatten h4
    subst h1; subst h2
    exact ⟨by rw [List.flatten_cons, List.flatten_cons]; exact h3.append a, by rw [List.map_cons, List.map_cons, b, h3.len]⟩
theorem rep2_unflat {S : Store} : ∀ {xs : List (List D)} {rows : List (List C)} {js : List Nat}, RepL true S xs.flatten rows.flatten js → rows.map List.length = xs.map List.length → Rep2 true S xs rows js
  | [], [], js, h, _ => by rw [List.flatten_nil, List.flatten_nil, repL_nil] at h; rw [rep2_nil]; exact ⟨rfl, h.2⟩
  | [], r :: rows, js, _, hl => by cases hl
  | x :: xs, [], js, _, hl => by cases hl
  | x :: xs, r :: rows, js, h, hl => by
    rw [List.map_cons, List.map_cons] at hl
    injection hl with hl1 hl2
    rw [List.flatten_cons, List.flatten_cons] at h
    obtain ⟨r1, r2, i, j, h1, h2, h3, h4⟩ := h.split
    obtain ⟨e1, e2⟩ := List.append_inj h1 (by rw [h3.len, hl1])
    subst e1; subst e2
    rw [rep2_cons]
    exact ⟨r, rows, i, j, rfl, h2, h3, rep2_unflat h4 hl2⟩
theorem Fr.openAt {lo o k : Nat} {S : Store} {ds : List D} {cs : List C} {xs : List (List D)} {c : C} (h : Fr lo S ds cs) (hd : ds[o]? = some (.sl k xs)) (hc : cs[o]? = some c) :
    ∃ rows : List (List C), rows.map List.length = xs.map List.length ∧ Fr lo S (ds.set o (.sl k (rows.map (List.map D.x))) ++ xs.flatten) (cs ++ rows.flatten) := by
  obtain ⟨ids, h, hn, hlo⟩ := h
  obtain ⟨c0, x, m, y, k1, k2, k3, k4⟩ := h.setAt o _ hd
  rw [hc] at k1; cases k1
  subst k2
  simp only [List.nodup_append, List.mem_append] at hn hlo
  obtain ⟨⟨b1, b2, b3⟩, b4, b5⟩ := hn
  have hset : cs.set o c = cs := set_same hc
  unfold Rep at k3
  obtain ⟨hl, k3⟩ := k3
  rcases k3 with ⟨h1, h2, h3⟩ | ⟨id, o', t, row, js, h1, h2, h3, h4, h5, h6, h7, h8⟩
  · refine ⟨[], by rw [h1]; rfl, ?_⟩
    rw [h1, List.flatten_nil, List.flatten_nil, List.append_nil, List.append_nil]
    refine ⟨x ++ [] ++ y, ?_, ?_, fun j hj => ?_⟩
    · have := k4 (S' := S) (d' := .sl k []) (c'' := c) (m' := []) (fun _ _ => rfl) (by unfold Rep; exact ⟨by simp, .inl ⟨rfl, h2, rfl⟩⟩)
      rw [hset] at this; exact this
    · simp only [List.append_nil, List.nodup_append]; exact ⟨b1, b4, fun a ha b hb => b5 a (.inl ha) b hb⟩
    · simp only [List.append_nil, List.mem_append] at hj
      rcases hj with hj | hj
      · exact hlo j (.inl (.inl hj))
      · exact hlo j (.inr hj)
  · obtain ⟨hf1, hf2⟩ := rep2_flatten h8
    refine ⟨(row.xs.drop o').take xs.length, hf2, ?_⟩
    rw [h2, List.nodup_cons] at b2
    have hxl : ((row.xs.drop o').take xs.length).length = xs.length := h8.len
    refine ⟨(x ++ [id] ++ y) ++ js, ?_, ?_, fun j hj => ?_⟩
    · have hr : Rep true S (.sl k (((row.xs.drop o').take xs.length).map (List.map D.x))) c [id] := by
        unfold Rep
        rw [List.length_map, hxl]
        refine ⟨hl, .inr ⟨id, o', t, row, [], h1, rfl, h3, h4, h5, h6, h7, ?_⟩⟩
        exact plain_rep2 _
      have := k4 (S' := S) (c'' := c) (m' := [id]) (fun _ _ => rfl) hr
      rw [hset] at this
      exact this.append hf1
    · simp only [List.nodup_append, List.mem_append, List.mem_singleton]
      refine ⟨⟨⟨b1, by simp, fun a ha b hb => by subst hb; exact b3 a ha b (by rw [h2]; simp)⟩, b4, fun a ha b hb => ?_⟩, b2.2, fun a ha b hb => ?_⟩
      · rcases ha with ha | rfl
        · exact b5 a (.inl ha) b hb
        · exact b5 a (.inr (by rw [h2]; simp)) b hb
      · rcases ha with (ha | rfl) | ha
        · exact b3 a ha b (by rw [h2]; simp [hb])
        · exact fun e => b2.1 (e ▸ hb)
        · exact fun e => b5 b (.inr (by rw [h2]; simp [hb])) a ha e.symm
    · simp only [List.mem_append, List.mem_singleton] at hj
      rcases hj with ((hj | rfl) | hj) | hj
      · exact hlo j (.inl (.inl hj))
      · exact hlo j (.inl (.inr (by rw [h2]; simp)))
      · exact hlo j (.inr hj)
      · exact hlo j (.inl (.inr (by rw [h2]; simp [hj])))
theorem Fr.closeAt {lo o k : Nat} {S : Store} {ds : List D} {cs : List C} {xs : List (List D)} {rows : List (List C)} {c : C} (h : Fr lo S (ds ++ xs.flatten) (cs ++ rows.flatten)) (hl : cs.length = ds.length) (hd : ds[o]? = some (.sl k (rows.map (List.map D.x)))) (hc : cs[o]? = some c) (hlen : rows.map List.length = xs.map List.length) :
    Fr lo S (ds.set o (.sl k xs)) cs := by
  obtain ⟨ids, hg, hn, hlo⟩ := h
  obtain ⟨p1, p2, ia, js, s1, s2, h, hz⟩ := hg.split
  obtain ⟨s3, s4⟩ := List.append_inj s1 (by rw [hl, h.len])
  subst s3; subst s4; subst s2
  have h2 := rep2_unflat hz hlen
  obtain ⟨c0, x, m, y, k1, k2, k3, k4⟩ := h.setAt o _ hd
  rw [hc] at k1; cases k1
  subst k2
  have hset : cs.set o c = cs := set_same hc
  have hxr : rows.length = xs.length := by simpa using congrArg List.length hlen
  simp only [List.nodup_append, List.mem_append] at hn hlo
  obtain ⟨⟨⟨b1, b2, b3⟩, b4, b5⟩, b6, b7⟩ := hn
  unfold Rep at k3
  obtain ⟨hlm, k3⟩ := k3
  rcases k3 with ⟨h1, h2', h3⟩ | ⟨id, o', t, row, js0, h1, h2', h3, h4, h5, h6, h7, h8⟩
  · have hr0 : rows = [] := List.map_eq_nil_iff.1 h1
    have hx0 : xs = [] := List.eq_nil_of_length_eq_zero (by rw [← hxr, hr0]; rfl)
    refine ⟨x ++ [] ++ y, ?_, ?_, fun j hj => ?_⟩
    · have := k4 (S' := S) (d' := .sl k xs) (c'' := c) (m' := []) (fun _ _ => rfl) (by unfold Rep; exact ⟨by rw [hx0]; simp, .inl ⟨hx0, h2', rfl⟩⟩)
      rw [hset] at this; exact this
    · simp only [List.append_nil, List.nodup_append]; exact ⟨b1, b4, fun a ha b hb => b5 a (.inl ha) b hb⟩
    · simp only [List.append_nil, List.mem_append] at hj
      rcases hj with hj | hj
      · exact hlo j (.inl (.inl (.inl hj)))
      · exact hlo j (.inl (.inr hj))
  · obtain ⟨e8, e9⟩ := rep2_plain h8
    subst e9
    rw [List.length_map] at h1 h6 e8 hlm
    refine ⟨x ++ (id :: js) ++ y, ?_, ?_, fun j hj => ?_⟩
    · have hr : Rep true S (.sl k xs) c (id :: js) := by
        unfold Rep
        rw [← hxr]
        refine ⟨hlm, .inr ⟨id, o', t, row, js, h1, rfl, h3, h4, h5, h6, fun hq => ?_, ?_⟩⟩
        · obtain ⟨z1, z2, z3⟩ := h7 hq
          rw [List.length_map] at z2
          exact ⟨z1, z2, z3⟩
        · rw [e8]; exact h2
      have := k4 (S' := S) (c'' := c) (m' := id :: js) (fun _ _ => rfl) hr
      rw [hset] at this; exact this
    · simp only [List.nodup_append, List.mem_append, List.nodup_cons, List.mem_cons]
      have him : id ∈ m := by rw [h2']; simp
      refine ⟨⟨b1, ⟨fun hm => b7 id (.inl (.inr him)) id hm rfl, b6⟩, fun a ha b hb => ?_⟩, b4, fun a ha b hb => ?_⟩
      · rcases hb with rfl | hb
        · exact b3 a ha b him
        · exact b7 a (.inl (.inl ha)) b hb
      · rcases ha with ha | rfl | ha
        · exact b5 a (.inl ha) b hb
        · exact b5 a (.inr him) b hb
        · exact fun e => b7 b (.inr hb) a ha e.symm
    · simp only [List.mem_append, List.mem_cons] at hj
      rcases hj with (hj | rfl | hj) | hj
      · exact hlo j (.inl (.inl (.inl hj)))
      · exact hlo j (.inl (.inl (.inr (by rw [h2']; simp))))
      · exact hlo j (.inr hj)
      · exact hlo j (.inl (.inr hj))
end Go.Proofs.YtockphlpokoohaaGreat
namespace Go.Proofs.YtockphlpokoohaaGreat
open Go Go.ChangeShapes Go.WideShapes Go.ChangeAt Go.RowKit
set_option linter.unusedVariables false
set_option linter.unusedSimpArgs false
set_option maxRecDepth 100000
theorem br_szD (b : GBrowser) : szL b.d = b.Tabs.length + szL.szLL (b.Tabs.map GTab.d) + (b.Packs.length + szL.szLL (b.Packs.map GPackage.d) + (b.Grants.length + (b.Limits.length + (b.Rules.length + b.Store.length)))) := by
  simp only [GBrowser.d, szL, List.length_map]
  rw [szLL_flat (f := GGrant.d) (by intro x; simp only [szL, GGrant.d]), szLL_flat (f := GLimit.d) (by intro x; simp only [szL, GLimit.d]), szLL_flat (f := GRule.d) (by intro x; simp only [szL, GRule.d]), szLL_flat (f := GStored.d) (by intro x; simp only [szL, GStored.d])]
  omega
end Go.Proofs.YtockphlpokoohaaGreat
