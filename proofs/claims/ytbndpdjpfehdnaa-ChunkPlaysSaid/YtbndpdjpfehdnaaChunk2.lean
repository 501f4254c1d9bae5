/- The lines of chunks: take, line. No condition but the bounds. -/
import Derived.Test.YtbndpdjpfehdnaaChunk1
import Derived.Laws.BytesArg
import Derived.Deep.RegionLaw
import Derived.Deep.LoopGhost
set_option linter.unusedVariables false
set_option linter.unusedSimpArgs false
set_option maxHeartbeats 1600000
set_option maxRecDepth 100000
namespace Go.Proofs.Ytbndpdjpfehdnaa.Chunk
open Go.RowKit Go.RK Go.Proofs.YtbndpdjpfehdnaaW.PrintWords
variable {W : World} {M Z : Nat → Prop} {g : Nat} {v : Value} {cur b : List Int} {came : Int}
/-- how long the line is, as it is told -/
def lg (cur : List Int) : Int := if cur.length > 1600 then 1601 else cur.length
/-- what is held of it -/
def held (cur : List Int) : List Int := if cur.length > 1600 then [] else cur
theorem zero8 : ∀ w, (zeroValue 5).run Try.prog w = .ok (.int .u8 0) w := by intro w; kernel_rfl
theorem held_le (cur : List Int) : (held cur).length ≤ 1600 := by
  unfold held
  split
  · simp
  · omega
theorem lg_take (cur b : List Int) : (if (1601 : Int) < lg cur + b.length then (1601 : Int) else lg cur + b.length) = lg (cur ++ b) := by
  unfold lg; rw [List.length_append]; split <;> split <;> split <;> omega
abbrev ckb (A : Option Addr) (n c : Nat) (long came : Int) : Obj := .cells #[.slice A n c, .int .i64 long, .int .i64 came] 47 (0, 0)
abbrev ckr (A : Option Addr) (c : Nat) (R : List Int) : HP := HP.raw 0 5 1 (.slice A R.length c) R.length (I8 R)
/-- the lines' own memory -/
def Ck (g : Nat) (cur : List Int) (came : Int) : HP := HP.ex (fun q : Option Addr × Nat => HP.sep (HP.blk g (ckb q.1 (held cur).length q.2 (lg cur) came)) (ckr q.1 q.2 (held cur)))
theorem ck_open {Φ : HP} (h : (Ck g cur came).at_ W M) (hf : Φ.at_ W Z) (hd : ∀ k, Z k → ¬ M k) : ∃ A c, Cx M Z W W Φ [HP.blk g (ckb A (held cur).length c (lg cur) came), ckr A c (held cur)] := by
  obtain ⟨⟨A, c⟩, h⟩ := h
  exact ⟨A, c, (Cx.start h hf hd).split 0 rfl⟩
theorem ck_shut {Φ : HP} {W1 : World} {A : Option Addr} {n c : Nat} {long : Int} {R : List Int} (h : Cx M Z W W1 Φ [HP.blk g (ckb A n c long came), ckr A c R]) (hR : R = held cur) (hn : n = R.length) (hl : long = lg cur) : Does W M Z Φ (Ck g cur came) W1 := by
  subst hR hn hl
  exact ((h.glue 0 1 (by decide) rfl rfl).impi 0 rfl (Ψ' := Ck g cur came) (fun M hM => ⟨(A, c), hM⟩)).done 0 rfl
theorem take_ck {A1 : Option Addr} {c1 : Nat} (h : (Ck g cur came).at_ W M) (hv : (HP.rd K8 A1 b).at_ W Z) (hd : ∀ k, Z k → ¬ M k) (hb : b.length ≤ 100000) :
    Calls Try.prog 19 #[.pointer (some ⟨g, 0, none⟩), .slice A1 b.length c1] W fun e w' => e = .returned (.tuple #[]) ∧ Does W M Z HP.tt (Ck g (cur ++ b) came) w' := by
  obtain ⟨A, c, H⟩ := ck_open h hv hd
  have hlg : 0 ≤ lg cur ∧ lg cur ≤ 1601 := by unfold lg; split <;> omega
  have hw : IntKind.i64.wrap (lg cur + b.length) = lg cur + b.length := IntWalk.i64_in _ (by omega)
  have hmin : ∀ w ty ats, (Builtin.min_ ats ty #[.int .i64 (lg cur + b.length), .int .i64 1601]).run Try.prog w = .ok (.int .i64 (lg (cur ++ b))) w := by
    intro w ty ats
    rw [Go.Proofs.YtbndpdjpfehdnaaW.PrintMore.min_two, Go.Proofs.YtbndpdjpfehdnaaW.PrintMore.min2_int, lg_take]
    rfl
  have k0 := H.cell 0 rfl 0 rfl
  have k1 := H.cell 0 rfl 1 rfl
  have kf := fun j => H.unfrozen 0 rfl j
  have H1 := Aside0.mk (H.put 0 rfl 1 (.int .i64 (lg (cur ++ b))))
  clear h hv hd
  by_cases hlong : (cur ++ b).length > 1600
  · have e1 : lg (cur ++ b) = 1601 := by unfold lg; rw [if_pos hlong]
    have e2 : held (cur ++ b) = [] := by unfold held; rw [if_pos hlong]
    rw [e1] at hmin H1
    obtain ⟨w1, hrun, H2⟩ := H1.out.clear (P := Try.prog) 1 rfl 27 0 (.int .u8 0) Try.underlying27 zero8 rfl rfl 0 (held cur).length c (by omega) A (fun _ => by cases A <;> rfl)
    have H3 := Aside0.mk (H2.impi 1 rfl (Ψ' := ckr A c []) (fun M hM => HP.raw_shrink hM 0 (by omega)))
    replace hrun := Aside0.mk hrun
    have q0 := H3.out.cell 0 rfl 0 rfl
    have qf := fun j => H3.out.unfrozen 0 rfl j
    have s0 := H1.out.cell 0 rfl 0 rfl
    have s1 := H1.out.cell 0 rfl 1 rfl
    generalize hR : held cur = R at *
    clear H H2
    go_enter Try.func19, Try.ntmps19
    go_wp2_with (refine wpList_clr rfl rfl rfl hrun.out ?_)
    exact bodyPost_ret (v := .tuple #[]) (by simp [results, Try.results19, go_sem]) rfl ⟨rfl, ck_shut (R := []) (((H3.out.put 0 rfl 0 (.slice A 0 c))).imp (Φ' := HP.tt) (fun _ _ => trivial)) e2.symm rfl e1.symm⟩
  · have e1 : lg (cur ++ b) = (cur ++ b).length := by unfold lg; rw [if_neg hlong]
    have e2 : held (cur ++ b) = cur ++ b := by unfold held; rw [if_neg hlong]
    have e3 : held cur = cur := by unfold held; rw [if_neg (by rw [List.length_append] at hlong; omega)]
    rw [e1] at hmin H1
    rw [e3] at H1 H k0 k1
    have hcl : cur.length + b.length ≤ 1600 := by rw [List.length_append] at hlong; omega
    have hC := HP.rd_now H1.out.now.choose_spec
    obtain ⟨v2, w1, hrun, H2⟩ := H1.out.app (P := Try.prog) 1 27 27 5 (.int .u8 0) 1 1 rfl (Nat.zero_le _) Try.underlying27 info8 rfl (by omega) (by omega) A1 b.length c1 (I8 b) (by simp) (fun hp => Cx.src_of (enc := Value.int .u8) (h1 := fun _ => rfl) hC hp) (fun u hu => by obtain ⟨q, _, rfl⟩ := List.mem_map.1 hu; rfl) (by omega)
    rw [show I8 cur ++ I8 b = I8 (cur ++ b) from (List.map_append ..).symm, show cur.length + b.length = (cur ++ b).length from List.length_append.symm] at H2
    obtain ⟨A2, c2, rfl, _⟩ := HP.raw_form (H2.get 1 rfl).choose_spec
    have H3 := Aside0.mk H2
    have hgt : ¬ ((1600 : Int) < ((cur ++ b).length : Int)) := by omega
    replace hrun := Aside0.mk hrun
    have q0 := H3.out.cell 0 rfl 0 rfl
    have qf := fun j => H3.out.unfrozen 0 rfl j
    have s0 := H1.out.cell 0 rfl 0 rfl
    have s1 := H1.out.cell 0 rfl 1 rfl
    generalize hN : cur ++ b = N at *
    clear H H2 hC
    go_enter Try.func19, Try.ntmps19
    go_wp2_with (refine wpList_app rfl rfl rfl rfl hrun.out ?_)
    go_end0
    exact ⟨rfl, ck_shut (R := N) (((H3.out.put 0 rfl 0 (.slice A2 N.length c2))).imp (Φ' := HP.tt) (fun _ _ => trivial)) e2.symm rfl e1.symm⟩
theorem line_ck (h : (Ck g cur came).at_ W M) (hv : True) (hd : ∀ k, Z k → ¬ M k) :
    Calls Try.prog 20 #[.pointer (some ⟨g, 0, none⟩)] W fun e w' => e = .returned (.agg #[.string (strOfNums (held cur)), .bool (decide (1600 < cur.length))]) ∧ Does W M Z HP.tt (Ck g [] came) w' := by
  obtain ⟨A, c, H⟩ := ck_open (Φ := HP.tt) (Z := Z) h trivial hd
  have hraw := (H.get 1 rfl).choose_spec
  have hlg : decide ((1600 : Int) < lg cur) = decide (1600 < cur.length) := by unfold lg; split <;> simp <;> omega
  have hu := Try.underlying35
  have H0 := Aside0.mk (H.alloc (.cells #[.string ⟨#[]⟩, .bool false] 35 (0, 0)))
  have hconv : ∀ w' : World, (∀ k, k < W.heap.size → w'.heap[k]? = W.heap[k]?) → (convert 27 9 (.slice A (held cur).length c)).run Try.prog w' = .ok (.string (strOfNums (held cur))) w' := by
    intro w' hw'
    rcases A with _ | ad
    · have : (held cur).length = 0 := by
        rcases Nat.eq_zero_or_pos (held cur).length with h0 | h0
        · exact h0
        · obtain ⟨ad, h1, _⟩ := HP.raw_cell hraw 0 (.int .u8 ((held cur)[0])) (by simp)
          cases h1
      have e : held cur = [] := List.eq_nil_of_length_eq_zero this
      rw [e]
      exact run_convert_bytes_nil w' 27 5 Try.underlying27 Try.underlying5 0 c 9 Try.underlying9
    · obtain ⟨⟨hl, h1⟩, _⟩ := hraw
      rcases h1 with ⟨h1, _⟩ | ⟨gb, cap, cu, h1, _, hh, h3, h4, h5, h6⟩
      · cases h1
      · injection h1 with h1 _ _
        injection h1 with h1
        subst h1
        refine run_convert_bytes_arg w' 27 5 Try.underlying27 Try.underlying5 gb 0 (held cur).length c (held cur) rfl (fun i hi => ?_) 9 Try.underlying9
        have hb := hw' gb (lt_of_blk hh)
        rw [hh] at hb
        rw [Nat.zero_add]
        refine cell_blk hb ?_
        have : (I8 (held cur))[i]? = some (.int .u8 ((held cur).getD i 0)) := by rw [List.getElem?_map, List.getElem?_eq_getElem hi, List.getD_eq_getElem?_getD, List.getElem?_eq_getElem hi]; rfl
        rw [← h6, List.getElem?_take] at this
        split at this
        · simpa using this
        · cases this
  have hc1 := hconv ((W.alloc (.cells #[.string ⟨#[]⟩, .bool false] 35 (0, 0)))).drew (fun k hk => hp_alloc_old (Array.getElem?_eq_getElem hk) _ |>.trans (Array.getElem?_eq_getElem hk).symm)
  have hc2 := hconv (((W.alloc (.cells #[.string ⟨#[]⟩, .bool false] 35 (0, 0))).alloc (.cells #[.string ⟨#[]⟩, .bool false] 35 (0, 0)))).drew (fun k hk => hp_alloc_old (hp_alloc_old (Array.getElem?_eq_getElem hk) _) _ |>.trans (Array.getElem?_eq_getElem hk).symm)
  have k0 := H0.out.cell 0 rfl 0 rfl
  have k1 := H0.out.cell 0 rfl 1 rfl
  have k0' := cell_al k0 (.cells #[.string ⟨#[]⟩, .bool false] 35 (0, 0))
  have k1' := cell_al k1 (.cells #[.string ⟨#[]⟩, .bool false] 35 (0, 0))
  have H1 := (H0.out.alloc1 (.cells #[.string (strOfNums (held cur)), .bool (decide (1600 < cur.length))] 35 (0, 0))).drew
  obtain ⟨w2, hrun, H2⟩ := H1.clear (P := Try.prog) 1 rfl 27 0 (.int .u8 0) Try.underlying27 zero8 rfl rfl 0 (held cur).length c (by omega) A (fun _ => by cases A <;> rfl)
  have H3 := Aside0.mk (H2.impi 1 rfl (Ψ' := ckr A c []) (fun M hM => HP.raw_shrink hM 0 (by omega)))
  replace hrun := Aside0.mk hrun
  have s0 := H1.cell 0 rfl 0 rfl
  have s0' : ((W.alloc (.cells #[.string ⟨#[]⟩, .bool false] 35 (0, 0))).alloc (.cells #[.string (strOfNums (held cur)), .bool (decide (1600 < cur.length))] 35 (0, 0))).cell? ⟨g, 0, none⟩ = some (.slice A (held cur).length c) := s0
  have q0 := H3.out.cell 0 rfl 0 rfl
  have q1 := H3.out.cell 0 rfl 1 rfl
  have qf := fun j => H3.out.unfrozen 0 rfl j
  have H4 := (H3.out.put 0 rfl 0 (.slice A 0 c)).put 0 rfl 1 (.int .i64 0)
  have r0 := H4.cell 3 rfl 0 rfl
  have r1 := H4.cell 3 rfl 1 rfl
  have t0 := H4.cell 2 rfl 0 rfl
  have t1 := H4.cell 2 rfl 1 rfl
  have tf := fun j => H4.unfrozen 2 rfl j
  have H5 := Aside0.mk ((H4.put 2 rfl 0 (.string (strOfNums (held cur)))).put 2 rfl 1 (.bool (decide (1600 < cur.length))))
  clear H1 H2 H3 H4
  generalize hR : held cur = R at *
  have hRl : R.length ≤ 1600 := by rw [← hR]; exact held_le cur
  clear h hd hconv hraw H
  go_enter Try.func20, Try.ntmps20
  go_wp2
  go_region
  all_goals
    go_wp2_with (refine wpList_clr rfl rfl rfl hrun.out ?_)
    exact bodyPost_ret (v := .agg #[.string (strOfNums R), .bool (decide (1600 < cur.length))]) (by simp [results, Try.results20, go_sem, H5.out.cell 2 rfl 0 rfl, H5.out.cell 2 rfl 1 rfl]) rfl ⟨rfl, ck_shut (R := []) (H5.out.take 2) rfl rfl rfl⟩
end Go.Proofs.Ytbndpdjpfehdnaa.Chunk
