/- rifflelaw11.RingOrder answers true for whatever numbers and room. No condition but that the numbers read. -/
import Derived.Test.YtpakcfbjjlmcaaaRingLives
import Derived.Test.YtpakcfbjjlmcaaaNums
import Derived.Test.YtpakcfbjjlmcaaaOpen
set_option linter.unusedVariables false
set_option linter.unusedSimpArgs false
set_option maxHeartbeats 1000000
set_option maxRecDepth 100000
namespace Go.Proofs.Ytpakcfbjjlmcaaa.Ring
open Go.RowKit Go.RK Go.RL Go.Proofs.YtpakcfbjjlmcaaaW.PrintWords

theorem order_great (w : World) (A : Option Addr) (c : Nat) (l : List Int) (u : Int) (h : 300 < l.length) :
    Calls Try.prog 3 #[.slice A l.length c, .int .u64 u] w fun e w' => e = .returned (.bool true) ∧ Below w.heap.size w w' := by
  go_enter Try.func3, Try.ntmps3
  go_wp2_with fail
  refine (lives_ok _).mono ?_
  rintro e w1 ⟨rfl, hb⟩
  have HB := Aside0.mk hb
  clear hb
  go_wp2
  go_ret
  exact ⟨rfl, HB.out⟩

theorem order_small (w : World) (A : Option Addr) (c : Nat) (l : List Int) (u : Int) (hr : ReadsInt w .i64 A l.length l) (hu : 0 ≤ u ∧ u ≤ 18446744073709551615) (h : l.length ≤ 300) :
    Calls Try.prog 3 #[.slice A l.length c, .int .u64 u] w fun e w' => e = .returned (.bool true) ∧ Below w.heap.size w w' := by
  obtain ⟨u0, u1⟩ := hu
  have HR := Aside0.mk hr
  have HU := Aside0.mk u1
  have m0 : 0 ≤ u % 64 := Int.emod_nonneg _ (by omega)
  have m1 : u % 64 < 64 := Int.emod_lt_of_pos _ (by omega)
  clear hr u1
  go_enter Try.func3, Try.ntmps3
  go_wp2_with fail
  obtain ⟨room, hroom⟩ : ∃ room, room = 1 + u % 64 := ⟨_, rfl⟩
  rw [← hroom]
  have r1 : 1 ≤ room := by omega
  have r2 : room ≤ 64 := by omega
  clear hroom m0 m1
  refine (new_ring r1 r2 (by omega) (by omega)).mono ?_
  rintro e w1 ⟨rfl, hb1, h1⟩
  obtain ⟨g, hg⟩ : ∃ g, g = w.heap.size + 1 := ⟨_, rfl⟩
  obtain ⟨gn, hgn⟩ : ∃ gn, gn = w.heap.size := ⟨_, rfl⟩
  rw [← hg] at h1 ⊢
  rw [← hgn] at h1
  have H1 := Aside0.mk h1
  have HB1 := Aside0.mk hb1
  have G1 : w.heap.size ≤ g := by omega
  have G2 : w.heap.size ≤ gn := by omega
  clear h1 hb1 hg hgn
  go_wp2
  go_loopw [8, 37] (fun v i wr => ∃ (k : Nat) (b s : List Int), k ≤ l.length ∧ i = .int .i64 k ∧ Aside0 (wr.ownsRow w1.heap.size 2 1 v b.length (I64 b)) ∧ Aside0 (RingL wr g gn room 1 (s.map fun x => [x])) ∧ Aside0 (b ++ s = l.take k) ∧ Aside0 (Below w.heap.size w wr) ∧ Aside0 (w1.heap.size ≤ wr.heap.size)) (fun _ i _ => l.length - (intOf i).toNat)
  case atStart => exact ⟨0, [], [], by omega, rfl, ⟨own_nil _ _ _ _⟩, H1, ⟨rfl⟩, HB1, ⟨Nat.le_refl _⟩⟩
  case round =>
    obtain ⟨k, b, s, hk, rfl, HO, HG, HT, HB, HS⟩ := hrel
    by_cases hlt : k < l.length
    · have hr := (HR.out.below HB.out)
      obtain ⟨ad, x, rfl, hx, hcell⟩ := rd_at hr k hlt
      have HX := Lib.hid hx
      clear hr hx
      go_wp2_with fail
      refine (len_ring HG.out).mono ?_
      rintro e wl ⟨rfl, rfl⟩
      have bd := HG.out.bd.2.2.2.2
      simp only [List.length_map] at bd ⊢
      by_cases hfull : (s.length : Int) = room
      · rcases s with _ | ⟨y, s⟩
        · simp at hfull; omega
        · have hb : ((s.length : Int) + 1 == room) = true := by rw [← hfull]; simp
          have hlen : (s.length : Int) < room := by simp at hfull; omega
          have HF := Lib.hid hfull
          clear hfull
          go_wp2_with fail
          refine (pop_ok [y] (s.map fun x => [x]) HG.out).mono ?_
          rintro e w2 ⟨v, rfl, hown, hg2, hf2⟩
          obtain ⟨A2, c2, rfl, _, hr2, _⟩ := own_rd hown
          obtain ⟨ad2, y', rfl, hy, hcell2⟩ := rd_at hr2 0 (by simp)
          obtain rfl : y' = y := by simpa using hy.symm
          rw [add_zero_ ad2] at hcell2
          have ho2 := own_fr HO.out hf2 (fun k hk _ _ he => by have := H1.out.ltg.1; omega)
          have HG2 := Aside0.mk hg2
          have HF2 := Aside0.mk hf2
          have HO2 := Aside0.mk ho2
          clear hown hr2 hy hg2 hf2 ho2
          obtain ⟨v3, w3, hrun, ho3, hg3, ha3⟩ := run_app1 (P := Try.prog) (Value.int .i64) 22 22 2 (.int .i64 0) 8 Try.underlying22 infoI rfl (by omega) (fun _ => rfl) w1.heap.size u8 b y' HO2.out (Nat.le_trans HS.out HF2.out.size) (by have := congrArg List.length HT.out; simp at this; omega)
          have hb3 := HO2.out.lt
          have hf3 : Fr (fun k => w1.heap.size ≤ k) w2 w3 := Fr.grown hg3 (fun k _ he => (hb3 k he).1)
          have hg4 := HG2.out.fr hf3 (by have := H1.out.ltg.1; omega) (by have := H1.out.ltg.2; omega)
          have hbel3 := below_fr (below_fr HB.out (Nat.le_refl _) HF2.out (fun k hk => by omega)) (Nat.le_refl _) hf3 (fun k hk => by have := HB1.out.size; omega)
          have HRUN := Aside0.mk hrun
          have HO3 := Aside0.mk ho3
          have HG3 := Aside0.mk hg4
          have HB3 := Aside0.mk hbel3
          have HS3 := Aside0.mk (Nat.le_trans HS.out (Nat.le_trans HF2.out.size hf3.size))
          have HT3 : Aside0 ((b ++ [y']) ++ s = l.take k) := ⟨by simpa using HT.out⟩
          clear hrun ho3 hg3 ha3 hb3 hf3 hg4 hbel3 HO HB HG HT HS HO2 HG2 HF2
          go_wp2_with (refine wpList_app rfl rfl rfl rfl HRUN.out ?_)
          refine (push_ok _ 1 [x] (HG3.out.fr (S := fun _ => False) ((Fr.refl _ _).alloc _) (fun h => h) (fun h => h)) (lit_reads _ _ _ _) (by simp) (by simpa using hlen)).mono ?_
          rintro e w5 ⟨rfl, h5, f5⟩
          have hL5 : (s.map fun x => [x]) ++ [[x]] = (s ++ [x]).map fun x => [x] := by simp
          rw [hL5] at h5
          have f6 : Fr (fun k => k = g ∨ k = gn) w3 w5 := Fr.step (T := fun k => k = g ∨ k = gn) ((Fr.refl (fun k => k = g ∨ k = gn) w3).alloc _) f5 (fun _ _ h => h)
          have ho5 := own_fr HO3.out f6 (fun k hk _ _ he => by have := H1.out.ltg; omega)
          have hb5 := below_fr HB3.out (Nat.le_refl _) f6 (fun k hk => by omega)
          have HG5 := Aside0.mk h5
          have HO5 := Aside0.mk ho5
          have HB5 := Aside0.mk hb5
          have HS5 := Aside0.mk (Nat.le_trans HS3.out f6.size)
          have HT5 : Aside0 ((b++[y']) ++ (s ++ [x]) = l.take (k + 1)) := ⟨by rw [List.take_add_one, HX.out, ← HT3.out]; simp⟩
          have bd5 := h5.bd.2.2.2.2
          simp only [List.length_map, List.length_append, List.length_singleton] at bd5
          clear h5 f5 f6 ho5 hb5 hL5
          go_wp2_with fail
          refine (len_ring HG5.out).mono ?_
          rintro e w6 ⟨rfl, rfl⟩
          simp only [List.length_map, List.length_append, List.length_singleton]
          go_wp2
          go_roundw
          case rel => exact ⟨k + 1, (b++[y']), s ++ [x], by omega, by go_num, HO5, HG5, HT5, HB5, HS5⟩
          case measure => simp [intOf]; omega
      · have hb : ((s.length : Int) == room) = false := by rw [beq_eq_false_iff_ne]; exact hfull
        have hlen : (s.length : Int) < room := by omega
        clear hfull
        go_wp2_with fail
        refine (push_ok _ 1 [x] (HG.out.fr (S := fun _ => False) ((Fr.refl _ _).alloc _) (fun h => h) (fun h => h)) (lit_reads _ _ _ _) (by simp) (by simpa using hlen)).mono ?_
        rintro e w5 ⟨rfl, h5, f5⟩
        have hL5 : (s.map fun x => [x]) ++ [[x]] = (s ++ [x]).map fun x => [x] := by simp
        rw [hL5] at h5
        have f6 : Fr (fun k => k = g ∨ k = gn) wl w5 := Fr.step (T := fun k => k = g ∨ k = gn) ((Fr.refl (fun k => k = g ∨ k = gn) wl).alloc _) f5 (fun _ _ h => h)
        have ho5 := own_fr HO.out f6 (fun k hk _ _ he => by have := H1.out.ltg; omega)
        have hb5 := below_fr HB.out (Nat.le_refl _) f6 (fun k hk => by omega)
        have HG5 := Aside0.mk h5
        have HO5 := Aside0.mk ho5
        have HB5 := Aside0.mk hb5
        have HS5 := Aside0.mk (Nat.le_trans HS.out f6.size)
        have HT5 : Aside0 (b ++ (s ++ [x]) = l.take (k + 1)) := ⟨by rw [List.take_add_one, HX.out, ← HT.out]; simp⟩
        have bd5 := h5.bd.2.2.2.2
        simp only [List.length_map, List.length_append, List.length_singleton] at bd5
        clear h5 f5 f6 ho5 hb5 hL5
        go_wp2_with fail
        refine (len_ring HG5.out).mono ?_
        rintro e w6 ⟨rfl, rfl⟩
        simp only [List.length_map, List.length_append, List.length_singleton]
        go_wp2
        go_roundw
        case rel => exact ⟨k + 1, b, s ++ [x], by omega, by go_num, HO5, HG5, HT5, HB5, HS5⟩
        case measure => simp [intOf]; omega
    · have HTT : Aside0 (b ++ s = l) := ⟨by rw [HT.out, List.take_of_length_le (by omega)]⟩
      have hs : (s.length : Int) ≤ room := by have := HG.out.bd.2.2.2.2; simpa using this
      clear HT
      go_wp2
      go_loopw [8, 13] (fun v i wz => ∃ (k : Nat) (b s : List Int), (k : Int) + s.length ≤ room ∧ i = .int .i64 k ∧ Aside0 (wz.ownsRow w1.heap.size 2 1 v b.length (I64 b)) ∧ Aside0 (RingL wz g gn room 1 (s.map fun x => [x])) ∧ Aside0 (b ++ s = l) ∧ Aside0 (Below w.heap.size w wz) ∧ Aside0 (w1.heap.size ≤ wz.heap.size)) (fun _ i _ => room.toNat - (intOf i).toNat)
      case atStart => exact ⟨0, b, s, by omega, rfl, HO, HG, HTT, HB, HS⟩
      case round =>
        clear HO HG HTT HB HS hs
        obtain ⟨j, b, s, hj, rfl, HO, HG, HT, HB, HS⟩ := hrel
        by_cases hlt : (j : Int) < room
        · rcases s with _ | ⟨y, s⟩
          · go_wp2_with fail
            refine (pop_empty HG.out).mono ?_
            rintro e w2 ⟨rfl, rfl⟩
            go_wp2
            go_roundw
            case rel => exact ⟨j + 1, b, [], by simp; omega, by go_num, HO, HG, HT, HB, HS⟩
            case measure => simp [intOf]; omega
          · go_wp2_with fail
            refine (pop_ok [y] (s.map fun x => [x]) HG.out).mono ?_
            rintro e w2 ⟨v, rfl, hown, hg2, hf2⟩
            obtain ⟨A2, c2, rfl, _, hr2, _⟩ := own_rd hown
            obtain ⟨ad2, y', rfl, hy, hcell2⟩ := rd_at hr2 0 (by simp)
            obtain rfl : y' = y := by simpa using hy.symm
            rw [add_zero_ ad2] at hcell2
            have ho2 := own_fr HO.out hf2 (fun k hk _ _ he => by have := H1.out.ltg.1; omega)
            have HG2 := Aside0.mk hg2
            have HF2 := Aside0.mk hf2
            have HO2 := Aside0.mk ho2
            clear hown hr2 hy hg2 hf2 ho2
            obtain ⟨v3, w3, hrun, ho3, hg3, ha3⟩ := run_app1 (P := Try.prog) (Value.int .i64) 22 22 2 (.int .i64 0) 8 Try.underlying22 infoI rfl (by omega) (fun _ => rfl) w1.heap.size _ b y' HO2.out (Nat.le_trans HS.out HF2.out.size) (by have := congrArg List.length HT.out; simp at this; omega)
            have hb3 := HO2.out.lt
            have hf3 : Fr (fun k => w1.heap.size ≤ k) w2 w3 := Fr.grown hg3 (fun k _ he => (hb3 k he).1)
            have hg4 := HG2.out.fr hf3 (by have := H1.out.ltg.1; omega) (by have := H1.out.ltg.2; omega)
            have hbel3 := below_fr (below_fr HB.out (Nat.le_refl _) HF2.out (fun k hk => by omega)) (Nat.le_refl _) hf3 (fun k hk => by have := HB1.out.size; omega)
            have HRUN := Aside0.mk hrun
            have HO3 := Aside0.mk ho3
            have HG3 := Aside0.mk hg4
            have HB3 := Aside0.mk hbel3
            have HS3 := Aside0.mk (Nat.le_trans HS.out (Nat.le_trans HF2.out.size hf3.size))
            have HT3 : Aside0 ((b ++ [y']) ++ s = l) := ⟨by simpa using HT.out⟩
            clear hrun ho3 hg3 ha3 hb3 hf3 hg4 hbel3 HO HB HG HT HS HO2 HG2 HF2
            go_wp2_with (refine wpList_app rfl rfl rfl rfl HRUN.out ?_)
            go_roundw
            case rel => exact ⟨j + 1, b ++ [y'], s, by simp at hj; omega, by go_num, HO3, HG3, HT3, HB3, HS3⟩
            case measure => simp [intOf]; omega
        · obtain rfl : s = [] := by
            rcases s with _ | ⟨y, s⟩
            · rfl
            · simp at hj; omega
          obtain rfl : b = l := by have := HT.out; simpa using this
          obtain ⟨A2, c2, rfl, _, hr2, _⟩ := own_rd HO.out
          have HR2 := Aside0.mk hr2
          clear hr2
          go_wp2_with fail
          refine (len_ring HG.out).mono ?_
          rintro e w2 ⟨rfl, rfl⟩
          go_wp2_with fail
          refine (Nums.nums_any _ _ _ _ _ b b HR2.out (HR.out.below HB.out)).mono ?_
          rintro e w3 ⟨rfl, n, rfl⟩
          simp only [decide_true]
          go_wp2_with fail
          refine (lives_ok _).mono ?_
          rintro e w4 ⟨rfl, hb4⟩
          have HB4 := Aside0.mk (below_then HB.out (below_size HB.out) (below_undrew hb4))
          clear hb4
          go_wp2
          go_ret
          exact ⟨rfl, HB4.out⟩

theorem order_walk (w : World) (A : Option Addr) (c : Nat) (l : List Int) (_hl : l.length ≤ c) (hC : (Kd.int .i64).C w A l.length l) (_hw : ∀ x ∈ l, I64wf x) (u : Int) (hu : (Lit.int .u64 u).wf = true) :
    Calls Try.prog 3 #[.slice A l.length c, .int .u64 u] w fun e w' => e = .returned (.bool true) ∧ Below w.heap.size w w' := by
  by_cases h : 300 < l.length
  · exact order_great w A c l u h
  · exact order_small w A c l u (C_ints hC) (bounds_u64 hu) (by omega)

end Go.Proofs.Ytpakcfbjjlmcaaa.Ring
