/- math/bits.Div64: for hi < y it returns quotient and remainder of the number of both words; the world is as it was. -/
import Derived.WalkKit
import Derived.WalkLawsBesides
import Derived.Lib.Hide
import Derived.Deep.QuietTactic
import Derived.BigQuiet
import Derived.Deep.DeepCutAuto
import Derived.Deep.CutBlock
import Derived.Test.YtcgpanjagkblmaaDoorShelf
import Derived.Test.YtcgpanjagkblmaaDoorDivMath
namespace Go.Proofs.YtcgpanjagkblmaaDoor
open Go.RowKit
theorem lz64 (y : Nat) (w : World) (h : y ≤ 18446744073709551615) :
    Calls Tryd.prog 60 #[.int .u64 y] w fun e w' => e = .returned (.int .i64 (64 - (Lib.bitLen y : Int))) ∧ w = w' :=
  (Tryd.bits_LeadingZeros64 _ w (by omega) (by omega)).mono fun _ _ h => ⟨by simpa using h.1, h.2.symm⟩
set_option maxRecDepth 100000 in
set_option maxHeartbeats 4000000 in
theorem div64_hi (hi lo y : Nat) (w : World) (h1 : hi < y) (h0 : 0 < hi) (h2 : y ≤ 18446744073709551615) (h3 : lo ≤ 18446744073709551615) :
   Calls Tryd.prog 50 #[.int .u64 hi, .int .u64 lo, .int .u64 y] w fun e w' => e = .returned (.tuple #[.int .u64 (((hi * 18446744073709551616 + lo) / y : Nat) : Int), .int .u64 (((hi * 18446744073709551616 + lo) % y : Nat) : Int)]) ∧ w = w' := by
  obtain ⟨s, yn, a, b, u, v, b1, b2, b3, b4, b5, b6, b7, b8, b9, b10, e1, e2, e3, e4, e5, e6, e7⟩ := SzDiv.parts hi lo y h1 (by omega) (by omega)
  obtain ⟨q0, r0, f1, f2, f3, f4, f5⟩ := SzDiv.first a u (by omega) (by omega)
  obtain ⟨d1, d0, g1, g2, g3, g4, g5⟩ := SzDiv.low v b10
  have b9' : u < a * 4294967296 + b := by omega
  obtain ⟨t, Ht⟩ : ∃ t, Hid (t = (u * 4294967296 + d1) / (a * 4294967296 + b)) := ⟨_, Lib.hid rfl⟩
  obtain ⟨m, Hm⟩ : ∃ m, Hid (m = (u * 4294967296 + d1) % (a * 4294967296 + b)) := ⟨_, Lib.hid rfl⟩
  have hm9 : m < a * 4294967296 + b := by rw [Hm.out]; exact Nat.mod_lt _ (by omega)
  have ht9 : t < 4294967296 := by rw [Ht.out]; exact SzDiv.digit_lt _ _ _ b9' g4
  obtain ⟨q0', r0', f1', f2', f3', f4', f5'⟩ := SzDiv.first a m (by omega) (by omega)
  obtain ⟨t0, Ht0⟩ : ∃ t0, Hid (t0 = (m * 4294967296 + d0) / (a * 4294967296 + b)) := ⟨_, Lib.hid rfl⟩
  obtain ⟨m0, Hm0⟩ : ∃ m0, Hid (m0 = (m * 4294967296 + d0) % (a * 4294967296 + b)) := ⟨_, Lib.hid rfl⟩
  have ht09 : t0 < 4294967296 := by rw [Ht0.out]; exact SzDiv.digit_lt _ _ _ hm9 g5
  have hrest : IntKind.u64.wrap (IntKind.u64.wrap (IntKind.u64.wrap ((u : Int) * 4294967296) + (d1 : Int)) - IntKind.u64.wrap ((t : Int) * (yn : Int))) = (m : Int) := by
    rw [Hm.out, b7]; exact SzDiv.rest _ u d1 t (by omega) (by omega) Ht.out
  have hrest0 : IntKind.u64.wrap (IntKind.u64.wrap (IntKind.u64.wrap ((m : Int) * 4294967296) + (d0 : Int)) - IntKind.u64.wrap ((t0 : Int) * (yn : Int))) = (m0 : Int) := by
    rw [Hm0.out, b7]; exact SzDiv.rest _ m d0 t0 (by omega) (by omega) Ht0.out
  have hres : (hi * 18446744073709551616 + lo) / y = t * 4294967296 + t0 ∧ (hi * 18446744073709551616 + lo) % y = m0 / 2 ^ s := by
    rw [← e6, ← e7, g3, b7]
    obtain ⟨x1, x2⟩ := SzDiv.two (a * 4294967296 + b) u d1 d0 (by omega)
    rw [x1, x2, ← Ht.out, ← Hm.out, ← Ht0.out, ← Hm0.out]
    exact ⟨rfl, rfl⟩
  rw [hres.1, hres.2]
  clear hres e6 e7
  have HR := Lib.hid hrest; clear hrest
  have HR0 := Lib.hid hrest0; clear hrest0
  have B7 := Lib.hid b7; clear b7
  have hy : ((y : Int) == 0) = false := beq_eq_false_iff_ne.2 (by omega)
  have hh : ((hi : Int) == 0) = false := beq_eq_false_iff_ne.2 (by omega)
  have hle : ¬ y ≤ hi := by omega
  have hb : (64 : Int) - (Lib.bitLen y : Int) = (s : Int) := by omega
  have m1 : min s 64 = s := by omega
  have m2 : (64 : Int) - (s : Int) = ((64 - s : Nat) : Int) := by omega
  have m3 : min (64 - s) 64 = 64 - s := by omega
  have ha : (a : Int) ≠ 0 := by omega
  have B2 := Lib.hid b2; clear b2
  have F3 := Lib.hid f3; clear f3
  have F5 := Lib.hid f5; clear f5
  have G3 := Lib.hid g3; clear g3
  have F1' := Lib.hid f1'; clear f1'
  have F2' := Lib.hid f2'; clear f2'
  have F3' := Lib.hid f3'; clear f3'
  have F5' := Lib.hid f5'; clear f5'
  go_enter Tryd.func50, Tryd.ntmps50
  go_upto_block 0 with (go_at_call 60; refine (lz64 _ _ (by omega)).mono ?_; rintro e w' ⟨rfl, rfl⟩)
  go_cut [15] (fun s15 wx => s15 = .int .u64 (t : Int) ∧ w = wx)
  case first =>
    go_wp2_with fail
    go_loop [15, 16] (fun q' r' => ∃ q r : Nat, q' = .int .u64 q ∧ r' = .int .u64 r ∧ (r : Int) < 4294967296 ∧ Hid (q * a + r = u) ∧ Hid ((u * 4294967296 + d1) / (a * 4294967296 + b) ≤ q) ∧ (q : Int) ≤ 18446744073709551615) (fun _ r' => 4294967296 - (intOf r').toNat)
    case atStart => exact ⟨q0, r0, rfl, rfl, by omega, F3, by rw [F5.out]; exact Lib.hid (SzDiv.guess a b u d1 (by omega) g4), by rw [F5.out]; have := Nat.div_le_self u a; omega⟩
    case round =>
      clear f1 f2 e1 e2 e3 e4 e5 g1 g2 m1 m2 m3 hb
      obtain ⟨q, r, rfl, rfl, hr, hq, ht, hq64⟩ := hrel
      by_cases c1 : (4294967296 : Int) ≤ (q : Int)
      · obtain ⟨s1, s2, s3⟩ := SzDiv.step a b u d1 q r (by omega) b9' g4 hq.out ht.out (.inl (by omega))
        have S2 := Lib.hid s2
        have S3 := Lib.hid s3
        clear s2 s3 hq ht
        by_cases c2 : (4294967296 : Int) ≤ (r : Int) + (a : Int)
        · have R := Lib.hid (SzDiv.left a b u d1 (q - 1) (r + a) (by omega) b6 b9' S3.out S2.out (by omega))
          go_wp2_with fail
          go_meet
          exact ⟨by rw [Ht.out, ← R.out]; go_num, rfl⟩
        · go_wp2_with fail
          go_round
          case rel => exact ⟨q - 1, r + a, by go_num, by go_num, by omega, S3, S2, by omega⟩
          case measure => simp [intOf]; omega
      · have c1' : decide ((4294967296 : Int) ≤ (q : Int)) = false := decide_eq_false c1
        have c1'' : (q : Int) < 4294967296 := by omega
        clear c1
        obtain ⟨pr, x1, x2, x3⟩ := SzDiv.small q b (by omega) b6
        have X3 := Lib.hid x3
        clear x3
        by_cases c3 : 4294967296 * (r : Int) + (d1 : Int) < (pr : Int)
        rotate_left
        · have c3' : decide (4294967296 * (r : Int) + (d1 : Int) < (pr : Int)) = false := decide_eq_false c3
          have R := Lib.hid (SzDiv.done a b u d1 q r (by omega) hq.out ht.out (by rw [← X3.out]; omega))
          go_wp2_with fail
          go_meet
          exact ⟨by rw [Ht.out, ← R.out], rfl⟩
        · have c3' : decide (4294967296 * (r : Int) + (d1 : Int) < (pr : Int)) = true := decide_eq_true c3
          obtain ⟨s1, s2, s3⟩ := SzDiv.step a b u d1 q r (by omega) b9' g4 hq.out ht.out (.inr (by rw [← X3.out]; omega))
          have S2 := Lib.hid s2
          have S3 := Lib.hid s3
          clear s2 s3 hq ht
          by_cases c2 : (4294967296 : Int) ≤ (r : Int) + (a : Int)
          · have R := Lib.hid (SzDiv.left a b u d1 (q - 1) (r + a) (by omega) b6 b9' S3.out S2.out (by omega))
            go_wp2_with fail
            go_meet
            exact ⟨by rw [Ht.out, ← R.out]; go_num, rfl⟩
          · go_wp2_with fail
            go_round
            case rel => exact ⟨q - 1, r + a, by go_num, by go_num, by omega, S3, S2, by omega⟩
            case measure => simp [intOf]; omega
  case rest =>
    obtain ⟨rfl, rfl⟩ := hcut
    clear f1 f2
    have hrest := HR.out
    have f1' := F1'.out
    have f2' := F2'.out
    go_upto_block 2 with (fail)
    clear hrest
    go_cut [18] (fun s18 wx => s18 = .int .u64 (t0 : Int) ∧ w = wx)
    case first =>
      go_wp2_with fail
      go_loop [18, 16] (fun q' r' => ∃ q r : Nat, q' = .int .u64 q ∧ r' = .int .u64 r ∧ (r : Int) < 4294967296 ∧ Hid (q * a + r = m) ∧ Hid ((m * 4294967296 + d0) / (a * 4294967296 + b) ≤ q) ∧ (q : Int) ≤ 18446744073709551615) (fun _ r' => 4294967296 - (intOf r').toNat)
      case atStart => exact ⟨q0', r0', rfl, rfl, by omega, F3', by rw [F5'.out]; exact Lib.hid (SzDiv.guess a b m d0 (by omega) g5), by rw [F5'.out]; have := Nat.div_le_self m a; omega⟩
      case round =>
        clear f1' f2' e1 e2 e3 e4 e5 g1 g2 m1 m2 m3 hb
        obtain ⟨q, r, rfl, rfl, hr, hq, ht, hq64⟩ := hrel
        by_cases c1 : (4294967296 : Int) ≤ (q : Int)
        · obtain ⟨s1, s2, s3⟩ := SzDiv.step a b m d0 q r (by omega) hm9 g5 hq.out ht.out (.inl (by omega))
          have S2 := Lib.hid s2
          have S3 := Lib.hid s3
          clear s2 s3 hq ht
          by_cases c2 : (4294967296 : Int) ≤ (r : Int) + (a : Int)
          · have R := Lib.hid (SzDiv.left a b m d0 (q - 1) (r + a) (by omega) b6 hm9 S3.out S2.out (by omega))
            go_wp2_with fail
            go_meet
            exact ⟨by rw [Ht0.out, ← R.out]; go_num, rfl⟩
          · go_wp2_with fail
            go_round
            case rel => exact ⟨q - 1, r + a, by go_num, by go_num, by omega, S3, S2, by omega⟩
            case measure => simp [intOf]; omega
        · have c1' : decide ((4294967296 : Int) ≤ (q : Int)) = false := decide_eq_false c1
          have c1'' : (q : Int) < 4294967296 := by omega
          clear c1
          obtain ⟨pr, x1, x2, x3⟩ := SzDiv.small q b (by omega) b6
          have X3 := Lib.hid x3
          clear x3
          by_cases c3 : 4294967296 * (r : Int) + (d0 : Int) < (pr : Int)
          rotate_left
          · have c3' : decide (4294967296 * (r : Int) + (d0 : Int) < (pr : Int)) = false := decide_eq_false c3
            have R := Lib.hid (SzDiv.done a b m d0 q r (by omega) hq.out ht.out (by rw [← X3.out]; omega))
            go_wp2_with fail
            go_meet
            exact ⟨by rw [Ht0.out, ← R.out], rfl⟩
          · have c3' : decide (4294967296 * (r : Int) + (d0 : Int) < (pr : Int)) = true := decide_eq_true c3
            obtain ⟨s1, s2, s3⟩ := SzDiv.step a b m d0 q r (by omega) hm9 g5 hq.out ht.out (.inr (by rw [← X3.out]; omega))
            have S2 := Lib.hid s2
            have S3 := Lib.hid s3
            clear s2 s3 hq ht
            by_cases c2 : (4294967296 : Int) ≤ (r : Int) + (a : Int)
            · have R := Lib.hid (SzDiv.left a b m d0 (q - 1) (r + a) (by omega) b6 hm9 S3.out S2.out (by omega))
              go_wp2_with fail
              go_meet
              exact ⟨by rw [Ht0.out, ← R.out]; go_num, rfl⟩
            · go_wp2_with fail
              go_round
              case rel => exact ⟨q - 1, r + a, by go_num, by go_num, by omega, S3, S2, by omega⟩
              case measure => simp [intOf]; omega
    case rest =>
      obtain ⟨rfl, rfl⟩ := hcut
      have hrest0 := HR0.out
      have hfin := SzDiv.final t t0 ht9 ht09
      clear f1' f2' e1 e2 e3 e4 e5 g1 g2
      go_wp2_with fail
      go_ret2
      exact ⟨by simp, rfl⟩
set_option maxRecDepth 100000 in
set_option maxHeartbeats 1000000 in
theorem div64_zero (lo y : Nat) (w : World) (h1 : 0 < y) (h2 : y ≤ 18446744073709551615) (h3 : lo ≤ 18446744073709551615) :
   Calls Tryd.prog 50 #[.int .u64 0, .int .u64 lo, .int .u64 y] w fun e w' => e = .returned (.tuple #[.int .u64 ((lo / y : Nat) : Int), .int .u64 ((lo % y : Nat) : Int)]) ∧ ∃ n, w' = w.drewN n := by
  have hy : ((y : Int) == 0) = false := beq_eq_false_iff_ne.2 (by omega)
  have hle : ¬ y ≤ 0 := by omega
  have hq : IntKind.u64.wrap ((lo : Int) / (y : Int)) = ((lo / y : Nat) : Int) := by
    rw [show (lo : Int) / (y : Int) = ((lo / y : Nat) : Int) from rfl]
    have := Nat.div_le_self lo y
    exact SzDiv.wrapN _ (by omega)
  have HQ := Lib.hid hq
  clear hq
  go_enter Tryd.func50, Tryd.ntmps50
  go_wp2_with fail
  go_quiet (fail)
  go_wp2
  go_ret2
  refine ⟨?_, _, rfl⟩
  show Ending.returned (.tuple #[.int .u64 (IntKind.u64.wrap ((lo : Int) / (y : Int))), .int .u64 ((lo : Int) % (y : Int))]) = _
  rw [HQ.out]
  rfl
/-- bits.Div64, for hi < y -/
theorem div64_any (hi lo y : Nat) (w : World) (h1 : hi < y) (h2 : y ≤ 18446744073709551615) (h3 : lo ≤ 18446744073709551615) :
   Calls Tryd.prog 50 #[.int .u64 hi, .int .u64 lo, .int .u64 y] w fun e w' => e = .returned (.tuple #[.int .u64 (((hi * 18446744073709551616 + lo) / y : Nat) : Int), .int .u64 (((hi * 18446744073709551616 + lo) % y : Nat) : Int)]) ∧ Below w.heap.size w w' := by
  rcases Nat.eq_zero_or_pos hi with rfl | h0
  · refine (div64_zero lo y w h1 h2 h3).mono fun e w' h => ⟨by rw [h.1, Nat.zero_mul, Nat.zero_add], ?_⟩
    obtain ⟨n, rfl⟩ := h.2
    exact below_drewN (Below.refl _ _) n
  · exact (div64_hi hi lo y w h1 h0 h2 h3).mono fun e w' h => ⟨h.1, h.2 ▸ Below.refl _ _⟩
end Go.Proofs.YtcgpanjagkblmaaDoor
