/- sizarlaw42.sane. -/
import Derived.Test.YtmfmgeapecapiaaGreatDoorSS9
import Derived.Test.YtmfmgeapecapiaaGreatDoorSS10
import Derived.Test.YtmfmgeapecapiaaGreatDoorSS11
set_option maxHeartbeats 64000001
open Go.Lib (hid)
namespace Go.Proofs.YtmfmgeapecapiaaGreatDoor
open Go.RowKit SzSha SzTree
set_option linter.unusedVariables false
set_option maxRecDepth 100000
def wS42 (gn2 on2 cn gl ol : Nat) (p : TrP) (gc oc bR bS bM : Nat) (z : List Nat) : Nat → Value → Prop
 | 0, fv => fv = .int .i64 0
 | 1, fv => fv = .bool true
 | 2, fv => fv = .bool true
 | 3, fv => fv = .int .i64 0
 | 4, fv => fv = .bool true
 | 5, fv => fv = .bool true
 | 6, fv => fv = .bool true
 | 7, fv => fv = .int .i64 0
 | 8, fv => fv = .bool true
 | 9, fv => fv = .bool true
 | 10, fv => fv = .bool true
 | 11, fv => fv = .slice (some ⟨gn2, on2, none⟩) 2 cn
 | 12, fv => fv = .int .i64 2
 | 13, fv => fv = .bool true
 | 14, fv => fv = .bool true
 | 15, fv => fv = .bool true
 | 16, fv => fv = .slice (some ⟨gn2, on2, none⟩) 2 cn
 | 17, fv => fv = .pointer (some ⟨gn2, on2, none⟩)
 | 18, fv => fv = .pointer (some ⟨gn2, on2 + 33, none⟩)
 | 19, fv => fv = .int .i64 24
 | 20, fv => fv = .bool true
 | 21, fv => fv = .bool true
 | 22, fv => fv = .bool true
 | 23, fv => fv = .int .i64 0
 | 24, fv => fv = .bool true
 | 25, fv => fv = .bool true
 | 26, fv => fv = .bool true
 | 27, fv => fv = .pointer (some ⟨bS, 1, none⟩)
 | 28, fv => fv = lnV ⟨2, 2, 9, 10, 0⟩
 | 29, fv => fv = .pointer (some ⟨bR, 4, none⟩)
 | 30, fv => fv = .slice (some ⟨gl, ol, none⟩) 2 p.c
 | 31, fv => fv = .pointer (some ⟨gl, ol + 5, none⟩)
 | 32, fv => fv = lnV ⟨2, 2, 9, 10, 0⟩
 | 33, fv => fv = .bool true
 | 34, fv => fv = .bool true
 | 35, fv => fv = .bool true
 | 36, fv => fv = .int .i64 0
 | 37, fv => fv = .bool true
 | 38, fv => fv = .bool true
 | 39, fv => fv = .bool true
 | 40, fv => fv = .pointer (some ⟨bM, 1, none⟩)
 | 41, fv => fv = clV ⟨4, 1, true⟩
 | 42, fv => fv = .pointer (some ⟨bR, 5, none⟩)
 | 43, fv => fv = .slice (some ⟨gc, oc, none⟩) 1 p.c2
 | 44, fv => fv = .pointer (some ⟨gc, oc, none⟩)
 | 45, fv => fv = clV ⟨4, 1, true⟩
 | 46, fv => fv = .bool true
 | 47, fv => fv = .bool true
 | 48, fv => fv = .bool true
 | 49, fv => fv = .int .i64 420
 | 50, fv => fv = .bool true
 | 51, fv => fv = .bool true
 | 52, fv => fv = .bool true
 | 53, fv => fv = .int .i64 420
 | 54, fv => fv = .bool true
 | 55, fv => fv = .bool true
 | 56, fv => fv = .bool true
 | 57, fv => fv = .int .i64 0
 | 58, fv => fv = .bool true
 | 59, fv => fv = .bool true
 | 60, fv => fv = .bool true
 | 61, fv => fv = dgV z
 | 62, fv => fv = dgV z
 | 63, fv => fv = .bool true
 | 64, fv => fv = .bool true
 | 65, fv => fv = .bool true
 | _, _ => True
theorem exT_G : trG exT = true := by kernel_rfl
def emT : Tr := ⟨0, 5, 1, 8, [], [], exS⟩
def peT : TrP := ⟨none, 0, 0, none, 0, 0⟩
theorem emT_G : trG emT = true := by kernel_rfl
theorem emT_ok (w : World) : TrOk w emT peT := by
 have iI : ∀ z : Int, -100 ≤ z → z ≤ 100 → I64 z := fun z h1 h2 => by unfold I64; omega
 exact ⟨iI _ (by decide) (by decide), iI _ (by decide) (by decide), iI _ (by decide) (by decide), iI _ (by decide) (by decide), ⟨rfl, Nat.le_refl _, fun _ => rfl, (fun x hx => by cases hx), fun h => absurd h (by decide)⟩, ⟨rfl, Nat.le_refl _, fun _ => rfl, (fun x hx => by cases hx), fun h => absurd h (by decide)⟩, exS_ok.len, exS_ok.bytes, Nat.zero_le _, Nat.zero_le _⟩
def zT : Tr := ⟨0, 0, 0, 0, [], [], zeroD⟩
theorem zT_ok (w : World) : TrOk w zT peT := by
 have iI : ∀ z : Int, -100 ≤ z → z ≤ 100 → I64 z := fun z h1 h2 => by unfold I64; omega
 exact ⟨iI _ (by decide) (by decide), iI _ (by decide) (by decide), iI _ (by decide) (by decide), iI _ (by decide) (by decide), ⟨rfl, Nat.le_refl _, fun _ => rfl, (fun x hx => by cases hx), fun h => absurd h (by decide)⟩, ⟨rfl, Nat.le_refl _, fun _ => rfl, (fun x hx => by cases hx), fun h => absurd h (by decide)⟩, zeroD_ok.len, zeroD_ok.bytes, Nat.zero_le _, Nat.zero_le _⟩
theorem zT_E : trE zT = 420 := trE_no (by kernel_rfl)
theorem lstK_em : lstK emT = treeD [] := by unfold lstK; rw [if_pos emT_G]; rfl
theorem wpList_zero42 {w : World} {ops : Array Oper} {rest : List Oper} {o : Oper} {a : Act} {Q : Exit → Act → World → Prop} (t : TypeId) (cs : Array Value) (e1 : Tryz.prog.built t [] = some cs) (hg : o.guard = none)
  (ho : o.op = .build t #[])
  (h : wpList Tryz.prog ops Q rest (a.put o.dst (.agg cs)) w) : wpList Tryz.prog ops Q (o :: rest) a w := by
 have e0 : ((#[] : Array (Nat × Operand)).map fun (i, x) => (i, a.eval x)).toList = [] := by simp
 refine wpList_build hg t _ ho (by rw [e0, e1]; rfl) ?_
 rw [e0, e1]; exact h
theorem built_zT : Tryz.prog.built 27 [] = some (trC zT peT).toArray := by kernel_rfl
theorem built_zR : Tryz.prog.built 43 [] = some (rtC (rtOf 0 0 zeroD zeroD)).toArray := by kernel_rfl
theorem built_zS : Tryz.prog.built 48 [] = some (shCL 0 ⟨0, 0, 0, 0, 0⟩ zeroD none 0 0).toArray := by kernel_rfl
theorem zT_v : Value.agg (trC zT peT).toArray = trV zT peT := rfl
theorem ver_zero : vfE (vLn ⟨0, 0, 0, 0, 0⟩) (lfL ⟨0, 0, 0, 0, 0⟩ zeroD) 0 (rtOf 0 0 zeroD zeroD).lin [] (rtOf 0 0 zeroD zeroD).listed = 420 := vfE_1 _ _ _ _ _ (by show dclE 0 0 0 = 1; decide)
theorem ver_ex (x s : List Nat) (hx : lstL exT = x) (hs : saltN exT.salt 1 (nLn ⟨2, 2, 9, 10, 0⟩) = s) (y : List Nat) : vfE (vLn ⟨2, 2, 9, 10, 0⟩) (lfL ⟨2, 2, 9, 10, 0⟩ s) ((1 : Nat) : Int) (rtOf 2 1 x y).lin (pathD (exT.ln.map (lvL exT.salt)) 1) (rtOf 2 1 x y).listed = 0 := by
 have h := vf_shown (vLn ⟨2, 2, 9, 10, 0⟩) (by kernel_rfl) (exT.ln.map (lvL exT.salt)) 1 (by simp [exT]) (by simp [exT])
 have e : lstL exT = treeD (exT.ln.map (lvL exT.salt)) := by unfold lstL; rw [if_pos exT_G]
 rw [← hx, ← hs, e]
 exact h
theorem ver_exK (y s : List Nat) (hy : lstK exT = y) (hs : saltN exT.salt 2 (nCl ⟨4, 1, true⟩) = s) (x : List Nat) : vfE (vCl ⟨4, 1, true⟩) (lfK ⟨4, 1, true⟩ s) ((0 : Nat) : Int) (rtOf 2 1 x y).cla (pathD (exT.cl.map (lvK exT.salt)) 0) (rtOf 2 1 x y).claimed = 0 := by
 have h := vf_shown (vCl ⟨4, 1, true⟩) (by kernel_rfl) (exT.cl.map (lvK exT.salt)) 0 (by simp [exT]) (by simp [exT])
 have e : lstK exT = treeD (exT.cl.map (lvK exT.salt)) := by unfold lstK; rw [if_pos exT_G]
 rw [← hy, ← hs, e]
 exact h
theorem nd_ex : (ndL exT.salt ⟨3, 1, 6, 4, 0⟩).p = 24 := by
 unfold ndL leafR
 rw [if_pos (by unfold lOk; decide)]
 rfl
theorem path_exL : (pathD (exT.ln.map (lvL exT.salt)) 1).length = 1 := by rw [pathD_length]; decide
theorem path_exK : (pathD (exT.cl.map (lvK exT.salt)) 0).length = 0 := by rw [pathD_length]; decide
theorem sane42 (w : World) (hT : Hid (Tabs w)) :
  Calls Tryz.prog 8 #[] w fun e w' => e = .returned (.bool true) ∧ Below w.heap.size w w' := by
 go_enter Tryz.func8, Tryz.ntmps8
 go_wp2_with fail
 refine (example_any w).mono ?_
 rintro e w1 ⟨p, rfl, ho1, hq1⟩
 have HG := hid exT_G
 have HE : Hid (trE exT = 0) := hid (trE_yes exT_G)
 have HN1 : Hid ((Tryz.prog.info? 27).map (·.size) = some (trC exT p).toArray.size) := hid (trV_info exT p rfl)
 have HN2 : Hid ((trC exT p).toArray.size = 38) := hid (by simp [trC, exT, exS])
 obtain ⟨W2, HW2, hw2, hb2⟩ := lay_row w1 27 #[.int .i64 0, .int .i64 0, .int .i64 0, .int .i64 0, .slice none 0 0, .slice none 0 0, .int .u8 0, .int .u8 0, .int .u8 0, .int .u8 0, .int .u8 0, .int .u8 0, .int .u8 0, .int .u8 0, .int .u8 0, .int .u8 0, .int .u8 0, .int .u8 0, .int .u8 0, .int .u8 0, .int .u8 0, .int .u8 0, .int .u8 0, .int .u8 0, .int .u8 0, .int .u8 0, .int .u8 0, .int .u8 0, .int .u8 0, .int .u8 0, .int .u8 0, .int .u8 0, .int .u8 0, .int .u8 0, .int .u8 0, .int .u8 0, .int .u8 0, .int .u8 0] (trC exT p).toArray
 have HB2 := hid (hq1.trans (hb2.mono hq1.size))
 have HR2 := hid hw2
 have HO2 := hid (ho1.below hb2)
 have hT2 := hid (hT.out.below HB2.out)
 clear hq1 ho1 hw2 hb2
 rw [show trV exT p = .agg (trC exT p).toArray from rfl]
 go_wp2_with (first | (refine wpList_store_row rfl 27 (.tmp 1) (.tmp 21) rfl w1.heap.size (trC exT p).toArray rfl rfl 27 _ (heap_alloc_new w1 _) HN1.out HN2.out.symm (trC_one _ _) ?_; rw [HW2.out]) | (refine wpList_load_row rfl 27 (.tmp 1) rfl w1.heap.size rfl 27 _ (0, 0) _ HR2.out Tryz.underlying27 rfl HN1.out ?_))
 rw [show Value.agg (trC exT p).toArray = trV exT p from rfl]
 refine (lstL_any exT p _ HO2 hT2).mono ?_
 rintro e w3 ⟨rfl, hq3⟩
 rw [HE.out]
 have HBk3 := hid (HB2.out.trans (hq3.mono HB2.out.size))
 have HRk3 := hid (row_kept HR2.out hq3)
 have HOk3 := hid (HO2.out.below hq3)
 have hTk3 := hid (hT2.out.below hq3)
 obtain ⟨x, HX⟩ : ∃ d, Hid (lstL exT = d) := ⟨_, hid rfl⟩
 have HXO : Hid (DgOk x) := hid (by rw [← HX.out]; exact lstL_ok exT)
 have HX1 := hid (dgC_info HXO.out)
 have HX2 := hid (dgC_size HXO.out)
 rw [HX.out, dgV_agg x]
 obtain ⟨W4, HW4, hw, hb⟩ := lay_row w3 25 #[.int .u8 0, .int .u8 0, .int .u8 0, .int .u8 0, .int .u8 0, .int .u8 0, .int .u8 0, .int .u8 0, .int .u8 0, .int .u8 0, .int .u8 0, .int .u8 0, .int .u8 0, .int .u8 0, .int .u8 0, .int .u8 0, .int .u8 0, .int .u8 0, .int .u8 0, .int .u8 0, .int .u8 0, .int .u8 0, .int .u8 0, .int .u8 0, .int .u8 0, .int .u8 0, .int .u8 0, .int .u8 0, .int .u8 0, .int .u8 0, .int .u8 0, .int .u8 0] (dgC x).toArray
 have HBk4 := hid (HBk3.out.trans (hb.mono HBk3.out.size))
 have HRk4 := hid (row_kept HRk3.out hb)
 have HOk4 := hid (HOk3.out.below hb)
 have hTk4 := hid (hTk3.out.below hb)
 have HDx0 := hid hw
 clear hw hb
 go_wp2_with (first | (refine wpList_store_row rfl 25 (.tmp 2) (.tmp 25) rfl w3.heap.size (dgC x).toArray rfl rfl 25 _ (heap_alloc_new w3 _) HX1.out HX2.out (dgC_one _) ?_; rw [HW4.out]) | (refine wpList_load_row rfl 27 (.tmp 1) rfl w1.heap.size rfl 27 _ (0, 0) _ HRk4.out Tryz.underlying27 rfl HN1.out ?_))
 rw [show Value.agg (trC exT p).toArray = trV exT p from rfl]
 refine (lstK_any exT p _ HOk4 hTk4).mono ?_
 rintro e w5 ⟨rfl, hq5⟩
 rw [HE.out]
 have HBk5 := hid (HBk4.out.trans (hq5.mono HBk4.out.size))
 have HRk5 := hid (row_kept HRk4.out hq5)
 have HDxk5 := hid (row_kept HDx0.out hq5)
 have HOk5 := hid (HOk4.out.below hq5)
 have hTk5 := hid (hTk4.out.below hq5)
 obtain ⟨y, HY⟩ : ∃ d, Hid (lstK exT = d) := ⟨_, hid rfl⟩
 have HYO : Hid (DgOk y) := hid (by rw [← HY.out]; exact lstK_ok exT)
 have HY1 := hid (dgC_info HYO.out)
 have HY2 := hid (dgC_size HYO.out)
 rw [HY.out, dgV_agg y]
 obtain ⟨W6, HW6, hw, hb⟩ := lay_row w5 25 #[.int .u8 0, .int .u8 0, .int .u8 0, .int .u8 0, .int .u8 0, .int .u8 0, .int .u8 0, .int .u8 0, .int .u8 0, .int .u8 0, .int .u8 0, .int .u8 0, .int .u8 0, .int .u8 0, .int .u8 0, .int .u8 0, .int .u8 0, .int .u8 0, .int .u8 0, .int .u8 0, .int .u8 0, .int .u8 0, .int .u8 0, .int .u8 0, .int .u8 0, .int .u8 0, .int .u8 0, .int .u8 0, .int .u8 0, .int .u8 0, .int .u8 0, .int .u8 0] (dgC y).toArray
 have HBk6 := hid (HBk5.out.trans (hb.mono HBk5.out.size))
 have HRk6 := hid (row_kept HRk5.out hb)
 have HDxk6 := hid (row_kept HDxk5.out hb)
 have HOk6 := hid (HOk5.out.below hb)
 have hTk6 := hid (hTk5.out.below hb)
 have HDy0 := hid hw
 clear hw hb
 go_wp2_with (first | (refine wpList_store_row rfl 25 (.tmp 4) (.tmp 30) rfl w5.heap.size (dgC y).toArray rfl rfl 25 _ (heap_alloc_new w5 _) HY1.out HY2.out (dgC_one _) ?_; rw [HW6.out]) | (refine wpList_load_row rfl 27 (.tmp 1) rfl w1.heap.size rfl 27 _ (0, 0) _ HRk6.out Tryz.underlying27 rfl HN1.out ?_))
 rw [show Value.agg (trC exT p).toArray = trV exT p from rfl]
 refine (nodes_yes exT p _ HOk6 hTk6 HG).mono ?_
 rintro e w7 ⟨An, nn, cn, rfl, hin7, hq7⟩
 obtain ⟨gn, on, rfl, _, _⟩ := hin7.rd (by simp [exT])
 have enn : nn = 2 := by have := hin7.len; simp [exT] at this; omega
 subst enn
 have HNI := hid hin7
 clear hin7
 have HBk7 := hid (HBk6.out.trans (hq7.mono HBk6.out.size))
 have HRk7 := hid (row_kept HRk6.out hq7)
 have HDxk7 := hid (row_kept HDxk6.out hq7)
 have HDyk7 := hid (row_kept HDy0.out hq7)
 have HOk7 := hid (HOk6.out.below hq7)
 have hTk7 := hid (hTk6.out.below hq7)
 have zr : I64 ((0 : Nat) : Int) := by unfold I64; omega
 have hsz : (rtC (rtOf 2 1 x y)).toArray.size = 138 := by simp [rtC, rtOf, ndC_length zeroN_ok, dgC_len32 HXO.out, dgC_len32 HYO.out, dgC_len32 zeroD_ok]
 have HNR1 : Hid ((Tryz.prog.info? 43).map (·.size) = some (rtC (rtOf 2 1 x y)).toArray.size) := hid (by rw [hsz]; show _ = some 138; kernel_rfl)
 have HNR2 := hid hsz
 clear hsz zr
 obtain ⟨W8, HW8, hw, hb⟩ := lay_row w7 43 Tryz.zeroCells43 (rtC (rtOf 2 1 x y)).toArray
 have HBk8 := hid (HBk7.out.trans (hb.mono HBk7.out.size))
 have HRk8 := hid (row_kept HRk7.out hb)
 have HDxk8 := hid (row_kept HDxk7.out hb)
 have HDyk8 := hid (row_kept HDyk7.out hb)
 have HOk8 := hid (HOk7.out.below hb)
 have hTk8 := hid (hTk7.out.below hb)
 have HNIk8 := hid (HNI.out.below hb)
 have HRo0 := hid hw
 clear hw hb
 go_wp2_with (first | (refine wpList_load_row rfl 25 (.tmp 2) rfl (w3.heap.size) rfl 25 _ (0, 0) _ HDxk7.out Tryz.underlying25 rfl HX1.out ?_) | (refine wpList_load_row rfl 25 (.tmp 4) rfl (w5.heap.size) rfl 25 _ (0, 0) _ HDyk7.out Tryz.underlying25 rfl HY1.out ?_) | (refine wpList_build_rt rfl (.const (.int .i64 2)) (.const (.int .i64 1)) (.tmp 37) (.tmp 38) rfl 2 1 x y HXO.out.len HYO.out.len rfl rfl rfl rfl ?_) | (refine wpList_store_row rfl 43 (.tmp 8) (.tmp 39) rfl w7.heap.size (rtC (rtOf 2 1 x y)).toArray rfl rfl 43 _ (heap_alloc_new w7 _) HNR1.out HNR2.out.symm (rtC_one _) ?_; rw [HW8.out]) | (refine wpList_load_row rfl 27 (.tmp 1) rfl w1.heap.size rfl 27 _ (0, 0) _ HRk8.out Tryz.underlying27 rfl HN1.out ?_))
 rw [show Value.agg (trC exT p).toArray = trV exT p from rfl]
 have hpn : 1 < p.n := by have := HOk8.out.ln.len; rw [← this]; decide
 refine (shwL_yes exT p 1 ⟨2, 2, 9, 10, 0⟩ _ HOk8 hTk8 HG hpn (hid rfl)).mono ?_
 rintro e w9 ⟨As, ns, cs, rfl, hin9, hq9⟩
 obtain ⟨s1, HS1⟩ : ∃ s1, Hid (saltN exT.salt 1 (nLn ⟨2, 2, 9, 10, 0⟩) = s1) := ⟨_, hid rfl⟩
 have HSO1 : Hid (DgOk s1) := hid (by rw [← HS1.out]; exact saltN_ok _ _ _)
 have HBk9 := hid (HBk8.out.trans (hq9.mono HBk8.out.size))
 have HRk9 := hid (row_kept HRk8.out hq9)
 have HDxk9 := hid (row_kept HDxk8.out hq9)
 have HDyk9 := hid (row_kept HDyk8.out hq9)
 have HRok9 := hid (row_kept HRo0.out hq9)
 have HOk9 := hid (HOk8.out.below hq9)
 have hTk9 := hid (hTk8.out.below hq9)
 have HNIk9 := hid (HNIk8.out.below hq9)
 have HPA := hid hin9
 have HSI : Hid ((Tryz.prog.info? 48).map (·.size) = some (shCL ((1 : Nat) : Int) ⟨2, 2, 9, 10, 0⟩ s1 As ns cs).toArray.size) := hid (shCL_info HSO1.out)
 have HSH : Hid (39 = (shCL ((1 : Nat) : Int) ⟨2, 2, 9, 10, 0⟩ s1 As ns cs).toArray.size) := hid (by simp [shCL, lnC, dgC_len32 HSO1.out])
 rw [HS1.out]
 obtain ⟨W10, HW10, hw, hb⟩ := lay_row w9 48 #[.int .i64 0, .int .i64 0, .int .i64 0, .int .i64 0, .int .i64 0, .int .i64 0, .int .u8 0, .int .u8 0, .int .u8 0, .int .u8 0, .int .u8 0, .int .u8 0, .int .u8 0, .int .u8 0, .int .u8 0, .int .u8 0, .int .u8 0, .int .u8 0, .int .u8 0, .int .u8 0, .int .u8 0, .int .u8 0, .int .u8 0, .int .u8 0, .int .u8 0, .int .u8 0, .int .u8 0, .int .u8 0, .int .u8 0, .int .u8 0, .int .u8 0, .int .u8 0, .int .u8 0, .int .u8 0, .int .u8 0, .int .u8 0, .int .u8 0, .int .u8 0, .slice none 0 0] (shCL ((1 : Nat) : Int) ⟨2, 2, 9, 10, 0⟩ s1 As ns cs).toArray
 have HBk10 := hid (HBk9.out.trans (hb.mono HBk9.out.size))
 have HRk10 := hid (row_kept HRk9.out hb)
 have HDxk10 := hid (row_kept HDxk9.out hb)
 have HDyk10 := hid (row_kept HDyk9.out hb)
 have HRok10 := hid (row_kept HRok9.out hb)
 have HOk10 := hid (HOk9.out.below hb)
 have hTk10 := hid (hTk9.out.below hb)
 have HNIk10 := hid (HNIk9.out.below hb)
 have HPAk10 := hid (HPA.out.below hb)
 have HSh0 := hid hw
 clear hw hb
 go_wp2_with (first | (refine wpList_store_row rfl 48 (.tmp 9) (.tmp 43) rfl w9.heap.size (shCL ((1 : Nat) : Int) ⟨2, 2, 9, 10, 0⟩ s1 As ns cs).toArray rfl rfl 48 _ (heap_alloc_new w9 _) HSI.out HSH.out (shCL_one _ _ _ _ _ _) ?_; rw [HW10.out]) | (refine wpList_load_row rfl 27 (.tmp 1) rfl w1.heap.size rfl 27 _ (0, 0) _ HRk10.out Tryz.underlying27 rfl HN1.out ?_))
 rw [show Value.agg (trC exT p).toArray = trV exT p from rfl]
 have hpc : 0 < p.n2 := by have := HOk10.out.cl.len; rw [← this]; decide
 refine (shwK_yes exT p 0 ⟨4, 1, true⟩ _ HOk10 hTk10 HG hpc (hid rfl)).mono ?_
 rintro e w11 ⟨Am, nm, cm, rfl, hin11, hq11⟩
 obtain ⟨s2, HS2⟩ : ∃ s2, Hid (saltN exT.salt 2 (nCl ⟨4, 1, true⟩) = s2) := ⟨_, hid rfl⟩
 have HSO2 : Hid (DgOk s2) := hid (by rw [← HS2.out]; exact saltN_ok _ _ _)
 have HBk11 := hid (HBk10.out.trans (hq11.mono HBk10.out.size))
 have HRk11 := hid (row_kept HRk10.out hq11)
 have HDxk11 := hid (row_kept HDxk10.out hq11)
 have HDyk11 := hid (row_kept HDyk10.out hq11)
 have HRok11 := hid (row_kept HRok10.out hq11)
 have HShk11 := hid (row_kept HSh0.out hq11)
 have HOk11 := hid (HOk10.out.below hq11)
 have hTk11 := hid (hTk10.out.below hq11)
 have HNIk11 := hid (HNIk10.out.below hq11)
 have HPAk11 := hid (HPAk10.out.below hq11)
 have HPB := hid hin11
 have HMI : Hid ((Tryz.prog.info? 58).map (·.size) = some (shCK ((0 : Nat) : Int) ⟨4, 1, true⟩ s2 Am nm cm).toArray.size) := hid (shCK_info HSO2.out)
 have HMH : Hid (37 = (shCK ((0 : Nat) : Int) ⟨4, 1, true⟩ s2 Am nm cm).toArray.size) := hid (by simp [shCK, clC, dgC_len32 HSO2.out])
 rw [HS2.out]
 obtain ⟨W12, HW12, hw, hb⟩ := lay_row w11 58 #[.int .i64 0, .int .i64 0, .int .i64 0, .bool false, .int .u8 0, .int .u8 0, .int .u8 0, .int .u8 0, .int .u8 0, .int .u8 0, .int .u8 0, .int .u8 0, .int .u8 0, .int .u8 0, .int .u8 0, .int .u8 0, .int .u8 0, .int .u8 0, .int .u8 0, .int .u8 0, .int .u8 0, .int .u8 0, .int .u8 0, .int .u8 0, .int .u8 0, .int .u8 0, .int .u8 0, .int .u8 0, .int .u8 0, .int .u8 0, .int .u8 0, .int .u8 0, .int .u8 0, .int .u8 0, .int .u8 0, .int .u8 0, .slice none 0 0] (shCK ((0 : Nat) : Int) ⟨4, 1, true⟩ s2 Am nm cm).toArray
 have HBk12 := hid (HBk11.out.trans (hb.mono HBk11.out.size))
 have HRk12 := hid (row_kept HRk11.out hb)
 have HDxk12 := hid (row_kept HDxk11.out hb)
 have HDyk12 := hid (row_kept HDyk11.out hb)
 have HRok12 := hid (row_kept HRok11.out hb)
 have HShk12 := hid (row_kept HShk11.out hb)
 have HOk12 := hid (HOk11.out.below hb)
 have hTk12 := hid (hTk11.out.below hb)
 have HNIk12 := hid (HNIk11.out.below hb)
 have HPAk12 := hid (HPAk11.out.below hb)
 have HPBk12 := hid (HPB.out.below hb)
 have HMe0 := hid hw
 clear hw hb
 go_wp2_with (first | (refine wpList_store_row rfl 58 (.tmp 11) (.tmp 48) rfl w11.heap.size (shCK ((0 : Nat) : Int) ⟨4, 1, true⟩ s2 Am nm cm).toArray rfl rfl 58 _ (heap_alloc_new w11 _) HMI.out HMH.out (shCK_one _ _ _ _ _ _) ?_; rw [HW12.out]) | (refine wpList_load_row rfl 27 (.tmp 1) rfl w1.heap.size rfl 27 _ (0, 0) _ HRk12.out Tryz.underlying27 rfl HN1.out ?_))
 rw [show Value.agg (trC exT p).toArray = trV exT p from rfl]
 have hpc2 : p.n2 = 1 := by have := HOk12.out.cl.len; rw [← this]; rfl
 refine (shwK_no exT p 1 _ HOk12 hTk12 (hid (.inr (.inr (by rw [hpc2]; decide))))).mono ?_
 rintro e w13 ⟨rfl, hq13⟩
 have HBk13 := hid (HBk12.out.trans (hq13.mono HBk12.out.size))
 have HRk13 := hid (row_kept HRk12.out hq13)
 have HDxk13 := hid (row_kept HDxk12.out hq13)
 have HDyk13 := hid (row_kept HDyk12.out hq13)
 have HRok13 := hid (row_kept HRok12.out hq13)
 have HShk13 := hid (row_kept HShk12.out hq13)
 have HMek13 := hid (row_kept HMe0.out hq13)
 have HOk13 := hid (HOk12.out.below hq13)
 have hTk13 := hid (hTk12.out.below hq13)
 have HNIk13 := hid (HNIk12.out.below hq13)
 have HPAk13 := hid (HPAk12.out.below hq13)
 have HPBk13 := hid (HPBk12.out.below hq13)
 have HZI : Hid ((Tryz.prog.info? 58).map (·.size) = some (shCK 0 ⟨0, 0, false⟩ zeroD none 0 0).toArray.size) := hid (shCK_info zeroD_ok)
 have HZH : Hid (37 = (shCK 0 ⟨0, 0, false⟩ zeroD none 0 0).toArray.size) := hid (by simp [shCK, clC, dgC_len32 zeroD_ok])
 obtain ⟨W14, HW14, hw, hb⟩ := lay_row w13 58 #[.int .i64 0, .int .i64 0, .int .i64 0, .bool false, .int .u8 0, .int .u8 0, .int .u8 0, .int .u8 0, .int .u8 0, .int .u8 0, .int .u8 0, .int .u8 0, .int .u8 0, .int .u8 0, .int .u8 0, .int .u8 0, .int .u8 0, .int .u8 0, .int .u8 0, .int .u8 0, .int .u8 0, .int .u8 0, .int .u8 0, .int .u8 0, .int .u8 0, .int .u8 0, .int .u8 0, .int .u8 0, .int .u8 0, .int .u8 0, .int .u8 0, .int .u8 0, .int .u8 0, .int .u8 0, .int .u8 0, .int .u8 0, .slice none 0 0] (shCK 0 ⟨0, 0, false⟩ zeroD none 0 0).toArray
 have HBk14 := hid (HBk13.out.trans (hb.mono HBk13.out.size))
 have HRk14 := hid (row_kept HRk13.out hb)
 have HDxk14 := hid (row_kept HDxk13.out hb)
 have HDyk14 := hid (row_kept HDyk13.out hb)
 have HRok14 := hid (row_kept HRok13.out hb)
 have HShk14 := hid (row_kept HShk13.out hb)
 have HMek14 := hid (row_kept HMek13.out hb)
 have HOk14 := hid (HOk13.out.below hb)
 have hTk14 := hid (hTk13.out.below hb)
 have HNIk14 := hid (HNIk13.out.below hb)
 have HPAk14 := hid (HPAk13.out.below hb)
 have HPBk14 := hid (HPBk13.out.below hb)
 have HMz0 := hid hw
 clear hw hb
 obtain ⟨W15, HW15, hw, hb⟩ := lay_row W14 27 #[.int .i64 0, .int .i64 0, .int .i64 0, .int .i64 0, .slice none 0 0, .slice none 0 0, .int .u8 0, .int .u8 0, .int .u8 0, .int .u8 0, .int .u8 0, .int .u8 0, .int .u8 0, .int .u8 0, .int .u8 0, .int .u8 0, .int .u8 0, .int .u8 0, .int .u8 0, .int .u8 0, .int .u8 0, .int .u8 0, .int .u8 0, .int .u8 0, .int .u8 0, .int .u8 0, .int .u8 0, .int .u8 0, .int .u8 0, .int .u8 0, .int .u8 0, .int .u8 0, .int .u8 0, .int .u8 0, .int .u8 0, .int .u8 0, .int .u8 0, .int .u8 0] (trC exT p).toArray
 obtain ⟨W16, HW16⟩ : ∃ W, Hid ((W15.setCell ⟨W14.heap.size, 4, none⟩ (.slice none 0 0)).setCell ⟨W14.heap.size, 5, none⟩ (.slice none 0 0) = W) := ⟨_, hid rfl⟩
 have e4 := setCell_eq_setRow W15 W14.heap.size 4 _ _ _ (.slice none 0 0) hw
 have r4 := setRow_heap W15 W14.heap.size _ ((trC exT p).toArray.setIfInBounds 4 (.slice none 0 0)) _ _ hw
 have e5 := setCell_eq_setRow _ W14.heap.size 5 _ _ _ (.slice none 0 0) r4
 have r5 := setRow_heap _ W14.heap.size _ (((trC exT p).toArray.setIfInBounds 4 (.slice none 0 0)).setIfInBounds 5 (.slice none 0 0)) _ _ r4
 have hb16 := below_setRow (below_setRow hb (Nat.le_refl _) ((trC exT p).toArray.setIfInBounds 4 (.slice none 0 0))) (Nat.le_refl _) (((trC exT p).toArray.setIfInBounds 4 (.slice none 0 0)).setIfInBounds 5 (.slice none 0 0))
 have hw16 := HW16.out
 rw [e4, e5] at hw16
 rw [hw16] at r5 hb16
 have k4 : W15.cell? ⟨W14.heap.size, 4, none⟩ = some (.slice p.A p.n p.c) := by rw [cell_of_row _ _ _ _ _ _ hw]; rfl
 have k5 : W15.cell? ⟨W14.heap.size, 5, none⟩ = some (.slice p.A2 p.n2 p.c2) := by rw [cell_of_row _ _ _ _ _ _ hw]; rfl
 have f4 : W15.frozen? ⟨W14.heap.size, 4, none⟩ = false := frozen_of_row _ _ _ _ _ hw
 have f5 : W15.frozen? ⟨W14.heap.size, 5, none⟩ = false := frozen_of_row _ _ _ _ _ hw
 have HBk15 := hid (HBk14.out.trans (hb16.mono HBk14.out.size))
 have HRk15 := hid (row_kept HRk14.out hb16)
 have HDxk15 := hid (row_kept HDxk14.out hb16)
 have HDyk15 := hid (row_kept HDyk14.out hb16)
 have HRok15 := hid (row_kept HRok14.out hb16)
 have HShk15 := hid (row_kept HShk14.out hb16)
 have HMek15 := hid (row_kept HMek14.out hb16)
 have HMzk15 := hid (row_kept HMz0.out hb16)
 have HOk15 := hid (HOk14.out.below hb16)
 have hTk15 := hid (hTk14.out.below hb16)
 have HNIk15 := hid (HNIk14.out.below hb16)
 have HPAk15 := hid (HPAk14.out.below hb16)
 have HPBk15 := hid (HPBk14.out.below hb16)
 have HEm0 : Hid (W16.heap[W14.heap.size]? = some (.cells (trC emT peT).toArray 27 (0, 0))) := hid r5
 clear hw hb e4 r4 e5 r5 hb16 hw16
 have HNE : Hid ((Tryz.prog.info? 27).map (·.size) = some (trC emT peT).toArray.size) := hid (trV_info emT peT rfl)
 go_wp2_with (first | (refine wpList_store_row rfl 58 (.tmp 13) (.tmp 53) rfl w13.heap.size (shCK 0 ⟨0, 0, false⟩ zeroD none 0 0).toArray rfl rfl 58 _ (heap_alloc_new w13 _) HZI.out HZH.out (shCK_one _ _ _ _ _ _) ?_; rw [HW14.out]) | (refine wpList_store_row rfl 27 (.tmp 15) (.tmp 55) rfl W14.heap.size (trC exT p).toArray rfl rfl 27 _ (heap_alloc_new W14 _) HN1.out HN2.out.symm (trC_one _ _) ?_; rw [HW15.out]) | (refine wpList_load_row rfl 27 (.tmp 1) rfl w1.heap.size rfl 27 _ (0, 0) _ HRk14.out Tryz.underlying27 rfl HN1.out ?_) | (rw [HW16.out]; refine wpList_load_row rfl 27 (.tmp 15) rfl (W14.heap.size) rfl 27 _ (0, 0) _ HEm0.out Tryz.underlying27 rfl HNE.out ?_))
 clear k4 k5 f4 f5
 rw [show Value.agg (trC emT peT).toArray = trV emT peT from rfl]
 refine (shwL_no emT peT 0 _ (hid (emT_ok _)) hTk15 (hid (.inr (.inr (by decide))))).mono ?_
 rintro e w17 ⟨rfl, hq17⟩
 have HBk16 := hid (HBk15.out.trans (hq17.mono HBk15.out.size))
 have HRk16 := hid (row_kept HRk15.out hq17)
 have HDxk16 := hid (row_kept HDxk15.out hq17)
 have HDyk16 := hid (row_kept HDyk15.out hq17)
 have HRok16 := hid (row_kept HRok15.out hq17)
 have HShk16 := hid (row_kept HShk15.out hq17)
 have HMek16 := hid (row_kept HMek15.out hq17)
 have HMzk16 := hid (row_kept HMzk15.out hq17)
 have HEmk16 := hid (row_kept HEm0.out hq17)
 have HOk16 := hid (HOk15.out.below hq17)
 have hTk16 := hid (hTk15.out.below hq17)
 have HNIk16 := hid (HNIk15.out.below hq17)
 have HPAk16 := hid (HPAk15.out.below hq17)
 have HPBk16 := hid (HPBk15.out.below hq17)
 have HSZI : Hid ((Tryz.prog.info? 48).map (·.size) = some (shCL 0 ⟨0, 0, 0, 0, 0⟩ zeroD none 0 0).toArray.size) := hid (shCL_info zeroD_ok)
 have HSZH : Hid (39 = (shCL 0 ⟨0, 0, 0, 0, 0⟩ zeroD none 0 0).toArray.size) := hid (by simp [shCL, lnC, dgC_len32 zeroD_ok])
 obtain ⟨W17, HW17, hw, hb⟩ := lay_row w17 48 #[.int .i64 0, .int .i64 0, .int .i64 0, .int .i64 0, .int .i64 0, .int .i64 0, .int .u8 0, .int .u8 0, .int .u8 0, .int .u8 0, .int .u8 0, .int .u8 0, .int .u8 0, .int .u8 0, .int .u8 0, .int .u8 0, .int .u8 0, .int .u8 0, .int .u8 0, .int .u8 0, .int .u8 0, .int .u8 0, .int .u8 0, .int .u8 0, .int .u8 0, .int .u8 0, .int .u8 0, .int .u8 0, .int .u8 0, .int .u8 0, .int .u8 0, .int .u8 0, .int .u8 0, .int .u8 0, .int .u8 0, .int .u8 0, .int .u8 0, .int .u8 0, .slice none 0 0] (shCL 0 ⟨0, 0, 0, 0, 0⟩ zeroD none 0 0).toArray
 have HBk17 := hid (HBk16.out.trans (hb.mono HBk16.out.size))
 have HRk17 := hid (row_kept HRk16.out hb)
 have HDxk17 := hid (row_kept HDxk16.out hb)
 have HDyk17 := hid (row_kept HDyk16.out hb)
 have HRok17 := hid (row_kept HRok16.out hb)
 have HShk17 := hid (row_kept HShk16.out hb)
 have HMek17 := hid (row_kept HMek16.out hb)
 have HMzk17 := hid (row_kept HMzk16.out hb)
 have HEmk17 := hid (row_kept HEmk16.out hb)
 have HOk17 := hid (HOk16.out.below hb)
 have hTk17 := hid (hTk16.out.below hb)
 have HNIk17 := hid (HNIk16.out.below hb)
 have HPAk17 := hid (HPAk16.out.below hb)
 have HPBk17 := hid (HPBk16.out.below hb)
 have HSz0 := hid hw
 clear hw hb
 go_wp2_with (first | (refine wpList_store_row rfl 48 (.tmp 16) (.tmp 61) rfl w17.heap.size (shCL 0 ⟨0, 0, 0, 0, 0⟩ zeroD none 0 0).toArray rfl rfl 48 _ (heap_alloc_new w17 _) HSZI.out HSZH.out (shCL_one _ _ _ _ _ _) ?_; rw [HW17.out]) | (refine wpList_load_row rfl 27 (.tmp 15) rfl (W14.heap.size) rfl 27 _ (0, 0) _ HEmk17.out Tryz.underlying27 rfl HNE.out ?_))
 rw [show Value.agg (trC emT peT).toArray = trV emT peT from rfl]
 refine (lstK_any emT peT _ (hid (emT_ok _)) hTk17).mono ?_
 rintro e w19 ⟨rfl, hq19⟩
 have HBk18 := hid (HBk17.out.trans (hq19.mono HBk17.out.size))
 have HRk18 := hid (row_kept HRk17.out hq19)
 have HDxk18 := hid (row_kept HDxk17.out hq19)
 have HDyk18 := hid (row_kept HDyk17.out hq19)
 have HRok18 := hid (row_kept HRok17.out hq19)
 have HShk18 := hid (row_kept HShk17.out hq19)
 have HMek18 := hid (row_kept HMek17.out hq19)
 have HMzk18 := hid (row_kept HMzk17.out hq19)
 have HEmk18 := hid (row_kept HEmk17.out hq19)
 have HSzk18 := hid (row_kept HSz0.out hq19)
 have HOk18 := hid (HOk17.out.below hq19)
 have hTk18 := hid (hTk17.out.below hq19)
 have HNIk18 := hid (HNIk17.out.below hq19)
 have HPAk18 := hid (HPAk17.out.below hq19)
 have HPBk18 := hid (HPBk17.out.below hq19)
 rw [lstK_em, trE_yes emT_G]
 obtain ⟨z, HZ⟩ : ∃ d, Hid (treeD [] = d) := ⟨_, hid rfl⟩
 have HZO : Hid (DgOk z) := hid (by rw [← HZ.out]; exact ⟨treeD_length _, treeD_bytes _⟩)
 have HZ1 := hid (dgC_info HZO.out)
 have HZ2 := hid (dgC_size HZO.out)
 rw [HZ.out, dgV_agg z]
 obtain ⟨W19, HW19, hw, hb⟩ := lay_row w19 25 #[.int .u8 0, .int .u8 0, .int .u8 0, .int .u8 0, .int .u8 0, .int .u8 0, .int .u8 0, .int .u8 0, .int .u8 0, .int .u8 0, .int .u8 0, .int .u8 0, .int .u8 0, .int .u8 0, .int .u8 0, .int .u8 0, .int .u8 0, .int .u8 0, .int .u8 0, .int .u8 0, .int .u8 0, .int .u8 0, .int .u8 0, .int .u8 0, .int .u8 0, .int .u8 0, .int .u8 0, .int .u8 0, .int .u8 0, .int .u8 0, .int .u8 0, .int .u8 0] (dgC z).toArray
 have HBk19 := hid (HBk18.out.trans (hb.mono HBk18.out.size))
 have HRk19 := hid (row_kept HRk18.out hb)
 have HDxk19 := hid (row_kept HDxk18.out hb)
 have HDyk19 := hid (row_kept HDyk18.out hb)
 have HRok19 := hid (row_kept HRok18.out hb)
 have HShk19 := hid (row_kept HShk18.out hb)
 have HMek19 := hid (row_kept HMek18.out hb)
 have HMzk19 := hid (row_kept HMzk18.out hb)
 have HEmk19 := hid (row_kept HEmk18.out hb)
 have HSzk19 := hid (row_kept HSzk18.out hb)
 have HOk19 := hid (HOk18.out.below hb)
 have hTk19 := hid (hTk18.out.below hb)
 have HNIk19 := hid (HNIk18.out.below hb)
 have HPAk19 := hid (HPAk18.out.below hb)
 have HPBk19 := hid (HPBk18.out.below hb)
 have HDz0 := hid hw
 clear hw hb
 obtain ⟨gl, ol, hal, hgl, hrl⟩ := HOk19.out.ln.rd (by decide)
 obtain ⟨gc, oc, hac, hgc, hrc⟩ := HOk19.out.cl.rd (by decide)
 have hpn2 := HOk19.out.ln.len
 have hpc3 := HOk19.out.cl.len
 have kl : W19.cell? ⟨w1.heap.size, 4, none⟩ = some (.slice (some ⟨gl, ol, none⟩) 2 p.c) := by rw [cell_of_row _ _ _ _ _ _ HRk19.out]; show some (Value.slice p.A p.n p.c) = _; rw [hal, ← hpn2]; rfl
 have kc : W19.cell? ⟨w1.heap.size, 5, none⟩ = some (.slice (some ⟨gc, oc, none⟩) 1 p.c2) := by rw [cell_of_row _ _ _ _ _ _ HRk19.out]; show some (Value.slice p.A2 p.n2 p.c2) = _; rw [hac, ← hpc3]; rfl
 have KL : Hid (W19.rangeAt gl (ol + 5) (lnC ⟨2, 2, 9, 10, 0⟩)) := hid (range_elem (k := 5) (cells := lnC) (fun _ => rfl) hrl 1 (by decide))
 have KC : Hid (W19.rangeAt gc oc (clC ⟨4, 1, true⟩)) := hid (range_elem (k := 3) (cells := clC) (fun _ => rfl) hrc 0 (by decide))
 have KS : Hid (W19.rangeAt w9.heap.size 1 (lnC ⟨2, 2, 9, 10, 0⟩)) := hid (shCL_x HShk19.out)
 have KM : Hid (W19.rangeAt w11.heap.size 1 (clC ⟨4, 1, true⟩)) := hid (shCK_x HMek19.out)
 obtain ⟨gn2, on2, hne, hgn2, hrn⟩ := HNIk19.out.rd (by simp [exT])
 have e1 : gn2 = gn ∧ on2 = on := by simp only [Option.some.injEq, Addr.mk.injEq] at hne; exact ⟨hne.1.symm, hne.2.1.symm⟩
 obtain ⟨rfl, rfl⟩ := e1
 have mn : W19.cell? ⟨gn2, on2 + 33, none⟩ = some (.int .i64 24) := by have h := range_one hrn HNIk19.out.ok 0 (by simp [exT]) 33 _ (ndC_p (HNIk19.out.ok _ (List.getElem_mem _))); rw [← nd_ex]; exact h
 have HLI : Hid ((Tryz.prog.info? 45).map (·.size) = some (lnC ⟨2, 2, 9, 10, 0⟩).length) := hid (lnC_infoL _)
 have HCI : Hid ((Tryz.prog.info? 56).map (·.size) = some (clC ⟨4, 1, true⟩).length) := hid (clC_infoL _)
 clear hal hgl hrl hac hgc hrc hpn2 hpc3 hne hgn2 hrn
 have le1 : lnEq ⟨2, 2, 9, 10, 0⟩ ⟨2, 2, 9, 10, 0⟩ = true := by decide
 have le2 : clEq ⟨4, 1, true⟩ ⟨4, 1, true⟩ = true := by decide
 go_wp2_with (refine wpList_store_row rfl 25 (.tmp 18) (.tmp 66) rfl w19.heap.size (dgC z).toArray rfl rfl 25 _ (heap_alloc_new w19 _) HZ1.out HZ2.out (dgC_one _) ?_; rw [HW19.out])
 simp only [List.append_eq, List.cons_append, List.nil_append]
 clear HBk3 HRk3 HOk3 HX1 HX2 HBk4 HRk4 HOk4 HDx0 HBk5 HRk5 HDxk5 HOk5 HY1 HY2 HBk6 HRk6 HDxk6 HOk6 HDy0 HNI HBk7 HRk7 HDxk7 HDyk7 HOk7 HNR2 HBk8 HRk8 HDxk8 HDyk8 HOk8 HNIk8 HRo0 HBk9 HRk9 HDxk9 HDyk9 HRok9 HOk9 HNIk9 HPA HSH HBk10 HRk10 HDxk10 HDyk10 HRok10 HOk10 HNIk10 HPAk10 HSh0 HBk11 HRk11 HDxk11 HDyk11 HRok11 HShk11 HOk11 HNIk11 HPAk11 HPB HMH HBk12 HRk12 HDxk12 HDyk12 HRok12 HShk12 HOk12 HNIk12 HPAk12 HPBk12 HMe0 HBk13 HRk13 HDxk13 HDyk13 HRok13 HShk13 HMek13 HOk13 HNIk13 HPAk13 HPBk13 HZI HZH HBk14 HRk14 HDxk14 HDyk14 HRok14 HShk14 HMek14 HOk14 HNIk14 HPAk14 HPBk14 HMz0 HBk15 HRk15 HDxk15 HDyk15 HRok15 HShk15 HMek15 HMzk15 HOk15 HNIk15 HPAk15 HPBk15 HEm0 HNE HBk16 HRk16 HDxk16 HDyk16 HRok16 HShk16 HMek16 HMzk16 HEmk16 HOk16 HNIk16 HPAk16 HPBk16 HSZI HSZH HBk17 HRk17 HDxk17 HDyk17 HRok17 HShk17 HMek17 HMzk17 HEmk17 HOk17 HNIk17 HPAk17 HPBk17 HSz0 HBk18 HRk18 HDxk18 HDyk18 HRok18 HShk18 HMek18 HMzk18 HEmk18 HSzk18 HOk18 HNIk18 HPAk18 HPBk18 HZ2 HW4 HW6 HW8 HW10 HW12 HW14 HW15 HW16 HW17 HW19 HW2 HN2
 refine region_flow (by kernel_rfl) (by kernel_rfl) (fun i => i) (by kernel_rfl) (fun fx => #[.bool false, .pointer (some { block := w1.heap.size, off := 0 }), .pointer (some { block := w3.heap.size, off := 0 }), .int IntKind.i64 0, .pointer (some { block := w5.heap.size, off := 0 }), .int IntKind.i64 0, .slice (some { block := gn2, off := on2 }) 2 cn, .int IntKind.i64 0, .pointer (some { block := w7.heap.size, off := 0 }), .pointer (some { block := w9.heap.size, off := 0 }), .int IntKind.i64 0, .pointer (some { block := w11.heap.size, off := 0 }), .int IntKind.i64 0, .pointer (some { block := w13.heap.size, off := 0 }), .int IntKind.i64 420, .pointer (some { block := W14.heap.size, off := 0 }), .pointer (some { block := w17.heap.size, off := 0 }), .int IntKind.i64 420, .pointer (some { block := w19.heap.size, off := 0 }), .int IntKind.i64 0, fx 65, trV exT p, .tuple #[.agg (dgC x).toArray, .int IntKind.i64 0], trV exT p, .tuple #[.agg (dgC x).toArray, .int IntKind.i64 0], .agg (dgC x).toArray, .int IntKind.i64 0, .tuple #[.agg (dgC y).toArray, .int IntKind.i64 0], trV exT p, .tuple #[.agg (dgC y).toArray, .int IntKind.i64 0], .agg (dgC y).toArray, .int IntKind.i64 0, .tuple #[.slice (some { block := gn2, off := on2 }) 2 cn, .int IntKind.i64 0], trV exT p, .tuple #[.slice (some { block := gn2, off := on2 }) 2 cn, .int IntKind.i64 0], .slice (some { block := gn2, off := on2 }) 2 cn, .int IntKind.i64 0, .agg (dgC x).toArray, .agg (dgC y).toArray, .agg (rtC (rtOf 2 1 x y)).toArray, .tuple #[.agg (shCL 1 { c0 := 2, c1 := 2, c2 := 9, c3 := 10, c4 := 0 } s1 As ns cs).toArray, .int IntKind.i64 0], trV exT p, .tuple #[.agg (shCL 1 { c0 := 2, c1 := 2, c2 := 9, c3 := 10, c4 := 0 } s1 As ns cs).toArray, .int IntKind.i64 0], .agg (shCL 1 { c0 := 2, c1 := 2, c2 := 9, c3 := 10, c4 := 0 } s1 As ns cs).toArray, .int IntKind.i64 0, .tuple #[.agg (shCK 0 { p := 4, r := 1, m := true } s2 Am nm cm).toArray, .int IntKind.i64 0], trV exT p, .tuple #[.agg (shCK 0 { p := 4, r := 1, m := true } s2 Am nm cm).toArray, .int IntKind.i64 0], .agg (shCK 0 { p := 4, r := 1, m := true } s2 Am nm cm).toArray, .int IntKind.i64 0, .tuple #[.agg (shCK 0 { p := 0, r := 0, m := false } zeroD none 0 0).toArray, .int IntKind.i64 420], trV exT p, .tuple #[.agg (shCK 0 { p := 0, r := 0, m := false } zeroD none 0 0).toArray, .int IntKind.i64 420], .agg (shCK 0 { p := 0, r := 0, m := false } zeroD none 0 0).toArray, .int IntKind.i64 420, .agg (trC exT p).toArray, .pointer (some { block := W14.heap.size, off := 4 }), .pointer (some { block := W14.heap.size, off := 5 }), .tuple #[.agg (shCL 0 { c0 := 0, c1 := 0, c2 := 0, c3 := 0, c4 := 0 } zeroD none 0 0).toArray, .int IntKind.i64 420], trV emT peT, .tuple #[.agg (shCL 0 { c0 := 0, c1 := 0, c2 := 0, c3 := 0, c4 := 0 } zeroD none 0 0).toArray, .int IntKind.i64 420], .agg (shCL 0 { c0 := 0, c1 := 0, c2 := 0, c3 := 0, c4 := 0 } zeroD none 0 0).toArray, .int IntKind.i64 420, .tuple #[.agg (dgC z).toArray, .int IntKind.i64 0], trV emT peT, .tuple #[.agg (dgC z).toArray, .int IntKind.i64 0], .agg (dgC z).toArray, .int IntKind.i64 0, fx 0, fx 1, fx 2, fx 3, fx 4, fx 5, fx 6, fx 7, fx 8, fx 9, fx 10, fx 11, fx 12, fx 13, fx 14, fx 15, fx 16, fx 17, fx 18, fx 19, fx 20, fx 21, fx 22, fx 23, fx 24, fx 25, fx 26, fx 27, fx 28, fx 29, fx 30, fx 31, fx 32, fx 33, fx 34, fx 35, fx 36, fx 37, fx 38, fx 39, fx 40, fx 41, fx 42, fx 43, fx 44, fx 45, fx 46, fx 47, fx 48, fx 49, fx 50, fx 51, fx 52, fx 53, fx 54, fx 55, fx 56, fx 57, fx 58, fx 59, fx 60, fx 61, fx 62, fx 63, fx 64, undef, undef, undef, undef, undef, undef, undef, undef, undef, undef, undef, undef, undef, undef, undef, undef, undef, undef, undef, undef, undef, undef, undef, undef, undef, undef, undef, undef, undef]) (fun _ => undef) (fun w' => Below W19.heap.size W19 w') (fun fi fv _ _ => wS42 gn2 on2 cn gl ol p gc oc w1.heap.size w9.heap.size w11.heap.size z fi fv) (hid ((Below.refl W19.heap.size W19).drew)).out ?_ ?_
 ·refine ⟨?_, ?_, ?_, ?_, ?_, ?_, ?_, ?_, ?_, ?_, ?_, ?_, ?_, ?_, ?_, ?_, ?_, ?_, ?_, ?_, ?_, ?_, ?_, ?_, ?_, ?_, ?_, ?_, ?_, ?_, ?_, ?_, ?_, ?_, ?_, ?_, ?_, ?_, ?_, ?_, ?_, ?_, ?_, ?_, ?_, ?_, ?_, ?_, ?_, ?_, ?_, ?_, ?_, ?_, ?_, ?_, ?_, ?_, ?_, ?_, ?_, ?_, ?_, ?_, ?_, ?_, trivial⟩
  all_goals intro fx w' hC hd
  ·go_wp2_with fail
   exact ⟨_, rfl, hC, rfl, fun _ _ _ _ h => h⟩
  ·have h0 : fx 0 = .int .i64 0 := hd.1 rfl
   go_wp2_with fail
   exact ⟨_, (by simp only [upd, h0]; rfl), hC, rfl, fun _ _ _ _ h => h⟩
  ·have h1 : fx 1 = .bool true := hd.1 rfl
   go_wp2_with fail
   exact ⟨_, (by simp only [upd, h1]; rfl), hC, rfl, fun _ _ _ _ h => h⟩
  ·have h2 : fx 2 = .bool true := hd.1 rfl
   go_wp2_with fail
   exact ⟨_, (by simp only [upd, h2]; rfl), hC, rfl, fun _ _ _ _ h => h⟩
  ·have h3 : fx 3 = .int .i64 0 := hd.1 rfl
   have h2 : fx 2 = .bool true := hd.2.1 rfl
   go_wp2_with fail
   exact ⟨_, (by simp only [upd, h3, h2]; rfl), hC, rfl, fun _ _ _ _ h => h⟩
  ·have h2 : fx 2 = .bool true := hd.1 rfl
   have h4 : fx 4 = .bool true := hd.2.1 rfl
   go_wp2_with fail
   exact ⟨_, (by simp only [upd, h2, h4]; rfl), hC, rfl, fun _ _ _ _ h => h⟩
  ·have h5 : fx 5 = .bool true := hd.1 rfl
   go_wp2_with fail
   exact ⟨_, (by simp only [upd, h5]; rfl), hC, rfl, fun _ _ _ _ h => h⟩
  ·have h6 : fx 6 = .bool true := hd.1 rfl
   go_wp2_with fail
   exact ⟨_, (by simp only [upd, h6]; rfl), hC, rfl, fun _ _ _ _ h => h⟩
  ·have h7 : fx 7 = .int .i64 0 := hd.1 rfl
   have h6 : fx 6 = .bool true := hd.2.1 rfl
   go_wp2_with fail
   exact ⟨_, (by simp only [upd, h7, h6]; rfl), hC, rfl, fun _ _ _ _ h => h⟩
  ·have h6 : fx 6 = .bool true := hd.1 rfl
   have h8 : fx 8 = .bool true := hd.2.1 rfl
   go_wp2_with fail
   exact ⟨_, (by simp only [upd, h6, h8]; rfl), hC, rfl, fun _ _ _ _ h => h⟩
  ·have h9 : fx 9 = .bool true := hd.1 rfl
   go_wp2_with fail
   exact ⟨_, (by simp only [upd, h9]; rfl), hC, rfl, fun _ _ _ _ h => h⟩
  ·have h10 : fx 10 = .bool true := hd.1 rfl
   go_wp2_with fail
   exact ⟨_, (by simp only [upd, h10]; rfl), hC, rfl, fun _ _ _ _ h => h⟩
  ·have h11 : fx 11 = .slice (some ⟨gn2, on2, none⟩) 2 cn := hd.1 rfl
   have h10 : fx 10 = .bool true := hd.2.1 rfl
   go_wp2_with fail
   exact ⟨_, (by simp only [upd, h11, h10]; rfl), hC, rfl, fun _ _ _ _ h => h⟩
  ·have h12 : fx 12 = .int .i64 2 := hd.1 rfl
   have h10 : fx 10 = .bool true := hd.2.1 rfl
   go_wp2_with fail
   exact ⟨_, (by simp only [upd, h12, h10]; rfl), hC, rfl, fun _ _ _ _ h => h⟩
  ·have h10 : fx 10 = .bool true := hd.1 rfl
   have h13 : fx 13 = .bool true := hd.2.1 rfl
   go_wp2_with fail
   exact ⟨_, (by simp only [upd, h10, h13]; rfl), hC, rfl, fun _ _ _ _ h => h⟩
  ·have h14 : fx 14 = .bool true := hd.1 rfl
   go_wp2_with fail
   exact ⟨_, (by simp only [upd, h14]; rfl), hC, rfl, fun _ _ _ _ h => h⟩
  ·have h15 : fx 15 = .bool true := hd.1 rfl
   go_wp2_with fail
   exact ⟨_, (by simp only [upd, h15]; rfl), hC, rfl, fun _ _ _ _ h => h⟩
  ·have h16 : fx 16 = .slice (some ⟨gn2, on2, none⟩) 2 cn := hd.1 rfl
   have h15 : fx 15 = .bool true := hd.2.1 rfl
   go_wp2_with fail
   exact ⟨_, (by simp only [upd, h16, h15]; rfl), hC, rfl, fun _ _ _ _ h => h⟩
  ·have h17 : fx 17 = .pointer (some ⟨gn2, on2, none⟩) := hd.1 rfl
   have h15 : fx 15 = .bool true := hd.2.1 rfl
   go_wp2_with fail
   exact ⟨_, (by simp only [upd, h17, h15]; rfl), hC, rfl, fun _ _ _ _ h => h⟩
  ·have h18 : fx 18 = .pointer (some ⟨gn2, on2 + 33, none⟩) := hd.1 rfl
   have h15 : fx 15 = .bool true := hd.2.1 rfl
   have hm := (hC.cell (p := ⟨gn2, on2 + 33, none⟩) (block_lt_of_cell mn)).trans mn
   go_wp2_with fail
   exact ⟨_, (by simp only [upd, h18, h15]; rfl), hC, rfl, fun _ _ _ _ h => h⟩
  ·have h19 : fx 19 = .int .i64 24 := hd.1 rfl
   have h15 : fx 15 = .bool true := hd.2.1 rfl
   go_wp2_with fail
   exact ⟨_, (by simp only [upd, h19, h15]; rfl), hC, rfl, fun _ _ _ _ h => h⟩
  ·have h15 : fx 15 = .bool true := hd.1 rfl
   have h20 : fx 20 = .bool true := hd.2.1 rfl
   go_wp2_with fail
   exact ⟨_, (by simp only [upd, h15, h20]; rfl), hC, rfl, fun _ _ _ _ h => h⟩
  ·have h21 : fx 21 = .bool true := hd.1 rfl
   go_wp2_with fail
   exact ⟨_, (by simp only [upd, h21]; rfl), hC, rfl, fun _ _ _ _ h => h⟩
  ·have h22 : fx 22 = .bool true := hd.1 rfl
   go_wp2_with fail
   exact ⟨_, (by simp only [upd, h22]; rfl), hC, rfl, fun _ _ _ _ h => h⟩
  ·have h23 : fx 23 = .int .i64 0 := hd.1 rfl
   have h22 : fx 22 = .bool true := hd.2.1 rfl
   go_wp2_with fail
   exact ⟨_, (by simp only [upd, h23, h22]; rfl), hC, rfl, fun _ _ _ _ h => h⟩
  ·have h22 : fx 22 = .bool true := hd.1 rfl
   have h24 : fx 24 = .bool true := hd.2.1 rfl
   go_wp2_with fail
   exact ⟨_, (by simp only [upd, h22, h24]; rfl), hC, rfl, fun _ _ _ _ h => h⟩
  ·have h25 : fx 25 = .bool true := hd.1 rfl
   go_wp2_with fail
   exact ⟨_, (by simp only [upd, h25]; rfl), hC, rfl, fun _ _ _ _ h => h⟩
  ·have h26 : fx 26 = .bool true := hd.1 rfl
   go_wp2_with fail
   exact ⟨_, (by simp only [upd, h26]; rfl), hC, rfl, fun _ _ _ _ h => h⟩
  ·have h27 : fx 27 = .pointer (some ⟨w9.heap.size, 1, none⟩) := hd.1 rfl
   have h26 : fx 26 = .bool true := hd.2.1 rfl
   dsimp only
   rw [h26]
   refine wpList_unguard rfl ?_
   have hrow := rangeAt_below KS.out (block_lt_of_cell (KS.out 0 _ rfl)) hC
   refine wpList_load_mid rfl 45 (.tmp 95) rfl (w9.heap.size) (1) h27 (lnC ⟨2, 2, 9, 10, 0⟩) _ hrow Tryz.underlying45 rfl HLI.out ?_
   go_wp2_with fail
   exact ⟨_, (by simp only [upd, h27, h26]; rfl), hC, rfl, fun _ _ _ _ h => h⟩
  ·have h26 : fx 26 = .bool true := hd.1 rfl
   go_wp2_with fail
   exact ⟨_, (by simp only [upd, h26]; rfl), hC, rfl, fun _ _ _ _ h => h⟩
  ·have h29 : fx 29 = .pointer (some ⟨w1.heap.size, 4, none⟩) := hd.1 rfl
   have h26 : fx 26 = .bool true := hd.2.1 rfl
   have hm := (hC.cell (p := ⟨w1.heap.size, 4, none⟩) (block_lt_of_cell kl)).trans kl
   go_wp2_with fail
   exact ⟨_, (by simp only [upd, h29, h26]; rfl), hC, rfl, fun _ _ _ _ h => h⟩
  ·have h30 : fx 30 = .slice (some ⟨gl, ol, none⟩) 2 p.c := hd.1 rfl
   have h26 : fx 26 = .bool true := hd.2.1 rfl
   go_wp2_with fail
   exact ⟨_, (by simp only [upd, h30, h26]; rfl), hC, rfl, fun _ _ _ _ h => h⟩
  ·have h31 : fx 31 = .pointer (some ⟨gl, ol + 5, none⟩) := hd.1 rfl
   have h26 : fx 26 = .bool true := hd.2.1 rfl
   dsimp only
   rw [h26]
   refine wpList_unguard rfl ?_
   have hrow := rangeAt_below KL.out (block_lt_of_cell (KL.out 0 _ rfl)) hC
   refine wpList_load_mid rfl 45 (.tmp 99) rfl (gl) (ol + 5) h31 (lnC ⟨2, 2, 9, 10, 0⟩) _ hrow Tryz.underlying45 rfl HLI.out ?_
   go_wp2_with fail
   exact ⟨_, (by simp only [upd, h31, h26]; rfl), hC, rfl, fun _ _ _ _ h => h⟩
  ·have h28 : fx 28 = lnV ⟨2, 2, 9, 10, 0⟩ := hd.1 rfl
   have h32 : fx 32 = lnV ⟨2, 2, 9, 10, 0⟩ := hd.2.1 rfl
   have h26 : fx 26 = .bool true := hd.2.2.1 rfl
   dsimp only
   rw [h26]
   refine wpList_unguard rfl ?_
   refine wpList_eql_ln rfl (.tmp 96) (.tmp 100) _ rfl ⟨2, 2, 9, 10, 0⟩ ⟨2, 2, 9, 10, 0⟩ h28 h32 ?_
   rw [le1]
   go_wp2_with fail
   exact ⟨_, (by simp only [upd, h28, h32, h26]; rfl), hC, rfl, fun _ _ _ _ h => h⟩
  ·have h26 : fx 26 = .bool true := hd.1 rfl
   have h33 : fx 33 = .bool true := hd.2.1 rfl
   go_wp2_with fail
   exact ⟨_, (by simp only [upd, h26, h33]; rfl), hC, rfl, fun _ _ _ _ h => h⟩
  ·have h34 : fx 34 = .bool true := hd.1 rfl
   go_wp2_with fail
   exact ⟨_, (by simp only [upd, h34]; rfl), hC, rfl, fun _ _ _ _ h => h⟩
  ·have h35 : fx 35 = .bool true := hd.1 rfl
   go_wp2_with fail
   exact ⟨_, (by simp only [upd, h35]; rfl), hC, rfl, fun _ _ _ _ h => h⟩
  ·have h36 : fx 36 = .int .i64 0 := hd.1 rfl
   have h35 : fx 35 = .bool true := hd.2.1 rfl
   go_wp2_with fail
   exact ⟨_, (by simp only [upd, h36, h35]; rfl), hC, rfl, fun _ _ _ _ h => h⟩
  ·have h35 : fx 35 = .bool true := hd.1 rfl
   have h37 : fx 37 = .bool true := hd.2.1 rfl
   go_wp2_with fail
   exact ⟨_, (by simp only [upd, h35, h37]; rfl), hC, rfl, fun _ _ _ _ h => h⟩
  ·have h38 : fx 38 = .bool true := hd.1 rfl
   go_wp2_with fail
   exact ⟨_, (by simp only [upd, h38]; rfl), hC, rfl, fun _ _ _ _ h => h⟩
  ·have h39 : fx 39 = .bool true := hd.1 rfl
   go_wp2_with fail
   exact ⟨_, (by simp only [upd, h39]; rfl), hC, rfl, fun _ _ _ _ h => h⟩
  ·have h40 : fx 40 = .pointer (some ⟨w11.heap.size, 1, none⟩) := hd.1 rfl
   have h39 : fx 39 = .bool true := hd.2.1 rfl
   dsimp only
   rw [h39]
   refine wpList_unguard rfl ?_
   have hrow := rangeAt_below KM.out (block_lt_of_cell (KM.out 0 _ rfl)) hC
   refine wpList_load_mid rfl 56 (.tmp 108) rfl (w11.heap.size) (1) h40 (clC ⟨4, 1, true⟩) _ hrow Tryz.underlying56 rfl HCI.out ?_
   go_wp2_with fail
   exact ⟨_, (by simp only [upd, h40, h39]; rfl), hC, rfl, fun _ _ _ _ h => h⟩
  ·have h39 : fx 39 = .bool true := hd.1 rfl
   go_wp2_with fail
   exact ⟨_, (by simp only [upd, h39]; rfl), hC, rfl, fun _ _ _ _ h => h⟩
  ·have h42 : fx 42 = .pointer (some ⟨w1.heap.size, 5, none⟩) := hd.1 rfl
   have h39 : fx 39 = .bool true := hd.2.1 rfl
   have hm := (hC.cell (p := ⟨w1.heap.size, 5, none⟩) (block_lt_of_cell kc)).trans kc
   go_wp2_with fail
   exact ⟨_, (by simp only [upd, h42, h39]; rfl), hC, rfl, fun _ _ _ _ h => h⟩
  ·have h43 : fx 43 = .slice (some ⟨gc, oc, none⟩) 1 p.c2 := hd.1 rfl
   have h39 : fx 39 = .bool true := hd.2.1 rfl
   go_wp2_with fail
   exact ⟨_, (by simp only [upd, h43, h39]; rfl), hC, rfl, fun _ _ _ _ h => h⟩
  ·have h44 : fx 44 = .pointer (some ⟨gc, oc, none⟩) := hd.1 rfl
   have h39 : fx 39 = .bool true := hd.2.1 rfl
   dsimp only
   rw [h39]
   refine wpList_unguard rfl ?_
   have hrow := rangeAt_below KC.out (block_lt_of_cell (KC.out 0 _ rfl)) hC
   refine wpList_load_mid rfl 56 (.tmp 112) rfl (gc) (oc) h44 (clC ⟨4, 1, true⟩) _ hrow Tryz.underlying56 rfl HCI.out ?_
   go_wp2_with fail
   exact ⟨_, (by simp only [upd, h44, h39]; rfl), hC, rfl, fun _ _ _ _ h => h⟩
  ·have h41 : fx 41 = clV ⟨4, 1, true⟩ := hd.1 rfl
   have h45 : fx 45 = clV ⟨4, 1, true⟩ := hd.2.1 rfl
   have h39 : fx 39 = .bool true := hd.2.2.1 rfl
   dsimp only
   rw [h39]
   refine wpList_unguard rfl ?_
   refine wpList_eql_cl rfl (.tmp 109) (.tmp 113) _ rfl ⟨4, 1, true⟩ ⟨4, 1, true⟩ h41 h45 ?_
   rw [le2]
   go_wp2_with fail
   exact ⟨_, (by simp only [upd, h41, h45, h39]; rfl), hC, rfl, fun _ _ _ _ h => h⟩
  ·have h39 : fx 39 = .bool true := hd.1 rfl
   have h46 : fx 46 = .bool true := hd.2.1 rfl
   go_wp2_with fail
   exact ⟨_, (by simp only [upd, h39, h46]; rfl), hC, rfl, fun _ _ _ _ h => h⟩
  ·have h47 : fx 47 = .bool true := hd.1 rfl
   go_wp2_with fail
   exact ⟨_, (by simp only [upd, h47]; rfl), hC, rfl, fun _ _ _ _ h => h⟩
  ·have h48 : fx 48 = .bool true := hd.1 rfl
   go_wp2_with fail
   exact ⟨_, (by simp only [upd, h48]; rfl), hC, rfl, fun _ _ _ _ h => h⟩
  ·have h49 : fx 49 = .int .i64 420 := hd.1 rfl
   have h48 : fx 48 = .bool true := hd.2.1 rfl
   go_wp2_with fail
   exact ⟨_, (by simp only [upd, h49, h48]; rfl), hC, rfl, fun _ _ _ _ h => h⟩
  ·have h48 : fx 48 = .bool true := hd.1 rfl
   have h50 : fx 50 = .bool true := hd.2.1 rfl
   go_wp2_with fail
   exact ⟨_, (by simp only [upd, h48, h50]; rfl), hC, rfl, fun _ _ _ _ h => h⟩
  ·have h51 : fx 51 = .bool true := hd.1 rfl
   go_wp2_with fail
   exact ⟨_, (by simp only [upd, h51]; rfl), hC, rfl, fun _ _ _ _ h => h⟩
  ·have h52 : fx 52 = .bool true := hd.1 rfl
   go_wp2_with fail
   exact ⟨_, (by simp only [upd, h52]; rfl), hC, rfl, fun _ _ _ _ h => h⟩
  ·have h53 : fx 53 = .int .i64 420 := hd.1 rfl
   have h52 : fx 52 = .bool true := hd.2.1 rfl
   go_wp2_with fail
   exact ⟨_, (by simp only [upd, h53, h52]; rfl), hC, rfl, fun _ _ _ _ h => h⟩
  ·have h52 : fx 52 = .bool true := hd.1 rfl
   have h54 : fx 54 = .bool true := hd.2.1 rfl
   go_wp2_with fail
   exact ⟨_, (by simp only [upd, h52, h54]; rfl), hC, rfl, fun _ _ _ _ h => h⟩
  ·have h55 : fx 55 = .bool true := hd.1 rfl
   go_wp2_with fail
   exact ⟨_, (by simp only [upd, h55]; rfl), hC, rfl, fun _ _ _ _ h => h⟩
  ·have h56 : fx 56 = .bool true := hd.1 rfl
   go_wp2_with fail
   exact ⟨_, (by simp only [upd, h56]; rfl), hC, rfl, fun _ _ _ _ h => h⟩
  ·have h57 : fx 57 = .int .i64 0 := hd.1 rfl
   have h56 : fx 56 = .bool true := hd.2.1 rfl
   go_wp2_with fail
   exact ⟨_, (by simp only [upd, h57, h56]; rfl), hC, rfl, fun _ _ _ _ h => h⟩
  ·have h56 : fx 56 = .bool true := hd.1 rfl
   have h58 : fx 58 = .bool true := hd.2.1 rfl
   go_wp2_with fail
   exact ⟨_, (by simp only [upd, h56, h58]; rfl), hC, rfl, fun _ _ _ _ h => h⟩
  ·have h59 : fx 59 = .bool true := hd.1 rfl
   go_wp2_with fail
   exact ⟨_, (by simp only [upd, h59]; rfl), hC, rfl, fun _ _ _ _ h => h⟩
  ·have h60 : fx 60 = .bool true := hd.1 rfl
   dsimp only
   rw [h60]
   refine wpList_unguard rfl ?_
   have hrow := row_kept HDz0.out hC
   refine wpList_load_row rfl 25 (.tmp 18) rfl (w19.heap.size) rfl 25 _ (0, 0) _ hrow Tryz.underlying25 rfl HZ1.out ?_
   rw [← dgV_agg z]
   go_wp2_with fail
   exact ⟨_, (by simp only [upd, h60]; rfl), hC, rfl, fun _ _ _ _ h => h⟩
  ·have h60 : fx 60 = .bool true := hd.2.1 rfl
   have HTK := hid (hTk19.out.below hC)
   go_wp2_with fail
   refine (dtree_nil none 0 w' HTK).mono ?_
   rintro e w2 ⟨rfl, hq⟩
   rw [HZ.out]
   go_wp2_with fail
   exact ⟨_, (by simp only [upd, h60]; rfl), hC.trans (hq.mono hC.size), rfl, fun _ _ _ _ h => h⟩
  ·have h61 : fx 61 = dgV z := hd.1 rfl
   have h62 : fx 62 = dgV z := hd.2.1 rfl
   have h60 : fx 60 = .bool true := hd.2.2.1 rfl
   dsimp only
   rw [h60]
   refine wpList_unguard rfl ?_
   refine wpList_eql_dg rfl (.tmp 129) (.tmp 130) _ rfl z z h61 h62 HZO.out.len HZO.out.len HZO.out.bytes HZO.out.bytes ?_
   rw [beq_self_eq_true]
   go_wp2_with fail
   exact ⟨_, (by simp only [upd, h61, h62, h60]; rfl), hC, rfl, fun _ _ _ _ h => h⟩
  ·have h60 : fx 60 = .bool true := hd.1 rfl
   have h63 : fx 63 = .bool true := hd.2.1 rfl
   go_wp2_with fail
   exact ⟨_, (by simp only [upd, h60, h63]; rfl), hC, rfl, fun _ _ _ _ h => h⟩
  ·have h64 : fx 64 = .bool true := hd.1 rfl
   go_wp2_with fail
   exact ⟨_, (by simp only [upd, h64]; rfl), hC, rfl, fun _ _ _ _ h => h⟩
 ·intro fx w' hC hS
  have h0 : fx 0 = .int .i64 0 := hS 0 (by decide)
  have h1 : fx 1 = .bool true := hS 1 (by decide)
  have h2 : fx 2 = .bool true := hS 2 (by decide)
  have h3 : fx 3 = .int .i64 0 := hS 3 (by decide)
  have h4 : fx 4 = .bool true := hS 4 (by decide)
  have h5 : fx 5 = .bool true := hS 5 (by decide)
  have h6 : fx 6 = .bool true := hS 6 (by decide)
  have h7 : fx 7 = .int .i64 0 := hS 7 (by decide)
  have h8 : fx 8 = .bool true := hS 8 (by decide)
  have h9 : fx 9 = .bool true := hS 9 (by decide)
  have h10 : fx 10 = .bool true := hS 10 (by decide)
  have h11 : fx 11 = .slice (some ⟨gn2, on2, none⟩) 2 cn := hS 11 (by decide)
  have h12 : fx 12 = .int .i64 2 := hS 12 (by decide)
  have h13 : fx 13 = .bool true := hS 13 (by decide)
  have h14 : fx 14 = .bool true := hS 14 (by decide)
  have h15 : fx 15 = .bool true := hS 15 (by decide)
  have h16 : fx 16 = .slice (some ⟨gn2, on2, none⟩) 2 cn := hS 16 (by decide)
  have h17 : fx 17 = .pointer (some ⟨gn2, on2, none⟩) := hS 17 (by decide)
  have h18 : fx 18 = .pointer (some ⟨gn2, on2 + 33, none⟩) := hS 18 (by decide)
  have h19 : fx 19 = .int .i64 24 := hS 19 (by decide)
  have h20 : fx 20 = .bool true := hS 20 (by decide)
  have h21 : fx 21 = .bool true := hS 21 (by decide)
  have h22 : fx 22 = .bool true := hS 22 (by decide)
  have h23 : fx 23 = .int .i64 0 := hS 23 (by decide)
  have h24 : fx 24 = .bool true := hS 24 (by decide)
  have h25 : fx 25 = .bool true := hS 25 (by decide)
  have h26 : fx 26 = .bool true := hS 26 (by decide)
  have h27 : fx 27 = .pointer (some ⟨w9.heap.size, 1, none⟩) := hS 27 (by decide)
  have h28 : fx 28 = lnV ⟨2, 2, 9, 10, 0⟩ := hS 28 (by decide)
  have h29 : fx 29 = .pointer (some ⟨w1.heap.size, 4, none⟩) := hS 29 (by decide)
  have h30 : fx 30 = .slice (some ⟨gl, ol, none⟩) 2 p.c := hS 30 (by decide)
  have h31 : fx 31 = .pointer (some ⟨gl, ol + 5, none⟩) := hS 31 (by decide)
  have h32 : fx 32 = lnV ⟨2, 2, 9, 10, 0⟩ := hS 32 (by decide)
  have h33 : fx 33 = .bool true := hS 33 (by decide)
  have h34 : fx 34 = .bool true := hS 34 (by decide)
  have h35 : fx 35 = .bool true := hS 35 (by decide)
  have h36 : fx 36 = .int .i64 0 := hS 36 (by decide)
  have h37 : fx 37 = .bool true := hS 37 (by decide)
  have h38 : fx 38 = .bool true := hS 38 (by decide)
  have h39 : fx 39 = .bool true := hS 39 (by decide)
  have h40 : fx 40 = .pointer (some ⟨w11.heap.size, 1, none⟩) := hS 40 (by decide)
  have h41 : fx 41 = clV ⟨4, 1, true⟩ := hS 41 (by decide)
  have h42 : fx 42 = .pointer (some ⟨w1.heap.size, 5, none⟩) := hS 42 (by decide)
  have h43 : fx 43 = .slice (some ⟨gc, oc, none⟩) 1 p.c2 := hS 43 (by decide)
  have h44 : fx 44 = .pointer (some ⟨gc, oc, none⟩) := hS 44 (by decide)
  have h45 : fx 45 = clV ⟨4, 1, true⟩ := hS 45 (by decide)
  have h46 : fx 46 = .bool true := hS 46 (by decide)
  have h47 : fx 47 = .bool true := hS 47 (by decide)
  have h48 : fx 48 = .bool true := hS 48 (by decide)
  have h49 : fx 49 = .int .i64 420 := hS 49 (by decide)
  have h50 : fx 50 = .bool true := hS 50 (by decide)
  have h51 : fx 51 = .bool true := hS 51 (by decide)
  have h52 : fx 52 = .bool true := hS 52 (by decide)
  have h53 : fx 53 = .int .i64 420 := hS 53 (by decide)
  have h54 : fx 54 = .bool true := hS 54 (by decide)
  have h55 : fx 55 = .bool true := hS 55 (by decide)
  have h56 : fx 56 = .bool true := hS 56 (by decide)
  have h57 : fx 57 = .int .i64 0 := hS 57 (by decide)
  have h58 : fx 58 = .bool true := hS 58 (by decide)
  have h59 : fx 59 = .bool true := hS 59 (by decide)
  have h60 : fx 60 = .bool true := hS 60 (by decide)
  have h61 : fx 61 = dgV z := hS 61 (by decide)
  have h62 : fx 62 = dgV z := hS 62 (by decide)
  have h63 : fx 63 = .bool true := hS 63 (by decide)
  have h64 : fx 64 = .bool true := hS 64 (by decide)
  have h65 : fx 65 = .bool true := hS 65 (by decide)
  rw [h0, h1, h2, h3, h4, h5, h6, h7, h8, h9, h10, h11, h12, h13, h14, h15, h16, h17, h18, h19, h20, h21, h22, h23, h24, h25, h26, h27, h28, h29, h30, h31, h32, h33, h34, h35, h36, h37, h38, h39, h40, h41, h42, h43, h44, h45, h46, h47, h48, h49, h50, h51, h52, h53, h54, h55, h56, h57, h58, h59, h60, h61, h62, h63, h64, h65]
  clear h0 h1 h2 h3 h4 h5 h6 h7 h8 h9 h10 h11 h12 h13 h14 h15 h16 h17 h18 h19 h20 h21 h22 h23 h24 h25 h26 h27 h28 h29 h30 h31 h32 h33 h34 h35 h36 h37 h38 h39 h40 h41 h42 h43 h44 h45 h46 h47 h48 h49 h50 h51 h52 h53 h54 h55 h56 h57 h58 h59 h60 h61 h62 h63 h64 h65 hS
  have HBk20 := hid (HBk19.out.trans (hC.mono HBk19.out.size))
  have HRk20 := hid (row_kept HRk19.out hC)
  have HDxk20 := hid (row_kept HDxk19.out hC)
  have HDyk20 := hid (row_kept HDyk19.out hC)
  have HRok20 := hid (row_kept HRok19.out hC)
  have HShk20 := hid (row_kept HShk19.out hC)
  have HMek20 := hid (row_kept HMek19.out hC)
  have HMzk20 := hid (row_kept HMzk19.out hC)
  have HEmk20 := hid (row_kept HEmk19.out hC)
  have HSzk20 := hid (row_kept HSzk19.out hC)
  have HDzk20 := hid (row_kept HDz0.out hC)
  have HOk20 := hid (HOk19.out.below hC)
  have hTk20 := hid (hTk19.out.below hC)
  have HNIk20 := hid (HNIk19.out.below hC)
  have HPAk20 := hid (HPAk19.out.below hC)
  have HPBk20 := hid (HPBk19.out.below hC)
  clear hC
  have zr : I64 (2 : Int) := by unfold I64; omega
  have zr1 : I64 (1 : Int) := by unfold I64; omega
  have HRK : Hid (RtOk (rtOf 2 1 x y)) := hid (rtOf_ok zr zr1 HXO.out HYO.out)
  have zr0 : I64 (0 : Int) := by unfold I64; omega
  have HRZ : Hid (RtOk (rtOf 0 0 zeroD zeroD)) := hid (rtOf_ok zr0 zr0 zeroD_ok zeroD_ok)
  clear zr zr0 zr1
  have HV1 := hid (ver_ex x s1 HX.out HS1.out y)
  have HV2 := hid (ver_exK y s2 HY.out HS2.out x)
  have hns : ns ≤ 100000 := by have h1 := HPAk20.out.len; rw [path_exL] at h1; omega
  have hnm : nm ≤ 100000 := by have h1 := HPBk20.out.len; rw [path_exK] at h1; omega
  have HCK : Hid (ClOk ⟨4, 1, true⟩) := hid ⟨by unfold I64; decide, by unfold I64; decide⟩
  go_wp2_with (first | (refine wpList_unguard rfl ?_; refine wpList_load_row rfl 43 (.tmp 8) rfl (w7.heap.size) rfl 43 _ (0, 0) _ HRok20.out Tryz.underlying43 rfl HNR1.out ?_) | (refine wpList_unguard rfl ?_; refine wpList_load_row rfl 48 (.tmp 9) rfl (w9.heap.size) rfl 48 _ (0, 0) _ HShk20.out Tryz.underlying48 rfl HSI.out ?_))
  refine (verL (rtOf 2 1 x y) ((1 : Nat) : Int) ⟨2, 2, 9, 10, 0⟩ s1 As ns cs _ _ HSO1 HRK hns HPAk20 hTk20).mono ?_
  rintro e u1 ⟨rfl, hv1⟩
  rw [HV1.out]
  have HBk21 := hid (HBk20.out.trans (hv1.mono HBk20.out.size))
  have HRk21 := hid (row_kept HRk20.out hv1)
  have HDxk21 := hid (row_kept HDxk20.out hv1)
  have HDyk21 := hid (row_kept HDyk20.out hv1)
  have HRok21 := hid (row_kept HRok20.out hv1)
  have HShk21 := hid (row_kept HShk20.out hv1)
  have HMek21 := hid (row_kept HMek20.out hv1)
  have HMzk21 := hid (row_kept HMzk20.out hv1)
  have HEmk21 := hid (row_kept HEmk20.out hv1)
  have HSzk21 := hid (row_kept HSzk20.out hv1)
  have HDzk21 := hid (row_kept HDzk20.out hv1)
  have HOk21 := hid (HOk20.out.below hv1)
  have hTk21 := hid (hTk20.out.below hv1)
  have HNIk21 := hid (HNIk20.out.below hv1)
  have HPAk21 := hid (HPAk20.out.below hv1)
  have HPBk21 := hid (HPBk20.out.below hv1)
  clear hv1
  go_wp2_with (first | (refine wpList_unguard rfl ?_; refine wpList_load_row rfl 43 (.tmp 8) rfl (w7.heap.size) rfl 43 _ (0, 0) _ HRok21.out Tryz.underlying43 rfl HNR1.out ?_) | (refine wpList_unguard rfl ?_; refine wpList_load_row rfl 58 (.tmp 11) rfl (w11.heap.size) rfl 58 _ (0, 0) _ HMek21.out Tryz.underlying58 rfl HMI.out ?_))
  refine (verK (rtOf 2 1 x y) ((0 : Nat) : Int) ⟨4, 1, true⟩ s2 Am nm cm _ _ HCK HSO2 HRK hnm HPBk21 hTk21).mono ?_
  rintro e u2 ⟨rfl, hv2⟩
  rw [HV2.out]
  have HBk22 := hid (HBk21.out.trans (hv2.mono HBk21.out.size))
  have HRk22 := hid (row_kept HRk21.out hv2)
  have HDxk22 := hid (row_kept HDxk21.out hv2)
  have HDyk22 := hid (row_kept HDyk21.out hv2)
  have HRok22 := hid (row_kept HRok21.out hv2)
  have HShk22 := hid (row_kept HShk21.out hv2)
  have HMek22 := hid (row_kept HMek21.out hv2)
  have HMzk22 := hid (row_kept HMzk21.out hv2)
  have HEmk22 := hid (row_kept HEmk21.out hv2)
  have HSzk22 := hid (row_kept HSzk21.out hv2)
  have HDzk22 := hid (row_kept HDzk21.out hv2)
  have HOk22 := hid (HOk21.out.below hv2)
  have hTk22 := hid (hTk21.out.below hv2)
  have HNIk22 := hid (HNIk21.out.below hv2)
  have HPAk22 := hid (HPAk21.out.below hv2)
  have HPBk22 := hid (HPBk21.out.below hv2)
  clear hv2
  go_wp2_with (refine wpList_unguard rfl ?_; refine wpList_load_row rfl 27 (.tmp 1) rfl (w1.heap.size) rfl 27 _ (0, 0) _ HRk22.out Tryz.underlying27 rfl HN1.out ?_)
  rw [show Value.agg (trC exT p).toArray = trV exT p from rfl]
  refine (check_any exT p _ HOk22).mono ?_
  rintro e u3 ⟨rfl, hv3⟩
  rw [HE.out]
  have HBk23 := hid (HBk22.out.trans (hv3.mono HBk22.out.size))
  have HRk23 := hid (row_kept HRk22.out hv3)
  have HDxk23 := hid (row_kept HDxk22.out hv3)
  have HDyk23 := hid (row_kept HDyk22.out hv3)
  have HRok23 := hid (row_kept HRok22.out hv3)
  have HShk23 := hid (row_kept HShk22.out hv3)
  have HMek23 := hid (row_kept HMek22.out hv3)
  have HMzk23 := hid (row_kept HMzk22.out hv3)
  have HEmk23 := hid (row_kept HEmk22.out hv3)
  have HSzk23 := hid (row_kept HSzk22.out hv3)
  have HDzk23 := hid (row_kept HDzk22.out hv3)
  have HOk23 := hid (HOk22.out.below hv3)
  have hTk23 := hid (hTk22.out.below hv3)
  have HNIk23 := hid (HNIk22.out.below hv3)
  have HPAk23 := hid (HPAk22.out.below hv3)
  have HPBk23 := hid (HPBk22.out.below hv3)
  clear hv3
  go_wp2_with (refine wpList_unguard rfl ?_; refine wpList_zero42 27 _ built_zT rfl rfl ?_)
  rw [zT_v]
  refine (check_any zT peT _ (hid (zT_ok _))).mono ?_
  rintro e u4 ⟨rfl, hv4⟩
  rw [zT_E]
  have HBk24 := hid (HBk23.out.trans (hv4.mono HBk23.out.size))
  have HRk24 := hid (row_kept HRk23.out hv4)
  have HDxk24 := hid (row_kept HDxk23.out hv4)
  have HDyk24 := hid (row_kept HDyk23.out hv4)
  have HRok24 := hid (row_kept HRok23.out hv4)
  have HShk24 := hid (row_kept HShk23.out hv4)
  have HMek24 := hid (row_kept HMek23.out hv4)
  have HMzk24 := hid (row_kept HMzk23.out hv4)
  have HEmk24 := hid (row_kept HEmk23.out hv4)
  have HSzk24 := hid (row_kept HSzk23.out hv4)
  have HDzk24 := hid (row_kept HDzk23.out hv4)
  have HOk24 := hid (HOk23.out.below hv4)
  have hTk24 := hid (hTk23.out.below hv4)
  have HNIk24 := hid (HNIk23.out.below hv4)
  have HPAk24 := hid (HPAk23.out.below hv4)
  have HPBk24 := hid (HPBk23.out.below hv4)
  clear hv4
  go_wp2_with (first | (refine wpList_unguard rfl ?_; refine wpList_zero42 43 _ built_zR rfl rfl ?_) | (refine wpList_unguard rfl ?_; refine wpList_zero42 48 _ built_zS rfl rfl ?_))
  refine (verL (rtOf 0 0 zeroD zeroD) 0 ⟨0, 0, 0, 0, 0⟩ zeroD none 0 0 [] _ (hid zeroD_ok) HRZ (Nat.zero_le _) (hid ⟨rfl, Nat.le_refl _, fun _ => rfl, (fun x hx => by cases hx), fun h => absurd h (by decide)⟩) hTk24).mono ?_
  rintro e u5 ⟨rfl, hv5⟩
  rw [ver_zero]
  have HBk25 := hid (HBk24.out.trans (hv5.mono HBk24.out.size))
  have HRk25 := hid (row_kept HRk24.out hv5)
  have HDxk25 := hid (row_kept HDxk24.out hv5)
  have HDyk25 := hid (row_kept HDyk24.out hv5)
  have HRok25 := hid (row_kept HRok24.out hv5)
  have HShk25 := hid (row_kept HShk24.out hv5)
  have HMek25 := hid (row_kept HMek24.out hv5)
  have HMzk25 := hid (row_kept HMzk24.out hv5)
  have HEmk25 := hid (row_kept HEmk24.out hv5)
  have HSzk25 := hid (row_kept HSzk24.out hv5)
  have HDzk25 := hid (row_kept HDzk24.out hv5)
  have HOk25 := hid (HOk24.out.below hv5)
  have hTk25 := hid (hTk24.out.below hv5)
  have HNIk25 := hid (HNIk24.out.below hv5)
  have HPAk25 := hid (HPAk24.out.below hv5)
  have HPBk25 := hid (HPBk24.out.below hv5)
  clear hv5
  go_wp2_with fail
  go_ret
  exact ⟨rfl, HBk25.out⟩
end Go.Proofs.YtmfmgeapecapiaaGreatDoor
