/- sizarlaw43.rooted. sizarlaw43.sample. sizar/ratio: size, common. -/
import Derived.Test.YtmfmgeapecapiaaGreatDoorVS11
import Derived.Test.YtmfmgeapecapiaaGreatDoorVS2
import Derived.Test.YtmfmgeapecapiaaGreatDoorVS6
set_option maxHeartbeats 64000001
open Go.Lib (hid)
namespace Go.Proofs.YtmfmgeapecapiaaGreatDoor
open Go.RowKit SzSha SzTree
set_option linter.unusedVariables false
set_option maxRecDepth 100000
def rt43 (a : Int) (nd : Nd) : Rt := ⟨0, 0, 0, 0, a, 0, nd, zeroD, zeroD, zeroD, 0, 0⟩
theorem rt43_ok {a : Int} {nd : Nd} (ha : I64 a) (hn : NdOk nd) : RtOk (rt43 a nd) := by
 have z : I64 0 := by unfold I64; omega
 exact ⟨z, z, z, z, ha, z, hn, zeroD_ok, zeroD_ok, zeroD_ok, z, z⟩
theorem built_rt43 (a : Int) (nd : Nd) (h : nd.d.length = 32) : Tryz.prog.built 43 [(4, .int .i64 a), (6, ndV nd)] = some (rtC (rt43 a nd)).toArray := by
 obtain ⟨x, c, p⟩ := nd
 dsimp only at h
 rcases x with _ | ⟨x0, x⟩
 ·simp at h
 rcases x with _ | ⟨x1, x⟩
 ·simp at h
 rcases x with _ | ⟨x2, x⟩
 ·simp at h
 rcases x with _ | ⟨x3, x⟩
 ·simp at h
 rcases x with _ | ⟨x4, x⟩
 ·simp at h
 rcases x with _ | ⟨x5, x⟩
 ·simp at h
 rcases x with _ | ⟨x6, x⟩
 ·simp at h
 rcases x with _ | ⟨x7, x⟩
 ·simp at h
 rcases x with _ | ⟨x8, x⟩
 ·simp at h
 rcases x with _ | ⟨x9, x⟩
 ·simp at h
 rcases x with _ | ⟨x10, x⟩
 ·simp at h
 rcases x with _ | ⟨x11, x⟩
 ·simp at h
 rcases x with _ | ⟨x12, x⟩
 ·simp at h
 rcases x with _ | ⟨x13, x⟩
 ·simp at h
 rcases x with _ | ⟨x14, x⟩
 ·simp at h
 rcases x with _ | ⟨x15, x⟩
 ·simp at h
 rcases x with _ | ⟨x16, x⟩
 ·simp at h
 rcases x with _ | ⟨x17, x⟩
 ·simp at h
 rcases x with _ | ⟨x18, x⟩
 ·simp at h
 rcases x with _ | ⟨x19, x⟩
 ·simp at h
 rcases x with _ | ⟨x20, x⟩
 ·simp at h
 rcases x with _ | ⟨x21, x⟩
 ·simp at h
 rcases x with _ | ⟨x22, x⟩
 ·simp at h
 rcases x with _ | ⟨x23, x⟩
 ·simp at h
 rcases x with _ | ⟨x24, x⟩
 ·simp at h
 rcases x with _ | ⟨x25, x⟩
 ·simp at h
 rcases x with _ | ⟨x26, x⟩
 ·simp at h
 rcases x with _ | ⟨x27, x⟩
 ·simp at h
 rcases x with _ | ⟨x28, x⟩
 ·simp at h
 rcases x with _ | ⟨x29, x⟩
 ·simp at h
 rcases x with _ | ⟨x30, x⟩
 ·simp at h
 rcases x with _ | ⟨x31, x⟩
 ·simp at h
 rcases x with _ | ⟨xz, x⟩
 rotate_left
 ·simp at h
 clear h
 kernel_rfl
theorem wpList_build_rt43 {w : World} {ops : Array Oper} {rest : List Oper} {o : Oper} {a : Act} {Q : Exit → Act → World → Prop} (hg : o.guard = none) (u4 u6 : Operand)
  (ho : o.op = .build 43 #[(4, u4), (6, u6)]) (m : Int) (nd : Nd) (hx : nd.d.length = 32)
  (h4 : a.eval u4 = .int .i64 m) (h6 : a.eval u6 = ndV nd)
  (h : wpList Tryz.prog ops Q rest (a.put o.dst (.agg (rtC (rt43 m nd)).toArray)) w) : wpList Tryz.prog ops Q (o :: rest) a w := by
 have e1 : (#[(4, u4), (6, u6)].map fun (i, x) => (i, a.eval x)).toList = [(4, .int .i64 m), (6, ndV nd)] := by simp [h4, h6]
 refine wpList_build hg 43 _ ho (by rw [e1, built_rt43 m nd hx]; rfl) ?_
 rw [e1, built_rt43 m nd hx]
 exact h
/-- the nodes of which a transcript's tree consists -/
def nds43 (t : Tr) : List Nd := if trG t then ndsT t else []
theorem nds43_ok {t : Tr} : ∀ x ∈ nds43 t, NdOk x := by
 unfold nds43
 split
 case isTrue h =>
  obtain ⟨h1, h2, _⟩ := trG_parts h
  intro x hx
  obtain ⟨l, hl, rfl⟩ := List.mem_map.1 hx
  have hk : lOk l.c0 l.c1 l.c2 l.c3 l.c4 := of_decide_eq_true (chkE_all _ _ h2 l hl)
  have e : ndL t.salt l = leafN l.c0 l.c1 l.c2 l.c3 l.c4 (saltN t.salt 1 (nLn l)) := by unfold ndL leafR; exact if_pos hk
  rw [e]
  exact leafN_ok _ hk
 case isFalse => intro x hx; cases hx
theorem nds43_yes {t : Tr} (h : trG t = true) : nds43 t = t.ln.map (ndL t.salt) := if_pos h
theorem rootE_43 (t : Tr) : rootE (nds43 t) = 0 := by
 unfold rootE nds43
 split
 case isTrue h =>
  obtain ⟨h1, h2, _⟩ := trG_parts h
  have hv := vL_ndL h
  rw [if_pos ⟨by rw [ndsT_length]; omega, hv⟩]
 case isFalse => rw [if_pos ⟨by simp, by unfold vL sumC; decide⟩]
theorem rooted_yes (t : Tr) (p : TrP) (w : World) (h : Hid (TrOk w t p)) (hT : Hid (Tabs w)) (HG : Hid (trG t = true)) :
  Calls Tryz.prog 119 #[trV t p] w fun e w' => e = .returned (.tuple #[.agg (rtC (rt43 (p.n : Nat) (rootR (nds43 t)))).toArray, .bool true]) ∧ Below w.heap.size w w' := by
 have HIT : Hid ((Tryz.prog.info? 27).map (·.size) = some (trC t p).toArray.size) := hid (trV_info t p h.out.len)
 obtain ⟨q, HQ⟩ : ∃ q, Hid (rootR (nds43 t) = q) := ⟨_, hid rfl⟩
 have HQO : Hid (NdOk q) := hid (by rw [← HQ.out]; exact rootR_ok nds43_ok)
 have hsz : (rtC (rt43 (p.n : Nat) q)).toArray.size = 138 := by simp [rtC, rt43, ndC_length HQO.out, dgC_len32 zeroD_ok]
 have HN1 : Hid ((Tryz.prog.info? 43).map (·.size) = some (rtC (rt43 (p.n : Nat) q)).toArray.size) := hid (by rw [hsz]; show _ = some 138; kernel_rfl)
 have HN2 := hid hsz
 clear hsz
 have H34 : Hid ((#[.int .u8 0, .int .u8 0, .int .u8 0, .int .u8 0, .int .u8 0, .int .u8 0, .int .u8 0, .int .u8 0, .int .u8 0, .int .u8 0, .int .u8 0, .int .u8 0, .int .u8 0, .int .u8 0, .int .u8 0, .int .u8 0, .int .u8 0, .int .u8 0, .int .u8 0, .int .u8 0, .int .u8 0, .int .u8 0, .int .u8 0, .int .u8 0, .int .u8 0, .int .u8 0, .int .u8 0, .int .u8 0, .int .u8 0, .int .u8 0, .int .u8 0, .int .u8 0, .int .i64 0, .int .i64 0] : Array Value).size = (ndC q).toArray.size) := hid (by simp [ndC_length HQO.out])
 have HSL := hid (size34 HQO.out)
 have HS34 := hid (size34e HQO.out)
 have hb0 := ((Below.refl _ w).alloc (Nat.le_refl _) (.cells (trC t p).toArray 27)).alloc (by simp) (.cells #[.int .i64 0, .int .i64 0, .int .i64 0, .int .i64 0, .int .i64 0, .int .i64 0, .int .u8 0, .int .u8 0, .int .u8 0, .int .u8 0, .int .u8 0, .int .u8 0, .int .u8 0, .int .u8 0, .int .u8 0, .int .u8 0, .int .u8 0, .int .u8 0, .int .u8 0, .int .u8 0, .int .u8 0, .int .u8 0, .int .u8 0, .int .u8 0, .int .u8 0, .int .u8 0, .int .u8 0, .int .u8 0, .int .u8 0, .int .u8 0, .int .u8 0, .int .u8 0, .int .u8 0, .int .u8 0, .int .u8 0, .int .u8 0, .int .u8 0, .int .u8 0, .int .i64 0, .int .i64 0, .int .u8 0, .int .u8 0, .int .u8 0, .int .u8 0, .int .u8 0, .int .u8 0, .int .u8 0, .int .u8 0, .int .u8 0, .int .u8 0, .int .u8 0, .int .u8 0, .int .u8 0, .int .u8 0, .int .u8 0, .int .u8 0, .int .u8 0, .int .u8 0, .int .u8 0, .int .u8 0, .int .u8 0, .int .u8 0, .int .u8 0, .int .u8 0, .int .u8 0, .int .u8 0, .int .u8 0, .int .u8 0, .int .u8 0, .int .u8 0, .int .u8 0, .int .u8 0, .int .u8 0, .int .u8 0, .int .u8 0, .int .u8 0, .int .u8 0, .int .u8 0, .int .u8 0, .int .u8 0, .int .u8 0, .int .u8 0, .int .u8 0, .int .u8 0, .int .u8 0, .int .u8 0, .int .u8 0, .int .u8 0, .int .u8 0, .int .u8 0, .int .u8 0, .int .u8 0, .int .u8 0, .int .u8 0, .int .u8 0, .int .u8 0, .int .u8 0, .int .u8 0, .int .u8 0, .int .u8 0, .int .u8 0, .int .u8 0, .int .u8 0, .int .u8 0, .int .u8 0, .int .u8 0, .int .u8 0, .int .u8 0, .int .u8 0, .int .u8 0, .int .u8 0, .int .u8 0, .int .u8 0, .int .u8 0, .int .u8 0, .int .u8 0, .int .u8 0, .int .u8 0, .int .u8 0, .int .u8 0, .int .u8 0, .int .u8 0, .int .u8 0, .int .u8 0, .int .u8 0, .int .u8 0, .int .u8 0, .int .u8 0, .int .u8 0, .int .u8 0, .int .u8 0, .int .u8 0, .int .u8 0, .int .u8 0, .int .u8 0, .int .u8 0, .int .i64 0, .int .i64 0] 43)
 have hr0 := (Below.heap_alloc (w.alloc (.cells (trC t p).toArray 27)) (.cells #[.int .i64 0, .int .i64 0, .int .i64 0, .int .i64 0, .int .i64 0, .int .i64 0, .int .u8 0, .int .u8 0, .int .u8 0, .int .u8 0, .int .u8 0, .int .u8 0, .int .u8 0, .int .u8 0, .int .u8 0, .int .u8 0, .int .u8 0, .int .u8 0, .int .u8 0, .int .u8 0, .int .u8 0, .int .u8 0, .int .u8 0, .int .u8 0, .int .u8 0, .int .u8 0, .int .u8 0, .int .u8 0, .int .u8 0, .int .u8 0, .int .u8 0, .int .u8 0, .int .u8 0, .int .u8 0, .int .u8 0, .int .u8 0, .int .u8 0, .int .u8 0, .int .i64 0, .int .i64 0, .int .u8 0, .int .u8 0, .int .u8 0, .int .u8 0, .int .u8 0, .int .u8 0, .int .u8 0, .int .u8 0, .int .u8 0, .int .u8 0, .int .u8 0, .int .u8 0, .int .u8 0, .int .u8 0, .int .u8 0, .int .u8 0, .int .u8 0, .int .u8 0, .int .u8 0, .int .u8 0, .int .u8 0, .int .u8 0, .int .u8 0, .int .u8 0, .int .u8 0, .int .u8 0, .int .u8 0, .int .u8 0, .int .u8 0, .int .u8 0, .int .u8 0, .int .u8 0, .int .u8 0, .int .u8 0, .int .u8 0, .int .u8 0, .int .u8 0, .int .u8 0, .int .u8 0, .int .u8 0, .int .u8 0, .int .u8 0, .int .u8 0, .int .u8 0, .int .u8 0, .int .u8 0, .int .u8 0, .int .u8 0, .int .u8 0, .int .u8 0, .int .u8 0, .int .u8 0, .int .u8 0, .int .u8 0, .int .u8 0, .int .u8 0, .int .u8 0, .int .u8 0, .int .u8 0, .int .u8 0, .int .u8 0, .int .u8 0, .int .u8 0, .int .u8 0, .int .u8 0, .int .u8 0, .int .u8 0, .int .u8 0, .int .u8 0, .int .u8 0, .int .u8 0, .int .u8 0, .int .u8 0, .int .u8 0, .int .u8 0, .int .u8 0, .int .u8 0, .int .u8 0, .int .u8 0, .int .u8 0, .int .u8 0, .int .u8 0, .int .u8 0, .int .u8 0, .int .u8 0, .int .u8 0, .int .u8 0, .int .u8 0, .int .u8 0, .int .u8 0, .int .u8 0, .int .u8 0, .int .u8 0, .int .u8 0, .int .u8 0, .int .u8 0, .int .i64 0, .int .i64 0] 43) w.heap.size (by simp)).trans (heap_alloc_new w (.cells (trC t p).toArray 27))
 have hr1 := heap_alloc_new (w.alloc (.cells (trC t p).toArray 27)) (.cells #[.int .i64 0, .int .i64 0, .int .i64 0, .int .i64 0, .int .i64 0, .int .i64 0, .int .u8 0, .int .u8 0, .int .u8 0, .int .u8 0, .int .u8 0, .int .u8 0, .int .u8 0, .int .u8 0, .int .u8 0, .int .u8 0, .int .u8 0, .int .u8 0, .int .u8 0, .int .u8 0, .int .u8 0, .int .u8 0, .int .u8 0, .int .u8 0, .int .u8 0, .int .u8 0, .int .u8 0, .int .u8 0, .int .u8 0, .int .u8 0, .int .u8 0, .int .u8 0, .int .u8 0, .int .u8 0, .int .u8 0, .int .u8 0, .int .u8 0, .int .u8 0, .int .i64 0, .int .i64 0, .int .u8 0, .int .u8 0, .int .u8 0, .int .u8 0, .int .u8 0, .int .u8 0, .int .u8 0, .int .u8 0, .int .u8 0, .int .u8 0, .int .u8 0, .int .u8 0, .int .u8 0, .int .u8 0, .int .u8 0, .int .u8 0, .int .u8 0, .int .u8 0, .int .u8 0, .int .u8 0, .int .u8 0, .int .u8 0, .int .u8 0, .int .u8 0, .int .u8 0, .int .u8 0, .int .u8 0, .int .u8 0, .int .u8 0, .int .u8 0, .int .u8 0, .int .u8 0, .int .u8 0, .int .u8 0, .int .u8 0, .int .u8 0, .int .u8 0, .int .u8 0, .int .u8 0, .int .u8 0, .int .u8 0, .int .u8 0, .int .u8 0, .int .u8 0, .int .u8 0, .int .u8 0, .int .u8 0, .int .u8 0, .int .u8 0, .int .u8 0, .int .u8 0, .int .u8 0, .int .u8 0, .int .u8 0, .int .u8 0, .int .u8 0, .int .u8 0, .int .u8 0, .int .u8 0, .int .u8 0, .int .u8 0, .int .u8 0, .int .u8 0, .int .u8 0, .int .u8 0, .int .u8 0, .int .u8 0, .int .u8 0, .int .u8 0, .int .u8 0, .int .u8 0, .int .u8 0, .int .u8 0, .int .u8 0, .int .u8 0, .int .u8 0, .int .u8 0, .int .u8 0, .int .u8 0, .int .u8 0, .int .u8 0, .int .u8 0, .int .u8 0, .int .u8 0, .int .u8 0, .int .u8 0, .int .u8 0, .int .u8 0, .int .u8 0, .int .u8 0, .int .u8 0, .int .u8 0, .int .u8 0, .int .u8 0, .int .u8 0, .int .u8 0, .int .i64 0, .int .i64 0] 43)
 rw [World.size_alloc] at hr1
 have KO0 := hid (h.out.below hb0)
 have KT0 := hid (hT.out.below hb0)
 have HB0 := hid hb0
 have RT0 := hid hr0
 have RZ0 := hid hr1
 clear hb0 hr0 hr1
 rw [show trV t p = .agg (trC t p).toArray from rfl]
 go_enter Tryz.func119, Tryz.ntmps119
 go_wp2_with (refine wpList_load_row rfl 27 (.tmp 1) rfl (w.heap.size) rfl 27 _ (0, 0) _ RT0.out Tryz.underlying27 rfl HIT.out ?_)
 rw [show Value.agg (trC t p).toArray = trV t p from rfl]
 refine (nodes_yes t p _ KO0 KT0 HG).mono ?_
 rintro e U1 ⟨A', n', c', rfl, hin, hq⟩
 rw [← nds43_yes HG.out] at hin
 have KI0 := hid hin
 have HNN : Hid (n' ≤ 9223372036854775807) := hid (by have h1 := hin.len; rw [nds43_yes HG.out, List.length_map] at h1; have h2 := (trG_parts HG.out).1; omega)
 clear hin
 have HB2 := hid (HB0.out.trans (hq.mono HB0.out.size))
 have RT2 := hid (row_kept RT0.out hq)
 have RZ2 := hid (row_kept RZ0.out hq)
 have KO2 := hid (KO0.out.below hq)
 have KT2 := hid (KT0.out.below hq)
 clear hq HB0 RT0 RZ0 KO0 KT0
 go_wp2_with fail
 refine (root_any _ _ _ _ _ HNN.out KI0 KT2).mono ?_
 rintro e U3 ⟨rfl, hq⟩
 rw [HQ.out, rootE_43]
 have HB4 := hid (HB2.out.trans (hq.mono HB2.out.size))
 have RT4 := hid (row_kept RT2.out hq)
 have RZ4 := hid (row_kept RZ2.out hq)
 have KO4 := hid (KO2.out.below hq)
 have KT4 := hid (KT2.out.below hq)
 have KI4 := hid (KI0.out.below hq)
 clear hq HB2 RT2 RZ2 KO2 KT2 KI0
 obtain ⟨V5, HV5, hw, hb⟩ := lay_row U3 39 #[.int .u8 0, .int .u8 0, .int .u8 0, .int .u8 0, .int .u8 0, .int .u8 0, .int .u8 0, .int .u8 0, .int .u8 0, .int .u8 0, .int .u8 0, .int .u8 0, .int .u8 0, .int .u8 0, .int .u8 0, .int .u8 0, .int .u8 0, .int .u8 0, .int .u8 0, .int .u8 0, .int .u8 0, .int .u8 0, .int .u8 0, .int .u8 0, .int .u8 0, .int .u8 0, .int .u8 0, .int .u8 0, .int .u8 0, .int .u8 0, .int .u8 0, .int .u8 0, .int .i64 0, .int .i64 0] (ndC q).toArray
 have HB6 := hid (HB4.out.trans (hb.mono HB4.out.size))
 have RT6 := hid (row_kept RT4.out hb)
 have RZ6 := hid (row_kept RZ4.out hb)
 have KO6 := hid (KO4.out.below hb)
 have KT6 := hid (KT4.out.below hb)
 have KI6 := hid (KI4.out.below hb)
 have RN5 := hid hw
 clear hw hb HB4 RT4 RZ4 KO4 KT4 KI4
 have kl : V5.cell? ⟨w.heap.size, 4, none⟩ = some (.slice p.A p.n p.c) := by rw [cell_of_row _ _ _ _ _ _ RT6.out]; rfl
 rw [show ndV q = .agg (ndC q).toArray from rfl]
 go_wp2_with (first | (refine wpList_store_row rfl 39 (.tmp 6) (.tmp 16) rfl U3.heap.size (ndC q).toArray rfl rfl 39 _ (heap_alloc_new U3 _) HS34.out H34.out (ndC_one _) ?_; rw [HV5.out]) | (refine wpList_load_row rfl 39 (.tmp 6) rfl (U3.heap.size) rfl 39 _ (0, 0) _ RN5.out Tryz.underlying39 rfl HS34.out ?_; rw [show Value.agg (ndC q).toArray = ndV q from rfl]) | (refine wpList_build_rt43 rfl (.tmp 20) (.tmp 21) rfl (p.n : Nat) q HQO.out.len rfl rfl ?_) | (refine wpList_store_row rfl 43 (.tmp 2) (.tmp 22) rfl (w.heap.size + 1) (rtC (rt43 (p.n : Nat) q)).toArray rfl rfl 43 _ RZ6.out HN1.out HN2.out.symm (rtC_one _) ?_))
 have hr := setRow_heap V5 (w.heap.size + 1) _ (rtC (rt43 (p.n : Nat) q)).toArray _ _ RZ6.out
 have hl := run_loadVar_row (P := Tryz.prog) (World.setRow V5 (w.heap.size + 1) (rtC (rt43 (p.n : Nat) q)).toArray) (w.heap.size + 1) 43 43 (rtC (rt43 (p.n : Nat) q)).toArray (0, 0) _ hr Tryz.underlying43 rfl HN1.out
 refine bodyPost_ret (v := .tuple #[.agg (rtC (rt43 (p.n : Nat) q)).toArray, .bool true]) ?_ rfl ⟨by rw [HQ.out], below_setRow HB6.out (by omega) _⟩
 simp [results, Tryz.results119, asAddr, hl]
theorem rooted_no (t : Tr) (p : TrP) (w : World) (h : Hid (TrOk w t p)) (hT : Hid (Tabs w)) (HG : Hid (trG t = false)) :
  Calls Tryz.prog 119 #[trV t p] w fun e w' => e = .returned (.tuple #[.agg (rtC (rt43 (p.n : Nat) (rootR (nds43 t)))).toArray, .bool false]) ∧ Below w.heap.size w w' := by
 have HIT : Hid ((Tryz.prog.info? 27).map (·.size) = some (trC t p).toArray.size) := hid (trV_info t p h.out.len)
 obtain ⟨q, HQ⟩ : ∃ q, Hid (rootR (nds43 t) = q) := ⟨_, hid rfl⟩
 have HQO : Hid (NdOk q) := hid (by rw [← HQ.out]; exact rootR_ok nds43_ok)
 have hsz : (rtC (rt43 (p.n : Nat) q)).toArray.size = 138 := by simp [rtC, rt43, ndC_length HQO.out, dgC_len32 zeroD_ok]
 have HN1 : Hid ((Tryz.prog.info? 43).map (·.size) = some (rtC (rt43 (p.n : Nat) q)).toArray.size) := hid (by rw [hsz]; show _ = some 138; kernel_rfl)
 have HN2 := hid hsz
 clear hsz
 have H34 : Hid ((#[.int .u8 0, .int .u8 0, .int .u8 0, .int .u8 0, .int .u8 0, .int .u8 0, .int .u8 0, .int .u8 0, .int .u8 0, .int .u8 0, .int .u8 0, .int .u8 0, .int .u8 0, .int .u8 0, .int .u8 0, .int .u8 0, .int .u8 0, .int .u8 0, .int .u8 0, .int .u8 0, .int .u8 0, .int .u8 0, .int .u8 0, .int .u8 0, .int .u8 0, .int .u8 0, .int .u8 0, .int .u8 0, .int .u8 0, .int .u8 0, .int .u8 0, .int .u8 0, .int .i64 0, .int .i64 0] : Array Value).size = (ndC q).toArray.size) := hid (by simp [ndC_length HQO.out])
 have HSL := hid (size34 HQO.out)
 have HS34 := hid (size34e HQO.out)
 have hb0 := ((Below.refl _ w).alloc (Nat.le_refl _) (.cells (trC t p).toArray 27)).alloc (by simp) (.cells #[.int .i64 0, .int .i64 0, .int .i64 0, .int .i64 0, .int .i64 0, .int .i64 0, .int .u8 0, .int .u8 0, .int .u8 0, .int .u8 0, .int .u8 0, .int .u8 0, .int .u8 0, .int .u8 0, .int .u8 0, .int .u8 0, .int .u8 0, .int .u8 0, .int .u8 0, .int .u8 0, .int .u8 0, .int .u8 0, .int .u8 0, .int .u8 0, .int .u8 0, .int .u8 0, .int .u8 0, .int .u8 0, .int .u8 0, .int .u8 0, .int .u8 0, .int .u8 0, .int .u8 0, .int .u8 0, .int .u8 0, .int .u8 0, .int .u8 0, .int .u8 0, .int .i64 0, .int .i64 0, .int .u8 0, .int .u8 0, .int .u8 0, .int .u8 0, .int .u8 0, .int .u8 0, .int .u8 0, .int .u8 0, .int .u8 0, .int .u8 0, .int .u8 0, .int .u8 0, .int .u8 0, .int .u8 0, .int .u8 0, .int .u8 0, .int .u8 0, .int .u8 0, .int .u8 0, .int .u8 0, .int .u8 0, .int .u8 0, .int .u8 0, .int .u8 0, .int .u8 0, .int .u8 0, .int .u8 0, .int .u8 0, .int .u8 0, .int .u8 0, .int .u8 0, .int .u8 0, .int .u8 0, .int .u8 0, .int .u8 0, .int .u8 0, .int .u8 0, .int .u8 0, .int .u8 0, .int .u8 0, .int .u8 0, .int .u8 0, .int .u8 0, .int .u8 0, .int .u8 0, .int .u8 0, .int .u8 0, .int .u8 0, .int .u8 0, .int .u8 0, .int .u8 0, .int .u8 0, .int .u8 0, .int .u8 0, .int .u8 0, .int .u8 0, .int .u8 0, .int .u8 0, .int .u8 0, .int .u8 0, .int .u8 0, .int .u8 0, .int .u8 0, .int .u8 0, .int .u8 0, .int .u8 0, .int .u8 0, .int .u8 0, .int .u8 0, .int .u8 0, .int .u8 0, .int .u8 0, .int .u8 0, .int .u8 0, .int .u8 0, .int .u8 0, .int .u8 0, .int .u8 0, .int .u8 0, .int .u8 0, .int .u8 0, .int .u8 0, .int .u8 0, .int .u8 0, .int .u8 0, .int .u8 0, .int .u8 0, .int .u8 0, .int .u8 0, .int .u8 0, .int .u8 0, .int .u8 0, .int .u8 0, .int .u8 0, .int .u8 0, .int .u8 0, .int .i64 0, .int .i64 0] 43)
 have hr0 := (Below.heap_alloc (w.alloc (.cells (trC t p).toArray 27)) (.cells #[.int .i64 0, .int .i64 0, .int .i64 0, .int .i64 0, .int .i64 0, .int .i64 0, .int .u8 0, .int .u8 0, .int .u8 0, .int .u8 0, .int .u8 0, .int .u8 0, .int .u8 0, .int .u8 0, .int .u8 0, .int .u8 0, .int .u8 0, .int .u8 0, .int .u8 0, .int .u8 0, .int .u8 0, .int .u8 0, .int .u8 0, .int .u8 0, .int .u8 0, .int .u8 0, .int .u8 0, .int .u8 0, .int .u8 0, .int .u8 0, .int .u8 0, .int .u8 0, .int .u8 0, .int .u8 0, .int .u8 0, .int .u8 0, .int .u8 0, .int .u8 0, .int .i64 0, .int .i64 0, .int .u8 0, .int .u8 0, .int .u8 0, .int .u8 0, .int .u8 0, .int .u8 0, .int .u8 0, .int .u8 0, .int .u8 0, .int .u8 0, .int .u8 0, .int .u8 0, .int .u8 0, .int .u8 0, .int .u8 0, .int .u8 0, .int .u8 0, .int .u8 0, .int .u8 0, .int .u8 0, .int .u8 0, .int .u8 0, .int .u8 0, .int .u8 0, .int .u8 0, .int .u8 0, .int .u8 0, .int .u8 0, .int .u8 0, .int .u8 0, .int .u8 0, .int .u8 0, .int .u8 0, .int .u8 0, .int .u8 0, .int .u8 0, .int .u8 0, .int .u8 0, .int .u8 0, .int .u8 0, .int .u8 0, .int .u8 0, .int .u8 0, .int .u8 0, .int .u8 0, .int .u8 0, .int .u8 0, .int .u8 0, .int .u8 0, .int .u8 0, .int .u8 0, .int .u8 0, .int .u8 0, .int .u8 0, .int .u8 0, .int .u8 0, .int .u8 0, .int .u8 0, .int .u8 0, .int .u8 0, .int .u8 0, .int .u8 0, .int .u8 0, .int .u8 0, .int .u8 0, .int .u8 0, .int .u8 0, .int .u8 0, .int .u8 0, .int .u8 0, .int .u8 0, .int .u8 0, .int .u8 0, .int .u8 0, .int .u8 0, .int .u8 0, .int .u8 0, .int .u8 0, .int .u8 0, .int .u8 0, .int .u8 0, .int .u8 0, .int .u8 0, .int .u8 0, .int .u8 0, .int .u8 0, .int .u8 0, .int .u8 0, .int .u8 0, .int .u8 0, .int .u8 0, .int .u8 0, .int .u8 0, .int .u8 0, .int .u8 0, .int .u8 0, .int .i64 0, .int .i64 0] 43) w.heap.size (by simp)).trans (heap_alloc_new w (.cells (trC t p).toArray 27))
 have hr1 := heap_alloc_new (w.alloc (.cells (trC t p).toArray 27)) (.cells #[.int .i64 0, .int .i64 0, .int .i64 0, .int .i64 0, .int .i64 0, .int .i64 0, .int .u8 0, .int .u8 0, .int .u8 0, .int .u8 0, .int .u8 0, .int .u8 0, .int .u8 0, .int .u8 0, .int .u8 0, .int .u8 0, .int .u8 0, .int .u8 0, .int .u8 0, .int .u8 0, .int .u8 0, .int .u8 0, .int .u8 0, .int .u8 0, .int .u8 0, .int .u8 0, .int .u8 0, .int .u8 0, .int .u8 0, .int .u8 0, .int .u8 0, .int .u8 0, .int .u8 0, .int .u8 0, .int .u8 0, .int .u8 0, .int .u8 0, .int .u8 0, .int .i64 0, .int .i64 0, .int .u8 0, .int .u8 0, .int .u8 0, .int .u8 0, .int .u8 0, .int .u8 0, .int .u8 0, .int .u8 0, .int .u8 0, .int .u8 0, .int .u8 0, .int .u8 0, .int .u8 0, .int .u8 0, .int .u8 0, .int .u8 0, .int .u8 0, .int .u8 0, .int .u8 0, .int .u8 0, .int .u8 0, .int .u8 0, .int .u8 0, .int .u8 0, .int .u8 0, .int .u8 0, .int .u8 0, .int .u8 0, .int .u8 0, .int .u8 0, .int .u8 0, .int .u8 0, .int .u8 0, .int .u8 0, .int .u8 0, .int .u8 0, .int .u8 0, .int .u8 0, .int .u8 0, .int .u8 0, .int .u8 0, .int .u8 0, .int .u8 0, .int .u8 0, .int .u8 0, .int .u8 0, .int .u8 0, .int .u8 0, .int .u8 0, .int .u8 0, .int .u8 0, .int .u8 0, .int .u8 0, .int .u8 0, .int .u8 0, .int .u8 0, .int .u8 0, .int .u8 0, .int .u8 0, .int .u8 0, .int .u8 0, .int .u8 0, .int .u8 0, .int .u8 0, .int .u8 0, .int .u8 0, .int .u8 0, .int .u8 0, .int .u8 0, .int .u8 0, .int .u8 0, .int .u8 0, .int .u8 0, .int .u8 0, .int .u8 0, .int .u8 0, .int .u8 0, .int .u8 0, .int .u8 0, .int .u8 0, .int .u8 0, .int .u8 0, .int .u8 0, .int .u8 0, .int .u8 0, .int .u8 0, .int .u8 0, .int .u8 0, .int .u8 0, .int .u8 0, .int .u8 0, .int .u8 0, .int .u8 0, .int .u8 0, .int .u8 0, .int .u8 0, .int .i64 0, .int .i64 0] 43)
 rw [World.size_alloc] at hr1
 have KO0 := hid (h.out.below hb0)
 have KT0 := hid (hT.out.below hb0)
 have HB0 := hid hb0
 have RT0 := hid hr0
 have RZ0 := hid hr1
 clear hb0 hr0 hr1
 rw [show trV t p = .agg (trC t p).toArray from rfl]
 go_enter Tryz.func119, Tryz.ntmps119
 go_wp2_with (refine wpList_load_row rfl 27 (.tmp 1) rfl (w.heap.size) rfl 27 _ (0, 0) _ RT0.out Tryz.underlying27 rfl HIT.out ?_)
 rw [show Value.agg (trC t p).toArray = trV t p from rfl]
 refine (nodes_no t p _ KO0 KT0 HG).mono ?_
 rintro e U1 ⟨rfl, hq⟩
 have HB2 := hid (HB0.out.trans (hq.mono HB0.out.size))
 have RT2 := hid (row_kept RT0.out hq)
 have RZ2 := hid (row_kept RZ0.out hq)
 have KO2 := hid (KO0.out.below hq)
 have KT2 := hid (KT0.out.below hq)
 clear hq HB0 RT0 RZ0 KO0 KT0
 have KI0 : Hid (InN U1 none 0 0 (nds43 t)) := hid (by unfold nds43; rw [HG.out]; exact ⟨rfl, Nat.le_refl _, (fun _ => rfl), (fun x hx => by cases hx), (fun h => by simp at h)⟩)
 go_wp2_with fail
 refine (root_any _ _ _ _ _ (by omega) KI0 KT2).mono ?_
 rintro e U3 ⟨rfl, hq⟩
 rw [HQ.out, rootE_43]
 have HB4 := hid (HB2.out.trans (hq.mono HB2.out.size))
 have RT4 := hid (row_kept RT2.out hq)
 have RZ4 := hid (row_kept RZ2.out hq)
 have KO4 := hid (KO2.out.below hq)
 have KT4 := hid (KT2.out.below hq)
 have KI4 := hid (KI0.out.below hq)
 clear hq HB2 RT2 RZ2 KO2 KT2 KI0
 obtain ⟨V5, HV5, hw, hb⟩ := lay_row U3 39 #[.int .u8 0, .int .u8 0, .int .u8 0, .int .u8 0, .int .u8 0, .int .u8 0, .int .u8 0, .int .u8 0, .int .u8 0, .int .u8 0, .int .u8 0, .int .u8 0, .int .u8 0, .int .u8 0, .int .u8 0, .int .u8 0, .int .u8 0, .int .u8 0, .int .u8 0, .int .u8 0, .int .u8 0, .int .u8 0, .int .u8 0, .int .u8 0, .int .u8 0, .int .u8 0, .int .u8 0, .int .u8 0, .int .u8 0, .int .u8 0, .int .u8 0, .int .u8 0, .int .i64 0, .int .i64 0] (ndC q).toArray
 have HB6 := hid (HB4.out.trans (hb.mono HB4.out.size))
 have RT6 := hid (row_kept RT4.out hb)
 have RZ6 := hid (row_kept RZ4.out hb)
 have KO6 := hid (KO4.out.below hb)
 have KT6 := hid (KT4.out.below hb)
 have KI6 := hid (KI4.out.below hb)
 have RN5 := hid hw
 clear hw hb HB4 RT4 RZ4 KO4 KT4 KI4
 have kl : V5.cell? ⟨w.heap.size, 4, none⟩ = some (.slice p.A p.n p.c) := by rw [cell_of_row _ _ _ _ _ _ RT6.out]; rfl
 rw [show ndV q = .agg (ndC q).toArray from rfl]
 go_wp2_with (first | (refine wpList_store_row rfl 39 (.tmp 6) (.tmp 16) rfl U3.heap.size (ndC q).toArray rfl rfl 39 _ (heap_alloc_new U3 _) HS34.out H34.out (ndC_one _) ?_; rw [HV5.out]) | (refine wpList_load_row rfl 39 (.tmp 6) rfl (U3.heap.size) rfl 39 _ (0, 0) _ RN5.out Tryz.underlying39 rfl HS34.out ?_; rw [show Value.agg (ndC q).toArray = ndV q from rfl]) | (refine wpList_build_rt43 rfl (.tmp 20) (.tmp 21) rfl (p.n : Nat) q HQO.out.len rfl rfl ?_) | (refine wpList_store_row rfl 43 (.tmp 2) (.tmp 22) rfl (w.heap.size + 1) (rtC (rt43 (p.n : Nat) q)).toArray rfl rfl 43 _ RZ6.out HN1.out HN2.out.symm (rtC_one _) ?_))
 have hr := setRow_heap V5 (w.heap.size + 1) _ (rtC (rt43 (p.n : Nat) q)).toArray _ _ RZ6.out
 have hl := run_loadVar_row (P := Tryz.prog) (World.setRow V5 (w.heap.size + 1) (rtC (rt43 (p.n : Nat) q)).toArray) (w.heap.size + 1) 43 43 (rtC (rt43 (p.n : Nat) q)).toArray (0, 0) _ hr Tryz.underlying43 rfl HN1.out
 refine bodyPost_ret (v := .tuple #[.agg (rtC (rt43 (p.n : Nat) q)).toArray, .bool false]) ?_ rfl ⟨by rw [HQ.out], below_setRow HB6.out (by omega) _⟩
 simp [results, Tryz.results119, asAddr, hl]
theorem rooted_any (t : Tr) (p : TrP) (w : World) (h : Hid (TrOk w t p)) (hT : Hid (Tabs w)) :
  Calls Tryz.prog 119 #[trV t p] w fun e w' => e = .returned (.tuple #[.agg (rtC (rt43 (p.n : Nat) (rootR (nds43 t)))).toArray, .bool (trG t)]) ∧ Below w.heap.size w w' := by
 cases hg : trG t with
 | true => exact rooted_yes t p w h hT (hid hg)
 | false => exact rooted_no t p w h hT (hid hg)
def sT : Tr := ⟨0, 4, 1, 9, [⟨1, 0, 6, 4, 0⟩, ⟨2, 0, 9, 2, 0⟩, ⟨3, 0, 1, 1, 0⟩], [], zeroD⟩
theorem sT_G : trG sT = true := by kernel_rfl
def sTp (b : Nat) : TrP := ⟨some ⟨b, 0, none⟩, 3, 3, none, 0, 0⟩
theorem built_sT (p : TrP) : Tryz.prog.built 27 [(1, .int .i64 4), (2, .int .i64 1), (3, .int .i64 9), (4, .slice p.A p.n p.c)] = some (trC sT ⟨p.A, p.n, p.c, none, 0, 0⟩).toArray := by kernel_rfl
theorem wpList_build_sT {w : World} {ops : Array Oper} {rest : List Oper} {o : Oper} {a : Act} {Q : Exit → Act → World → Prop} (hg : o.guard = none) (u4 : Operand)
  (ho : o.op = .build 27 #[(1, .const (.int .i64 4)), (2, .const (.int .i64 1)), (3, .const (.int .i64 9)), (4, u4)]) (b : Nat)
  (h4 : a.eval u4 = .slice (some ⟨b, 0, none⟩) 3 3)
  (h : wpList Tryz.prog ops Q rest (a.put o.dst (.agg (trC sT (sTp b)).toArray)) w) : wpList Tryz.prog ops Q (o :: rest) a w := by
 have e1 : (#[(1, Operand.const (.int .i64 4)), (2, Operand.const (.int .i64 1)), (3, Operand.const (.int .i64 9)), (4, u4)].map fun (i, x) => (i, a.eval x)).toList = [(1, .int .i64 4), (2, .int .i64 1), (3, .int .i64 9), (4, .slice (some ⟨b, 0, none⟩) 3 3)] := by
  have hc : ∀ v, a.eval (.const v) = v := fun _ => rfl
  simp [h4, hc]
 have hb := built_sT (sTp b)
 refine wpList_build hg 27 _ ho (by rw [e1]; erw [hb]; rfl) ?_
 rw [e1]
 erw [hb]
 exact h
theorem sT_ok {w : World} {b : Nat} (hr : w.heap[b]? = some (.cells #[.int .i64 1, .int .i64 0, .int .i64 6, .int .i64 4, .int .i64 0, .int .i64 2, .int .i64 0, .int .i64 9, .int .i64 2, .int .i64 0, .int .i64 3, .int .i64 0, .int .i64 1, .int .i64 1, .int .i64 0] 45 (0, 0))) : TrOk w sT (sTp b) := by
 have iI : ∀ z : Int, -100 ≤ z → z ≤ 100 → I64 z := fun z h1 h2 => by unfold I64; omega
 have hm : (3 : Nat) ≤ maxLen := by unfold maxLen; omega
 have g1 := (Array.getElem?_eq_some_iff.1 hr).1
 have q1 := range_row (cs := sT.ln.flatMap lnC) hr
 exact ⟨iI _ (by decide) (by decide), iI _ (by decide) (by decide), iI _ (by decide) (by decide), iI _ (by decide) (by decide), ⟨rfl, Nat.le_refl _, (fun e => by cases e), (fun x hx => by
  simp only [sT, List.mem_cons, List.not_mem_nil, or_false] at hx
  rcases hx with rfl | rfl | rfl <;> exact ⟨iI _ (by decide) (by decide), iI _ (by decide) (by decide), iI _ (by decide) (by decide), iI _ (by decide) (by decide), iI _ (by decide) (by decide)⟩), fun _ => ⟨_, 0, rfl, g1, q1⟩⟩, ⟨rfl, Nat.le_refl _, fun _ => rfl, (fun x hx => by cases hx), fun h => absurd h (by decide)⟩, zeroD_ok.len, zeroD_ok.bytes, hm, Nat.zero_le _⟩
/-- the root of the sample -/
def sR : Rt := rt43 3 (rootR (nds43 sT))
theorem sR_ok : RtOk sR := rt43_ok (by unfold I64; omega) (rootR_ok nds43_ok)
theorem sR_size : (rtC sR).toArray.size = 138 := by
 have hq : NdOk (rootR (nds43 sT)) := rootR_ok nds43_ok
 simp [rtC, sR, rt43, ndC_length hq, dgC_len32 zeroD_ok]
theorem sT_size (b : Nat) : (trC sT (sTp b)).toArray.size = 38 := by simp [trC, sT, zeroD]
/-- the rows of the two results -/
structure SmC (w : World) (b2 b3 : Nat) (w' : World) : Prop where
 bel : Below w.heap.size w w'
 r2 : w'.heap[b2]? = some (.cells (trC sT (sTp (w.heap.size + 2))).toArray 27 (0, 0))
 r3 : w'.heap[b3]? = some (.cells (rtC sR).toArray 43 (0, 0))
 rl : w'.heap[w.heap.size + 2]? = some (.cells #[.int .i64 1, .int .i64 0, .int .i64 6, .int .i64 4, .int .i64 0, .int .i64 2, .int .i64 0, .int .i64 9, .int .i64 2, .int .i64 0, .int .i64 3, .int .i64 0, .int .i64 1, .int .i64 1, .int .i64 0] 45 (0, 0))
 z0 : ∃ c, w'.heap[w.heap.size]? = some (.cells c 27 (0, 0)) ∧ c.size = 38
 z1 : ∃ c, w'.heap[w.heap.size + 1]? = some (.cells c 43 (0, 0)) ∧ c.size = 138
theorem SmC.below {w w1 w2 : World} {b2 b3 : Nat} (h : SmC w b2 b3 w1) (hb : Below w1.heap.size w1 w2) : SmC w b2 b3 w2 := by
 obtain ⟨c0, h0, s0⟩ := h.z0
 obtain ⟨c1, h1, s1⟩ := h.z1
 exact ⟨h.bel.trans (hb.mono h.bel.size), row_kept h.r2 hb, row_kept h.r3 hb, row_kept h.rl hb, ⟨c0, row_kept h0 hb, s0⟩, ⟨c1, row_kept h1 hb, s1⟩⟩
def sSm (w : World) : Nat → Value → World → Prop
 | 0, fv, _ => fv = .agg (trC sT (sTp (w.heap.size + 2))).toArray
 | 1, fv, _ => fv = .agg (rtC sR).toArray
 | 2, _, fw => fw.heap[w.heap.size]? = some (.cells (trC sT (sTp (w.heap.size + 2))).toArray 27 (0, 0))
 | 3, _, fw => fw.heap[w.heap.size + 1]? = some (.cells (rtC sR).toArray 43 (0, 0))
 | _, _, _ => True
theorem sample_any (w : World) (hT : Hid (Tabs w)) :
  Calls Tryz.prog 69 #[] w fun e w' => ∃ b, e = .returned (.tuple #[trV sT (sTp b), .agg (rtC sR).toArray]) ∧ TrOk w' sT (sTp b) ∧ Below w.heap.size w w' := by
 have b0 := (Below.refl _ w).alloc (Nat.le_refl _) (.cells #[.int .i64 0, .int .i64 0, .int .i64 0, .int .i64 0, .slice none 0 0, .slice none 0 0, .int .u8 0, .int .u8 0, .int .u8 0, .int .u8 0, .int .u8 0, .int .u8 0, .int .u8 0, .int .u8 0, .int .u8 0, .int .u8 0, .int .u8 0, .int .u8 0, .int .u8 0, .int .u8 0, .int .u8 0, .int .u8 0, .int .u8 0, .int .u8 0, .int .u8 0, .int .u8 0, .int .u8 0, .int .u8 0, .int .u8 0, .int .u8 0, .int .u8 0, .int .u8 0, .int .u8 0, .int .u8 0, .int .u8 0, .int .u8 0, .int .u8 0, .int .u8 0] 27)
 have b1 := (Below.refl _ (w.alloc (.cells #[.int .i64 0, .int .i64 0, .int .i64 0, .int .i64 0, .slice none 0 0, .slice none 0 0, .int .u8 0, .int .u8 0, .int .u8 0, .int .u8 0, .int .u8 0, .int .u8 0, .int .u8 0, .int .u8 0, .int .u8 0, .int .u8 0, .int .u8 0, .int .u8 0, .int .u8 0, .int .u8 0, .int .u8 0, .int .u8 0, .int .u8 0, .int .u8 0, .int .u8 0, .int .u8 0, .int .u8 0, .int .u8 0, .int .u8 0, .int .u8 0, .int .u8 0, .int .u8 0, .int .u8 0, .int .u8 0, .int .u8 0, .int .u8 0, .int .u8 0, .int .u8 0] 27))).alloc (Nat.le_refl _) (.cells Tryz.zeroCells43 43)
 have b2 := (Below.refl _ ((w.alloc (.cells #[.int .i64 0, .int .i64 0, .int .i64 0, .int .i64 0, .slice none 0 0, .slice none 0 0, .int .u8 0, .int .u8 0, .int .u8 0, .int .u8 0, .int .u8 0, .int .u8 0, .int .u8 0, .int .u8 0, .int .u8 0, .int .u8 0, .int .u8 0, .int .u8 0, .int .u8 0, .int .u8 0, .int .u8 0, .int .u8 0, .int .u8 0, .int .u8 0, .int .u8 0, .int .u8 0, .int .u8 0, .int .u8 0, .int .u8 0, .int .u8 0, .int .u8 0, .int .u8 0, .int .u8 0, .int .u8 0, .int .u8 0, .int .u8 0, .int .u8 0, .int .u8 0] 27)).alloc (.cells Tryz.zeroCells43 43))).alloc (Nat.le_refl _) (.cells #[.int .i64 1, .int .i64 0, .int .i64 6, .int .i64 4, .int .i64 0, .int .i64 2, .int .i64 0, .int .i64 9, .int .i64 2, .int .i64 0, .int .i64 3, .int .i64 0, .int .i64 1, .int .i64 1, .int .i64 0] 45)
 have h0 := row_kept (row_kept (heap_alloc_new w (.cells #[.int .i64 0, .int .i64 0, .int .i64 0, .int .i64 0, .slice none 0 0, .slice none 0 0, .int .u8 0, .int .u8 0, .int .u8 0, .int .u8 0, .int .u8 0, .int .u8 0, .int .u8 0, .int .u8 0, .int .u8 0, .int .u8 0, .int .u8 0, .int .u8 0, .int .u8 0, .int .u8 0, .int .u8 0, .int .u8 0, .int .u8 0, .int .u8 0, .int .u8 0, .int .u8 0, .int .u8 0, .int .u8 0, .int .u8 0, .int .u8 0, .int .u8 0, .int .u8 0, .int .u8 0, .int .u8 0, .int .u8 0, .int .u8 0, .int .u8 0, .int .u8 0] 27)) b1) b2
 have h1 := row_kept (heap_alloc_new (w.alloc (.cells #[.int .i64 0, .int .i64 0, .int .i64 0, .int .i64 0, .slice none 0 0, .slice none 0 0, .int .u8 0, .int .u8 0, .int .u8 0, .int .u8 0, .int .u8 0, .int .u8 0, .int .u8 0, .int .u8 0, .int .u8 0, .int .u8 0, .int .u8 0, .int .u8 0, .int .u8 0, .int .u8 0, .int .u8 0, .int .u8 0, .int .u8 0, .int .u8 0, .int .u8 0, .int .u8 0, .int .u8 0, .int .u8 0, .int .u8 0, .int .u8 0, .int .u8 0, .int .u8 0, .int .u8 0, .int .u8 0, .int .u8 0, .int .u8 0, .int .u8 0, .int .u8 0] 27)) (.cells Tryz.zeroCells43 43)) b2
 have h2 := heap_alloc_new ((w.alloc (.cells #[.int .i64 0, .int .i64 0, .int .i64 0, .int .i64 0, .slice none 0 0, .slice none 0 0, .int .u8 0, .int .u8 0, .int .u8 0, .int .u8 0, .int .u8 0, .int .u8 0, .int .u8 0, .int .u8 0, .int .u8 0, .int .u8 0, .int .u8 0, .int .u8 0, .int .u8 0, .int .u8 0, .int .u8 0, .int .u8 0, .int .u8 0, .int .u8 0, .int .u8 0, .int .u8 0, .int .u8 0, .int .u8 0, .int .u8 0, .int .u8 0, .int .u8 0, .int .u8 0, .int .u8 0, .int .u8 0, .int .u8 0, .int .u8 0, .int .u8 0, .int .u8 0] 27)).alloc (.cells Tryz.zeroCells43 43)) (.cells #[.int .i64 1, .int .i64 0, .int .i64 6, .int .i64 4, .int .i64 0, .int .i64 2, .int .i64 0, .int .i64 9, .int .i64 2, .int .i64 0, .int .i64 3, .int .i64 0, .int .i64 1, .int .i64 1, .int .i64 0] 45)
 have hb := (b0.trans (b1.mono b0.size)).trans (b2.mono (Nat.le_trans b0.size b1.size))
 have hs : (((w.alloc (.cells #[.int .i64 0, .int .i64 0, .int .i64 0, .int .i64 0, .slice none 0 0, .slice none 0 0, .int .u8 0, .int .u8 0, .int .u8 0, .int .u8 0, .int .u8 0, .int .u8 0, .int .u8 0, .int .u8 0, .int .u8 0, .int .u8 0, .int .u8 0, .int .u8 0, .int .u8 0, .int .u8 0, .int .u8 0, .int .u8 0, .int .u8 0, .int .u8 0, .int .u8 0, .int .u8 0, .int .u8 0, .int .u8 0, .int .u8 0, .int .u8 0, .int .u8 0, .int .u8 0, .int .u8 0, .int .u8 0, .int .u8 0, .int .u8 0, .int .u8 0, .int .u8 0] 27)).alloc (.cells Tryz.zeroCells43 43)).alloc (.cells #[.int .i64 1, .int .i64 0, .int .i64 6, .int .i64 4, .int .i64 0, .int .i64 2, .int .i64 0, .int .i64 9, .int .i64 2, .int .i64 0, .int .i64 3, .int .i64 0, .int .i64 1, .int .i64 1, .int .i64 0] 45)).heap.size = w.heap.size + 3 := by simp
 rw [World.size_alloc] at h1 h2
 rw [World.size_alloc] at h2
 rw [show w.heap.size + 1 + 1 = w.heap.size + 2 from rfl] at h2
 obtain ⟨V, HV0⟩ : ∃ V, Hid ((((w.alloc (.cells #[.int .i64 0, .int .i64 0, .int .i64 0, .int .i64 0, .slice none 0 0, .slice none 0 0, .int .u8 0, .int .u8 0, .int .u8 0, .int .u8 0, .int .u8 0, .int .u8 0, .int .u8 0, .int .u8 0, .int .u8 0, .int .u8 0, .int .u8 0, .int .u8 0, .int .u8 0, .int .u8 0, .int .u8 0, .int .u8 0, .int .u8 0, .int .u8 0, .int .u8 0, .int .u8 0, .int .u8 0, .int .u8 0, .int .u8 0, .int .u8 0, .int .u8 0, .int .u8 0, .int .u8 0, .int .u8 0, .int .u8 0, .int .u8 0, .int .u8 0, .int .u8 0] 27)).alloc (.cells Tryz.zeroCells43 43)).alloc (.cells #[.int .i64 1, .int .i64 0, .int .i64 6, .int .i64 4, .int .i64 0, .int .i64 2, .int .i64 0, .int .i64 9, .int .i64 2, .int .i64 0, .int .i64 3, .int .i64 0, .int .i64 1, .int .i64 1, .int .i64 0] 45)) = V) := ⟨_, hid rfl⟩
 rw [HV0.out] at h0 h1 h2 hb hs
 have HSV := hid hs
 have KS0 : Hid (w.heap.size + 3 ≤ V.heap.size) := hid (by omega)
 have HB0 := hid hb
 have RA0 := hid h0
 have RB0 := hid h1
 have RL0 := hid h2
 have KT0 := hid (hT.out.below hb)
 clear b0 b1 b2 h0 h1 h2 hb hs
 have HIT : Hid ((Tryz.prog.info? 27).map (·.size) = some (trC sT (sTp (w.heap.size + 2))).toArray.size) := hid (trV_info sT _ rfl)
 have HST := hid (sT_size (w.heap.size + 2))
 have HIR := hid (rtC_info sR_ok)
 have HSR := hid sR_size
 obtain ⟨V1, HV1, hw, hb⟩ := lay_row V 27 #[.int .i64 0, .int .i64 0, .int .i64 0, .int .i64 0, .slice none 0 0, .slice none 0 0, .int .u8 0, .int .u8 0, .int .u8 0, .int .u8 0, .int .u8 0, .int .u8 0, .int .u8 0, .int .u8 0, .int .u8 0, .int .u8 0, .int .u8 0, .int .u8 0, .int .u8 0, .int .u8 0, .int .u8 0, .int .u8 0, .int .u8 0, .int .u8 0, .int .u8 0, .int .u8 0, .int .u8 0, .int .u8 0, .int .u8 0, .int .u8 0, .int .u8 0, .int .u8 0, .int .u8 0, .int .u8 0, .int .u8 0, .int .u8 0, .int .u8 0, .int .u8 0] (trC sT (sTp (w.heap.size + 2))).toArray
 have HB2 := hid (HB0.out.trans (hb.mono HB0.out.size))
 have RA2 := hid (row_kept RA0.out hb)
 have RB2 := hid (row_kept RB0.out hb)
 have RL2 := hid (row_kept RL0.out hb)
 have KT2 := hid (KT0.out.below hb)
 have KS2 := hid (Nat.le_trans KS0.out (hb).size)
 have RT1 := hid hw
 clear hw hb HB0 RA0 RB0 RL0 KT0 KS0
 go_enter Tryz.func69, Tryz.ntmps69
 go_wp2_with (first | (rw [HV0.out]; refine wpList_build_sT rfl (.tmp 8) rfl (w.heap.size + 2) rfl ?_) | (refine wpList_store_row rfl 27 (.tmp 2) (.tmp 9) rfl V.heap.size (trC sT (sTp (w.heap.size + 2))).toArray rfl rfl 27 _ (heap_alloc_new V _) HIT.out HST.out.symm (trC_one _ _) ?_; rw [HV1.out]) | (refine wpList_load_row rfl 27 (.tmp 2) rfl (V.heap.size) rfl 27 _ (0, 0) _ RT1.out Tryz.underlying27 rfl HIT.out ?_))
 rw [show Value.agg (trC sT (sTp (w.heap.size + 2))).toArray = trV sT (sTp (w.heap.size + 2)) from rfl]
 refine (rooted_any sT (sTp (w.heap.size + 2)) _ (hid (sT_ok RL2.out)) KT2).mono ?_
 rintro e U3 ⟨rfl, hq⟩
 rw [show (rt43 ((sTp (w.heap.size + 2)).n : Nat) (rootR (nds43 sT))) = sR from rfl, sT_G]
 have HB4 := hid (HB2.out.trans (hq.mono HB2.out.size))
 have RA4 := hid (row_kept RA2.out hq)
 have RB4 := hid (row_kept RB2.out hq)
 have RL4 := hid (row_kept RL2.out hq)
 have RT4 := hid (row_kept RT1.out hq)
 have KT4 := hid (KT2.out.below hq)
 have KS4 := hid (Nat.le_trans KS2.out (hq).size)
 clear hq HB2 RA2 RB2 RL2 RT1 KT2 KS2
 have HU3 := KS4
 obtain ⟨V5, HV5, hw, hb⟩ := lay_row U3 43 Tryz.zeroCells43 (rtC sR).toArray
 have HB6 := hid (HB4.out.trans (hb.mono HB4.out.size))
 have RA6 := hid (row_kept RA4.out hb)
 have RB6 := hid (row_kept RB4.out hb)
 have RL6 := hid (row_kept RL4.out hb)
 have RT6 := hid (row_kept RT4.out hb)
 have KT6 := hid (KT4.out.below hb)
 have KS6 := hid (Nat.le_trans KS4.out (hb).size)
 have RR5 := hid hw
 clear hw hb HB4 RA4 RB4 RL4 RT4 KT4 KS4
 go_wp2_with (refine wpList_store_row rfl 43 (.tmp 3) (.tmp 13) rfl U3.heap.size (rtC sR).toArray rfl rfl 43 _ (heap_alloc_new U3 _) HIR.out HSR.out.symm (rtC_one _) ?_; rw [HV5.out])
 have hC0 : SmC w V.heap.size U3.heap.size V5 := ⟨HB6.out, RT6.out, RR5.out, RL6.out, ⟨_, RA6.out, rfl⟩, ⟨_, RB6.out, by kernel_rfl⟩⟩
 have HC0 := hid (hC0.below (Below.refl _ _).drew)
 have HBL : Hid (w.heap.size ≠ V.heap.size ∧ w.heap.size ≠ U3.heap.size ∧ w.heap.size + 1 ≠ V.heap.size ∧ w.heap.size + 1 ≠ U3.heap.size) := hid (by have h1 := HSV.out; have h2 := HU3.out; omega)
 obtain ⟨q2, HQ2⟩ : ∃ q, Hid (V.heap.size = q) := ⟨_, hid rfl⟩
 obtain ⟨q3, HQ3⟩ : ∃ q, Hid (U3.heap.size = q) := ⟨_, hid rfl⟩
 rw [HQ2.out, HQ3.out] at HC0 HBL
 rw [HQ2.out, HQ3.out]
 clear hC0
 refine region_flow3 (by kernel_rfl) (by kernel_rfl) (fun i => Nat.beq i 2 || Nat.beq i 3) (fun i => i) (by kernel_rfl) (fun fx => #[.pointer (some { block := w.heap.size, off := 0 }), .pointer (some { block := w.heap.size + 1, off := 0 }), .pointer (some { block := q2, off := 0 }), .pointer (some { block := q3, off := 0 }), .bool true, .agg #[.int IntKind.i64 1, .int IntKind.i64 0, .int IntKind.i64 6, .int IntKind.i64 4, .int IntKind.i64 0], .agg #[.int IntKind.i64 2, .int IntKind.i64 0, .int IntKind.i64 9, .int IntKind.i64 2, .int IntKind.i64 0], .agg #[.int IntKind.i64 3, .int IntKind.i64 0, .int IntKind.i64 1, .int IntKind.i64 1, .int IntKind.i64 0], .slice (some { block := w.heap.size + 1 + 1, off := 0 }) 3 3, trV sT (sTp (w.heap.size + 2)), .tuple #[.agg (rtC sR).toArray, .bool true], trV sT (sTp (w.heap.size + 2)), .tuple #[.agg (rtC sR).toArray, .bool true], .agg (rtC sR).toArray, .bool true, fx 0, fx 1]) (fun _ => undef) (fun _ _ w' => SmC w q2 q3 w') (fun fi fv _ fw => sSm w fi fv fw) HC0.out ?_ ?_
 ·refine ⟨?_, ?_, ?_, ?_, trivial⟩
  all_goals intro L fx w' hC hi hcl hdn hd
  ·refine wpList_load_row rfl 27 (.tmp 2) rfl q2 rfl 27 _ (0, 0) _ hC.r2 Tryz.underlying27 rfl HIT.out ?_
   clear hd
   go_wp2_with fail
   exact ⟨_, rfl, hC, rfl, kP⟩
  ·refine wpList_load_row rfl 43 (.tmp 3) rfl q3 rfl 43 _ (0, 0) _ hC.r3 Tryz.underlying43 rfl HIR.out ?_
   clear hd
   go_wp2_with fail
   exact ⟨_, rfl, hC, rfl, kP⟩
  ·have h0 : fx 0 = .agg (trC sT (sTp (w.heap.size + 2))).toArray := hd.1 rfl
   obtain ⟨c, hc, hsz⟩ := hC.z0
   refine wpList_store_row rfl 27 (.tmp 0) (.tmp 15) rfl (w.heap.size) (trC sT (sTp (w.heap.size + 2))).toArray rfl h0 27 _ hc HIT.out (by rw [hsz, HST.out]) (trC_one _ _) ?_
   clear hd
   go_wp2_with fail
   have hne := HBL.out
   have hr := setRow_heap w' (w.heap.size) c (trC sT (sTp (w.heap.size + 2))).toArray _ _ hc
   have ho : ∀ k, k ≠ w.heap.size → (w'.setRow (w.heap.size) (trC sT (sTp (w.heap.size + 2))).toArray).heap[k]? = w'.heap[k]? := fun k hk => setRow_other w' (w.heap.size) k (trC sT (sTp (w.heap.size + 2))).toArray hk
   refine ⟨undef, (by show _ = Act.mk #[Value.pointer (some { block := w.heap.size, off := 0 }), Value.pointer (some { block := w.heap.size + 1, off := 0 }), Value.pointer (some { block := q2, off := 0 }), Value.pointer (some { block := q3, off := 0 }), Value.bool true, Value.agg #[Value.int IntKind.i64 1, Value.int IntKind.i64 0, Value.int IntKind.i64 6, Value.int IntKind.i64 4, Value.int IntKind.i64 0], Value.agg #[Value.int IntKind.i64 2, Value.int IntKind.i64 0, Value.int IntKind.i64 9, Value.int IntKind.i64 2, Value.int IntKind.i64 0], Value.agg #[Value.int IntKind.i64 3, Value.int IntKind.i64 0, Value.int IntKind.i64 1, Value.int IntKind.i64 1, Value.int IntKind.i64 0], Value.slice (some { block := w.heap.size + 1 + 1, off := 0 }) 3 3, trV sT (sTp (w.heap.size + 2)), Value.tuple #[Value.agg (rtC sR).toArray, Value.bool true], trV sT (sTp (w.heap.size + 2)), Value.tuple #[Value.agg (rtC sR).toArray, Value.bool true], Value.agg (rtC sR).toArray, Value.bool true, fx 0, fx 1] []; rw [h0] <;> rfl), ⟨below_setRow hC.bel (by omega) _, (ho _ hne.1.symm).trans hC.r2, (ho _ hne.2.1.symm).trans hC.r3, (ho _ (by omega)).trans hC.rl, ⟨_, hr, HST.out⟩, (by obtain ⟨c1, k1, s1⟩ := hC.z1; exact ⟨c1, (ho _ (by omega)).trans k1, s1⟩)⟩, hr, fun j v t hj hu h => ?_⟩
   match j, h with
   | 0, h => exact h
   | 1, h => exact h
   | 2, h => exact hr
   | 3, h => exact (ho _ (by omega)).trans h
   | j + 4, h => trivial
  ·have h1 : fx 1 = .agg (rtC sR).toArray := hd.1 rfl
   obtain ⟨c, hc, hsz⟩ := hC.z1
   refine wpList_store_row rfl 43 (.tmp 1) (.tmp 16) rfl (w.heap.size + 1) (rtC sR).toArray rfl h1 43 _ hc HIR.out (by rw [hsz, HSR.out]) (rtC_one _) ?_
   clear hd
   go_wp2_with fail
   have hne := HBL.out
   have hr := setRow_heap w' (w.heap.size + 1) c (rtC sR).toArray _ _ hc
   have ho : ∀ k, k ≠ w.heap.size + 1 → (w'.setRow (w.heap.size + 1) (rtC sR).toArray).heap[k]? = w'.heap[k]? := fun k hk => setRow_other w' (w.heap.size + 1) k (rtC sR).toArray hk
   refine ⟨undef, (by show _ = Act.mk #[Value.pointer (some { block := w.heap.size, off := 0 }), Value.pointer (some { block := w.heap.size + 1, off := 0 }), Value.pointer (some { block := q2, off := 0 }), Value.pointer (some { block := q3, off := 0 }), Value.bool true, Value.agg #[Value.int IntKind.i64 1, Value.int IntKind.i64 0, Value.int IntKind.i64 6, Value.int IntKind.i64 4, Value.int IntKind.i64 0], Value.agg #[Value.int IntKind.i64 2, Value.int IntKind.i64 0, Value.int IntKind.i64 9, Value.int IntKind.i64 2, Value.int IntKind.i64 0], Value.agg #[Value.int IntKind.i64 3, Value.int IntKind.i64 0, Value.int IntKind.i64 1, Value.int IntKind.i64 1, Value.int IntKind.i64 0], Value.slice (some { block := w.heap.size + 1 + 1, off := 0 }) 3 3, trV sT (sTp (w.heap.size + 2)), Value.tuple #[Value.agg (rtC sR).toArray, Value.bool true], trV sT (sTp (w.heap.size + 2)), Value.tuple #[Value.agg (rtC sR).toArray, Value.bool true], Value.agg (rtC sR).toArray, Value.bool true, fx 0, fx 1] []; rw [h1] <;> rfl), ⟨below_setRow hC.bel (by omega) _, (ho _ hne.2.2.1.symm).trans hC.r2, (ho _ hne.2.2.2.symm).trans hC.r3, (ho _ (by omega)).trans hC.rl, (by obtain ⟨c1, k1, s1⟩ := hC.z0; exact ⟨c1, (ho _ (by omega)).trans k1, s1⟩), ⟨_, hr, HSR.out⟩⟩, hr, fun j v t hj hu h => ?_⟩
   match j, h with
   | 0, h => exact h
   | 1, h => exact h
   | 2, h => exact (ho _ (by omega)).trans h
   | 3, h => exact hr
   | j + 4, h => trivial
 ·intro L fx w' hC hS
  have H2 := hid (hS 2 (by decide) rfl)
  have H3 := hid (hS 3 (by decide) rfl)
  have h2 : w'.heap[w.heap.size]? = _ := H2.out
  have h3 : w'.heap[w.heap.size + 1]? = _ := H3.out
  have hl0 := run_loadVar_row (P := Tryz.prog) w' w.heap.size 27 27 (trC sT (sTp (w.heap.size + 2))).toArray (0, 0) _ h2 Tryz.underlying27 rfl HIT.out
  have hl1 := run_loadVar_row (P := Tryz.prog) w' (w.heap.size + 1) 43 43 (rtC sR).toArray (0, 0) _ h3 Tryz.underlying43 rfl HIR.out
  have hok := sT_ok hC.rl
  have hbel := hC.bel
  clear hS H2 H3
  go_wp2_with fail
  refine bodyPost_ret (v := .tuple #[.agg (trC sT (sTp (w.heap.size + 2))).toArray, .agg (rtC sR).toArray]) ?_ rfl ⟨_, rfl, hok, hbel⟩
  simp [results, Tryz.results69, asAddr, hl0, hl1]
theorem rsize_any (n : Nat) (w : World) (hn : n ≤ 9223372036854775807) : Calls Tryz.prog 130 #[.int .i64 (n : Nat)] w fun e w' => e = .returned (.int .u64 (n : Nat)) ∧ w = w' := by
 have d0 : decide ((n : Int) < 0) = false := dQ (by omega)
 have e1 : IntKind.u64.wrap (n : Int) = (n : Int) := by rw [IntKind.wrap_u64]; omega
 go_enter Tryz.func130, Tryz.ntmps130
 go_wp2_with fail
 go_ret
 exact ⟨rfl, rfl⟩
abbrev stV (b : Nat) : Value := .func (.func 148) #[] #[.pointer (some ⟨b, 0, none⟩)]
def sSt (b x y : Nat) : Nat → Value → World → Prop
 | 0, fv, _ => fv = .func (.func 148) #[] #[.pointer (some ⟨b, 0, none⟩)]
 | 1, fv, _ => fv = .int .u64 (y : Nat)
 | 2, fv, _ => fv = .int .u64 (x : Nat)
 | 3, fv, _ => fv = .int .u64 (y : Nat)
 | 4, fv, _ => fv = .int .u64 ((x : Int) % (y : Int))
 | 5, fv, _ => fv = .int .u64 (Nat.gcd y x : Nat)
 | 6, fv, _ => fv = .int .u64 (Nat.gcd y x : Nat)
 | _, _, _ => True
theorem sSt_keep {b x y : Nat} {w w' : World} : ∀ j u, sSt b x y j u w → sSt b x y j u w'
 | 0, u, h => h
 | 1, u, h => h
 | 2, u, h => h
 | 3, u, h => h
 | 4, u, h => h
 | 5, u, h => h
 | 6, u, h => h
 | n + 7, u, h => trivial
theorem rstep_any (b : Nat) : ∀ (y x : Nat) (w : World), y ≤ 9223372036854775807 → x ≤ 9223372036854775807 → Hid (w.heap[b]? = some (.cells #[.func (.func 148) #[] #[.pointer (some ⟨b, 0, none⟩)]] 171 (0, 0))) →
  Calls Tryz.prog 148 #[.int .u64 (x : Nat), .int .u64 (y : Nat), .pointer (some ⟨b, 0, none⟩)] w fun e w' => e = .returned (.int .u64 (Nat.gcd y x : Nat)) ∧ Below w.heap.size w w' := by
 intro y
 induction y using Nat.strongRecOn with
 | ind y ih =>
  intro x w hy hx h
  by_cases h0 : y = 0
  ·subst h0
   rw [Nat.gcd_zero_left]
   clear ih
   go_enter Tryz.func148, Tryz.ntmps148
   go_wp2_with fail
   go_ret
   exact ⟨rfl, Below.refl _ _⟩
  ·have hm : x % y < y := Nat.mod_lt _ (by omega)
   have HC : Hid (∀ w', Below w.heap.size w w' → Calls Tryz.prog 148 #[.int .u64 (y : Nat), .int .u64 ((x : Int) % (y : Int)), .pointer (some ⟨b, 0, none⟩)] w' fun e w'' => e = .returned (.int .u64 (Nat.gcd y x : Nat)) ∧ Below w'.heap.size w' w'') := hid (fun w' hb => by
    have := ih (x % y) hm y w' (by omega) hy (hid (row_kept h.out hb))
    rw [← Nat.gcd_rec] at this
    rwa [Int.natCast_emod] at this)
   have HB0 := hid (Below.refl w.heap.size w).drew
   have d0 : ((y : Int) == 0) = false := by simp; exact h0
   have d1 : decide ((y : Int) = 0) = false := dQ (by omega)
   have d2 : IntKind.u64.wrap (Int.tmod (x : Int) (y : Int)) = ((x % y : Nat) : Int) := by rw [IntKind.wrap_u64, ← Int.ofNat_tmod]; have : x % y < y := hm; omega
   clear ih
   go_enter Tryz.func148, Tryz.ntmps148
   go_wp2_with fail
   refine region_flow3 (by kernel_rfl) (by kernel_rfl) (fun i => Nat.beq i 6) (fun i => i) (by kernel_rfl) (fun fx => #[.int .u64 (x : Nat), .int .u64 (y : Nat), .pointer (some ⟨b, 0, none⟩), undef, undef, fx 6, .int .u64 (y : Nat), .bool false, undef, fx 0, fx 1, fx 2, fx 3, fx 4, fx 5]) (fun i => bif Nat.beq i 6 then .int .u64 0 else undef) (fun _ _ w' => Below w.heap.size w w') (fun fi fv _ fw => sSt b x y fi fv fw) HB0.out ?_ ?_
   ·refine ⟨?_, ?_, ?_, ?_, ?_, ?_, ?_, trivial⟩
    all_goals intro L fx w' hC hi hcl hdn hd
    ·have hk := cell_of_row _ _ 0 _ _ _ (row_kept h.out hC)
     simp only [List.getElem?_toArray, List.getElem?_cons_zero] at hk
     go_wp2_with fail
     exact ⟨_, rfl, hC, rfl, fun j u t _ _ h => sSt_keep j u h⟩
    ·go_wp2_with fail
     exact ⟨_, rfl, hC, rfl, fun j u t _ _ h => sSt_keep j u h⟩
    ·go_wp2_with fail
     exact ⟨_, rfl, hC, rfl, fun j u t _ _ h => sSt_keep j u h⟩
    ·go_wp2_with fail
     exact ⟨_, rfl, hC, rfl, fun j u t _ _ h => sSt_keep j u h⟩
    ·have h2 : fx 2 = .int .u64 (x : Nat) := hd.1 rfl
     have h3 : fx 3 = .int .u64 (y : Nat) := hd.2.1 rfl
     go_wp2_with fail
     exact ⟨_, (by first | rfl | (show _ = Act.mk #[.int .u64 (x : Nat), .int .u64 (y : Nat), .pointer (some ⟨b, 0, none⟩), undef, undef, fx 6, .int .u64 (y : Nat), .bool false, undef, fx 0, fx 1, fx 2, fx 3, Value.int .u64 ((x : Int) % (y : Int)), fx 5] []; rw [h2, h3])), hC, rfl, fun j u t _ _ h => sSt_keep j u h⟩
    ·have h0 : fx 0 = .func (.func 148) #[] #[.pointer (some ⟨b, 0, none⟩)] := hd.1 rfl
     have h1 : fx 1 = .int .u64 (y : Nat) := hd.2.1 rfl
     have h4 : fx 4 = .int .u64 ((x : Int) % (y : Int)) := hd.2.2.1 rfl
     go_wp2_with fail
     refine (HC.out w' hC).mono ?_
     rintro e w2 ⟨rfl, hq⟩
     go_wp2_with fail
     exact ⟨_, (by first | rfl | (show _ = Act.mk #[.int .u64 (x : Nat), .int .u64 (y : Nat), .pointer (some ⟨b, 0, none⟩), undef, undef, fx 6, .int .u64 (y : Nat), .bool false, undef, fx 0, fx 1, fx 2, fx 3, fx 4, Value.int .u64 (Nat.gcd y x : Nat)] []; rw [h0, h1, h4])), hC.trans (hq.mono hC.size), rfl, fun j u t _ _ h => sSt_keep j u h⟩
    ·have h5 : fx 5 = .int .u64 (Nat.gcd y x : Nat) := hd.1 rfl
     go_wp2_with fail
     exact ⟨_, (by first | rfl | (show _ = Act.mk #[.int .u64 (x : Nat), .int .u64 (y : Nat), .pointer (some ⟨b, 0, none⟩), undef, undef, Value.int .u64 (Nat.gcd y x : Nat), .int .u64 (y : Nat), .bool false, undef, fx 0, fx 1, fx 2, fx 3, fx 4, fx 5] []; rw [h5])), hC, (by first | rfl | exact h5), fun j u t _ _ h => sSt_keep j u h⟩
   ·intro L fx w' hC hS
    have H6 := hid (hS 6 (by decide) rfl)
    have h6 : fx 6 = .int .u64 (Nat.gcd y x : Nat) := H6.out
    go_wp2_with fail
    try (simp only [Exit.inBlock, Exit.then])
    refine ⟨rfl, .int .u64 (Nat.gcd y x : Nat), ?_, rfl, hC⟩
    simp [results, Tryz.results148, h6]
def sCm (b n d : Nat) : Nat → Value → World → Prop
 | 0, fv, _ => fv = stV b
 | 1, fv, _ => fv = .int .i64 (n : Nat)
 | 2, fv, _ => fv = .int .u64 (n : Nat)
 | 3, fv, _ => fv = .int .i64 (d : Nat)
 | 4, fv, _ => fv = .int .u64 (d : Nat)
 | 5, fv, _ => fv = .int .u64 (Nat.gcd d n : Nat)
 | 6, fv, _ => fv = .int .u64 (Nat.gcd d n : Nat)
 | _, _, _ => True
theorem sCm_below {b n d : Nat} {w w' : World} (hb : Below w.heap.size w w') : ∀ j v, sCm b n d j v w → sCm b n d j v w'
 | 0, v, h => h
 | 1, v, h => h
 | 2, v, h => h
 | 3, v, h => h
 | 4, v, h => h
 | 5, v, h => h
 | 6, v, h => h
 | n + 7, v, h => trivial
theorem sCm_pure {b n d : Nat} {w w' : World} : ∀ j v, sCm b n d j v w → sCm b n d j v w'
 | 0, v, h => h
 | 1, v, h => h
 | 2, v, h => h
 | 3, v, h => h
 | 4, v, h => h
 | 5, v, h => h
 | 6, v, h => h
 | n + 7, v, h => trivial
theorem common_any (n d : Nat) (w : World) (hn : n ≤ 9223372036854775807) (hd_ : d ≤ 9223372036854775807) : Calls Tryz.prog 129 #[.int .i64 (n : Nat), .int .i64 (d : Nat)] w fun e w' => e = .returned (.int .u64 (Nat.gcd d n : Nat)) ∧ Below w.heap.size w w' := by
 obtain ⟨W1, HW1⟩ : ∃ V, Hid (w.alloc (.cells #[stV w.heap.size] 171) = V) := ⟨_, hid rfl⟩
 have hb := (Below.refl _ w).alloc (Nat.le_refl _) (.cells #[stV w.heap.size] 171)
 have hr := heap_alloc_new w (.cells #[stV w.heap.size] 171)
 rw [HW1.out] at hb hr
 have HR := hid hr
 have HBW := hid hb
 have HB0 := hid (Below.refl W1.heap.size W1).drew
 clear hb hr
 go_enter Tryz.func129, Tryz.ntmps129
 go_wp2_with (rw [HW1.out])
 refine region_flow3 (by kernel_rfl) (by kernel_rfl) (fun i => Nat.beq i 6) (fun i => i) (by kernel_rfl) (fun fx => #[.int .i64 (n : Nat), .int .i64 (d : Nat), undef, undef, fx 6, .pointer (some ⟨w.heap.size, 0, none⟩), stV w.heap.size, fx 0, fx 1, fx 2, fx 3, fx 4, fx 5]) (fun i => bif Nat.beq i 6 then .int .u64 0 else undef) (fun _ _ w' => Below W1.heap.size W1 w') (fun fi fv _ fw => sCm w.heap.size n d fi fv fw) HB0.out ?_ ?_
 ·refine ⟨?_, ?_, ?_, ?_, ?_, ?_, ?_, trivial⟩
  all_goals intro L fx w' hC hi hcl hdn hd
  ·have hk := cell_of_row _ _ 0 _ _ _ (row_kept HR.out hC)
   simp only [List.getElem?_toArray, List.getElem?_cons_zero] at hk
   go_wp2_with fail
   exact ⟨_, rfl, hC, rfl, kP⟩
  ·go_wp2_with fail
   exact ⟨_, rfl, hC, rfl, kP⟩
  ·have h1 : fx 1 = .int .i64 (n : Nat) := hd.1 rfl
   go_wp2_with fail
   refine (rsize_any n _ hn).mono ?_
   rintro e w2 ⟨rfl, rfl⟩
   go_wp2_with fail
   exact ⟨_, (by first | rfl | (show _ = Act.mk #[.int .i64 (n : Nat), .int .i64 (d : Nat), undef, undef, fx 6, .pointer (some ⟨w.heap.size, 0, none⟩), stV w.heap.size, fx 0, fx 1, Value.int .u64 (n : Nat), fx 3, fx 4, fx 5] []; rw [h1])), hC, rfl, kP⟩
  ·go_wp2_with fail
   exact ⟨_, rfl, hC, rfl, kP⟩
  ·have h3 : fx 3 = .int .i64 (d : Nat) := hd.1 rfl
   go_wp2_with fail
   refine (rsize_any d _ hd_).mono ?_
   rintro e w2 ⟨rfl, rfl⟩
   go_wp2_with fail
   exact ⟨_, (by first | rfl | (show _ = Act.mk #[.int .i64 (n : Nat), .int .i64 (d : Nat), undef, undef, fx 6, .pointer (some ⟨w.heap.size, 0, none⟩), stV w.heap.size, fx 0, fx 1, fx 2, fx 3, Value.int .u64 (d : Nat), fx 5] []; rw [h3])), hC, rfl, kP⟩
  ·have h0 : fx 0 = stV w.heap.size := hd.1 rfl
   have h2 : fx 2 = .int .u64 (n : Nat) := hd.2.1 rfl
   have h4 : fx 4 = .int .u64 (d : Nat) := hd.2.2.1 rfl
   go_wp2_with fail
   refine (rstep_any w.heap.size d n w' hd_ hn (hid (row_kept HR.out hC))).mono ?_
   rintro e w2 ⟨rfl, hq⟩
   go_wp2_with fail
   exact ⟨_, (by first | rfl | (show _ = Act.mk #[.int .i64 (n : Nat), .int .i64 (d : Nat), undef, undef, fx 6, .pointer (some ⟨w.heap.size, 0, none⟩), stV w.heap.size, fx 0, fx 1, fx 2, fx 3, fx 4, Value.int .u64 (Nat.gcd d n : Nat)] []; rw [h0, h2, h4])), hC.trans (hq.mono hC.size), rfl, fun j v t _ _ h => sCm_pure j v h⟩
  ·have h5 : fx 5 = .int .u64 (Nat.gcd d n : Nat) := hd.1 rfl
   go_wp2_with fail
   exact ⟨_, (by first | rfl | (show _ = Act.mk #[.int .i64 (n : Nat), .int .i64 (d : Nat), undef, undef, Value.int .u64 (Nat.gcd d n : Nat), .pointer (some ⟨w.heap.size, 0, none⟩), stV w.heap.size, fx 0, fx 1, fx 2, fx 3, fx 4, fx 5] []; rw [h5])), hC, (by first | rfl | exact h5), kP⟩
 ·intro L fx w' hC hS
  have H6 := hid (hS 6 (by decide) rfl)
  have h6 : fx 6 = .int .u64 (Nat.gcd d n : Nat) := H6.out
  go_wp2_with fail
  try (simp only [Exit.inBlock, Exit.then])
  refine ⟨rfl, .int .u64 (Nat.gcd d n : Nat), ?_, rfl, HBW.out.trans (hC.mono HBW.out.size)⟩
  simp [results, Tryz.results129, h6]
end Go.Proofs.YtmfmgeapecapiaaGreatDoor
