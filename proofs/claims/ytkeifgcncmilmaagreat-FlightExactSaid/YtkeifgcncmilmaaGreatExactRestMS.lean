/-
  The words and the last part of FlightExact: for every place, velocity and pull of small integers, every length and number of steps (up to 16): the exact place and velocity are in the state behind the flight, forwards and backwards, and in each tube at its ends. No condition.
-/
import Derived.Test.YtkeifgcncmilmaaGreatExactAllS
import Derived.Test.YtkeifgcncmilmaaGreatForceNS
import Derived.Deep.DeepCutAuto
import Derived.LoopN
import Derived.Deep.QuietTactic
import Derived.BigQuiet
namespace Go.Proofs.YtkeifgcncmilmaaGreat
open Go.RowKit Go.Shelf
set_option maxRecDepth 100000
set_option maxHeartbeats 16000000
set_option linter.unusedSimpArgs false
theorem wrap_in (x : Int) (h1 : -9223372036854775808 ≤ x) (h2 : x ≤ 9223372036854775807) : IntKind.i64.wrap x = x := by simp [IntKind.wrap, IntKind.bits, IntKind.signed]; omega
/-- The planet that pulls, the place and the velocity, as boxes of points. -/
def ptB (x y z : Int) : Bx := ⟨⟨x, x⟩, ⟨y, y⟩, ⟨z, z⟩⟩
def ptN (x y z : Int) : Nat → Int
  | 0 => x
  | 1 => y
  | _ => z
theorem ptB_at (x y z : Int) (i : Nat) : (ptB x y z).at i = ⟨ptN x y z i, ptN x y z i⟩ := by
  match i with
  | 0 => rfl
  | 1 => rfl
  | n + 2 => rfl
def exS (p v : Bx) : State := ⟨0, p, v, ⟨4294967296, 4294967296⟩⟩
structure Sml (b x : Int) : Prop where
  is : -b ≤ x ∧ x ≤ b
theorem vd_pt {x : Int} (h : -2199023255552 ≤ x ∧ x ≤ 2199023255552) : Vd (⟨x, x⟩ : Sp) := ⟨by simp only; omega, Int.le_refl _, by simp only; omega⟩
theorem s64_vd {a : Sp} (h : Vd a) : S64 a := by
  obtain ⟨h1, h2, h3⟩ := h
  exact ⟨by unfold I64; omega, by unfold I64; omega⟩
theorem vdB_ok {b : Bx} (h : VdB b) : b.okB = true := by
  unfold Bx.okB
  rw [h.1.ok, h.2.1.ok, h.2.2.ok]
  rfl
theorem ptN_in {b x y z : Int} (h1 : -b ≤ x ∧ x ≤ b) (h2 : -b ≤ y ∧ y ≤ b) (h3 : -b ≤ z ∧ z ≤ b) (i : Nat) : -b ≤ ptN x y z i ∧ ptN x y z i ≤ b := by
  match i with
  | 0 => exact h1
  | 1 => exact h2
  | n + 2 => exact h3
theorem s64_at {b : Bx} (h : B64 b) (i : Nat) : S64 (b.at i) := by
  match i with
  | 0 => exact h.x
  | 1 => exact h.y
  | n + 2 => exact h.z
theorem rows_apart2 {W : World} {b b2 : Nat} {t t2 : TypeId} {l l2 : List Value} (h : RowIs W b t l) (h2 : RowIs W b2 t2 l2) (ht : t ≠ t2) : Apart b b2 := ⟨by
  rintro rfl
  have := h.is.symm.trans h2.is
  simp at this
  exact ht this.2⟩
theorem built_exS (a0 a1 a2 a3 a4 a5 b0 b1 b2 b3 b4 b5 c0 c1 : Int) : Tryz.prog.built 28 [(1, .agg #[.int .i64 a0, .int .i64 a1, .int .i64 a2, .int .i64 a3, .int .i64 a4, .int .i64 a5]), (2, .agg #[.int .i64 b0, .int .i64 b1, .int .i64 b2, .int .i64 b3, .int .i64 b4, .int .i64 b5]), (3, .agg #[.int .i64 c0, .int .i64 c1])] = some #[.int .i64 0, .int .i64 a0, .int .i64 a1, .int .i64 a2, .int .i64 a3, .int .i64 a4, .int .i64 a5, .int .i64 b0, .int .i64 b1, .int .i64 b2, .int .i64 b3, .int .i64 b4, .int .i64 b5, .int .i64 c0, .int .i64 c1] := by kernel_rfl
theorem b64_vd {b : Bx} (h : VdB b) : B64 b := ⟨s64_vd h.1, s64_vd h.2.1, s64_vd h.2.2⟩

theorem exact_rest (b5 b6 b7 bA b1 o1 b3 o3 l1 l3 cap1 cap2 cap3 n : Nat) (ao2 : Option Addr) (d tt : Int) (pf vf gf : Nat → Int) (st bk : State) (w wc : World) (hg : Grew w wc) (i5 : BlockIn wc b5) (i6 : BlockIn wc b6) (i7 : BlockIn wc b7) (iA : BlockIn wc bA) (ib1 : BlockIn wc b1) (ib3 : BlockIn wc b3) (hl1 : 0 < l1) (hl3 : 0 < l3) (hn : n ≤ 16)
    (hc : ∀ i : Nat, i < 3 → wc.cell? ⟨b5, i * 2, none⟩ = some (.int .i64 (gf i)) ∧ wc.cell? ⟨b6, i * 2, none⟩ = some (.int .i64 (pf i)) ∧ wc.cell? ⟨b7, i * 2, none⟩ = some (.int .i64 (vf i)))
    (cA : wc.cell? ⟨bA, 0, none⟩ = some (.int .i64 tt)) (m11 : IntKind.i64.wrap (-tt) = -tt) (hr1 : RangeIs wc b1 o1 15 st.cells) (hr3 : RangeIs wc b3 o3 15 bk.cells)
    (HA : ∀ i : Nat, i < 3 → ∀ w', Calls Tryz.prog 25 #[.agg #[.int .i64 st.t, .int .i64 st.p.x.lo, .int .i64 st.p.x.hi, .int .i64 st.p.y.lo, .int .i64 st.p.y.hi, .int .i64 st.p.z.lo, .int .i64 st.p.z.hi, .int .i64 st.v.x.lo, .int .i64 st.v.x.hi, .int .i64 st.v.y.lo, .int .i64 st.v.y.hi, .int .i64 st.v.z.lo, .int .i64 st.v.z.hi, .int .i64 st.m.lo, .int .i64 st.m.hi], .int .i64 i, .int .i64 (pf i), .int .i64 (vf i), .int .i64 (gf i), .int .i64 tt] w' (fun e w2 => e = .returned (.bool true) ∧ Grew w' w2))
    (HB : ∀ i : Nat, i < 3 → ∀ w', Calls Tryz.prog 25 #[.agg #[.int .i64 bk.t, .int .i64 bk.p.x.lo, .int .i64 bk.p.x.hi, .int .i64 bk.p.y.lo, .int .i64 bk.p.y.hi, .int .i64 bk.p.z.lo, .int .i64 bk.p.z.hi, .int .i64 bk.v.x.lo, .int .i64 bk.v.x.hi, .int .i64 bk.v.y.lo, .int .i64 bk.v.y.hi, .int .i64 bk.v.z.lo, .int .i64 bk.v.z.hi, .int .i64 bk.m.lo, .int .i64 bk.m.hi], .int .i64 i, .int .i64 (pf i), .int .i64 (vf i), .int .i64 (gf i), .int .i64 (-tt)] w' (fun e w2 => e = .returned (.bool true) ∧ Grew w' w2))
    (HT : ∀ j : Nat, j < n → ∃ (tb : Tube) (t1 t2 : Int), IntKind.i64.wrap (d * (j : Int)) = t1 ∧ IntKind.i64.wrap (d * ((j : Int) + 1)) = t2 ∧ (∃ b o, ao2 = some ⟨b, o, none⟩ ∧ b < wc.heap.size ∧ RangeIs wc b (o + j * 16) 16 tb.cells) ∧
      ∀ i : Nat, i < 3 → ∀ w', Calls Tryz.prog 25 #[.agg #[.int .i64 0, .int .i64 tb.p.x.lo, .int .i64 tb.p.x.hi, .int .i64 tb.p.y.lo, .int .i64 tb.p.y.hi, .int .i64 tb.p.z.lo, .int .i64 tb.p.z.hi, .int .i64 tb.v.x.lo, .int .i64 tb.v.x.hi, .int .i64 tb.v.y.lo, .int .i64 tb.v.y.hi, .int .i64 tb.v.z.lo, .int .i64 tb.v.z.hi, .int .i64 tb.m.lo, .int .i64 tb.m.hi], .int .i64 i, .int .i64 (pf i), .int .i64 (vf i), .int .i64 (gf i), .int .i64 t1] w' (fun e w2 => e = .returned (.bool true) ∧ Grew w' w2) ∧
        Calls Tryz.prog 25 #[.agg #[.int .i64 0, .int .i64 tb.p.x.lo, .int .i64 tb.p.x.hi, .int .i64 tb.p.y.lo, .int .i64 tb.p.y.hi, .int .i64 tb.p.z.lo, .int .i64 tb.p.z.hi, .int .i64 tb.v.x.lo, .int .i64 tb.v.x.hi, .int .i64 tb.v.y.lo, .int .i64 tb.v.y.hi, .int .i64 tb.v.z.lo, .int .i64 tb.v.z.hi, .int .i64 tb.m.lo, .int .i64 tb.m.hi], .int .i64 i, .int .i64 (pf i), .int .i64 (vf i), .int .i64 (gf i), .int .i64 t2] w' (fun e w2 => e = .returned (.bool true) ∧ Grew w' w2))
    (u0 u1 u2 u4 u8 u11 u13 u16 u18 u19 u20 u21 u22 u23 u24 u25 u26 u27 u28 u29 u30 u31 u32 u33 u34 u35 u36 u37 u38 u39 u40 u41 u42 u43 u44 u45 u46 u47 u48 u49 u50 u51 u52 u53 u54 u55 u56 u57 u58 u59 u60 u61 u62 u63 u64 u65 u66 u67 u68 u69 u70 u71 u72 u73 u74 u75 u76 u77 u78 u79 u80 u81 u82 u83 u84 u85 u86 u87 u88 u89 u90 u91 u92 u93 u94 u95 u96 u97 u98 u99 u100 u101 u102 u103 u104 u105 u106 u107 u108 u109 u110 u111 u112 u113 u114 u115 u116 u117 u118 u119 u120 u121 u122 u123 u124 u125 u126 u127 u128 u129 u130 u131 u132 u133 u134 u135 u136 u137 u138 u139 u140 u141 u142 u143 u144 u145 u146 u147 u148 u149 u150 u151 u152 u153 u154 u155 u156 u157 u158 u159 u160 u161 u162 u163 u164 u165 u166 u167 u168 u169 u170 u171 u172 u173 u174 u175 u176 u177 u178 u179 u180 u181 u182 u183 u184 u185 u186 u187 u188 u189 u190 u191 u192 u193 u194 u195 u196 u197 u198 u199 u200 u201 u202 u203 u204 u205 u206 u207 u208 u209 u210 u211 u212 u213 u214 u215 u216 u217 u218 u219 u220 u221 u222 u223 u224 u225 u226 u227 u228 u229 u230 u231 u232 u233 u234 u235 u236 u237 u238 u239 u240 u241 u242 u243 u244 u245 u246 u247 u248 u249 u250 u251 u252 u253 u254 u255 u256 u257 : Value) :
    (tlC (tlC (tlC (tlC (tlC (tlC (tlC (tlC (tlC (tlC (tlC (tlC (tlC (tlC (tlC (Tryz.f6.body.getD .skip)))))))))))))))).wp Tryz.prog (bodyPost Tryz.prog Tryz.f6 (fun e w' => e = .returned (.bool true) ∧ Grew w w')) { tmps := #[u0, u1, u2, .bool true, u4, .pointer (some ⟨b5, 0, none⟩), .pointer (some ⟨b6, 0, none⟩), .pointer (some ⟨b7, 0, none⟩), u8, .int .i64 d, .int .i64 n, u11, .pointer (some ⟨bA, 0, none⟩), u13, .slice (some ⟨b1, o1, none⟩) l1 cap1, .slice ao2 n cap2, u16, .slice (some ⟨b3, o3, none⟩) l3 cap3, u18, u19, u20, u21, u22, u23, u24, u25, u26, u27, u28, u29, u30, u31, u32, u33, u34, u35, u36, u37, u38, u39, u40, u41, u42, u43, u44, u45, u46, u47, u48, u49, u50, u51, u52, u53, u54, u55, u56, u57, u58, u59, u60, u61, u62, u63, u64, u65, u66, u67, u68, u69, u70, u71, u72, u73, u74, u75, u76, u77, u78, u79, u80, u81, u82, u83, u84, u85, u86, u87, u88, u89, u90, u91, u92, u93, u94, u95, u96, u97, u98, u99, u100, u101, u102, u103, u104, u105, u106, u107, u108, u109, u110, u111, u112, u113, u114, u115, u116, u117, u118, u119, u120, u121, u122, u123, u124, u125, u126, u127, u128, u129, u130, u131, u132, u133, u134, u135, u136, u137, u138, u139, u140, u141, u142, u143, u144, u145, u146, u147, u148, u149, u150, u151, u152, u153, u154, u155, u156, u157, u158, u159, u160, u161, u162, u163, u164, u165, u166, u167, u168, u169, u170, u171, u172, u173, u174, u175, u176, u177, u178, u179, u180, u181, u182, u183, u184, u185, u186, u187, u188, u189, u190, u191, u192, u193, u194, u195, u196, u197, u198, u199, u200, u201, u202, u203, u204, u205, u206, u207, u208, u209, u210, u211, u212, u213, u214, u215, u216, u217, u218, u219, u220, u221, u222, u223, u224, u225, u226, u227, u228, u229, u230, u231, u232, u233, u234, u235, u236, u237, u238, u239, u240, u241, u242, u243, u244, u245, u246, u247, u248, u249, u250, u251, u252, u253, u254, u255, u256, u257], defers := [] } wc := by
  have HC := Lib.hid hc
  have HA := Lib.hid HA
  have HB := Lib.hid HB
  have HT := Lib.hid HT
  have s0 : wc.cell? ⟨b1, o1, none⟩ = some (.int .i64 st.t) := by simpa using hr1.is 0 _ rfl
  have z0 : wc.cell? ⟨b3, o3, none⟩ = some (.int .i64 bk.t) := by simpa using hr3.is 0 _ rfl
  have s1 : wc.cell? ⟨b1, o1 + 1, none⟩ = some (.int .i64 st.p.x.lo) := by simpa using hr1.is 1 _ rfl
  have z1 : wc.cell? ⟨b3, o3 + 1, none⟩ = some (.int .i64 bk.p.x.lo) := by simpa using hr3.is 1 _ rfl
  have s2 : wc.cell? ⟨b1, o1 + 2, none⟩ = some (.int .i64 st.p.x.hi) := by simpa using hr1.is 2 _ rfl
  have z2 : wc.cell? ⟨b3, o3 + 2, none⟩ = some (.int .i64 bk.p.x.hi) := by simpa using hr3.is 2 _ rfl
  have s3 : wc.cell? ⟨b1, o1 + 3, none⟩ = some (.int .i64 st.p.y.lo) := by simpa using hr1.is 3 _ rfl
  have z3 : wc.cell? ⟨b3, o3 + 3, none⟩ = some (.int .i64 bk.p.y.lo) := by simpa using hr3.is 3 _ rfl
  have s4 : wc.cell? ⟨b1, o1 + 4, none⟩ = some (.int .i64 st.p.y.hi) := by simpa using hr1.is 4 _ rfl
  have z4 : wc.cell? ⟨b3, o3 + 4, none⟩ = some (.int .i64 bk.p.y.hi) := by simpa using hr3.is 4 _ rfl
  have s5 : wc.cell? ⟨b1, o1 + 5, none⟩ = some (.int .i64 st.p.z.lo) := by simpa using hr1.is 5 _ rfl
  have z5 : wc.cell? ⟨b3, o3 + 5, none⟩ = some (.int .i64 bk.p.z.lo) := by simpa using hr3.is 5 _ rfl
  have s6 : wc.cell? ⟨b1, o1 + 6, none⟩ = some (.int .i64 st.p.z.hi) := by simpa using hr1.is 6 _ rfl
  have z6 : wc.cell? ⟨b3, o3 + 6, none⟩ = some (.int .i64 bk.p.z.hi) := by simpa using hr3.is 6 _ rfl
  have s7 : wc.cell? ⟨b1, o1 + 7, none⟩ = some (.int .i64 st.v.x.lo) := by simpa using hr1.is 7 _ rfl
  have z7 : wc.cell? ⟨b3, o3 + 7, none⟩ = some (.int .i64 bk.v.x.lo) := by simpa using hr3.is 7 _ rfl
  have s8 : wc.cell? ⟨b1, o1 + 8, none⟩ = some (.int .i64 st.v.x.hi) := by simpa using hr1.is 8 _ rfl
  have z8 : wc.cell? ⟨b3, o3 + 8, none⟩ = some (.int .i64 bk.v.x.hi) := by simpa using hr3.is 8 _ rfl
  have s9 : wc.cell? ⟨b1, o1 + 9, none⟩ = some (.int .i64 st.v.y.lo) := by simpa using hr1.is 9 _ rfl
  have z9 : wc.cell? ⟨b3, o3 + 9, none⟩ = some (.int .i64 bk.v.y.lo) := by simpa using hr3.is 9 _ rfl
  have s10 : wc.cell? ⟨b1, o1 + 10, none⟩ = some (.int .i64 st.v.y.hi) := by simpa using hr1.is 10 _ rfl
  have z10 : wc.cell? ⟨b3, o3 + 10, none⟩ = some (.int .i64 bk.v.y.hi) := by simpa using hr3.is 10 _ rfl
  have s11 : wc.cell? ⟨b1, o1 + 11, none⟩ = some (.int .i64 st.v.z.lo) := by simpa using hr1.is 11 _ rfl
  have z11 : wc.cell? ⟨b3, o3 + 11, none⟩ = some (.int .i64 bk.v.z.lo) := by simpa using hr3.is 11 _ rfl
  have s12 : wc.cell? ⟨b1, o1 + 12, none⟩ = some (.int .i64 st.v.z.hi) := by simpa using hr1.is 12 _ rfl
  have z12 : wc.cell? ⟨b3, o3 + 12, none⟩ = some (.int .i64 bk.v.z.hi) := by simpa using hr3.is 12 _ rfl
  have s13 : wc.cell? ⟨b1, o1 + 13, none⟩ = some (.int .i64 st.m.lo) := by simpa using hr1.is 13 _ rfl
  have z13 : wc.cell? ⟨b3, o3 + 13, none⟩ = some (.int .i64 bk.m.lo) := by simpa using hr3.is 13 _ rfl
  have s14 : wc.cell? ⟨b1, o1 + 14, none⟩ = some (.int .i64 st.m.hi) := by simpa using hr1.is 14 _ rfl
  have z14 : wc.cell? ⟨b3, o3 + 14, none⟩ = some (.int .i64 bk.m.hi) := by simpa using hr3.is 14 _ rfl
  clear hc hr1 hr3
  obtain ⟨U, rfl⟩ := later_of hg
  clear hg
  conv => arg 2; dsimp only [tlC, Tryz.f6, Option.getD]
  go_wp2
  go_loopw [154] (fun t wr => ∃ i : Nat, t = .int .i64 i ∧ i ≤ 3 ∧ Grew U.world wr) (fun t _ => 3 - (intOf t).toNat)
  case atStart => exact ⟨0, rfl, by omega, gwr⟩
  case round =>
    obtain ⟨i, rfl, hi, hg⟩ := hrel
    obtain ⟨x, rfl⟩ := later_of hg
    clear hg
    by_cases hi3 : i < 3
    · have hi3' : decide ((i : Int) < 3) = true := by simp; omega
      obtain ⟨c5, c6, c7⟩ := HC.out i hi3
      have A := Lib.hid (HA.out i hi3)
      have B := Lib.hid (HB.out i hi3)
      clear HC HA HB
      go_wp2_with (first | (go_at_call 25; (with_reducible refine call_later (A.out _) ?_); intro u) | (go_at_call 25; (with_reducible refine call_later (B.out _) ?_); intro u) | ((with_reducible refine wp_region_later ?_ ?_ ?_); (· kernel_rfl); (· kernel_rfl); (try simp only [List.append_eq, List.cons_append, List.nil_append]); (repeat (go_big_quiet_step ((first | (go_at_call 25; (with_reducible exact call_quiet (A.out _))) | (go_at_call 25; (with_reducible exact call_quiet (B.out _))))))); refine wpQuiet_nil ?_; rintro _ ⟨u, rfl⟩))
      go_loopw [202] (fun t wr => ∃ j : Nat, t = .int .i64 j ∧ j ≤ n ∧ Grew U.world wr) (fun t _ => n - (intOf t).toNat)
      case atStart => exact ⟨0, rfl, by omega, gwr⟩
      case round =>
        obtain ⟨j, rfl, hj, hg⟩ := hrel
        obtain ⟨z, rfl⟩ := later_of hg
        clear hg
        by_cases hjn : j < n
        · obtain ⟨tb, t1, t2, w1, w2, ⟨b2, o2, rfl, hb2, hr2⟩, hpr⟩ := HT.out j hjn
          have ib2 : BlockIn U.world b2 := ⟨hb2⟩
          have rz := hr2.grew z.grew
          have P1 := Lib.hid (fun w' => (hpr i hi3 w').1)
          have P2 := Lib.hid (fun w' => (hpr i hi3 w').2)
          have hj1 : IntKind.i64.wrap ((j : Int) + 1) = (j : Int) + 1 := wrap_in _ (by omega) (by omega)
          clear hpr hr2 HT
          go_upto_region 32 with (first | ((with_reducible refine wpList_built ?_ ?_ ?_ ?_ ?_ ?_ ?_ ?_ ?_); rotate_left 4; (· rfl); (· rfl); (· rfl); (· infer_instance)) | ((with_reducible refine wpList_load_rng ?_ ?_ ?_ ?_ ?_ ?_ ?_ ?_ ?_ ?_ ?_ ?_); rotate_left 6; (· rfl); (· rfl); (· rfl); (· infer_instance); (· infer_instance)) | ((with_reducible refine wpList_load_is ?_ ?_ ?_ ?_ ?_ ?_ ?_ ?_ ?_ ?_ ?_ ?_ ?_); rotate_left 6; (· rfl); (· rfl); (· rfl); (· infer_instance); (· infer_instance); (· rfl)) | ((with_reducible refine wpList_store_fresh ?_ ?_ ?_ ?_ ?_ ?_ ?_ ?_ ?_ ?_ ?_ ?_ ?_ ?_ ?_ ?_ ?_); rotate_left 5; (· rfl); (· rfl); (· rfl); (· rfl); (· rfl); (· infer_instance); (· infer_instance); (· infer_instance); (· infer_instance)) | ((with_reducible refine wpList_store_is ?_ ?_ ?_ ?_ ?_ ?_ ?_ ?_ ?_ ?_ ?_ ?_ ?_ ?_ ?_ ?_ ?_); rotate_left 7; (· rfl); (· rfl); (· rfl); (· rfl); (· rfl); (· infer_instance); (· infer_instance); (· infer_instance); (· infer_instance)))
          go_wp2_with (first | (go_at_call 25; (with_reducible refine call_later (P1.out _) ?_); intro u) | (go_at_call 25; (with_reducible refine call_later (P2.out _) ?_); intro u) | ((with_reducible refine wp_region_later ?_ ?_ ?_); (· kernel_rfl); (· kernel_rfl); (try simp only [List.append_eq, List.cons_append, List.nil_append]); (repeat (go_big_quiet_step ((first | (go_at_call 25; (with_reducible exact call_quiet (P1.out _))) | (go_at_call 25; (with_reducible exact call_quiet (P2.out _))))))); refine wpQuiet_nil ?_; rintro _ ⟨u, rfl⟩))
          go_roundw
          case rel => exact ⟨j + 1, by go_num, by omega, gwr⟩
          case measure => simp [intOf]; omega
        · go_wp2
          go_roundw
          case rel => exact ⟨i + 1, by go_num, by omega, gwr⟩
          case measure => simp [intOf]; omega
    · have hi3' : decide ((i : Int) < 3) = false := by simp; omega
      go_wp2
      go_ret
      exact ⟨rfl, gwr⟩
end Go.Proofs.YtkeifgcncmilmaaGreat
