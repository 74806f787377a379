/-
  Parts of a function's code, by name: the statements behind the first one, the first one, a block's or loop's body.
  NavKeeps: the cut of a round: a part of the walk of ullagelaw06.NavKeeps by itself (the kernel's memory).
  NavKeeps: what lies behind the loop: a part of the walk of ullagelaw06.NavKeeps by itself (the kernel's memory).
-/
import Derived.Test.YtehllellaecfbaaNavOuts
import Derived.Test.YtehllellaecfbaaNavTruly
import Derived.Deep.DeepCutAuto
import Derived.Deep.CutBlock
import Derived.Deep.CutRange
namespace Go.Proofs.Ytehllellaecfbaa
def tlC : Code → Code
  | .seq _ b => b
  | c => c
def fsC : Code → Code
  | .seq a _ => a
  | c => c
def blC : Code → Code
  | .block _ b => b
  | .loop b => b
  | c => c
/-- Region 9 of ullagelaw06.NavKeeps. -/
def keepsR9 (c : Code) : Code := fsC (tlC (blC (fsC (tlC (tlC (blC (blC (tlC (fsC (tlC (tlC (tlC (tlC (tlC c))))))))))))))
end Go.Proofs.Ytehllellaecfbaa
namespace Go.Proofs.Ytehllellaecfbaa
open Go.RowKit Go.Shelf
set_option maxRecDepth 100000
set_option maxHeartbeats 16000000
theorem keeps_r9 {K : Act → World → Prop} {Q' : Exit → Act → World → Prop} (s cs : State) (m : Radio) (ce : Int) (q8 b1 o1 len cap2 k : Nat) (w : World) (hlt : k < len)
    [r8 : RowIs w q8 45 s.cells]
    (hc : ∀ (i : Nat) (v : Value), (Radio.cells m)[i]? = some v → w.cell? ⟨b1, o1 + k * 15 + i, none⟩ = some v) (HC0 : ∀ w, Calls Try.prog 19 #[.agg #[.int .i64 s.t, .int .i64 s.p.x.lo, .int .i64 s.p.x.hi, .int .i64 s.p.y.lo, .int .i64 s.p.y.hi, .int .i64 s.p.z.lo, .int .i64 s.p.z.hi, .int .i64 s.v.x.lo, .int .i64 s.v.x.hi, .int .i64 s.v.y.lo, .int .i64 s.v.y.hi, .int .i64 s.v.z.lo, .int .i64 s.v.z.hi, .int .i64 s.m.lo, .int .i64 s.m.hi], .agg #[.int .i64 m.kind, .int .i64 m.place.x.lo, .int .i64 m.place.x.hi, .int .i64 m.place.y.lo, .int .i64 m.place.y.hi, .int .i64 m.place.z.lo, .int .i64 m.place.z.hi, .int .i64 m.dir.x.lo, .int .i64 m.dir.x.hi, .int .i64 m.dir.y.lo, .int .i64 m.dir.y.hi, .int .i64 m.dir.z.lo, .int .i64 m.dir.z.hi, .int .i64 m.value.lo, .int .i64 m.value.hi]] w fun e w' => e = .returned (.tuple #[.agg #[.int .i64 cs.t, .int .i64 cs.p.x.lo, .int .i64 cs.p.x.hi, .int .i64 cs.p.y.lo, .int .i64 cs.p.y.hi, .int .i64 cs.p.z.lo, .int .i64 cs.p.z.hi, .int .i64 cs.v.x.lo, .int .i64 cs.v.x.hi, .int .i64 cs.v.y.lo, .int .i64 cs.v.y.hi, .int .i64 cs.v.z.lo, .int .i64 cs.v.z.hi, .int .i64 cs.m.lo, .int .i64 cs.m.hi], .int .i64 ce]) ∧ Grew w w') (u0 u1 u2 u3 u4 u5 u6 u9 u12 u13 u14 u15 u16 u17 u18 u19 u20 u21 u22 u23 u24 u25 u26 u27 u28 u29 u30 u31 u32 u33 u34 u35 u36 u37 u38 u39 u40 u41 u42 u43 u44 u45 u46 u47 u48 u49 u50 u51 u52 u53 u54 u55 u56 u57 u58 u59 u60 u61 u62 u63 u64 u65 u66 u67 u68 u69 u70 u71 u72 u73 u74 u75 u76 u77 u78 u79 u80 u81 u82 u83 u84 u85 u86 u87 u88 u89 u90 u91 u92 u93 u94 u95 u96 u97 u98 u99 u100 u101 u102 u103 u104 u105 u106 u107 u108 u109 u110 u111 u112 u113 u114 : Value)
    (HQ : ∀ (wx : World) (q12 : Nat) (x40 x41 x42 x43 x44 x45 x46 x47 x48 : Value), Grew w wx → RowIs wx q12 45 cs.cells → K { tmps := #[u0, u1, u2, u3, u4, u5, u6, .bool true, .pointer (some ⟨q8, 0, none⟩), u9, .slice (some ⟨b1, o1, none⟩) len cap2, .int .i64 k, .pointer (some ⟨q12, 0, none⟩), .int .i64 ce, u14, u15, u16, u17, u18, u19, u20, u21, u22, u23, u24, u25, u26, u27, u28, u29, u30, u31, u32, u33, u34, u35, u36, u37, u38, u39, x40, x41, x42, x43, x44, x45, x46, x47, x48, u49, u50, u51, u52, u53, u54, u55, u56, u57, u58, u59, u60, u61, u62, u63, u64, u65, u66, u67, u68, u69, u70, u71, u72, u73, u74, u75, u76, u77, u78, u79, u80, u81, u82, u83, u84, u85, u86, u87, u88, u89, u90, u91, u92, u93, u94, u95, u96, u97, u98, u99, u100, u101, u102, u103, u104, u105, u106, u107, u108, u109, u110, u111, u112, u113, u114], defers := [] } wx) :
    (keepsR9 (Try.f6.body.getD .skip)).wp Try.prog (Exit.then K Q') { tmps := #[u0, u1, u2, u3, u4, u5, u6, .bool true, .pointer (some ⟨q8, 0, none⟩), u9, .slice (some ⟨b1, o1, none⟩) len cap2, .int .i64 k, u12, u13, u14, u15, u16, u17, u18, u19, u20, u21, u22, u23, u24, u25, u26, u27, u28, u29, u30, u31, u32, u33, u34, u35, u36, u37, u38, u39, u40, u41, u42, u43, u44, u45, u46, u47, u48, u49, u50, u51, u52, u53, u54, u55, u56, u57, u58, u59, u60, u61, u62, u63, u64, u65, u66, u67, u68, u69, u70, u71, u72, u73, u74, u75, u76, u77, u78, u79, u80, u81, u82, u83, u84, u85, u86, u87, u88, u89, u90, u91, u92, u93, u94, u95, u96, u97, u98, u99, u100, u101, u102, u103, u104, u105, u106, u107, u108, u109, u110, u111, u112, u113, u114], defers := [] } w := by
  have hc0 : w.cell? ⟨b1, o1 + k * 15, none⟩ = some (.int .i64 m.kind) := hc 0 _ rfl
  have hc1 := hc 1 _ rfl
  have hc2 := hc 2 _ rfl
  have hc3 := hc 3 _ rfl
  have hc4 := hc 4 _ rfl
  have hc5 := hc 5 _ rfl
  have hc6 := hc 6 _ rfl
  have hc7 := hc 7 _ rfl
  have hc8 := hc 8 _ rfl
  have hc9 := hc 9 _ rfl
  have hc10 := hc 10 _ rfl
  have hc11 := hc 11 _ rfl
  have hc12 := hc 12 _ rfl
  have hc13 := hc 13 _ rfl
  have hc14 := hc 14 _ rfl
  clear hc
  have i8 := r8.blockIn
  have j1 : BlockIn w b1 := BlockIn.of_cell hc0
  have HC := Lib.hid HC0
  have HQ' := Lib.hid HQ
  clear HC0 HQ
  dsimp only [keepsR9, fsC, blC, tlC, Try.f6, Option.getD]
  go_cut [12, 13] from 40 to 48 (fun p q wx => ∃ q12 : Nat, p = .pointer (some ⟨q12, 0, none⟩) ∧ q = .int .i64 ce ∧ Grew w wx ∧ RowIs wx q12 45 cs.cells)
  case first =>
    go_region_held3 (fun w' => w'.cell? ⟨q8, 0, none⟩ = some (.int .i64 s.t) ∧ w'.cell? ⟨q8, 1, none⟩ = some (.int .i64 s.p.x.lo) ∧ w'.cell? ⟨q8, 2, none⟩ = some (.int .i64 s.p.x.hi) ∧ w'.cell? ⟨q8, 3, none⟩ = some (.int .i64 s.p.y.lo) ∧ w'.cell? ⟨q8, 4, none⟩ = some (.int .i64 s.p.y.hi) ∧ w'.cell? ⟨q8, 5, none⟩ = some (.int .i64 s.p.z.lo) ∧ w'.cell? ⟨q8, 6, none⟩ = some (.int .i64 s.p.z.hi) ∧ w'.cell? ⟨q8, 7, none⟩ = some (.int .i64 s.v.x.lo) ∧ w'.cell? ⟨q8, 8, none⟩ = some (.int .i64 s.v.x.hi) ∧ w'.cell? ⟨q8, 9, none⟩ = some (.int .i64 s.v.y.lo) ∧ w'.cell? ⟨q8, 10, none⟩ = some (.int .i64 s.v.y.hi) ∧ w'.cell? ⟨q8, 11, none⟩ = some (.int .i64 s.v.z.lo) ∧ w'.cell? ⟨q8, 12, none⟩ = some (.int .i64 s.v.z.hi) ∧ w'.cell? ⟨q8, 13, none⟩ = some (.int .i64 s.m.lo) ∧ w'.cell? ⟨q8, 14, none⟩ = some (.int .i64 s.m.hi) ∧ w'.cell? ⟨b1, o1 + k * 15, none⟩ = some (.int .i64 m.kind) ∧ w'.cell? ⟨b1, o1 + k * 15 + 1, none⟩ = some (.int .i64 m.place.x.lo) ∧ w'.cell? ⟨b1, o1 + k * 15 + 2, none⟩ = some (.int .i64 m.place.x.hi) ∧ w'.cell? ⟨b1, o1 + k * 15 + 3, none⟩ = some (.int .i64 m.place.y.lo) ∧ w'.cell? ⟨b1, o1 + k * 15 + 4, none⟩ = some (.int .i64 m.place.y.hi) ∧ w'.cell? ⟨b1, o1 + k * 15 + 5, none⟩ = some (.int .i64 m.place.z.lo) ∧ w'.cell? ⟨b1, o1 + k * 15 + 6, none⟩ = some (.int .i64 m.place.z.hi) ∧ w'.cell? ⟨b1, o1 + k * 15 + 7, none⟩ = some (.int .i64 m.dir.x.lo) ∧ w'.cell? ⟨b1, o1 + k * 15 + 8, none⟩ = some (.int .i64 m.dir.x.hi) ∧ w'.cell? ⟨b1, o1 + k * 15 + 9, none⟩ = some (.int .i64 m.dir.y.lo) ∧ w'.cell? ⟨b1, o1 + k * 15 + 10, none⟩ = some (.int .i64 m.dir.y.hi) ∧ w'.cell? ⟨b1, o1 + k * 15 + 11, none⟩ = some (.int .i64 m.dir.z.lo) ∧ w'.cell? ⟨b1, o1 + k * 15 + 12, none⟩ = some (.int .i64 m.dir.z.hi) ∧ w'.cell? ⟨b1, o1 + k * 15 + 13, none⟩ = some (.int .i64 m.value.lo) ∧ w'.cell? ⟨b1, o1 + k * 15 + 14, none⟩ = some (.int .i64 m.value.hi)) (first | exact ⟨(by go_simp), (by go_simp), (by go_simp), (by go_simp), (by go_simp), (by go_simp), (by go_simp), (by go_simp), (by go_simp), (by go_simp), (by go_simp), (by go_simp), (by go_simp), (by go_simp), (by go_simp), (by go_simp), (by go_simp), (by go_simp), (by go_simp), (by go_simp), (by go_simp), (by go_simp), (by go_simp), (by go_simp), (by go_simp), (by go_simp), (by go_simp), (by go_simp), (by go_simp), (by go_simp)⟩) (first | (go_at_call 19; (with_reducible refine call_later (HC.out _) ?_); intro uc))
    all_goals go_wp2
    all_goals go_meet
    all_goals
      case rel => first | exact ⟨_, rfl, rfl, gw, row_cast inferInstance rfl⟩
  case rest =>
  obtain ⟨q12, rfl, rfl, gz, r12⟩ := hcut
  exact HQ'.out wc q12 _ _ _ _ _ _ _ _ _ gz r12
end Go.Proofs.Ytehllellaecfbaa
namespace Go.Proofs.Ytehllellaecfbaa
open Go.RowKit Go.Shelf
set_option maxRecDepth 100000
set_option maxHeartbeats 16000000
theorem keeps_end (s t fs : State) (fn r : Int) (hr0 : 0 ≤ r) (hr1 : r ≤ 255) (L : List Radio) (q8 cap2 : Nat) (ao2 : Option Addr) (w0 w : World) (hw : Grew w0 w) (r8 : RowIs w q8 45 s.cells) (r9 : RowIs w (q8 + 1) 45 t.cells)
    (HF0 : ∀ w', Grew w w' → Calls Try.prog 14 #[.agg s.cells.toArray, .slice ao2 L.length cap2, .int .i64 (r % 17)] w' (fun e w'' => e = .returned (.tuple #[.agg fs.cells.toArray, .int .i64 fn, .int .i64 0]) ∧ Grew w' w''))
    (H10 : ∀ w, Calls Try.prog 20 #[.agg #[.int .i64 fs.t, .int .i64 fs.p.x.lo, .int .i64 fs.p.x.hi, .int .i64 fs.p.y.lo, .int .i64 fs.p.y.hi, .int .i64 fs.p.z.lo, .int .i64 fs.p.z.hi, .int .i64 fs.v.x.lo, .int .i64 fs.v.x.hi, .int .i64 fs.v.y.lo, .int .i64 fs.v.y.hi, .int .i64 fs.v.z.lo, .int .i64 fs.v.z.hi, .int .i64 fs.m.lo, .int .i64 fs.m.hi], .agg #[.int .i64 t.t, .int .i64 t.p.x.lo, .int .i64 t.p.x.hi, .int .i64 t.p.y.lo, .int .i64 t.p.y.hi, .int .i64 t.p.z.lo, .int .i64 t.p.z.hi, .int .i64 t.v.x.lo, .int .i64 t.v.x.hi, .int .i64 t.v.y.lo, .int .i64 t.v.y.hi, .int .i64 t.v.z.lo, .int .i64 t.v.z.hi, .int .i64 t.m.lo, .int .i64 t.m.hi]] w fun e w' => e = .returned (.bool true) ∧ Grew w w') (hfn : fn ≤ r % 17) (H20 : ∀ w, Calls Try.prog 15 #[.agg #[.int .i64 fs.t, .int .i64 fs.p.x.lo, .int .i64 fs.p.x.hi, .int .i64 fs.p.y.lo, .int .i64 fs.p.y.hi, .int .i64 fs.p.z.lo, .int .i64 fs.p.z.hi, .int .i64 fs.v.x.lo, .int .i64 fs.v.x.hi, .int .i64 fs.v.y.lo, .int .i64 fs.v.y.hi, .int .i64 fs.v.z.lo, .int .i64 fs.v.z.hi, .int .i64 fs.m.lo, .int .i64 fs.m.hi], .agg #[.int .i64 s.t, .int .i64 s.p.x.lo, .int .i64 s.p.x.hi, .int .i64 s.p.y.lo, .int .i64 s.p.y.hi, .int .i64 s.p.z.lo, .int .i64 s.p.z.hi, .int .i64 s.v.x.lo, .int .i64 s.v.x.hi, .int .i64 s.v.y.lo, .int .i64 s.v.y.hi, .int .i64 s.v.z.lo, .int .i64 s.v.z.hi, .int .i64 s.m.lo, .int .i64 s.m.hi]] w fun e w' => e = .returned (.bool true) ∧ Grew w w') (u0 u1 u3 u4 u5 u6 u11 u12 u13 u14 u15 u16 u17 u18 u19 u20 u21 u22 u23 u24 u25 u26 u27 u28 u29 u30 u31 u32 u33 u34 u35 u36 u37 u38 u39 u40 u41 u42 u43 u44 u45 u46 u47 u48 u49 u50 u51 u52 u53 u54 u55 u56 u57 u58 u59 u60 u61 u62 u63 u64 u65 u66 u67 u68 u69 u70 u71 u72 u73 u74 u75 u76 u77 u78 u79 u80 u81 u82 u83 u84 u85 u86 u87 u88 u89 u90 u91 u92 u93 u94 u95 u96 u97 u98 u99 u100 u101 u102 u103 u104 u105 u106 u107 u108 u109 u110 u111 u112 u113 u114 : Value) :
    (tlC (tlC (tlC (tlC (tlC (tlC (Try.f6.body.getD .skip))))))).wp Try.prog (bodyPost Try.prog Try.f6 (fun e w' => e = .returned (.bool true) ∧ Grew w0 w')) { tmps := #[u0, u1, .int .u8 r, u3, u4, u5, u6, .bool true, .pointer (some ⟨q8, 0, none⟩), .pointer (some ⟨q8 + 1, 0, none⟩), .slice ao2 L.length cap2, u11, u12, u13, u14, u15, u16, u17, u18, u19, u20, u21, u22, u23, u24, u25, u26, u27, u28, u29, u30, u31, u32, u33, u34, u35, u36, u37, u38, u39, u40, u41, u42, u43, u44, u45, u46, u47, u48, u49, u50, u51, u52, u53, u54, u55, u56, u57, u58, u59, u60, u61, u62, u63, u64, u65, u66, u67, u68, u69, u70, u71, u72, u73, u74, u75, u76, u77, u78, u79, u80, u81, u82, u83, u84, u85, u86, u87, u88, u89, u90, u91, u92, u93, u94, u95, u96, u97, u98, u99, u100, u101, u102, u103, u104, u105, u106, u107, u108, u109, u110, u111, u112, u113, u114], defers := [] } w := by
  have HF := Lib.hid HF0
  have H1 := Lib.hid H10
  have H2 := Lib.hid H20
  clear HF0 H10 H20
  obtain ⟨z, rfl⟩ := later_of hw
  clear hw
  have i8 := r8.blockIn
  have i9 := r9.blockIn
  conv => arg 2; dsimp only [tlC, Try.f6, Option.getD]
  go_wp2_with (first | (go_at_call 14; (with_reducible refine call_later (HF.out _ gw) ?_); intro uf) | (go_at_call 20; (with_reducible refine call_later (H1.out _) ?_); intro u1) | (go_at_call 15; (with_reducible refine call_later (H2.out _) ?_); intro u2) | ((with_reducible refine wpList_load_rng ?_ ?_ ?_ ?_ ?_ ?_ ?_ ?_ ?_ ?_ ?_ ?_); rotate_left 6; (· rfl); (· rfl); (· rfl); (· infer_instance); (· infer_instance)) | ((with_reducible refine wpList_load_is ?_ ?_ ?_ ?_ ?_ ?_ ?_ ?_ ?_ ?_ ?_ ?_ ?_); rotate_left 6; (· rfl); (· rfl); (· rfl); (· infer_instance); (· infer_instance); (· rfl)) | ((with_reducible refine wpList_store_fresh ?_ ?_ ?_ ?_ ?_ ?_ ?_ ?_ ?_ ?_ ?_ ?_ ?_ ?_ ?_ ?_ ?_); rotate_left 5; (· rfl); (· rfl); (· rfl); (· rfl); (· rfl); (· infer_instance); (· infer_instance); (· infer_instance); (· infer_instance)) | ((with_reducible refine wpList_store_is ?_ ?_ ?_ ?_ ?_ ?_ ?_ ?_ ?_ ?_ ?_ ?_ ?_ ?_ ?_ ?_ ?_); rotate_left 7; (· rfl); (· rfl); (· rfl); (· rfl); (· rfl); (· infer_instance); (· infer_instance); (· infer_instance); (· infer_instance)))
  go_ret
  exact ⟨rfl, gw⟩
end Go.Proofs.Ytehllellaecfbaa
