/-
  Joined: ForceE.
-/
import Derived.Test.YtdkfkalplmgoeaaGreatForceDH
import Derived.Test.YtdkfkalplmgoeaaGreatForceNH
import Derived.Test.YtdkfkalplmgoeaaGreatJointH
namespace Go.Proofs.YtdkfkalplmgoeaaGreat
open Go.RowKit Go.Shelf
set_option maxRecDepth 100000
set_option maxHeartbeats 16000000
def zBx:Bx:=⟨⟨0,0⟩,⟨0,0⟩,⟨0,0⟩⟩
def ztz (r:BRes):BRes:=if r.e=0 then r else ⟨zBx,r.e⟩
def zrH (p:Planet) (x:Arc) (l:List Pt) (s:State):Bool:=p.okB&&(x.okB l&&s.okB)
def forceR (p:Planet) (x:Arc) (l:List Pt) (s:State):BRes:=if zrH p x l s then ztz (zaD p x l s.p s.v s.m 0) else ⟨zBx,2⟩
theorem zrn {x:Arc} {l:List Pt} (h:x.okB l=true):x.dir.Ok:=by
 unfold Arc.okB dirB at h
 simp only[Bool.and_eq_true] at h
 have k:∀ a b:Sp,a.inB b=true→a.okB=true:=fun a b h=>by
  unfold Sp.inB at h
  simp only[Bool.and_eq_true] at h
  exact h.1.1.1
 exact ⟨k _ _ h.1.1.1.1.1.1,k _ _ h.1.1.1.1.1.2,k _ _ h.1.1.1.1.2⟩
theorem zkX {p:Planet} (h:p.okB=true):p.pull.Ok:=by
 unfold Planet.okB at h
 simp only[Bool.and_eq_true] at h
 exact Bx.ok_of h.1.1.1
theorem Grew.but {w wc wx:World} {c:Nat} (g:Grew w wc) (hn:NewFor w c) (b:But c wc wx):Grew w wx:=
 ⟨b.os.trans g.os,b.tape.trans g.tape,b.output.trans g.output,Nat.le_trans (Grew.size g) b.size,fun k hk=>(b.block k (Nat.lt_of_lt_of_le hk (Grew.size g)) (by have:=hn.le;omega)).trans (g.block k hk)⟩
def RetB (r:BRes) (w:World) (e:Ending) (w':World):Prop:=e=.returned (.tuple #[.agg #[.int .i64 r.b.x.lo,.int .i64 r.b.x.hi,.int .i64 r.b.y.lo,.int .i64 r.b.y.hi,.int .i64 r.b.z.lo,.int .i64 r.b.z.hi],.int .i64 r.e])∧Grew w w'
theorem zkz (pP:Planet) (x:Arc):Tryz.prog.built 101 [(0,.agg pP.cells.toArray),(1,.agg x.cells.toArray)]=some (zak pP x).toArray:=by kernel_rfl
end Go.Proofs.YtdkfkalplmgoeaaGreat
