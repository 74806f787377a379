/-
  Joined: MonoLaw, RegTail, CalcF, LookC.
-/
import Derived.Test.YtdkfkalplmgoeaaGreatMonoFewH
import Derived.Test.YtdkfkalplmgoeaaGreatCoreH
import Derived.Deep.RegionHeld3
import Derived.Test.YtdkfkalplmgoeaaGreatDivLawH
import Derived.Test.YtdkfkalplmgoeaaGreatSpanDivsH
import Derived.Test.YtdkfkalplmgoeaaGreatRefDivsH
import Derived.Test.YtdkfkalplmgoeaaGreatFlightOksH
namespace Go.Proofs.YtdkfkalplmgoeaaGreat
open Go.RowKit

theorem zt4 {a a':Sp} (ha:Wi a a'):Wi (negS a) (negS a'):=by
 unfold Wi negS at *
 simp only
 omega
def sumR (l:List Sp):Res:=zbg (fun x=>⟨x,0⟩) z0 l
end Go.Proofs.YtdkfkalplmgoeaaGreat
namespace Go.Proofs.YtdkfkalplmgoeaaGreat
section
variable {P:Program} {ops:Array Oper} {Q:Exit→Act→World→Prop} {md:Region.Mode} {S:World→Prop} {T:List Nat}
def zfa (P:Program) (md:Region.Mode) (ops:Array Oper) (Q:Exit→Act→World→Prop) (S:World→Prop) (T:List Nat):Nat→Array Bool→Act→World→Prop
 |0,listed,a,w=>Region.ready md ops listed=[]∧Q .normal a w
 |n+1,listed,a,w=>(Region.ready md ops listed=[]→Q .normal a w)∧
  ∀ i∈Region.ready md ops listed,wpOp P ops Q i (fun a' w'=>(T.contains i=false→S w')∧zfa P md ops Q S T n (listed.setIfInBounds i true) a' w') a w
theorem zgU:∀ (n:Nat) (listed:Array Bool) (a:Act) (w:World),zfa P md ops Q S T n listed a w→wpAny P md ops Q n listed a w
 |0,_,_,_,h=>h
 |n+1,_,_,_,h=>⟨h.1,fun i hi=>wpOp_mono (fun a' w' k=>zgU n _ a' w' k.2) (h.2 i hi)⟩
def zm8 (md:Region.Mode) (ops:Array Oper) (j g:Nat):Bool:=((ops[j]?).map fun o=>o.after.any fun e=>Region.binds md e&&e.on==g).getD false
theorem zjZ {listed:Array Bool} {i j:Nat} (hi:listed.getD i true=false) (hj:j∈Region.ready md ops listed) {o:Oper} (ho:ops[j]?=some o):∀ e∈o.after,Region.binds md e=true→e.on≠i:=fun e he hb heq=>by
 obtain ⟨-,o',ho',hall⟩:=mem_ready.1 hj
 obtain rfl:o=o':=by rw[ho] at ho';exact Option.some.inj ho'
 have h1:=hall e he hb
 rw[heq] at h1
 rcases Nat.lt_or_ge i listed.size with h|h
 ·simp[h] at hi h1
  rw[hi] at h1
  cases h1
 ·simp[Array.getElem?_eq_none h] at h1
theorem zjY {listed:Array Bool} {i j:Nat} (hi:listed.getD i true=false) (hw:zm8 md ops j i=true):j ∉ Region.ready md ops listed:=fun hj=>by
 obtain ⟨-,o,ho,-⟩:=mem_ready.1 hj
 simp only[zm8,ho,Option.map_some,Option.getD_some,Array.any_eq_true'] at hw
 obtain ⟨e,he,hb⟩:=hw
 simp only[Bool.and_eq_true,beq_iff_eq] at hb
 exact zjZ hi hj ho e he hb.1 hb.2
theorem zhd {i:Nat} {G:List Nat} {oi:Oper} {v:Value} (hi:ops[i]?=some oi) (hsel:∀ (j:Nat) (o:Oper) cs b,ops[j]?=some o→o.op≠.select cs b)
 (hQ:∀ c a w,Q (.panic c) (a.put oi.dst v) w→Q (.panic c) a w) (hG:∀ j∈G,∃ h∈i::G,zm8 md ops j h=true) (hT:∀ j,T.contains j=true→∃ h∈i::G,zm8 md ops j h=true) :
 ∀ (n:Nat) (listed:Array Bool) (a:Act) (w:World),
  (∀ j oj,ops[j]?=some oj→j≠i→listed.getD j true=false→(∀ e∈oj.after,Region.binds md e=true→e.on≠i)→oi.apart ops oj=true)→
  i∈Region.ready md ops listed→(∀ g∈G,listed.getD g true=false)→YieldsIf P ops S oi v a→S w→
  zfa P md ops Q S T n (listed.setIfInBounds i true) (a.put oi.dst v) w→zfa P md ops Q S T (n+1) listed a w
 |0,listed,a,w,_,hr,_,hy,hS,H=>⟨fun h=>(by rw[h] at hr;cases hr),fun j hj=>by
   by_cases hji:j=i
   ·subst hji
    exact hy.wpOp hi hS ⟨fun _=>hS,H⟩
   ·have:=ready_mono hj hji
    rw[H.1] at this
    cases this⟩
 |n+1,listed,a,w,hfree,hr,hgl,hy,hS,H=>⟨fun h=>(by rw[h] at hr;cases hr),fun j hj=>by
   by_cases hji:j=i
   ·subst hji
    exact hy.wpOp hi hS ⟨fun _=>hS,H⟩
   have hil:=(mem_ready.1 hr).1
   have hall:∀ h∈i::G,listed.getD h true=false:=fun h hh=>by
    rcases List.mem_cons.1 hh with rfl|hh
    ·exact hil
    ·exact hgl h hh
   have hjG:j ∉ G:=fun hm=>by
    obtain ⟨h,hh,hw⟩:=hG j hm
    exact zjY (hall h hh) hw hj
   have hjT:T.contains j=false:=by
    cases hc:T.contains j
    ·rfl
    ·obtain ⟨h,hh,hw⟩:=hT j hc
     exact absurd hj (zjY (hall h hh) hw)
   obtain ⟨hjl,oj,hoj,-⟩:=mem_ready.1 hj
   have h2:=wpOp_putIf hoj (hfree j oj hoj hji hjl (zjZ hil hj hoj)) (fun cs b=>hsel i oi cs b hi) (fun cs b=>hsel j oj cs b hoj) hQ hy (H.2 j (ready_mono hj hji))
   refine wpOp_mono (fun a' w' k=>⟨k.2.1,zhd hi hsel hQ hG hT n (listed.setIfInBounds j true) a' w' ?_ (ready_mono hr (Ne.symm hji)) ?_ k.1 (k.2.1 hjT) ?_⟩) h2
   ·intro m om hom hmi hml hno
    refine hfree m om hom hmi ?_ hno
    by_cases hjm:j=m
    ·exact hjm▸hjl
    ·rwa [getD_set_ne true hjm] at hml
   ·intro g hg
    rw[getD_set_ne true (fun e:j=g=>hjG (by rw[e];exact hg))]
    exact hgl g hg
   ·rw[Array.setIfInBounds_comm _ _ hji]
    exact k.2.2⟩
theorem zaj (i:Nat) (G:List Nat) {oi:Oper} {v:Value} {n:Nat} {listed:Array Bool} {a:Act} {w:World} (hi:ops[i]?=some oi) (hs:Region.noSelect ops=true) (hf:Region.free md ops listed i=true) (hr:(Region.ready md ops listed).contains i=true)
 (hg:((G++T).all (fun j=>(i::G).any (zm8 md ops j))&&G.all fun g=>!listed.getD g true)=true) (hQ:∀ c a w,Q (.panic c) (a.put oi.dst v) w→Q (.panic c) a w) (hw:Region.wanted oi (yielded ops a.tmps)=true) (hS:S w) (hy:∀ w,S w→(execOp a.eval oi).run P w=.ok (.value v) w)
 (h:zfa P md ops Q S T n (listed.setIfInBounds i true) (a.put oi.dst v) w):zfa P md ops Q S T (n+1) listed a w:=by
 obtain ⟨h1,h2⟩:=Bool.and_eq_true_iff.1 hg
 have h3:∀ j,j∈G++T→∃ h∈i::G,zm8 md ops j h=true:=fun j hj=>List.any_eq_true.1 (List.all_eq_true.1 h1 j hj)
 exact zhd (G:=G) hi (Region.noSelect_spec hs) hQ (fun j hj=>h3 j (List.mem_append_left _ hj)) (fun j hj=>h3 j (List.mem_append_right _ (by simpa using hj))) n listed a w (Region.free_spec hi hf) (by simpa using hr) (fun g hg=>by simpa using List.all_eq_true.1 h2 g hg) (.inl ⟨hw,hy⟩) hS h
structure Back (P:Program) (md:Region.Mode) (ops:Array Oper) (Q:Exit→Act→World→Prop) (S:World→Prop) (T:List Nat) (n:Nat) (listed:Array Bool) (i:Nat) (K:Act→World→Prop):Prop where
 out:∀ a w,(T.contains i=false→S w)→zfa P md ops Q S T n (listed.setIfInBounds i true) a w→K a w
theorem zf0 {i:Nat} {o:Oper} {n:Nat} {listed:Array Bool} {a:Act} {w:World} (ho:ops[i]?=some o)
 (h:∀ K,Back P md ops Q S T n listed i K→if Region.wanted o (yielded ops a.tmps)=true then Oper.wp P o a w K Q else K (a.put o.dst undef) w):wpOp P ops Q i (fun a' w'=>(T.contains i=false→S w')∧zfa P md ops Q S T n (listed.setIfInBounds i true) a' w') a w:=
 wpOp_step ho fun K hK=>h K ⟨fun a w h1 h2=>hK a w ⟨h1,h2⟩⟩
theorem zaq (i:Nat) {o:Oper} {n:Nat} {listed:Array Bool} {a:Act} {w:World} (hr:Region.ready md ops listed=[i]) (ho:ops[i]?=some o)
 (h:∀ K,Back P md ops Q S T n listed i K→if Region.wanted o (yielded ops a.tmps)=true then Oper.wp P o a w K Q else K (a.put o.dst undef) w):zfa P md ops Q S T (n+1) listed a w:=
 ⟨fun h0=>(by rw[hr] at h0;cases h0),fun j hj=>by
  rw[hr] at hj
  obtain rfl:=List.mem_singleton.1 hj
  exact zf0 ho h⟩
theorem ziT (i j:Nat) {o p:Oper} {n:Nat} {listed:Array Bool} {a:Act} {w:World} (hr:Region.ready md ops listed=[i,j]) (ho:ops[i]?=some o) (hp:ops[j]?=some p)
 (h:∀ K,Back P md ops Q S T n listed i K→if Region.wanted o (yielded ops a.tmps)=true then Oper.wp P o a w K Q else K (a.put o.dst undef) w)
 (h':∀ K,Back P md ops Q S T n listed j K→if Region.wanted p (yielded ops a.tmps)=true then Oper.wp P p a w K Q else K (a.put p.dst undef) w):zfa P md ops Q S T (n+1) listed a w:=
 ⟨fun h0=>(by rw[hr] at h0;cases h0),fun k hk=>by
  rw[hr] at hk
  rcases List.mem_cons.1 hk with rfl|hk
  ·exact zf0 ho h
  ·obtain rfl:=List.mem_singleton.1 hk
   exact zf0 hp h'⟩
theorem zbi {n:Nat} {listed:Array Bool} {a:Act} {w:World} (hr:Region.ready md ops listed=[]) (h:Q .normal a w):zfa P md ops Q S T n listed a w:=by
 cases n
 ·exact ⟨hr,h⟩
 ·exact ⟨fun _=>h,by rw[hr];exact fun i hi=>by cases hi⟩
theorem za8 (S:World→Prop) (T:List Nat) {id:Nat} {a:Act} {w:World} (hm:P.follows .mixedOrders=true)
 (h:zfa P .any ops Q S T ops.size (Array.replicate ops.size false) a w.drew):(Code.region id ops true).wp P Q a w:=
 wp_region_any hm (zgU _ _ _ _ h)
end
end Go.Proofs.YtdkfkalplmgoeaaGreat
namespace Go.Proofs.YtdkfkalplmgoeaaGreat
open Go.RowKit Go.Shelf
set_option maxRecDepth 100000
set_option maxHeartbeats 8000000
theorem zrr:zkr 137 divR:=fun w a b _ _=>zo6 a b w
theorem zeE (c:Nat) (e:Int) (a b:Sp) [ha:S64 a] [hb:S64 b] (w:World) (hc:w.cell? ⟨c,0,none⟩=some (.int .i64 e)) (hf:w.frozen? ⟨c,0,none⟩=false) :
 Calls Tryz.prog 104 #[.pointer (some ⟨c,0,none⟩),.agg #[.int .i64 a.lo,.int .i64 a.hi],.agg #[.int .i64 b.lo,.int .i64 b.hi]] w (RetC c (.agg #[.int .i64 ((doR e (divR a b)).s).lo,.int .i64 ((doR e (divR a b)).s).hi]) (doR e (divR a b)).e w):=by
 have ib:BlockIn w c:=BlockIn.of_cell hc
 have hci:HasCell w c 0:=⟨_,hc⟩
 have Hb:=Lib.hid (But.refl hc)
 have Hc:=Lib.hid hc
 go_enter Tryz.func104,Tryz.ntmps104
 go_wp2_with (go_at_call 150;refine zar (zgC 137 divR (enters_of Tryz.func137 (by kernel_rfl) rfl) zrr c e a b _ (by go_simp) (by go_simp)) ?_;intro u)
 refine bodyPost_ret (by (simp[results,Tryz.results104,go_sem]<;>rfl)) rfl ?_
 exact ⟨rfl,But.out btw Hc.out (by go_simp)⟩
theorem zrs:zkr 139 mulR:=fun w a b _ _=>zkd a b w
theorem zb1 (c:Nat) (e:Int) (a b:Sp) [ha:S64 a] [hb:S64 b] (w:World) (hc:w.cell? ⟨c,0,none⟩=some (.int .i64 e)) (hf:w.frozen? ⟨c,0,none⟩=false) :
 Calls Tryz.prog 100 #[.pointer (some ⟨c,0,none⟩),.agg #[.int .i64 a.lo,.int .i64 a.hi],.agg #[.int .i64 b.lo,.int .i64 b.hi]] w (RetC c (.agg #[.int .i64 ((doR e (mulR a b)).s).lo,.int .i64 ((doR e (mulR a b)).s).hi]) (doR e (mulR a b)).e w):=by
 have ib:BlockIn w c:=BlockIn.of_cell hc
 have hci:HasCell w c 0:=⟨_,hc⟩
 have Hb:=Lib.hid (But.refl hc)
 have Hc:=Lib.hid hc
 go_enter Tryz.func100,Tryz.ntmps100
 go_wp2_with (go_at_call 150;refine zar (zgC 139 mulR (enters_of Tryz.func139 (by kernel_rfl) rfl) zrs c e a b _ (by go_simp) (by go_simp)) ?_;intro u)
 refine bodyPost_ret (by (simp[results,Tryz.results100,go_sem]<;>rfl)) rfl ?_
 exact ⟨rfl,But.out btw Hc.out (by go_simp)⟩
theorem zfS (c:Nat) (e:Int) (a:Sp) [ha:S64 a] (w:World) (hc:w.cell? ⟨c,0,none⟩=some (.int .i64 e)) (hf:w.frozen? ⟨c,0,none⟩=false) :
 Calls Tryz.prog 157 #[.pointer (some ⟨c,0,none⟩),.agg #[.int .i64 a.lo,.int .i64 a.hi]] w (RetC c (.agg #[.int .i64 ((doR e (zaB a)).s).lo,.int .i64 ((doR e (zaB a)).s).hi]) (doR e (zaB a)).e w):=by
 have ib:BlockIn w c:=BlockIn.of_cell hc
 have hci:HasCell w c 0:=⟨_,hc⟩
 have Hb:=Lib.hid (But.refl hc)
 have Hc:=Lib.hid hc
 go_enter Tryz.func157,Tryz.ntmps157
 go_wp2_with (first|(go_at_call 131;(with_reducible refine zaa (zha a _) ?_);intro u)|(go_at_call 160;refine zar (zf4 c e (zaB a) _ (by go_simp) (by go_simp)) ?_;intro u))
 refine bodyPost_ret (by (simp[results,Tryz.results157,go_sem]<;>rfl)) rfl ?_
 exact ⟨rfl,But.out btw Hc.out (by go_simp)⟩
theorem zef {P:Program} {f:FuncId} {args:Array Value} {w:World} {c:Nat} {e:Int} {v:Value} (h:Calls P f args w fun en w'=>en=.returned v∧Grew w w') (hc:w.cell? ⟨c,0,none⟩=some (.int .i64 e)):Calls P f args w (RetC c v e w):=
 h.mono fun _ w' ⟨he,g⟩=>⟨he,⟨w',g⟩,(zd7 (g.cell hc)).symm⟩
class Pl64 (p:Planet):Prop where
 mu:S64 p.mu
 radius:S64 p.radius
 oblate:S64 p.oblate
 spin:S64 p.spin
 pull:B64 p.pull
instance zvI (p:Planet) [h:Pl64 p]:S64 p.mu:=h.mu
instance zr6 (p:Planet) [h:Pl64 p]:S64 p.radius:=h.radius
instance zr5 (p:Planet) [h:Pl64 p]:S64 p.oblate:=h.oblate
instance zuf (p:Planet) [h:Pl64 p]:S64 p.spin:=h.spin
instance zue (p:Planet) [h:Pl64 p]:B64 p.pull:=h.pull
end Go.Proofs.YtdkfkalplmgoeaaGreat
namespace Go.Proofs.YtdkfkalplmgoeaaGreat
open Go.RowKit Go.Shelf
set_option maxRecDepth 100000
set_option maxHeartbeats 8000000
def zej (f:FuncId):Prop:=∀ (l:List Pt) (x:Sp),S64 x→∀ (ao:Option Addr) (cap:Nat) (w:World),SlAt w (.slice ao l.length cap) l.length (l.flatMap Pt.cells)→Calls Tryz.prog f #[.slice ao l.length cap,.agg #[.int .i64 x.lo,.int .i64 x.hi]] w fun e w'=>e=.returned (.tuple #[.agg #[.int .i64 (zcx l x).s.lo,.int .i64 (zcx l x).s.hi],.int .i64 (zcx l x).e])∧Grew w w'
instance zve (l:List Pt) (x:Sp):S64 (zcx l x).s:=by
 unfold zcx zfO
 split
 ·infer_instance
 ·exact zbE _
theorem znz (e:Int) (r:Res):doR e (doR e r)=doR e r:=by
 by_cases h:e=0
 ·subst h;rfl
 ·rw[zd9 r h,zd9 _ h]
theorem znv (HL:zej 191) (c:Nat) (k:Int) (l:List Pt) (x:Sp) [hx:S64 x] (ao:Option Addr) (cap:Nat) (w:World) (hs:SlAt w (.slice ao l.length cap) l.length (l.flatMap Pt.cells)) (hc:w.cell? ⟨c,0,none⟩=some (.int .i64 k)) :
 Calls Tryz.prog 161 #[.pointer (some ⟨c,0,none⟩),.slice ao l.length cap,.agg #[.int .i64 x.lo,.int .i64 x.hi]] w fun e w'=>e=.returned (.tuple #[.agg #[.int .i64 (doR k (zcx l x)).s.lo,.int .i64 (doR k (zcx l x)).s.hi],.int .i64 (doR k (zcx l x)).e])∧Grew w w':=by
 have ib:BlockIn w c:=BlockIn.of_cell hc
 have hci:HasCell w c 0:=⟨_,hc⟩
 have Hs:=Lib.hid (fun w' (g:Grew w w')=>HL l x hx ao cap w' (hs.grew g))
 clear hs HL
 by_cases he:k=0
 ·subst he
  have HD:=Lib.hid (zen (zcx l x))
  generalize zcx l x=r at *
  go_enter Tryz.func161,Tryz.ntmps161
  go_wp2_with (first|(go_at_call 191;(with_reducible refine zaa (Hs.out _ gw) ?_);intro u)|((with_reducible refine zab ?_ ?_ ?_);(· kernel_rfl);(· kernel_rfl);(try simp only[List.append_eq,List.cons_append,List.nil_append]);(repeat (go_big_quiet_step ((first|(go_at_call 191;(with_reducible exact zac (Hs.out _ gw)))))));refine wpQuiet_nil ?_;rintro _ ⟨u,rfl⟩))
  refine bodyPost_ret (by (simp[results,Tryz.results161,go_sem]<;>rfl)) rfl ?_
  exact ⟨zbb (by rw[HD.out]),gw⟩
 ·have he':(k != 0)=true:=by simp[he]
  have HD:=Lib.hid (zd9 (zcx l x) he)
  clear he Hs
  generalize zcx l x=r at *
  go_enter Tryz.func161,Tryz.ntmps161
  go_wp2
  go_region
  all_goals go_wp2
  all_goals
   refine bodyPost_ret (by (simp[results,Tryz.results161,go_sem]<;>rfl)) rfl ?_
   exact ⟨zbb (by rw[HD.out];rfl),gw⟩
theorem zmT (HR:zej 168) (c:Nat) (e:Int) (l:List Pt) (x:Sp) [hx:S64 x] (ao:Option Addr) (cap:Nat) (w:World) (hs:SlAt w (.slice ao l.length cap) l.length (l.flatMap Pt.cells)) (hc:w.cell? ⟨c,0,none⟩=some (.int .i64 e)) (hf:w.frozen? ⟨c,0,none⟩=false) :
 Calls Tryz.prog 116 #[.pointer (some ⟨c,0,none⟩),.slice ao l.length cap,.agg #[.int .i64 x.lo,.int .i64 x.hi]] w (RetC c (.agg #[.int .i64 ((doR e (zcx l x)).s).lo,.int .i64 ((doR e (zcx l x)).s).hi]) (doR e (zcx l x)).e w):=by
 have ib:BlockIn w c:=BlockIn.of_cell hc
 have hci:HasCell w c 0:=⟨_,hc⟩
 have Hb:=Lib.hid (But.refl hc)
 have Hc:=Lib.hid hc
 have Hs:=Lib.hid (fun w' (g:Grew w w')=>HR l x hx ao cap w' (hs.grew g))
 clear hs HR
 go_enter Tryz.func116,Tryz.ntmps116
 go_wp2_with (first|(go_at_call 168;(with_reducible refine zaa (Hs.out _ gw) ?_);intro u)|(go_at_call 109;refine zar (zcI c e (zcx l x) _ (by go_simp) (by go_simp)) ?_;intro u))
 refine bodyPost_ret (by (simp[results,Tryz.results116,go_sem]<;>rfl)) rfl ?_
 exact ⟨rfl,But.out btw Hc.out (by go_simp)⟩
theorem zdQ (n:Int) (w:World):Calls Tryz.prog 98 #[.int .i64 n] w fun e w'=>e=.returned (.agg #[.int .i64 n,.int .i64 n])∧Grew w w':=by
 go_enter Tryz.func98,Tryz.ntmps98
 go_wp2
 refine bodyPost_ret (by (simp[results,Tryz.results98,go_sem]<;>rfl)) rfl ?_
 exact ⟨rfl,gw⟩
theorem zkJ (w:World):Calls Tryz.prog 105 #[.int .i64 2] w fun e w'=>e=.returned (.agg #[.int .i64 (zaI 2).lo,.int .i64 (zaI 2).hi])∧Grew w w':=by
 go_enter Tryz.func105,Tryz.ntmps105
 go_wp2_with (first|(go_at_call 98;(with_reducible refine zaa (zdQ _ _) ?_);intro u))
 refine bodyPost_ret (by (simp[results,Tryz.results105,go_sem]<;>rfl)) rfl ?_
 exact ⟨rfl,gw⟩
end Go.Proofs.YtdkfkalplmgoeaaGreat
