/- Lemmas and walks; no statement is proved here. -/
import Derived.RangeFuncBox
import Derived.Maps.AppendAt
import Derived.Test.YtefnknhjlejalaaGreatDoorM40
set_option linter.unusedVariables false
set_option linter.unusedSimpArgs false
set_option maxRecDepth 20000
set_option maxHeartbeats 6000000
namespace Go.Proofs.YtefnknhjlejalaaGreatDoor
open Go.Proofs.Tryz Go.RowKit Go.Shelf
variable {n0 g:Nat}{lb:Array Value}{ys:List Int}{w:World}
section
attribute [local go_sem] Oper.semAt_some
theorem Y7:(prog.info? 3).map (fun i=>(i.zero,i.size,i.bytes))=some (some (.int .i64 0),1,8):=by kernel_rfl
abbrev Pz(g:Nat)(lb:Array Value)(n0:Nat)(ys:List Int)(w:World):Prop:=SeqStopsK Wd 9 prog g lb (fun m:Int=>#[.int .i64 m]) (Below n0) (· =ys) (fun _=>True) ys.length w
theorem Xi(eg:∀args w,(callFunc g args).run prog w=.ok (.enter g args) w)(hseq:Pz g lb n0 ys w)(hn:n0<=w.heap.size)(hl:ys.length<=1000):
 Calls prog 205 #[.slice none 0 0,.func (.func g) #[] lb] w fun e w'=>∃v,e=.returned v/\w'.ownsRow w.heap.size 3 1 v ys.length (ys.map (Value.int .i64))/\Below w.heap.size w w':=by
 refine wid ?_;obtain⟨i0,hi,hz0,hz1,hz2⟩:=info_parts Y7;refine sH func205 rfl ntmps205 ?_;gi_wp2;have hB0:Below w.heap.size w (w.alloc (.cells #[.slice none 0 0] 26)):=(Below.refl _ w).alloc (Nat.le_refl _) _
 refine wpIn_rangeFunc_ownF rfl (by omega) (gf:=g) (lb:=lb) rfl trivial eg hseq belowK_t (belowK_b (by simp;omega)) hB0 (fun _=>rfl)
  (fun(pre:List Int) W=>(∃v,Boxed W w.heap.size 26 v/\W.ownsRow w.heap.size 3 1 v pre.length (pre.map (Value.int .i64))/\True)/\Below w.heap.size w W)
  (fun _ _ _=>False)
  (OwnFrom.and (Own.from (holdsRow_own w.heap.size w.heap.size 26 3 1 (fun pre:List Int=>pre.length) (fun pre=>pre.map (Value.int .i64)) (fun _ _=>True)) _) (ownFrom_below (Nat.le_refl _) (by simp)))
  (fun _ _ _ _ _ hs _ _=>hs)
  ⟨⟨_,Boxed.new w _ _,World.ownsRow_nil _ _ _ _,trivial⟩,hB0⟩
  (fun x=>{ tmps:=#[.slice none 0 0,.func (.func g) #[] lb,.pointer (some ⟨w.heap.size,0,none⟩),undef,.slice none 0 0,.int .i64 x,.func (.func g) #[] lb,.int .i64 x,undef,undef,undef,undef,undef],defers:= [] }) ?assign ?body ?done ?stop
 case assign=>intro l x W K hK;gi_wp2;exact hK
 case body=>
  rintro l pre x W ⟨⟨v,hv,hrow,-⟩,hB⟩ hlen;have hc:=hv.cell;gi_wp2_with (gi_at_builtin;refine wpListIn_append_own _ rfl _ _ 26 rfl w.heap.size 3 i0 (.int .i64 0) 1 8 underlying26 hi hz0 hz1 hz2 rfl (by decide) _ _ _ rfl (hrow.alloc _) ⟨W.heap.size,0,none⟩ 1 1 [.int .i64 x] rfl rfl (cell_one_new _ _ _) (by simp[Value.oneCell']) (by unfold maxLen;omega) (by omega) (by have:=hB.size;simp;omega) ?_;intro v' w1 hown' hgrow _;obtain⟨g',cap',rfl⟩:=ownsRow_succ hown';obtain⟨hv1,hv2,hr2,hk2,hb2⟩:=hv.appended (by decide) hrow hB.size (Nat.le_refl _) hown' hgrow;have hc1:=hv1.cell;have hf1:=hv1.frozen)
  exact⟨hk2,hb2.mono hn,⟨⟨_,hv2,by simpa using hr2,trivial⟩,hB.trans hb2⟩⟩
 case done=>rintro D xs W hD rfl ⟨⟨v,hv,hrow,-⟩,hB⟩ hK;have hc:=hv.cell;gi_wp2;refine⟨by simp,.inl ⟨_,_,rfl,run_takeDeferred hK,?_⟩⟩;exact⟨_,results_tmp rfl _ _ _,v,rfl,ownsRow_putObj hrow _ hK rfl,hB.trans (belowK_b (w:=w) (Nat.le_refl _) W D _ _ (by simp at hD;omega) hK rfl rfl)⟩
 case stop=>rintro D c pre W _ _ hf _;exact hf.elim
theorem Pz.go{w':World}(h:Pz g lb n0 ys w)(hb:Below w.heap.size w w'):Pz g lb n0 ys w':=fun l J Jx W hW hJ hX hY h0=>h l J Jx W (hb.trans (hW.mono hb.size)) hJ hX hY h0
theorem MR(eg:∀args w,(callFunc g args).run prog w=.ok (.enter g args) w)(hseq:Pz g lb n0 ys w)(hn:n0<=w.heap.size)(hl:ys.length<=1000):
 Calls prog 189 #[.func (.func g) #[] lb] w fun e w'=>∃v,e=.returned v/\w'.ownsRow w.heap.size 3 1 v ys.length (ys.map (Value.int .i64))/\Below w.heap.size w w':=by
 refine wid ?_;refine ent func189 rfl ntmps189 ?_
 gi_wp2_with (first
  |(refine Cl 205 (Xi eg hseq hn hl) ?_;rintro e w2 ⟨v,rfl,hr,hb⟩)
  |fail)
 go_ret;exact⟨v,rfl,hr,hb⟩
end
end Go.Proofs.YtefnknhjlejalaaGreatDoor
