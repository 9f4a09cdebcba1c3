/- Lemmas. -/
import Derived.RangeFuncBox
import Derived.Maps.AppendAt
import Derived.Test.YtfdmnogfflcllaaGreatDoorM31
set_option linter.unusedVariables false
set_option linter.unusedSimpArgs false
set_option maxRecDepth 100000
set_option maxHeartbeats 20000000
namespace Go.Proofs.YtfdmnogfflcllaaGreatDoor
open Go.Proofs.Tryz Go.RowKit Go.Shelf
variable {n0 g:Nat}{lb:Array Value}{ys:List Int}{w:World}
section
attribute [local go_sem] cK
theorem Y7:(prog.info? 3).map (fun i=>(i.zero,i.size,i.bytes))=some (some (.int .i64 0),1,8):=oF
abbrev Pz(g:Nat)(lb:Array Value)(n0:Nat)(ys:List Int)(w:World):Prop:=SeqStopsK Wd 9 prog g lb (fun m:Int=>#[.int .i64 m]) (Below n0) (· =ys) (fun _=>True) ys.length w
theorem Xi(eg:∀args w,(callFunc g args).run prog w=.ok (.enter g args) w)(hseq:Pz g lb n0 ys w)(hn:n0<=w.heap.size)(hl:ys.length<=1000):
 Calls prog 254 #[.slice none 0 0,.func (.func g) #[] lb] w fun e w'=>∃v,e=.returned v/\w'.ownsRow w 3 1 v ys.length (ys.map (Value.int .i64))/\Below w w w':=by
 refine wid ?_;obtain⟨z,s,t,u,y⟩:=kO Y7;refine sH func254 rfl ntmps254 ?_;gi_wp2;have h:Below w w (w.alloc (.cells #[.slice none 0 0] 26)):=(bw _ w).alloc pc _
 refine wpIn_rangeFunc_ownF rfl oE (gf:=g) (lb:=lb) rfl trivial eg hseq belowK_t (belowK_b oS) h (fun _=>rfl)
  (fun(a:List Int) W=>(∃v,Boxed W w.heap.size 26 v/\W.ownsRow w 3 1 v a.length (a.map (Value.int .i64))/\True)/\Below w w W)
  (fun _ _ _=>False)
  (OwnFrom.and (Own.from (holdsRow_own w.heap.size w.heap.size 26 3 1 (fun a:List Int=>a.length) (fun a=>a.map (Value.int .i64)) (fun _ _=>True)) _) (ownFrom_below pc oO))
  (fun _ _ _ _ _ hs _ _=>hs)
  ⟨⟨_,Boxed.new w _ _,World.ownsRow_nil _ _ _ _,bq⟩,h⟩
  (fun x=>{ tmps:=#[.slice none 0 0,.func (.func g) #[] lb,.pointer (some ⟨w,0,none⟩),undef,.slice none 0 0,.int .i64 x,.func (.func g) #[] lb,.int .i64 x,undef,undef,undef,undef,undef],defers:= [] }) ?assign ?body ?done ?stop
 case assign=>intro l x W K f;gi_wp2;exact f
 case body=>
  rintro l a x W ⟨⟨v,d,b,-⟩,hB⟩ hlen;have I:=d.cell;gi_wp2_with (gi_at_builtin;refine wpListIn_append_own _ rfl _ _ 26 rfl w.heap.size 3 z (.int .i64 0) 1 8 underlying26 s t u y rfl oR _ _ _ rfl (b.alloc _) ⟨W,0,none⟩ 1 1 [.int .i64 x] rfl rfl (cell_one_new _ _ _) (by simp[Value.oneCell']) (by unfold maxLen;omega) oE (by have:=hB.size;simp;omega) ?_;intro F G j o _;obtain⟨B,A,rfl⟩:=ownsRow_succ j;obtain⟨k,r,q,p,i⟩:=d.appended oR b hB.size pc j o;have C:=k.cell;have E:=k.frozen)
  exact⟨p,i.mono hn,⟨⟨_,r,by simpa using q,bq⟩,hB.trans i⟩⟩
 case done=>rintro D H W m rfl ⟨⟨v,d,b,-⟩,hB⟩ f;have I:=d.cell;gi_wp2;refine⟨oO,.inl ⟨_,_,rfl,jf f,?_⟩⟩;exact⟨_,results_tmp rfl _ _ _,v,rfl,ownsRow_putObj b _ f rfl,hB.trans (belowK_b (w:=w) pc W D _ _ (by simp at m;omega) f rfl rfl)⟩
 case stop=>rintro D c a W _ _ n _;exact n.elim
theorem MR(eg:∀args w,(callFunc g args).run prog w=.ok (.enter g args) w)(hseq:Pz g lb n0 ys w)(hn:n0<=w.heap.size)(hl:ys.length<=1000):
 Calls prog 221 #[.func (.func g) #[] lb] w fun e w'=>∃v,e=.returned v/\w'.ownsRow w 3 1 v ys.length (ys.map (Value.int .i64))/\Below w w w':=by
 refine wid ?_;refine ent func221 rfl ntmps221 ?_
 gi_wp2_with (first
  |(refine Cl 254 (Xi eg hseq hn hl) ?_;rintro e h ⟨v,rfl,B,hb⟩)
  |fail)
 go_ret;exact⟨v,rfl,B,hb⟩
end
