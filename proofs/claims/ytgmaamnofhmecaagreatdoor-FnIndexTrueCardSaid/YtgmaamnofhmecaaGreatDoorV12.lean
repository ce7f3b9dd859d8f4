import Derived.Test.YtgmaamnofhmecaaGreatDoorV00
import Derived.Test.YtgmaamnofhmecaaGreatDoorV11
import Derived.Lib.OwnBridge
import Derived.LoopIn
import Derived.LoopNIn
import Derived.OwnWalkIn
import Derived.RangeFuncBox
import Derived.RangeFuncLeaves
import Derived.Shelf.Abstract
import Derived.TacticsInMore
import Derived.WalkKit
import Derived.Shelf.SlIter.Collect
import Derived.Lib.AppendIntMem
set_option maxHeartbeats 4000000
open Go.Lib renaming hid → zh
namespace Go.Proofs.YtgmaamnofhmecaaGreatDoor
open Go.RowKit Go.Shelf Go.Proofs.YtgmaamnofhmecaaGreatDoor.Own
attribute [local go_sem] Oper.semAt_some
theorem zJt (ss:List ByteArray) (k:Nat) (h:k<ss.length):ss.take (k+1)=ss.take k++[ss.getD k ByteArray.empty]:=by
 rw[List.take_succ_eq_append_getElem h,List.getD_eq_getElem?_getD,List.getElem?_eq_getElem h];rfl
set_option maxRecDepth 100000 in
theorem zHH (F:Fence) (n:Nat) (h7:F.fn 271) (hro:F.round=none) (hn:1≤n) (l Bs n₀ len cap:Nat) (A:Option Addr) (ss:List ByteArray) (hreach:len≤1048576) (J Jx:List ByteArray→World→Prop)
 (hY:∀pre x W,J pre W→pre.length<len→YieldAt F (n-1) Tryz.prog l #[.string x] W fun e W' =>
   (e=.returned (.bool true)∧J (pre++[x]) W'∧Below n₀ W W')∨(e=.returned (.bool false)∧Jx (pre++[x]) W'))
 (W:World) (hBs:W.cell? ⟨Bs,0,none⟩=some (.slice A len cap)) (hS:Strs W n₀ A len ss) (h0:J [] W) :
 CallsIn F n Tryz.prog 271 #[.func (.yield l) #[] #[],.pointer (some ⟨Bs,0,none⟩)] W fun e W'=>(∃v,e=.returned v) ∧
  ((∃ys,ys=ss∧J ys W')∨(∃pre,True∧Jx pre W')):=by
 refine callsIn_of_wp Tryz.func271 rfl h7 ?_ hro;simp only[Tryz.ntmps271,List.size_toArray,List.length_cons,List.length_nil,Nat.reduceAdd,Nat.reduceSub,Array.replicate_succ,Array.replicate_zero,List.push_toArray,List.append_toArray,List.nil_append,List.cons_append];have HS:=zh hS;clear hS
 gi_wp2
 gi_loopw [7] (fun i wr=>∃k:Nat,k≤len∧i=.int .i64 k∧J (ss.take k) wr∧Below n₀ W wr)
  (fun i _=>len-(intOf i).toNat)
 case atStart=>exact⟨0,Nat.zero_le _,rfl,h0,Below.refl _ _⟩
 case round =>
  obtain⟨k,hk,rfl,hJs,hnx⟩:=hrel;by_cases hlt:k<len
  · obtain⟨b,off,rfl,hb,hcs⟩:=(HS.out.below hnx).2 (by omega);have hcx':=hcs k hlt;clear hcs;have hl:k<ss.length:=by rw[HS.out.1];exact hlt
    obtain⟨fn,tmps,assign,body,hy,hR⟩:=hY _ (ss.getD k ByteArray.empty) wr hJs (by rw[List.length_take];omega);have HTk:=zh (zJt ss k hl);generalize ss.getD k ByteArray.empty=x at *
    gi_wp2
    refine hR.mono ?_;rintro e W3 (⟨rfl,hJ3,hk3⟩ | ⟨rfl,hJx3⟩)
    · gi_wp2
      go_roundw;case rel=>exact⟨k+1,by omega,by simp,by rw[HTk.out];exact hJ3,hnx.trans hk3⟩
      case measure=>simp[intOf];omega
    · gi_wp2
      refine bodyPost_ret (results_none rfl _ _ _) rfl ?_;exact⟨⟨_,rfl⟩,.inr ⟨_,trivial,hJx3⟩⟩
  · obtain rfl:k=len:=by omega
    gi_wp2
    go_end0
    refine⟨⟨_,rfl⟩,.inl ⟨_,rfl,?_⟩⟩;rw[List.take_of_length_le (by rw[HS.out.1];exact Nat.le_refl _)]at hJs;exact hJs
theorem zJY (F:Fence) (n:Nat) (h5:F.fn 240) (hro:F.round=none) (a:Option Addr) (len cap:Nat) (w:World) :
 CallsIn F n Tryz.prog 240 #[.slice a len cap] w fun e w'=>e=.returned (.func (.func 271) #[] #[.pointer (some ⟨w.heap.size,0,none⟩)])∧w'=w.alloc (.cells #[.slice a len cap] 27):=by
 refine callsIn_of_wp Tryz.func240 rfl h5 ?_ hro;simp only[Tryz.ntmps240,List.size_toArray,List.length_cons,List.length_nil,Nat.reduceAdd,Nat.reduceSub,Array.replicate_succ,Array.replicate_zero,List.push_toArray,List.append_toArray,List.nil_append,List.cons_append]
 gi_wp2
 go_ret;exact⟨rfl,rfl⟩
theorem zFL (F:Fence) (n:Nat) (h7:F.fn 271) (hro:F.round=none) (hn:1≤n) (Bs n₀ len cap:Nat) (A:Option Addr) (ss:List ByteArray) (hreach:len≤1048576) (w:World) (hBs:Bs<w.heap.size) (hn₀:n₀≤w.heap.size)
 (hc:w.cell? ⟨Bs,0,none⟩=some (.slice A len cap)) (hI:Strs w n₀ A len ss) :
 SeqStopsK F n Tryz.prog 271 #[.pointer (some ⟨Bs,0,none⟩)] (fun x:ByteArray=>#[Value.string x]) (Below n₀) (fun ys=>ys=ss) (fun _=>True) len w:=fun l J Jx W hW _ _ hY h0=>by
 have hc':=(hW.cell (p:=⟨Bs,0,none⟩) hBs).trans hc;exact zHH F n h7 hro hn l Bs n₀ len cap A ss hreach J Jx hY W hc' (hI.below (hW.mono hn₀)) h0
def ApI (w0:World) (Bs:Nat) (pre:List ByteArray) (W:World):Prop :=
 ∃v,W.heap[Bs]?=some (.cells #[v] 27 (0,0))∧W.ownsRow w0.heap.size 9 1 v pre.length (pre.map Value.string)
theorem zEX {W W':World} {row:Option Nat} {base:Nat} {e:TypeId} {size:Nat} {v:Value} {k:Nat} {xs:List Value} (h:W.ownsRow base e size v k xs) (hg:W.grownBy W' row)
 (hrow:∀r,row=some r→∃o:Obj,W.heap[r]?=some o∧o.isCells=false):W'.ownsRow base e size v k xs:=by
 refine h.kept hg ?_;rcases h.2 with ⟨rfl,_⟩ | ⟨g,cap,cur,rfl,_,hgb,_⟩
 · exact .inl rfl
 · refine .inr fun e'=>?_;obtain⟨o,ho,hw⟩:=hrow g (by simpa [Value.ownBlock] using e'.symm);rw[hgb]at ho;cases ho;cases hw
theorem ApI.own (w0:World) (Bs B:Nat):OwnFrom B (ApI w0 Bs):=fun s W W' row h hg hr=>by
 obtain⟨v,hv,hown⟩:=h;have hr':∀r,row=some r→∃o:Obj,W.heap[r]?=some o∧o.isCells=false:=fun r e=>(hr r e).2;refine⟨v,?_,zEX hown hg hr'⟩;refine(hg.block Bs (Array.getElem?_eq_some_iff.1 hv).1 ?_).trans hv;intro e;obtain⟨o,ho,hc⟩:=hr' Bs e.symm;rw[hv]at ho;cases ho;cases hc
end Go.Proofs.YtgmaamnofhmecaaGreatDoor
namespace Go.Proofs.YtgmaamnofhmecaaGreatDoor
open Go.RowKit Go.Shelf Go.Proofs.YtgmaamnofhmecaaGreatDoor.Own
attribute [local go_sem] Oper.semAt_some
set_option maxRecDepth 100000 in
theorem zGp (F:Fence) (n:Nat) (h0:F.fn 290) (h7:F.fn 271) (hro:F.round=none) (hn:3≤n) (Bv len cap:Nat) (A:Option Addr) (ss:List ByteArray) (hreach:len≤1048576) (w:World) (hBv:Bv<w.heap.size)
 (hc:w.cell? ⟨Bv,0,none⟩=some (.slice A len cap)) (hI:Strs w w.heap.size A len ss) :
 CallsIn F n Tryz.prog 290 #[.slice none 0 0,.func (.func 271) #[] #[.pointer (some ⟨Bv,0,none⟩)]] w fun e w'=>∃v,e=.returned v∧w'.ownsRow w.heap.size 9 1 v ss.length (ss.map Value.string)∧Below w.heap.size w w':=by
 have h1:1≤n:=by omega
 have hlen:ss.length=len:=hI.1;obtain⟨i0,hi,hz0,hz1,hz2⟩:=info_parts zCz;have hB0:Below w.heap.size w (w.alloc (.cells #[.slice none 0 0] 27)):=(Below.refl _ w).alloc (Nat.le_refl _) _;have hst:=zFL F (n-1) h7 hro (by omega) Bv w.heap.size len cap A ss hreach (w.alloc (.cells #[.slice none 0 0] 27)) (by simp;omega) (by simp) ((hB0.cell (p:=⟨Bv,0,none⟩) hBv).trans hc) (hI.below hB0);refine callsIn_of_wp_marks Tryz.func290 rfl h0 ?_ hro;simp only[Tryz.ntmps290,List.size_toArray,List.length_cons,List.length_nil,Nat.reduceAdd,Nat.reduceSub,Array.replicate_succ,Array.replicate_zero,List.push_toArray,List.append_toArray,List.nil_append,List.cons_append];have HST:=zh hst;have HI:=zh hI;clear hst hI hc
 gi_wp2
 refine wpIn_rangeFunc_ownG hro h1 (gf:=271) (lb:=#[.pointer (some ⟨Bv,0,none⟩)]) rfl h7 (enters_of Tryz.func271 (by kernel_rfl) rfl)
  HST.out belowK_t (belowK_b (by simp)) (Below.refl _ _) (fun _=>rfl)
  (fun pre W=>ApI w w.heap.size pre W∧Below w.heap.size w W)
  (fun _ _ _=>False)
  (OwnFrom.and (ApI.own w w.heap.size _) (ownFrom_below (Nat.le_refl _) (by simp)))
  (fun _ _ _ _ _ hs _ _=>hs)
  ⟨⟨.slice none 0 0,World.alloc_heap_new w _,⟨rfl,.inl ⟨rfl,rfl⟩⟩⟩,hB0⟩
  (fun x=>{ tmps:=#[.slice none 0 0,.func (.func 271) #[] #[.pointer (some ⟨Bv,0,none⟩)],.pointer (some ⟨w.heap.size,0,none⟩),undef,.slice none 0 0,.string x,.func (.func 271) #[] #[.pointer (some ⟨Bv,0,none⟩)],.string x,undef,undef,undef,undef,undef],defers:=[] }) ?assign ?body ?done ?stop
 case assign =>
  intro l x W K hK
  gi_wp2
  exact hK
 case body =>
  rintro l pre x W ⟨⟨v,hv,hrow⟩,hB⟩ hpl;have hne:(27:Nat)≠9:=by decide
  obtain⟨hc2,hf2⟩:=cell_of_box_a hv;have hBlt:w.heap.size<W.heap.size:=(Array.getElem?_eq_some_iff.1 hv).1
  have ne_of:∀{j:Nat} {o:Obj},W.heap[j]?=some o→(∀cur,o≠.cells cur 9 (0,0))→some j≠v.ownBlock:=fun hj hno=>by
   rcases ownsRow_ne_a hrow hj hno with e | e
   · rw[e];simp
   · exact fun e'=>e e'.symm
  gi_wp2_with (first
   | (gi_at_builtin;refine wpListIn_append_own _ rfl _ _ 27 rfl w.heap.size 9 i0 (.string .empty) 1 16 Tryz.underlying27 hi hz0 hz1 hz2 rfl (by decide) _ _ _ rfl (hrow.alloc _) ⟨W.heap.size,0,none⟩ 1 1 [.string x] rfl rfl (cell_one_new _ _ _) (by simp[Value.oneCell']) (by unfold maxLen;omega) (by omega) (by have:=hB.size;simp;omega) ?_;intro v' w3 hown' hg3 hnil3
      have hv3:w3.heap[w.heap.size]?=some (.cells #[v] 27 (0,0)):=(hg3.block w.heap.size (by simp;omega) (ne_of hv (fun cur e=>by first | cases e | exact hne (Obj.cells.inj e).2.1))).trans ((Below.heap_alloc _ _ w.heap.size hBlt).trans hv);obtain⟨hc3,hf3⟩:=cell_of_box_a hv3
      obtain⟨g',cap',cur',rfl,hbase',hgb',hr1,hr2,hr3,hr4⟩:∃g' cap' cur',v'=.slice (some ⟨g',0,none⟩) (pre.length+1) cap'∧w.heap.size≤g'∧w3.heap[g']?=some (.cells cur' 9 (0,0))∧pre.length+1≤cap'∧cap'≤maxLen∧cur'.size=cap'*1∧cur'.toList.take ((pre.length+1)*1)=pre.map Value.string++[.string x]:=by
       rcases hown'.2 with ⟨_,h0⟩ | h'
       · exact absurd h0 (by omega)
       · exact h'
      go_frame)
   | gi_in)
  have hg3':(W.alloc (.cells #[.string x] 9)).grownBy w3 v.ownBlock:=hg3;have hb3:Below w.heap.size W w3:=((Below.refl _ W).alloc (by omega) _).grown hg3' (by simp;omega) (fun k e=>(hrow.lt k e).1);have hrow4:=hown'.kept (grownBy_setCell0_a w3 w.heap.size (.slice (some ⟨g',0,none⟩) (pre.length+1) cap')) (ownsRow_ne_a hown' hv3 (fun cur e=>by first | cases e | exact hne (Obj.cells.inj e).2.1))
  have hks:KeepsOthers W w3:=(KeepsOthers.alloc _ _).trans (KeepsOthers.of_grownBy hg3' (fun j o hj ho=>by
   rcases (hrow.alloc (.cells #[.string x] 9)).2 with ⟨rfl,_⟩ | ⟨g,cap,cur,rfl,_,hgb,_⟩
   · simp[Value.ownBlock]at hj
   · have:g=j:=by simpa [Value.ownBlock] using hj
     subst this;rw[hgb]at ho;cases ho;rfl))
  refine⟨(hks.trans (KeepsOthers.setCell _ _ _)).from _,hb3.setCell (p:=⟨w.heap.size,0,none⟩) (Nat.le_refl _) _,⟨_,heap_setCell_box_a _ hv3,?_⟩,(hB.trans hb3).setCell (p:=⟨w.heap.size,0,none⟩) (Nat.le_refl _) _⟩;simpa using hrow4
 case done =>
  rintro D ys W hD rfl ⟨⟨v,hv,hrow⟩,hB⟩ hK;obtain⟨hc2,hf2⟩:=cell_of_box_a hv
  gi_wp2
  refine⟨by simp,.inl ⟨_,_,rfl,run_takeDeferred hK,?_⟩⟩;exact⟨_,results_tmp rfl _ _ _,v,rfl,hrow.kept (grownBy_putObj_a _ _ _) (ownsRow_ne_a hrow hK (fun cur e=>by cases e)),hB.trans (belowK_b (w:=w) (Nat.le_refl _) W D _ _ (by simp at hD;omega) hK rfl rfl)⟩
 case stop=>rintro D c pre W _ _ h _;exact h.elim
theorem zIJ (F:Fence) (n:Nat) (hF:F=Fence.wide) (hro:F.round=none) (hn:4≤n) (Bv len cap:Nat) (A:Option Addr) (ss:List ByteArray) (hreach:len≤1048576) (w:World) (hBv:Bv<w.heap.size)
 (hc:w.cell? ⟨Bv,0,none⟩=some (.slice A len cap)) (hI:Strs w w.heap.size A len ss) :
 CallsIn F n Tryz.prog 269 #[.func (.func 271) #[] #[.pointer (some ⟨Bv,0,none⟩)]] w fun e w'=>∃v,e=.returned v∧w'.ownsRow w.heap.size 9 1 v ss.length (ss.map Value.string)∧Below w.heap.size w w':=by
 subst hF;have hA:=zGp Fence.wide (n-1) trivial trivial hro (by omega) Bv len cap A ss hreach w hBv hc hI;have hfA:Fence.wide.fn 290:=trivial;have h1:1≤n:=by omega
 clear hI hc;refine callsIn_of_wp Tryz.func269 rfl trivial ?_ hro;simp only[Tryz.ntmps269,List.size_toArray,List.length_cons,List.length_nil,Nat.reduceAdd,Nat.reduceSub,Array.replicate_succ,Array.replicate_zero,List.push_toArray,List.append_toArray,List.nil_append,List.cons_append]
 gi_wp2_with (gi_at_call 290;refine hA.mono ?_;rintro e w' ⟨v,rfl,hrow,hb⟩)
 go_ret;exact⟨v,rfl,hrow,hb⟩
end Go.Proofs.YtgmaamnofhmecaaGreatDoor
namespace Go.Proofs.YtgmaamnofhmecaaGreatDoor
open Go.RowKit
theorem zDH {α:Type} [Inhabited α] [DecidableEq α] (L:List α):(Lib.compact L).length=L.length↔∀j,j<L.length→Lib.keeps L.toArray j=true:=by
 unfold Lib.compact Lib.compactUpTo;rw[List.length_map];constructor
 · intro h j hj;have h2:((List.range L.length).filter (Lib.keeps L.toArray)).length=(List.range L.length).length:=by rw[h,List.length_range]
   exact(List.length_filter_eq_length_iff.1 h2) j (List.mem_range.2 hj)
 · intro h;rw[List.filter_eq_self.2 (fun j hj=>h j (List.mem_range.1 hj)),List.length_range]
theorem zLf (x y:List UInt8) (h1:decide (x≤y)=true) (h2:decide (y≤x)=true):x=y:=List.le_antisymm (by simpa using h1) (by simpa using h2)
theorem zJw (l:List (List UInt8)):(l.mergeSort fun x y=>decide (x≤y)).Pairwise (fun x y=>decide (x≤y)=true) :=
 List.pairwise_mergeSort (fun a b c h1 h2=>by simp only[decide_eq_true_eq]at *;exact List.le_trans h1 h2) (fun a b=>by simp only[Bool.or_eq_true,decide_eq_true_eq];exact List.le_total a b) l
theorem zEI (l:List (List UInt8)):(Lib.compact (l.mergeSort fun x y=>decide (x≤y))).length=l.length↔l.Nodup:=by
 have hp:(l.mergeSort fun x y=>decide (x≤y)).Perm l:=List.mergeSort_perm l _;have hs:=zJw l;rw[←hp.nodup_iff];have hl:l.length=(l.mergeSort fun x y=>decide (x≤y)).length:=hp.length_eq.symm;rw[hl];clear hl hp;generalize l.mergeSort (fun x y=>decide (x≤y))=L at *;rw[zDH];rw[List.pairwise_iff_getElem]at hs;unfold List.Nodup;rw[List.pairwise_iff_getElem];constructor
 · intro h i j hi hj hij he;have hk:=h j hj;unfold Lib.keeps at hk;rw[decide_eq_true_iff]at hk;rcases hk with hk | hk
   · omega
   · apply hk;have e1:L.toArray[j]! =L[j]:=by simp[getElem!_pos,hj]
     have e2:L.toArray[j-1]! =L[j-1]:=by
      have:j-1<L.length:=by omega
      simp[getElem!_pos,this]
     rw[e1,e2];by_cases e:i=j-1
     · subst e;exact he.symm
     · exact zLf _ _ (by rw[←he];exact hs i (j-1) hi (by omega) (by omega)) (hs (j-1) j (by omega) hj (by omega))
 · intro h j hj;unfold Lib.keeps;rw[decide_eq_true_iff];by_cases h0:j=0
   · exact .inl h0
   · right;have e1:L.toArray[j]! =L[j]:=by simp[getElem!_pos,hj]
     have e2:L.toArray[j-1]! =L[j-1]:=by
      have:j-1<L.length:=by omega
      simp[getElem!_pos,this]
     rw[e1,e2];exact fun e=>h (j-1) j (by omega) hj (by omega) e.symm
def inS (l:List ByteArray) (x:ByteArray):Bool:=l.any fun y=>decide (y=x)
theorem zJb (l:List ByteArray) (x:ByteArray):inS l x=true↔x∈l:=by
 unfold inS;rw[List.any_eq_true];constructor
 · rintro⟨y,hy,e⟩;rw[decide_eq_true_iff]at e;exact e ▸ hy
 · exact fun h=>⟨x,h,by simp⟩
def zDj (ss:List ByteArray) (k:Nat):Bool:=!inS (ss.take k) (ss.getD k ByteArray.empty)
def toL (s:ByteArray):List UInt8:=s.data.toList
theorem zKV {a b:ByteArray} (h:toL a=toL b):a=b:=uP (by rw[yD,yD];exact h)
theorem nodup_iff (ss:List ByteArray):(ss.map toL).Nodup↔∀k,k<ss.length→zDj ss k=true:=by
 unfold List.Nodup;rw[List.pairwise_iff_getElem];constructor
 · intro h k hk;unfold zDj;rw[Bool.not_eq_true',←Bool.not_eq_true,zJb];intro hm;rw[List.getD_eq_getElem?_getD,List.getElem?_eq_getElem hk,Option.getD_some]at hm;obtain⟨i,hi,he⟩:=List.getElem_of_mem hm;rw[List.getElem_take]at he;rw[List.length_take]at hi;refine h i k (by simp;omega) (by simpa using hk) (by omega) ?_;rw[List.getElem_map,List.getElem_map,he]
 · intro h i j hi hj hij he;rw[List.getElem_map,List.getElem_map]at he;have he:=zKV he;have hj':j<ss.length:=by simpa using hj
   have hd:=h j hj';unfold zDj at hd;rw[Bool.not_eq_true',←Bool.not_eq_true,zJb]at hd;apply hd;rw[List.getD_eq_getElem?_getD,List.getElem?_eq_getElem hj',Option.getD_some,←he];have hi2:i<(ss.take j).length:=by rw[List.length_take];omega
   have:=List.getElem_mem hi2;rw[List.getElem_take]at this;exact this
theorem zLe (ss:List ByteArray):ss.map Value.string=(ss.map toL).map encStr:=by
 rw[List.map_map];apply List.map_congr_left;intro s _;simp[toL,encStr]
def zLB (base:Nat) (v:Value) (zs:List (List UInt8)) (w:World) (e:Ending) (w':World):Prop:=e=.returned (.tuple #[])∧w'.ownsRow base 9 1 v zs.length ((zs.mergeSort fun x y=>decide (x≤y)).map encStr)∧Below base w w'
theorem zDD (w:World) (os:Array Obj):Below w.heap.size w (Sort.grow w os):=Lib.below_grow w.heap.size w (Nat.le_refl _) 0 os
theorem zBj (v:Value) (A:Option Addr) (n c:Nat) (h:v=.slice A n c) (hn:0<n):v≠.slice none 0 0:=by
 rw[h];intro e;injection e with _ e _;omega
theorem zJx (base:Nat) (v:Value) (zs:List (List UInt8)) (w:World) (h:w.ownsRow base 9 1 v zs.length (zs.map encStr)) (hBw:base≤w.heap.size) (hz:zs.length≤2097152) :
 Calls Tryz.prog 270 #[v] w (zLB base v zs w):=by
 rcases Nat.eq_zero_or_pos zs.length with h0 | h0
 · obtain⟨A,cap,rfl,_⟩:=Own.own_slice h;have hz0:zs=[]:=List.eq_nil_of_length_eq_zero h0;subst hz0;exact(Tryz.slices_Sort_string_none A cap w).mono fun e w' ⟨he,hw⟩=>⟨he,by subst hw;simpa using h,hw ▸ Below.refl _ _⟩
 · obtain⟨A,c,hv,_⟩:=Own.own_slice h;obtain⟨g,cap,rfl,hbg,hlt,hcap,hm,_,hH⟩:=Lib.holds_of_ownsRow h (zBj v A _ c hv h0);refine(Tryz.slices_Sort_string g 0 cap zs w hH hlt (by omega)).mono fun e w' ⟨he,n,os,hw⟩=>⟨he,?_,?_⟩
   · have h1:=Lib.ownsRow_putRow (q:=n) (k:=zs.length) (ys:=zs.mergeSort fun x y=>decide (x≤y)) h (by simp) (Nat.le_refl _);rw[List.take_of_length_le (by simp)]at h1;rw[hw];exact Own.own_later h1 (zDD _ os)
   · rw[hw];have h2:Below base w (Sort.putRow encStr (Sort.ahead w n) g 0 (zs.mergeSort fun x y=>decide (x≤y)).toArray):=Lib.below_putRow (Below.refl base w) (by omega);exact h2.trans ((zDD _ os).mono (by have:=h2.size;omega))
def zLY (base:Nat) (zs:List (List UInt8)) (w:World) (e:Ending) (w':World):Prop:=∃A c,e=.returned (.slice A (Lib.compact zs).length c)∧Below base w w'
theorem zGd (base:Nat) (v:Value) (zs:List (List UInt8)) (w:World) (h:w.ownsRow base 9 1 v zs.length (zs.map encStr)) (hz:zs.length≤2097152) :
 Calls Tryz.prog 241 #[v] w (zLY base zs w):=by
 rcases Nat.eq_zero_or_pos zs.length with h0 | h0
 · obtain⟨A,cap,rfl,_⟩:=Own.own_slice h;have hz0:zs=[]:=List.eq_nil_of_length_eq_zero h0;subst hz0;exact(Tryz.slices_Compact_string_empty A cap w).mono fun e w' ⟨he,hw⟩=>⟨A,cap,he,hw ▸ Below.refl _ _⟩
 · obtain⟨A,c,hv,_⟩:=Own.own_slice h;obtain⟨g,cap,rfl,hbg,hlt,hcap,hm,_,hH⟩:=Lib.holds_of_ownsRow h (zBj v A _ c hv h0);refine(Tryz.slices_Compact_string g 0 cap zs w hH (by omega) hcap).mono fun e w' ⟨he,q,hw⟩=>⟨_,_,he,?_⟩;rw[hw];exact Lib.below_putRow (Below.refl base w) (by omega)
theorem zIC (Bv len cap:Nat) (A:Option Addr) (ss:List ByteArray) (hreach:len≤1048576) (w:World) (hBv:Bv<w.heap.size)
 (hc:w.cell? ⟨Bv,0,none⟩=some (.slice A len cap)) (hI:Strs w w.heap.size A len ss) :
 Calls Tryz.prog 239 #[.func (.func 271) #[] #[.pointer (some ⟨Bv,0,none⟩)]] w fun e w'=>∃v,e=.returned v∧w'.ownsRow w.heap.size 9 1 v ss.length (((ss.map toL).mergeSort fun x y=>decide (x≤y)).map encStr)∧Below w.heap.size w w':=by
 have HK:=zh ((callsIn_wide (n:=4)).1 (zIJ Fence.wide 4 rfl rfl (by omega) Bv len cap A ss hreach w hBv hc hI));have hl:ss.length≤2097152:=by have:=hI.1;omega
 have HKS:=zh (fun v W (h:W.ownsRow w.heap.size 9 1 v (ss.map toL).length ((ss.map toL).map encStr)) (hB:w.heap.size≤W.heap.size)=>zJx w.heap.size v (ss.map toL) W h hB (by simpa using hl));clear hI hc;have HM:=zh (zLe ss);have HN:Hid ((ss.map toL).length=ss.length):=List.length_map _;generalize ss.map toL=zs at *;unfold zLB at HKS;rw[HM.out]at HK;generalize (zs.mergeSort fun x y=>decide (x≤y)).map encStr=ys at *;generalize zs.map encStr=xs at *;rw[HN.out]at HKS;clear HM HN;generalize ss.length=m at *;go_enter Tryz.func239,Tryz.ntmps239;go_wp2_with fail;refine HK.out.mono ?_;rintro e w1 ⟨v,rfl,hrow,hb⟩;obtain⟨A2,cap2,rfl,_⟩:=Own.own_slice hrow;have HR:=zh hrow;have HB:=zh hb;clear hrow hb;go_wp2_with fail;refine(HKS.out _ _ HR.out HB.out.size).mono ?_;rintro e w2 ⟨rfl,hrow2,hb2⟩;have HR2:=zh hrow2;have HB2:=zh (HB.out.trans hb2);clear hrow2 hb2;go_wp2_with fail;go_ret;exact⟨_,rfl,HR2.out,HB2.out⟩
def zCG (ss:List ByteArray):Bool:=decide (∀k,k<ss.length→zDj ss k=true)
theorem zKJ (ss:List ByteArray):decide ((Lib.compact ((ss.map toL).mergeSort fun x y=>decide (x≤y))).length=ss.length)=zCG ss:=by
 unfold zCG;rw[decide_eq_decide,←nodup_iff,←zEI,List.length_map]
theorem zGb (A:Option Addr) (n c:Nat) (ss:List ByteArray) (w:World) (h:Strs w w.heap.size A n ss) (hn:n≤1048576) :
 Calls Tryz.prog 194 #[.slice A n c] w fun e w'=>e=.returned (.bool (zCG ss))∧Below w.heap.size w w':=by
 have HV:=zh ((callsIn_wide (n:=4)).1 (zJY Fence.wide 4 trivial rfl A n c w));have HK:=zh (zIC w.heap.size n c A ss hn (w.alloc (.cells #[.slice A n c] 27)) (by simp) (by exact(show Blk _ _ _ _ from heap_alloc_new w (.cells #[.slice A n c] 27)).cell 0) (h.later (Below.new _ _)));have HL:=zh h.1;have hl:ss.length≤2097152:=by have:=h.1;omega
 have HC:=zh (fun B v W (hW:W.ownsRow B 9 1 v ((ss.map toL).mergeSort fun x y=>decide (x≤y)).length (((ss.map toL).mergeSort fun x y=>decide (x≤y)).map encStr))=>zGd B v _ W hW (by simpa using hl));have HE:=zh (zKJ ss)
 have hlc:(Lib.compact ((ss.map toL).mergeSort fun x y=>decide (x≤y))).length≤2097152:=by
  have:(Lib.compact ((ss.map toL).mergeSort fun x y=>decide (x≤y))).length≤((ss.map toL).mergeSort fun x y=>decide (x≤y)).length:=by unfold Lib.compact Lib.compactUpTo;rw[List.length_map];have:=List.length_filter_le (Lib.keeps ((ss.map toL).mergeSort fun x y=>decide (x≤y)).toArray) (List.range ((ss.map toL).mergeSort fun x y=>decide (x≤y)).length);simpa using this
  rw[List.length_mergeSort,List.length_map]at this;omega
 clear h;have hlen:((ss.map toL).mergeSort fun x y=>decide (x≤y)).length=n:=by rw[List.length_mergeSort,List.length_map];exact HL.out
 have HLen:=zh hlen;clear hlen;generalize ((ss.map toL).mergeSort fun x y=>decide (x≤y))=L at *;generalize zCG ss=R at *;go_enter Tryz.func194,Tryz.ntmps194;go_wp2_with fail;refine HV.out.mono ?_;rintro e w1 ⟨rfl,rfl⟩;go_wp2_with fail;refine HK.out.mono ?_;rintro e w2 ⟨v,rfl,hrow,hb⟩;rw[HL.out,←HLen.out]at hrow;obtain⟨A2,cap2,rfl,_⟩:=Own.own_slice hrow;have HR:=zh hrow;have HB:=zh ((Below.new w _).trans (hb.mono (by simp)));have hz:=hb.size;simp at hz;clear hrow hb;go_wp2_with fail;refine(HC.out _ _ _ HR.out).mono ?_;rintro e w3 ⟨A3,c3,rfl,hb3⟩;have HB3:=zh (HB.out.trans (hb3.mono (by simp)));clear hb3;rw[HL.out]at HE;generalize (Lib.compact L).length=m at *;by_cases hm:m=n
 · have HE2:Hid (R=true):=by unfold Hid;rw[←HE.out];simp[hm]
   subst hm;go_wp2_with fail;go_ret;exact⟨zA0 (by rw[HE2.out]),HB3.out⟩
 · have HE2:Hid (R=false):=by unfold Hid;rw[←HE.out];simp[hm]
   have hb:((m:Int)==(n:Int))=false:=by rw[beq_eq_false_iff_ne];omega
   have hb2:(m==n)=false:=by rw[beq_eq_false_iff_ne];omega
   go_wp2_with fail;go_ret;exact⟨zA0 (by rw[HE2.out]),HB3.out⟩
end Go.Proofs.YtgmaamnofhmecaaGreatDoor
