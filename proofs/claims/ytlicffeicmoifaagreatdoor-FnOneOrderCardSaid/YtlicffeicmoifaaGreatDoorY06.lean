import Derived.Test.YtlicffeicmoifaaGreatDoorZ00
import Derived.Test.YtlicffeicmoifaaGreatDoorZ01
import Derived.Test.YtlicffeicmoifaaGreatDoorZ02
import Derived.Test.YtlicffeicmoifaaGreatDoorZ03
import Derived.Test.YtlicffeicmoifaaGreatDoorZ04
import Derived.Test.YtlicffeicmoifaaGreatDoorZ05
import Derived.Test.YtlicffeicmoifaaGreatDoorZ06
import Derived.Test.YtlicffeicmoifaaGreatDoorZ07
import Derived.Test.YtlicffeicmoifaaGreatDoorZ08
import Derived.Test.YtlicffeicmoifaaGreatDoorZ09
import Derived.Test.YtlicffeicmoifaaGreatDoorZ10
import Derived.Test.YtlicffeicmoifaaGreatDoorZ11
import Derived.Test.YtlicffeicmoifaaGreatDoorZ12
import Derived.Test.YtlicffeicmoifaaGreatDoorZ13
import Derived.Test.YtlicffeicmoifaaGreatDoorZ14
import Derived.Test.YtlicffeicmoifaaGreatDoorZ15
import Derived.Test.YtlicffeicmoifaaGreatDoorZ16
import Derived.Test.YtlicffeicmoifaaGreatDoorZ17
import Derived.Test.YtlicffeicmoifaaGreatDoorZ18
import Derived.Test.YtlicffeicmoifaaGreatDoorZ19
import Derived.Test.YtlicffeicmoifaaGreatDoorZ20
import Derived.Test.YtlicffeicmoifaaGreatDoorZ21
import Derived.Test.YtlicffeicmoifaaGreatDoorZ22
import Derived.Test.YtlicffeicmoifaaGreatDoorZ23
import Derived.Test.YtlicffeicmoifaaGreatDoorZ24
import Derived.Test.YtlicffeicmoifaaGreatDoorZ25
import Derived.Test.YtlicffeicmoifaaGreatDoorZ26
import Derived.Test.YtlicffeicmoifaaGreatDoorZ27
import Derived.Test.YtlicffeicmoifaaGreatDoorZ28
import Derived.Test.YtlicffeicmoifaaGreatDoorZ29
import Derived.Test.YtlicffeicmoifaaGreatDoorZ30
import Derived.Test.YtlicffeicmoifaaGreatDoorZ31
import Derived.Test.YtlicffeicmoifaaGreatDoorZ32
import Derived.Test.YtlicffeicmoifaaGreatDoorZ33
import Derived.Test.YtlicffeicmoifaaGreatDoorZ34
import Derived.Test.YtlicffeicmoifaaGreatDoorZ35
import Derived.Test.YtlicffeicmoifaaGreatDoorZ36
import Derived.Test.YtlicffeicmoifaaGreatDoorZ37
import Derived.Test.YtlicffeicmoifaaGreatDoorZ38
import Derived.Test.YtlicffeicmoifaaGreatDoorZ39
import Derived.Test.YtlicffeicmoifaaGreatDoorZ40
import Derived.Test.YtlicffeicmoifaaGreatDoorZ41
import Derived.Test.YtlicffeicmoifaaGreatDoorZ42
import Derived.Test.YtlicffeicmoifaaGreatDoorY05
import Derived.Test.YtlicffeicmoifaaGreatDoorY00
import Derived.Test.YtlicffeicmoifaaGreatDoorProg
import Derived.Test.YtlicffeicmoifaaGreatDoorY04
import Derived.BigQuiet
import Derived.Deep.AppendLies
import Derived.Deep.CutBlock
import Derived.Deep.DeepCutAuto
import Derived.Deep.QuietTactic
import Derived.Deep.RegionHeld3
import Derived.Deep.RegionLaw
import Derived.Deep.RegionWith
import Derived.Ground.Names2Prog
import Derived.Ground.SlgnProg
import Derived.IntWalk
import Derived.Laws.CopyOwn
import Derived.Laws.CopyRow
import Derived.Laws.Externs
import Derived.Laws.IdiomStrings
import Derived.Laws.OwnMore
import Derived.Lib.AppendIntMem
import Derived.Lib.AppendZerosOnto
import Derived.Lib.BufferWrite
import Derived.Lib.Hide
import Derived.Lib.IndexAny
import Derived.Lib.IndexBytes
import Derived.Lib.ItoaNum
import Derived.Lib.Join
import Derived.Lib.JoinLaws
import Derived.Lib.Overlaps
import Derived.Lib.OwnBridge
import Derived.Lib.SlTrimSet
import Derived.Lib.SliceRun
import Derived.Lib.SplitLaws
import Derived.Lib.Strings
import Derived.Lib.TrimUEq
import Derived.LoopIn
import Derived.LoopNIn
import Derived.Maps.AppendAt
import Derived.OwnWalk
import Derived.OwnWalkIn
import Derived.RangeFuncBox
import Derived.RangeFuncLeaves
import Derived.RegionTactic
import Derived.Shelf.Abstract
import Derived.Shelf.GgClosure.StringsIndexFuncTop
import Derived.Shelf.LaysM
import Derived.Shelf.Slices.Cells
import Derived.Shelf.Slices.Clone
import Derived.Shelf.Slices.CompactS
import Derived.Shelf.Slices.Empties2
import Derived.Shelf.Slices.Equal
import Derived.Shelf.SlicesE.Clone
import Derived.Shelf.SlicesG.CompactI
import Derived.Shelf.SlicesG.Delete
import Derived.Shelf.SlicesG.SearchI
import Derived.Shelf.Small.Bits
import Derived.Shelf.Small.Strs
import Derived.Shelf.Small.Utf8
import Derived.Shelf.Small.Wraps
import Derived.Shelf.Strconv.Itoa0
import Derived.Shelf.Strconv.Itoa1
import Derived.Shelf.Strconv.Itoa2
import Derived.Shelf.Strconv.Itoa3
import Derived.Shelf.Strconv.Itoa4
import Derived.Shelf.Strings.AsciiSet
import Derived.Shelf.Strings.Builder1
import Derived.Shelf.Strings.Builder2
import Derived.Shelf.Strings.Count
import Derived.Shelf.Strings.OnBuilder
import Derived.Shelf.Strings.Prefix
import Derived.Shelf.Strings.Replace
import Derived.Shelf.Strings.RuneCount
import Derived.Shelf.Strings.Runes
import Derived.Shelf.Strings.Search1
import Derived.Shelf.Strings.Search2
import Derived.Shelf.Strings.Search3
import Derived.Shelf.Strings.Shaped
import Derived.Shelf.Strings.SlTrimAscii
import Derived.Shelf.Strings.Split
import Derived.Shelf.Strings.SplitShaped
import Derived.Shelf.Strings.Trim
import Derived.Shelf.Unicode.Decode
import Derived.Shelf.Unicode.DecodeAny
import Derived.Shelf.Unicode.DecodeLast
import Derived.Shelf.Unicode.DecodeSlow
import Derived.Shelf.Unicode.PredsPay
import Derived.TacticsInMore
import Derived.WalkKit
import Derived.WalkLawsBesides
import Derived.WalkSpells
set_option linter.unusedSimpArgs false
set_option maxHeartbeats 40000000
open Go.Lib renaming hid → zh
namespace Go.Proofs.YtlicffeicmoifaaGreatDoor
open Go.RowKit
set_option linter.unusedVariables false
set_option linter.unusedSimpArgs false
structure SoS (B Bo be bl:Nat) (ev:Value) (w X:World) (lv:Value) (left:List Int) (ov:Value) (outs:List Int):Prop where
 bxl:Blk X bl 40 #[lv]
 bxe:Blk X be 44 #[ev]
 lo:X.ownsRow B 2 1 lv left.length (left.map (Value.int .i64))
 low:∀g,lv.ownBlock=some g→g<Bo
 oo:X.ownsRow Bo 2 1 ov outs.length (outs.map (Value.int .i64))
 bel:Below w.heap.size w X
section
variable {B Bo be bl:Nat} {ev lv ov:Value} {w X Y:World} {left outs:List Int}
theorem SoS.later (s:SoS B Bo be bl ev w X lv left ov outs) (hb:Below X.heap.size X Y):SoS B Bo be bl ev w Y lv left ov outs :=
 ⟨s.bxl.later hb s.bxl.lt,s.bxe.later hb s.bxe.lt,Own.own_later s.lo hb,s.low,Own.own_later s.oo hb,s.bel.later hb⟩
theorem SoS.apart (s:SoS B Bo be bl ev w X lv left ov outs):Own.apart lv ov:=by
 cases hv:lv.ownBlock with
 | none=>exact .inl hv
 | some g=>refine .inr ?_;rw[hv];intro e;have h1:=s.low g hv;have h2:=(s.oo.lt g e.symm).1;omega
theorem SoS.app (s:SoS B Bo be bl ev w X lv left ov outs) {ov':Value} {x:Int} (h:Y.ownsRow Bo 2 1 ov' (outs.length+1) (outs.map (Value.int .i64)++[.int .i64 x])) (hg:X.grownBy Y ov.ownBlock) (hw:w.heap.size≤Bo):SoS B Bo be bl ev w Y lv left ov' (outs++[x]) :=
 ⟨s.bxl.grown hg (fun e=>Own.own_blk_ne s.oo s.bxl (by decide) e.symm),s.bxe.grown hg (fun e=>Own.own_blk_ne s.oo s.bxe (by decide) e.symm),Own.kept_apart s.lo hg s.apart,s.low,
  by rw[List.length_append,List.length_singleton,List.map_append];exact h,below_own s.bel s.oo hw hg⟩
theorem SoS.cut (s:SoS B Bo be bl ev w X lv left ov outs) {lv':Value} {zs:List Int} (he:lv'.ownBlock=lv.ownBlock) (h:Y.ownsRow B 2 1 lv' zs.length (zs.map (Value.int .i64))) (hg:X.grownBy Y lv.ownBlock) (hB:w.heap.size≤B) (hbl:w.heap.size≤bl) (hne:be≠bl):SoS B Bo be bl ev w (Y.setCell ⟨bl,0,none⟩ lv') lv' zs ov outs:=by
 have h1:Blk Y bl 40 #[lv]:=s.bxl.grown hg (fun e=>Own.own_blk_ne s.lo s.bxl (by decide) e.symm);have h2:Blk Y be 44 #[ev]:=s.bxe.grown hg (fun e=>Own.own_blk_ne s.lo s.bxe (by decide) e.symm);have h3:Y.ownsRow Bo 2 1 ov outs.length (outs.map (Value.int .i64)):=Own.kept_apart s.oo hg (Own.apart_symm s.apart);have h4:Below w.heap.size w Y:=below_own s.bel s.lo hB hg
 exact⟨h1.set_ 0 lv',h2.far (p:=⟨bl,0,none⟩) hne _,World.ownsRow.kept h (row:=some bl) (Own.grown_set _ _ _ _) (.inr (Own.own_blk_ne h h1 (by decide))),fun g hg'=>s.low g (by rw[←he];exact hg'),
  World.ownsRow.kept h3 (row:=some bl) (Own.grown_set _ _ _ _) (.inr (Own.own_blk_ne h3 h1 (by decide))),h4.setCell (p:=⟨bl,0,none⟩) hbl _⟩
end
set_option maxRecDepth 100000 in
theorem SerialOrder_any (A:Option Addr) (n c:Nat) (l:List DoD) (w:World) (htab:tabT w) (h:Dos w w.heap.size A n l) (hnc:n≤c) (hok:okDs l) :
 Calls Tryz.prog 15 #[.slice A n c] w (OrdPost (ordC l) w):=by
 obtain⟨i0,hi,hz0,hz1,hz2⟩:=info_parts infoI64;have eg:∀args w,(callFunc 54 args).run Tryz.prog w=.ok (.enter 54 args) w:=enters_of Tryz.func54 (by kernel_rfl) rfl;have HEG:=zh eg;have HK1:=zh (DoingsOk_any A n c l w htab h hok);have HKE:=zh (fun (hd:doingsB l=true) W (hW:Below w.heap.size w W)=>edgesOf_any A n c l W (tab_later htab hW) (h.later hW) (by rw[←h.1];exact(doings_all hd).1) hnc hok);have HKJ:=zh (fun (hd:doingsB l=true) W (hW:Below w.heap.size w W)=>jobsOf_any A n c l W (h.later hW) (by rw[←h.1];exact(doings_all hd).1));have HR:Hid (ordC l=if doingsB l=true then ordM (orderJ l) else (1,[])):=rfl;have HJN:=zh (rise_nodup (jobs_rise l));have HJL:=zh (fun (hd:doingsB l=true)=>jobs_len hd);have HOJ:Hid (orderJ l=ordE (edgeE l) (jobsJ l).length (jobsJ l)):=rfl;clear h hok htab eg;unfold IntsPost at HKJ;unfold EdgPost at HKE;generalize ordC l=R at *;generalize orderJ l=OJ at *;generalize jobsJ l=js at *;generalize edgeE l=E at *;generalize doingsB l=d at *;go_enter Tryz.func15,Tryz.ntmps15;go_wp2_with fail;refine HK1.out.mono ?_;rintro e w1 ⟨rfl,hb1⟩;have HB1:=zh hb1;clear hb1 HK1;cases d
 · have HE:Hid (R=(1,[])):=by unfold Hid;rw[HR.out];rfl
   go_wp2_with fail
   go_ret2
   unfold OrdPost;rw[HE.out];exact⟨_,_,rfl,Nat.le_refl _,Ints.zero,HB1.out⟩
 have HKJ':=zh (HKJ.out (by first | rfl | trivial));have HKE':=zh (HKE.out (by first | rfl | trivial));have hjl:=HJL.out (by first | rfl | trivial);have HR':Hid (R=ordM OJ):=by unfold Hid;rw[HR.out];rfl
 clear HKJ HKE HJL HR;go_wp2_with fail;refine(HKE'.out _ HB1.out).mono ?_;rintro e w2 ⟨ev,rs,rfl,heown,hrl,hrm,hb2⟩;obtain⟨EA,ec,rfl,hec,hE⟩:=eds_own heown;have HB2:=zh (HB1.out.later hb2);have HEE:=zh (fun W (hW:Below w2.heap.size w2 W)=>hE.later hW)
 have HFF:Hid (∀left,freeE rs left=freeQ E left):=fun left=>by
  funext o
  exact free_edges (fun a b=>hrm (a,b)) left o
 have hrl':rs.length≤1048576:=by omega
 generalize hm:rs.length=m at *;clear heown hb2 hE HKE' hm hrm;go_wp2_with fail;refine(HKJ'.out _ HB2.out).mono ?_;rintro e w3 ⟨jv,rfl,hjown,hb3⟩;have HB3:=zh hb3;obtain⟨JA,jc,rfl,hjc,_⟩:=own_ints hjown;have HJO:=zh hjown;have hz3:w2.heap.size≤w3.heap.size:=hb3.size;have hz2':=HB2.out.size;clear hjown hb3 HKJ';obtain⟨WB,hWB⟩:∃WB,WB=((w3.alloc (.cells #[] 2)).alloc (.cells #[.slice EA m ec] 44)).alloc (.cells #[.slice JA js.length jc] 40):=⟨_,rfl⟩;have HS0:Hid (SoS w2.heap.size w3.heap.size (w3.heap.size+1) (w3.heap.size+1+1) (.slice EA m ec) w2 WB (.slice JA js.length jc) js (.slice (some ⟨w3.heap.size,0,none⟩) 0 0) []):=by subst hWB;refine⟨heap_new2 _ _ _ _,heap_new1 _ _ _ _,Own.own_later HJO.out (below_new3 w3 _ _ _),fun g hg=>(HJO.out.lt g hg).2,?_,HB3.out.later (below_new3 w3 _ _ _)⟩;exact Own.own_later (w:=w3.alloc (.cells #[] 2)) (World.ownsRow_lit (e:=2) (size:=1) w3 #[] 0 (Nat.le_refl _) (by omega) rfl) ((Below.new _ _).later (Below.new _ _))
 go_wp2_with fail;rw[←hWB];clear hWB;generalize hbe:w3.heap.size+1=be at *;generalize hbl:be+1=bl at *;generalize hBo:w3.heap.size=Bo at *;clear hBo;go_loopw [6] (fun ov wr=>∃(left outs:List Int) (lv:Value),left.length+outs.length≤4∧left.Nodup∧Hid (OJ=(ordE E left.length left).map (outs++·))∧Hid (SoS w2.heap.size Bo be bl (.slice EA m ec) w2 wr lv left ov outs)) (fun _ wr=>(match wr.cell? ⟨bl,0,none⟩ with | some (.slice _ k _)=>k | _=>0));case atStart=>exact⟨js,[],_,by simpa using hjl,HJN.out,by unfold Hid;rw[HOJ.out];cases ordE E js.length js <;> rfl,HS0.out⟩
 case round =>
  obtain⟨left,outs,lv,hlen,hnd,HO,HS⟩:=hrel;have HND:=zh hnd;obtain⟨LA,lc,rfl,hlc,hLI⟩:=own_ints HS.out.lo;obtain⟨OA,oc,rfl,hoc,hOI⟩:=own_ints HS.out.oo;have HLI:=zh hLI;have HOI:=zh hOI;have q0:=HS.out.bxl.at 0 rfl;have q0o:=q0;have e0:=HS.out.bxe.at 0 rfl;have ql:=HS.out.bxl.lt;have el:=HS.out.bxe.lt;clear hnd hLI hOI HS0 HJN HOJ;by_cases hpos:0<left.length
  · have hposI:(0:Int)<(left.length:Int):=by omega
    have HKF:=zh (IndexFuncI64_any 54 #[.pointer (some ⟨be,0,none⟩),.pointer (some ⟨bl,0,none⟩)] (freeE rs left) LA left.length lc left wr HLI.out (by omega) HEG.out
     (fun d hd W hW=>SerialOrder1_any d be bl EA m ec rs LA left.length lc left W (cell_later hW e0) (cell_later hW q0) (by have:=hW.size;omega) (by have:=hW.size;omega) (HEE.out W (HS.out.bel.later hW)) (HLI.out.later hW) hrl' (by omega)))
    rw[HFF.out]at HKF;have hbd:=idxF_bd (freeQ E left) left 0;by_cases hneg:idxF (freeQ E left) left 0=-1
    · have HN:=zh (ord_none (E:=E) (left:=left) (fun e=>by rw[e]at hpos;simp at hpos) hneg);rw[hneg]at HKF;have HE:Hid (R=(5,[])):=by unfold Hid;rw[HR'.out,HO.out,HN.out];rfl
      clear HO hbd hneg;go_wp2_with fail;refine HKF.out.mono ?_;rintro e w4 ⟨rfl,hb4⟩;have HB4:=zh (HB2.out.later (HS.out.bel.later hb4));clear hb4;go_wp2_with fail
      go_ret2
      unfold OrdPost;rw[HE.out];exact⟨_,_,rfl,Nat.le_refl _,Ints.zero,HB4.out⟩
    obtain⟨j,hj⟩:∃j:Nat,idxF (freeQ E left) left 0=j:=⟨(idxF (freeQ E left) left 0).toNat,by omega⟩;obtain⟨hjl2,ht1,ht2,ht3⟩:=ord_take HND.out hj;rw[hj]at HKF;have HT1:Hid (OJ=(ordE E (left.take j++left.drop (j+1)).length (left.take j++left.drop (j+1))).map ((outs++[left.getD j default])++·)):=by unfold Hid;rw[HO.out,ht1];cases ordE E (left.take j++left.drop (j+1)).length (left.take j++left.drop (j+1)) <;> simp
    have HT2:=zh ht2;have hlen2:(left.take j++left.drop (j+1)).length+1=left.length:=ht3;clear HO ht1 ht2 ht3 hbd hneg hj;go_wp2_with fail;refine HKF.out.mono ?_;rintro e w4 ⟨rfl,hb4⟩;have HS4:=zh (HS.out.later hb4);have HL4:=zh (HLI.out.later hb4);have q0:=HS4.out.bxl.at 0 rfl;have ql:=HS4.out.bxl.lt;clear hb4 HKF HLI HS e0 el;obtain⟨lb,lo,rfl,hlb,hlcell⟩:=HL4.out.2 hpos;have k0:=hlcell j hjl2;have hgd:left.getD j (0:Int)=left.getD j default:=rfl;rw[hgd]at k0;clear hlcell hgd;generalize left.getD j default=x at *;have hj0:¬(j:Int)<0:=by omega
    have hji:(j:Int)<(left.length:Int):=by omega
    have hwk:IntKind.i64.wrap ((j:Int)+1)=(j:Int)+1:=by rw[IntKind.wrap_i64];omega
    have hb4z:=HS4.out.bel.size;have hrow:Hid (∀o,(w4.alloc o).ownsRow Bo 2 1 (.slice OA outs.length oc) outs.length (outs.map (Value.int .i64))):=fun o=>Own.own_later HS4.out.oo (Below.new _ _);go_wp2_with (at_builtin;refine wpList_append_own _ rfl (.tmp 24) (.tmp 29) 40 rfl Bo 2 i0 _ 1 8 Tryz.underlying40 hi hz0 hz1 hz2 rfl (by decide) _ outs.length _ rfl (hrow.out _) ⟨_,0,none⟩ 1 1 [.int .i64 x] rfl rfl ?c1 ?c2 ?c3 ?c4 ?c5 ?_);case c1=>exact cells_newN _ #[.int .i64 x] _
    case c2=>simp[Value.oneCell']
    case c3=>unfold maxLen;omega
    case c4=>omega
    case c5=>first | omega | (simp;omega)
    intro v5 w5 hown5 hg5 _;have HS5:=zh ((HS4.out.later (Below.new w4 (.cells #[.int .i64 x] 2))).app hown5 hg5 (by omega));clear hown5 hg5 k0 HS4 HL4 q0 ql hrow hb4z;obtain⟨OA5,oc5,rfl,_,_⟩:=own_ints HS5.out.oo;have q0:=HS5.out.bxl.at 0 rfl;have ql:=HS5.out.bxl.lt;have HKD:=zh (delE_any w2.heap.size (.slice (some ⟨lb,lo,none⟩) left.length lc) left j w5 HS5.out.lo (by omega) hjl2);go_wp2_with fail;refine HKD.out.mono ?_;rintro e w6 ⟨v6,rfl,he6,ho6,hg6⟩;have HS6:=zh (HS5.out.cut he6 ho6 hg6 (Nat.le_refl _) (by omega) (by omega));obtain⟨A6,c6,rfl,_,_⟩:=own_ints ho6;have b6:Blk w6 bl 40 #[.slice (some ⟨lb,lo,none⟩) left.length lc]:=HS5.out.bxl.grown hg6 (fun e=>Own.own_blk_ne HS5.out.lo HS5.out.bxl (by decide) e.symm);have r0:=b6.at 0 rfl;have rl:=b6.lt;have rf:=b6.frozen 0;have q6:=HS6.out.bxl.at 0 rfl;clear ho6 hg6 he6 b6 HKD q0 ql HS5;go_wp2_with fail;go_roundw;case rel=>exact⟨left.take j++left.drop (j+1),outs++[x],_,by simp at hlen2 ⊢;omega,HT2.out,HT1.out,by unfold Hid;simpa using HS6.out⟩
    case measure =>
     simp only[List.length_append,List.length_take,List.length_drop]at q6 hlen2 ⊢;rw[q6,q0o];have hlt3:min j left.length+(left.length-(j+1))<left.length:=by clear q6 q0o;omega
     first | exact hlt3 | (simp;exact hlt3) | (simp at hlt3 ⊢;omega) | (trace_state;fail)
  · have hposI:¬(0:Int)<(left.length:Int):=by omega
    have hl0:left=[]:=List.eq_nil_of_length_eq_zero (by omega);have HE:Hid (R=(0,outs)):=by unfold Hid;rw[HR'.out,HO.out,hl0];simp[ordE,ordM]
    go_wp2_with fail
    go_ret2
    unfold OrdPost;rw[HE.out];exact⟨_,_,rfl,hoc,HOI.out,HB2.out.later HS.out.bel⟩
end Go.Proofs.YtlicffeicmoifaaGreatDoor
namespace Go.Proofs.YtlicffeicmoifaaGreatDoor
open Go.RowKit
set_option linter.unusedVariables false
set_option linter.unusedSimpArgs false
set_option maxRecDepth 100000 in
theorem EdgesOf_any (A:Option Addr) (n c:Nat) (l:List DoD) (w:World) (htab:tabT w) (h:Dos w w.heap.size A n l) (hnc:n≤c) (hok:okDs l) (hd:doingsB l=true) :
 Calls Tryz.prog 18 #[.slice A n c] w fun e w'=>∃EA ec rs,e=.returned (.tuple #[.slice EA rs.length ec,.int .i64 0])∧rs.length≤3600∧(∀z∈rs,edgeE l z.1 z.2=true)∧Eds w' w'.heap.size EA rs.length rs∧Below w.heap.size w w':=by
 have HK1:=zh (DoingsOk_any A n c l w htab h hok);rw[hd]at HK1;have HKE:=zh (fun W (hW:Below w.heap.size w W)=>edgesOf_any A n c l W (tab_later htab hW) (h.later hW) (by rw[←h.1];exact(doings_all hd).1) hnc hok);clear h hok htab;unfold EdgPost at HKE;go_enter Tryz.func18,Tryz.ntmps18;go_wp2_with fail;refine HK1.out.mono ?_;rintro e w1 ⟨rfl,hb1⟩;have HB1:=zh hb1;clear hb1 HK1;go_wp2_with fail;refine(HKE.out _ HB1.out).mono ?_;rintro e w2 ⟨ev,rs,rfl,heown,hrl,hrm,hb2⟩;obtain⟨EA,ec,rfl,hec,hE⟩:=eds_own heown;have HB2:=zh (HB1.out.later hb2);have HE:=zh hE;have HM:=zh (fun z hz=>(hrm z).1 hz);clear heown hE hrm hb2 HKE;go_wp2_with fail
 go_ret2
 exact⟨_,_,_,rfl,hrl,HM.out,HE.out,HB2.out⟩
theorem c2Ints_any (A:Option Addr) (n c:Nat) (A':Option Addr) (c':Nat) (zs:List Int) (w:World) (h:Ints w w.heap.size A n zs) (h':Ints w w.heap.size A' n zs) (hn:n≤1048576) :
 Calls Tryz.prog 17 #[.slice A n c,.slice A' n c'] w fun e w'=>e=.returned (.bool true)∧Below w.heap.size w w':=by
 have Hh:=zh h;have Hh':=zh h';clear h h';go_enter Tryz.func17,Tryz.ntmps17;have hne:((n:Int) != (n:Int))=false:=by simp
 go_wp2_with fail;go_loopw [5] (fun i wr=>∃k:Nat,k≤n∧i=.int .i64 k∧Hid (Below w.heap.size w wr)) (fun i _=>n-(intOf i).toNat);case atStart=>exact⟨0,Nat.zero_le _,rfl,Below.refl _ _⟩
 case round =>
  obtain⟨k,hk,rfl,HB⟩:=hrel;by_cases hlt:k<n
  · obtain⟨b,o,rfl,hbB,hc⟩:=(Hh.out.later HB.out).2 (by omega);obtain⟨b',o',rfl,hbB',hc'⟩:=(Hh'.out.later HB.out).2 (by omega);have k0:=hc k hlt;have k0':=hc' k hlt;clear hc hc';generalize zs.getD k 0=y at *;have hki:(k:Int)<(n:Int):=by omega
    have hyy:(y != y)=false:=by simp
    have hk0:¬(k:Int)<0:=by omega
    go_wp2_with fail
    go_region_held3 (fun w'=>w'.cell? ⟨b,o+k,none⟩=some (.int .i64 y)∧w'.cell? ⟨b',o'+k,none⟩=some (.int .i64 y)) (first | exact⟨k0,k0'⟩ | exact⟨by simpa using k0,by simpa using k0'⟩) (fail)
    go_wp2_with fail;go_roundw;case rel=>exact⟨k+1,by omega,by go_num,HB.out.drew⟩
    case measure=>simp[intOf];omega
  · have hki:¬(k:Int)<(n:Int):=by omega
    go_wp2_with fail;go_ret;exact⟨rfl,HB.out⟩
end Go.Proofs.YtlicffeicmoifaaGreatDoor
namespace Go.Proofs.YtlicffeicmoifaaGreatDoor
open Go.RowKit
set_option linter.unusedVariables false
set_option linter.unusedSimpArgs false
theorem ints_take {w:World} {B n k:Nat} {A:Option Addr} {zs:List Int} (h:Ints w B A n zs) (hk:k≤n):Ints w B A k (zs.take k):=by
 refine⟨by rw[List.length_take,h.1];omega,fun h0=>?_⟩;obtain⟨b,o,rfl,hb,hc⟩:=h.2 (by omega);refine⟨b,o,rfl,hb,fun j hj=>?_⟩;have:=hc j (by omega);rw[List.getD_eq_getElem?_getD,List.getElem?_take,if_pos hj,←List.getD_eq_getElem?_getD];exact this
theorem take_succE {α:Type} [Inhabited α] (l:List α) (k:Nat) (h:k<l.length):l.take (k+1)=l.take k++[l.getD k default]:=by
 rw[List.take_succ_eq_append_getElem h,List.getD_eq_getElem?_getD,List.getElem?_eq_getElem h,Option.getD_some]
theorem ofJ_step {l:List DoD} {j:Nat} {x:Int} (h:j<l.length):ofJ x (l.take (j+1))=if (l.getD j default).job=x then ofJ x (l.take j)++[l.getD j default] else ofJ x (l.take j):=by
 unfold ofJ;rw[take_succE l j h,List.filter_append];by_cases hx:(l.getD j default).job=x
 · rw[if_pos hx,List.filter_cons_of_pos (by simpa using hx)];rfl
 · rw[if_neg hx,List.filter_cons_of_neg (by simpa using hx)];simp
theorem arr_step {l:List DoD} {os:List Int} {k:Nat} (h:k<os.length):arrangedB (os.take (k+1)) l=arrangedB (os.take k) l++ofJ (os.getD k default) l:=by
 unfold arrangedB;rw[take_succE os k h,List.flatMap_append];simp
set_option maxRecDepth 100000 in
theorem Arranged_any (A:Option Addr) (n c:Nat) (l:List DoD) (A':Option Addr) (m c':Nat) (os:List Int) (w:World) (htab:tabT w) (h:Dos w w.heap.size A n l) (hok:okDs l) (hd:doingsB l=true) (ho:Ints w w.heap.size A' m os) (hoc:m≤c') (hA:arrOkB os l) (hlen:(arrangedB os l).length=l.length) :
 Calls Tryz.prog 19 #[.slice A n c,.slice A' m c'] w fun e w'=>∃A2 c2,e=.returned (.tuple #[.slice A2 (arrangedB os l).length c2,.int .i64 0])∧DosO w' w.heap.size (.slice A2 (arrangedB os l).length c2) (arrangedB os l)∧Below w.heap.size w w':=by
 obtain⟨j0,hbi,hy0,hy1,hy2⟩:=info_parts infoDoD;have HK1:=zh (DoingsOk_any A n c l w htab h hok);rw[hd]at HK1;have HEV:=zh h;have HL:=zh h.1;have hn60:n≤60:=by rw[←h.1];exact(doings_all hd).1
 have HTN:Hid (l.take n=l):=List.take_of_length_le (by rw[h.1];exact Nat.le_refl _);have HOK:=zh hok.2;have HI:=zh ho;have HM:=zh ho.1;have hm4:m≤4:=by rw[←ho.1];exact hA.1
 have HJB:=zh (fun k (hk:k<os.length)=>show inB (os.getD k 0) 1 4=true from by unfold inB;rw[←Bool.decide_and];exact decide_eq_true (hA.2.1 _ (getD_memQ os k hk)));have HON:=zh (fun k (hk:k<os.length)=>show decide (os.getD k 0∈os.take k)=false from decide_eq_false (order_once hA.2.2.1 (by rw[List.getD_eq_getElem?_getD,List.getElem?_eq_getElem hk];rfl)));have HST:=zh (fun k (hk:k<os.length)=>arr_step (l:=l) hk);have HA0:Hid ([]=arrangedB (os.take 0) l):=by unfold Hid arrangedB;rw[List.take_zero];rfl
 have HAE:Hid (arrangedB (os.take m) l=arrangedB os l):=by unfold Hid;rw[List.take_of_length_le (by rw[ho.1];exact Nat.le_refl _)]
 have HLN:Hid ((arrangedB os l).length=n):=by unfold Hid;rw[hlen];exact h.1
 clear h hok htab ho hA hlen hd;generalize arrangedB os l=R at *;go_enter Tryz.func19,Tryz.ntmps19;go_wp2_with fail;refine HK1.out.mono ?_;rintro e w1 ⟨rfl,hb1⟩;have HB1:=zh hb1;clear hb1 HK1;have hm4I:¬(4:Int)<(m:Int):=by omega
 go_wp2_with fail;go_loopw [23] (fun i wr=>∃k:Nat,k≤m∧i=.int .i64 k∧Hid (Below w.heap.size w wr)) (fun i _=>m-(intOf i).toNat);case atStart=>exact⟨0,Nat.zero_le _,rfl,HB1.out⟩
 case round =>
  obtain⟨k,hk,rfl,HB⟩:=hrel;obtain⟨wx,rfl⟩:∃wx,wx=wr:=⟨wr,rfl⟩;by_cases hlt:k<m
  · have hli:=HI.out.later HB.out;obtain⟨b,o,rfl,hbB,hc⟩:=hli.2 (by omega);have k0:=hc k hlt;have hl:k<os.length:=by rw[HM.out];exact hlt
    have HJ:=zh (jobOk_any (os.getD k 0) wx);rw[HJB.out k hl]at HJ;have HC:=zh (ContainsI64_any (some ⟨b,o,none⟩) k c' (os.take k) (os.getD k 0) wx (ints_take hli (by omega)) (by omega));rw[HON.out k hl]at HC;clear hc hl hli;generalize os.getD k 0=y at *;have hki:(k:Int)<(m:Int):=by omega
    have hkc:(k:Int)≤(c':Int):=by omega
    have hk0:¬(k:Int)<0:=by omega
    go_wp2_with fail;refine HJ.out.mono ?_;rintro e w2 ⟨rfl,rfl⟩;go_wp2_with fail;refine HC.out.mono ?_;rintro e w2 ⟨rfl,rfl⟩;go_wp2_with fail;go_roundw;case rel=>exact⟨k+1,by omega,by go_num,HB.out⟩
    case measure=>simp[intOf];omega
  · obtain rfl:k=m:=by omega
    have hki:¬(k:Int)<(k:Int):=by omega
    have hbz:=HB.out.size;go_wp2_with fail;go_loopw [8,42] (fun v i wr=>∃(q:Nat) (L:List DoD) (vs:List Value),q≤k∧i=.int .i64 q∧L.length≤60*q∧Hid (L=arrangedB (os.take q) l)∧Hid (Own.OwnL doK wr w.heap.size 39 v L vs)∧Hid (Below w.heap.size w wr)) (fun _ i _=>k-(intOf i).toNat);case atStart=>refine⟨0,[],[],Nat.zero_le _,rfl,Nat.zero_le _,HA0.out,?_,HB.out.later (Below.new _ _)⟩;exact⟨rfl,World.ownsRow_lit (e:=39) (size:=6) wx #[] 0 hbz (by omega) rfl,fun j hj=>by simp at hj,List.Pairwise.nil⟩
    case round =>
     obtain⟨q,L,vs,hq,rfl,hL,HLE,HO,HB2⟩:=hrel;obtain⟨wy,rfl⟩:∃wy,wy=wr:=⟨wr,rfl⟩;by_cases hlt2:q<k
     · have hli:=HI.out.later HB2.out;obtain⟨b,o,rfl,hbB,hc⟩:=hli.2 (by omega);have k0:=hc q hlt2;have hl:q<os.length:=by rw[HM.out];exact hlt2
       have HS1:Hid (arrangedB (os.take (q+1)) l=L++ofJ (os.getD q 0) (l.take n)):=by unfold Hid;rw[HST.out q hl,HLE.out,HTN.out];rfl
       clear hc hl hli HLE;generalize os.getD q 0=x at *;generalize hNX:arrangedB (os.take (q+1)) l=NX at *;have HNX:=zh hNX;have hqi:(q:Int)<(k:Int):=by omega
       have hq0:¬(q:Int)<0:=by omega
       have HS0:Hid (L=L++ofJ x (l.take 0)):=by unfold Hid ofJ;rw[List.take_zero];simp
       clear hNX;generalize hPR:L=PR at HS1 HS0 ⊢;have HPL:Hid (L=PR):=hPR;clear hPR;go_wp2_with fail;go_loopw [8,48] (fun v i wr=>∃(j:Nat) (L:List DoD) (vs:List Value),j≤n∧i=.int .i64 j∧L.length≤60*q+j∧Hid (L=PR++ofJ x (l.take j))∧Hid (Own.OwnL doK wr w.heap.size 39 v L vs)∧Hid (Below w.heap.size w wr)) (fun _ i _=>n-(intOf i).toNat);case atStart=>exact⟨0,L,vs,Nat.zero_le _,rfl,by omega,by unfold Hid;rw[HPL.out];exact HS0.out.trans (by rfl),HO.out,HB2.out⟩
       case round =>
        obtain⟨j,L,vs,hj,rfl,hL2,HLE,HO,HB2⟩:=hrel;obtain⟨wz,rfl⟩:∃wz,wz=wr:=⟨wr,rfl⟩;by_cases hlt3:j<n
        · obtain⟨bb,oo,Sb,mb,cb,rfl,hatb⟩:=dos_at HEV.out hlt3;obtain⟨⟨b0,b1,b2,b3,b4,b5⟩,_⟩:=hatb wz HB2.out;have hl:j<l.length:=by rw[HL.out];exact hlt3
          have hbo:=HOK.out _ (getD_memQ l j hl);have HSJ:=zh (ofJ_step (x:=x) hl);have HATB:=zh hatb;generalize l.getD j default=d at *;have hji:(j:Int)<(n:Int):=by omega
          obtain⟨WB,hWB⟩:∃WB,WB=wz.alloc (.cells #[.int .i64 d.job,.int .i64 d.ev.kind,.string d.ev.name,.slice Sb mb cb,.string d.ev.val,.int .i64 d.ev.n] 39):=⟨_,rfl⟩;have HBX:Hid (Blk WB wz.heap.size 39 #[.int .i64 d.job,.int .i64 d.ev.kind,.string d.ev.name,.slice Sb mb cb,.string d.ev.val,.int .i64 d.ev.n]):=by subst hWB;exact heap_alloc_new _ _
          have HBB:Hid (Below w.heap.size w WB):=by subst hWB;exact HB2.out.later (Below.new _ _)
          have HOB:Hid (Own.OwnL doK WB w.heap.size 39 u8 L vs):=by subst hWB;exact HO.out.later (Below.new _ _)
          have HKC:=zh (copyEvent_any _ _ _ _ _ d.ev WB (hatb WB HBB.out).2 hbo.1.2.1.1);unfold EvPost at HKC;have hzz:=HBB.out.size;clear hl hbo hatb HO HB2;by_cases hjb:d.job=x
          · subst hjb;rw[if_pos rfl]at HSJ;have HS3:Hid (L++[d]=PR++ofJ d.job (l.take (j+1))):=by unfold Hid;rw[HSJ.out,HLE.out];simp
            have hjq:(d.job==d.job)=true:=by simp
            go_wp2_with fail;(try rw[←hWB]);clear hWB;(try go_wp2_with fail);refine HKC.out.mono ?_;rintro e w1 ⟨v2,rfl,hs2,hb1⟩;obtain⟨A2,m2,c2,rfl⟩:∃A2 m2 c2,v2=.slice A2 m2 c2:=by obtain⟨A,cap,e,_⟩:=Own.own_slice hs2;exact⟨A,_,cap,e⟩
            have HB4:=zh (HBB.out.later hb1);have HO4:=zh (HOB.out.later hb1);have HAP:=zh (HOB.out.fresh hs2 (Nat.le_refl _));have HSB:=zh (fun o=>Own.own_later (Own.own_base hs2 hzz) (Below.new w1 o));have hb1z:=HB4.out.size;have hrow:Hid (∀o,(w1.alloc o).ownsRow w.heap.size 39 6 u8 L.length (Own.flat doK L vs)):=fun o=>Own.own_later HO4.out.row (Below.new _ _);clear hs2 hb1 b0 b1 b2 b3 b4 b5 HKC;go_wp2_with (at_builtin;(refine wpList_append_own _ rfl (.tmp 56) (.tmp 62) 27 rfl w.heap.size 39 j0 _ 6 80 Tryz.underlying27 hbi hy0 hy1 hy2 rfl (by decide) _ L.length _ rfl (hrow.out _) ⟨_,0,none⟩ 1 1 [.int .i64 d.job,.int .i64 d.ev.kind,.string d.ev.name,.slice A2 m2 c2,.string d.ev.val,.int .i64 d.ev.n] rfl rfl ?c1 ?c2 ?c3 ?c4 ?c5 ?_));case c1=>exact cells_newN _ #[.int .i64 d.job,.int .i64 d.ev.kind,.string d.ev.name,.slice A2 m2 c2,.string d.ev.val,.int .i64 d.ev.n] _
            case c2=>simp[Value.oneCell']
            case c3=>unfold maxLen;omega
            case c4=>omega
            case c5=>first | omega | (simp;omega)
            intro v5 w5 hown5 hg5 _;have HN5:=zh (below_own (w0:=w) (HB4.out.later (Below.new _ _)) (hrow.out _) (Nat.le_refl _) hg5)
            have HO5:Hid (Own.OwnL doK w5 w.heap.size 39 v5 (L++[d]) (vs++[.slice A2 m2 c2])) :=
             Own.OwnL.snoc (HO4.out.later (Below.new _ _)) (HSB.out _) HAP.out hown5 hg5 (by decide)
            clear hown5 hg5;go_wp2_with fail;go_roundw;case rel=>exact⟨j+1,_,_,by omega,by go_num,by simp;omega,HS3.out,HO5.out,HN5.out⟩
            case measure=>simp[intOf];omega
          · rw[if_neg hjb]at HSJ;have hjq:(d.job==x)=false:=beq_eq_false_iff_ne.2 hjb;have HS3:Hid (L=PR++ofJ x (l.take (j+1))):=by unfold Hid;rw[HSJ.out];exact HLE.out
            go_wp2_with fail;(try rw[←hWB]);clear hWB;(try go_wp2_with fail);go_roundw;case rel=>exact⟨j+1,L,vs,by omega,by go_num,by omega,HS3.out,HOB.out,HBB.out⟩
            case measure=>simp[intOf];omega
        · obtain rfl:j=n:=by omega
          have hji:¬(j:Int)<(j:Int):=by omega
          go_wp2_with fail;go_roundw;case rel=>exact⟨q+1,L,vs,by omega,by go_num,by omega,by unfold Hid;rw[HNX.out,HS1.out];exact HLE.out,HO.out,HB2.out⟩
          case measure=>simp[intOf];omega
     · obtain rfl:q=k:=by omega
       have hqi:¬(q:Int)<(q:Int):=by omega
       have hR:L=R:=by rw[HLE.out];exact HAE.out
       subst hR;obtain⟨A8,cap8,rfl,_,_⟩:=dosL_reads HO.out;have hne:((L.length:Int) != (n:Int))=false:=by rw[HLN.out];simp
       go_wp2_with fail
       go_ret2
       exact⟨_,_,rfl,⟨vs,HO.out⟩,HB2.out⟩
end Go.Proofs.YtlicffeicmoifaaGreatDoor
namespace Go.Proofs.YtlicffeicmoifaaGreatDoor
open Go.RowKit
set_option linter.unusedVariables false
set_option linter.unusedSimpArgs false
theorem play_small {fs:List NodeD} {l:List DoD} (ht:treeB fs=true):smallNs (playB fs l).2.2:=by
 unfold playB;split
 · next h=>rw[Bool.and_eq_true]at h;exact rep_tsmall ht (doings_notes h.2)
 · exact⟨by simp,fun d hd=>by cases hd⟩
end Go.Proofs.YtlicffeicmoifaaGreatDoor
namespace Go.Proofs.YtlicffeicmoifaaGreatDoor
open Go.RowKit
set_option linter.unusedVariables false
set_option linter.unusedSimpArgs false
theorem ord_zero {l:List DoD} (h:(ordC l).1=0):doingsB l=true∧orderJ l=some (ordC l).2:=by
 unfold ordC at h ⊢;by_cases hd:doingsB l=true
 · rw[if_pos hd]at h ⊢
   cases ho:orderJ l with
   | none=>rw[ho]at h;simp[ordM]at h
   | some os=>exact⟨hd,rfl⟩
 · rw[if_neg hd]at h;simp at h
theorem goodDs_arr {l:List DoD} {os:List Int} (h:goodDs l) (hl:(arrangedB os l).length=l.length):goodDs (arrangedB os l):=⟨by rw[hl];exact h.1,fun d hd=>by
 unfold arrangedB at hd;obtain⟨o,_,ho⟩:=List.mem_flatMap.1 hd;unfold ofJ at ho
 exact h.2 d (List.mem_filter.1 ho).1⟩
theorem or_plain {fs:List NodeD} {l:List DoD} (hsz:fs.length+l.length≤120) (hg:goodDs l) (h0:(playB fs l).1=0) (hc:(ordC l).1=0) :
 doingsB l=true∧arrOkB (ordC l).2 l∧(arrangedB (ordC l).2 l).length=l.length∧goodDs (arrangedB (ordC l).2 l)∧(playB fs (arrangedB (ordC l).2 l)).1=0∧(playB fs (arrangedB (ordC l).2 l)).2.2=(playB fs l).2.2 ∧
 (∀a b,edgeE l a b=true→0≤lastJ a (ordC l).2 0 (-1)∧lastJ a (ordC l).2 0 (-1)<lastJ b (ordC l).2 0 (-1)):=by
 obtain⟨hd,ho⟩:=ord_zero hc;obtain⟨p1,p2,p3⟩:=play_order ho hsz h0;rw[←arranged_eq ho]at p1 p2 p3;exact⟨hd,(arranged_ok hd ho).1,p3,goodDs_arr hg p3,p1,p2,fun a b he=>order_test ho he⟩
set_option maxRecDepth 100000 in
theorem fnOr_walk (A:Option Addr) (n c:Nat) (w:World) (htab:tabT w) (h:BytesR w w.heap.size A n) (hn:n≤9223372036854775807) :
 Calls Tryz.prog 4 #[.slice A n c] w fun e w'=>e=.returned (.bool true)∧Below w.heap.size w w':=by
 have HK1:=zh (c2Big2_any A n c none 0 0 w hn (by omega));by_cases hbig:(decide (1048576<n)||decide (1048576<0))=true
 · rw[hbig]at HK1;clear h htab;go_enter Tryz.func4,Tryz.ntmps4;go_wp2_with fail;refine HK1.out.mono ?_;rintro e w1 ⟨rfl,rfl⟩;go_wp2_with fail;go_ret;exact⟨rfl,Below.refl _ _⟩
 rw[Bool.not_eq_true]at hbig;rw[hbig]at HK1;have hn6:n≤1048576:=by simp at hbig;omega
 have HK2:=zh (DrawPlay_any A n c w h hn6);have HTB:=zh htab;clear h htab hbig;go_enter Tryz.func4,Tryz.ntmps4;go_wp2_with fail;refine HK1.out.mono ?_;rintro e w1 ⟨rfl,rfl⟩;go_wp2_with fail;refine HK2.out.mono ?_;rintro e w1 ⟨tv,fs,ov,l,rfl,hT,htr,hfi,hl7,hD,hnn,hgd,hb1⟩;obtain⟨A1,cap1,rfl,hcap1,hN⟩:=hT.reads;obtain⟨A3,cap3,rfl,hcap3,hL⟩:=hD.reads;obtain⟨hok,hce⟩:=goodDs_ok hgd;have hl9:=hgd.1;have hts:=tree_small htr;have hcl:=fine_clean hfi;obtain⟨WX,hWX⟩:∃WX,WX=w1.alloc (.cells #[.slice A1 fs.length cap1] 26):=⟨_,rfl⟩;have HBX:Hid (Below w1.heap.size w1 WX):=by subst hWX;exact Below.new _ _
 have HX0:Hid (Blk WX w1.heap.size 26 #[.slice A1 fs.length cap1]):=by subst hWX;exact heap_alloc_new _ _
 have HS1:Hid (∀W',Below WX.heap.size WX W'→W'.cell? ⟨w1.heap.size,0,none⟩=some (.slice A1 fs.length cap1)):=fun W' hW=>(HX0.out.later hW HX0.out.lt).at 0 rfl;have HNX:Hid (∀W,Below WX.heap.size WX W→Nodes W W.heap.size A1 fs.length fs):=fun W hW=>hN.later (HBX.out.later hW);have HLX:Hid (∀W,Below WX.heap.size WX W→Dos W W.heap.size A3 l.length l):=fun W hW=>hL.later (HBX.out.later hW);have HBW:Hid (Below w.heap.size w WX):=hb1.later HBX.out;have HTT:Hid (∀W,Below WX.heap.size WX W→tabT W):=fun W hW=>tab_later HTB.out (HBW.out.later hW);have HKI:=zh (fun L m q ds W (hW:Below WX.heap.size WX W) (hDs:Dos W W.heap.size L m ds) (hg:goodDs ds)=>PlayDoings_any A1 fs.length cap1 L m q fs ds W (HTT.out W hW) (HNX.out W hW) hts hcl hDs (goodDs_ok hg).1 (goodDs_ok hg).2);have HKS:=zh (fun W (hW:Below WX.heap.size WX W)=>specPlay_any A1 fs.length cap1 A3 l.length cap3 fs l W (HNX.out W hW) hcap1 hts hcl (HLX.out W hW) hok hce);have HSM:=zh (fun ds=>play_small (fs:=fs) (l:=ds) htr);have HPS:=zh (fun h0 hc=>or_plain (fs:=fs) (l:=l) (by omega) hgd h0 hc);have HKO:=zh (SerialOrder_any A3 l.length cap3 l WX (HTT.out _ (Below.refl _ _)) (HLX.out _ (Below.refl _ _)) hcap3 hok);have HKP:=zh (fun W (hW:Below WX.heap.size WX W)=>specSerialOrder_any A3 l.length cap3 l W (HLX.out W hW) hok);have HKE:=zh (fun hd W (hW:Below WX.heap.size WX W)=>EdgesOf_any A3 l.length cap3 l W (HTT.out W hW) (HLX.out W hW) hcap3 hok hd);have HKA:=zh (fun m os A' c' hd ha hal W (hW:Below WX.heap.size WX W) ho hoc=>Arranged_any A3 l.length cap3 l A' m c' os W (HTT.out W hW) (HLX.out W hW) hok hd ho hoc ha hal);have HOL:Hid ((ordC l).1=0→doingsB l=true→(ordC l).2.length≤4):=fun hc hd=>order_len hd (ord_zero hc).2
 have HO5:Hid ((ordC l).2.length≤1048576):=by
  unfold Hid;by_cases hc:(ordC l).1=0
  · have:=order_len (ord_zero hc).1 (ord_zero hc).2;omega
  · unfold ordC at hc ⊢;split at hc
    · next h=>rw[if_pos h];cases ho:orderJ l with
      | none=>simp[ordM]
      | some os=>rw[ho]at hc;exact absurd rfl hc
    · next h=>rw[if_neg h];simp
 clear hN hL hT hD hb1 HTB hok hce htr hfi hgd hnn hcl hts;generalize ordC l=R at *;obtain⟨oc,os⟩:=R;unfold OrdPost at HKO HKP;dsimp only at HKO HKP HPS HOL HO5;go_wp2_with fail;rw[←hWX];clear hWX;refine HKO.out.mono ?_;rintro e w2 ⟨A4,c4,rfl,hc4,hi4,hb2⟩;have HB2:=zh hb2;have HI4:=zh (fun W (hW:Below w2.heap.size w2 W)=>hi4.later hW);clear hb2 hi4 HKO;go_wp2_with fail;refine(HKP.out _ HB2.out).mono ?_;rintro e w3 ⟨A5,c5,rfl,hc5,hi5,hb3⟩;have HB3:=zh (HB2.out.later hb3);have HV3:=zh hb3;have HKC:=zh (c2Ints_any A4 os.length c4 A5 c5 os w3 (HI4.out _ hb3) hi5 HO5.out);clear hb3 hi5 HKP HO5;have hcc:(oc != oc)=false:=by simp
 go_wp2_with fail;refine HKC.out.mono ?_;rintro e w4 ⟨rfl,hb4⟩;have HB4:=zh (HB3.out.later hb4);have HV4:=zh (HV3.out.later hb4);clear hb4 HKC HV3 hcc;have z0:=HS1.out _ HB4.out;have hx1:=HX0.out.lt;go_wp2_with fail;refine(HKS.out _ HB4.out).mono ?_;rintro e w5 ⟨xv,rfl,hx5,hb5⟩;have HSL:=zh (HSM.out l);generalize hPL:playB fs l=PL at *;obtain⟨cd,at0,xs⟩:=PL;dsimp only at hx5 HSL HPS;obtain⟨A8,cap8,rfl,_,hNx⟩:=hx5.reads;have HB5:=zh (HB4.out.later hb5);have HV5:=zh (HV4.out.later hb5);clear hb5 hx5 z0 hPL HKS;obtain⟨WV,hWV⟩:∃WV,WV=w5.alloc (.cells #[.slice A8 xs.length cap8] 26):=⟨_,rfl⟩;have HQV:Hid (Blk WV w5.heap.size 26 #[.slice A8 xs.length cap8]):=by subst hWV;exact heap_alloc_new _ _
 have HBV:Hid (Below WX.heap.size WX WV):=by subst hWV;exact HB5.out.later (Below.new _ _)
 have HBO:Hid (Below w2.heap.size w2 WV):=by subst hWV;exact HV5.out.later (Below.new _ _)
 have HNV:Hid (∀W,Below WV.heap.size WV W→Nodes W W.heap.size A8 xs.length xs):=fun W hW=>by
  have h1:Nodes WV WV.heap.size A8 xs.length xs:=by subst hWV;exact hNx.later (Below.new _ _)
  exact h1.later hW
 have HSV:Hid (∀W',Below WV.heap.size WV W'→W'.cell? ⟨w5.heap.size,0,none⟩=some (.slice A8 xs.length cap8)):=fun W' hW=>(HQV.out.later hW HQV.out.lt).at 0 rfl;have HIO:Hid (∀W,Below WV.heap.size WV W→Ints W W.heap.size A4 os.length os):=fun W hW=>HI4.out W (HBO.out.later hW);clear hNx HI4 HV4 HV5;by_cases hz0:oc=0
 case neg =>
  have hcn:(oc != (0:Int))=true:=by simpa using hz0
  go_wp2_with fail;(try rw[←hWV]);(try go_wp2_with fail);go_ret;exact⟨rfl,HBW.out.later (by first | exact HBV.out | (subst hWV;exact HBV.out))⟩
 subst hz0;by_cases hp0:cd=0
 case neg =>
  have hcn:(cd != (0:Int))=true:=by simpa using hp0
  go_wp2_with fail;(try rw[←hWV]);(try go_wp2_with fail);go_ret;exact⟨rfl,HBW.out.later (by first | exact HBV.out | (subst hWV;exact HBV.out))⟩
 subst hp0;obtain⟨hd,ha,hal,hga,hpa,hpx,hte⟩:=HPS.out rfl rfl;have ho4:=HOL.out rfl hd;have HTE:=zh hte;have HGA:=zh hga;have HPP:=zh (And.intro hpa hpx);have HKE':=zh (HKE.out hd _ HBV.out);have HKA':=zh (fun W hW ho=>HKA.out os.length os A4 c4 hd ha hal W hW ho hc4);rw[hal]at HKA';clear HPS HOL HKE HKA hd ha hte hga hpa hpx;generalize arrangedB os l=ar at *;have hx15:w1.heap.size<w5.heap.size:=Nat.lt_of_lt_of_le HX0.out.lt HB5.out.size;go_wp2_with fail;rw[←hWV];clear hWV;refine HKE'.out.mono ?_;rintro e w6 ⟨EA,ec,es,rfl,hes,hem,hE,hb6⟩;have HV6:=zh hb6;have HEE:=zh (fun W (hW:Below w6.heap.size w6 W)=>hE.later hW);have HT2:Hid (∀k,k<es.length→0≤lastJ (es.getD k default).1 os 0 (-1)∧lastJ (es.getD k default).1 os 0 (-1)<lastJ (es.getD k default).2 os 0 (-1)):=fun k hk=>HTE.out _ _ (hem _ (getD_memQ es k hk));clear hb6 hE hem HKE' HTE;generalize hme:es.length=me at *;clear hme;go_wp2_with fail;go_loopw [14] (fun i wr=>∃k:Nat,k≤me∧i=.int .i64 k∧Hid (Below w6.heap.size w6 wr)) (fun i _=>me-(intOf i).toNat);case atStart=>exact⟨0,Nat.zero_le _,rfl,Below.refl _ _⟩
 case round =>
  obtain⟨k,hk,rfl,HB⟩:=hrel;obtain⟨wx,rfl⟩:∃wx,wx=wr:=⟨wr,rfl⟩;by_cases hlt:k<me
  · obtain⟨eb,eo,rfl,heb,hce⟩:=(HEE.out wx HB.out).2 (by omega);obtain⟨x0,x1⟩:=hce k hlt;have HE1:Hid (∀W,Below wx.heap.size wx W→W.cell? ⟨eb,eo+k*2,none⟩=some (.int .i64 (es.getD k default).1)∧W.cell? ⟨eb,eo+k*2+1,none⟩=some (.int .i64 (es.getD k default).2)):=fun W hW=>⟨cell_later hW x0,cell_later hW x1⟩;obtain⟨ht1,ht2⟩:=HT2.out k hlt;clear hce x0 x1;generalize (es.getD k default).1=a at *;generalize (es.getD k default).2=b at *;have HLA:Hid (lastJ a os 0 (-1)=lastJ a (os.drop 0) (0:Nat) (-1)):=rfl;have HLB:Hid (lastJ b os 0 (-1)=lastJ b (os.drop 0) (0:Nat) (-1)):=rfl;generalize lastJ a os 0 (-1)=pa at *;generalize lastJ b os 0 (-1)=pb at *;have hki:(k:Int)<(me:Int):=by omega
    go_wp2_with fail;go_loopw [15,16,17] (fun f t i wr=>∃(j:Nat) (p q:Int),j≤os.length∧f=.int .i64 p∧t=.int .i64 q∧i=.int .i64 j∧Hid (pa=lastJ a (os.drop j) j p)∧Hid (pb=lastJ b (os.drop j) j q)∧Hid (Below wx.heap.size wx wr)) (fun _ _ i _=>os.length-(intOf i).toNat);case atStart=>exact⟨0,-1,-1,Nat.zero_le _,rfl,rfl,rfl,HLA.out,HLB.out,Below.refl _ _⟩
    case round =>
     obtain⟨j,p,q,hj,rfl,rfl,rfl,HP,HQ,HB2⟩:=hrel;obtain⟨wy,rfl⟩:∃wy,wy=wr:=⟨wr,rfl⟩;clear HLA HLB;by_cases hlt2:j<os.length
     · obtain⟨e0,e1⟩:=HE1.out wy HB2.out;obtain⟨ob,oo,rfl,hob,hco⟩:=(HIO.out wy (HV6.out.later (HB.out.later HB2.out))).2 (by omega);have o0:=hco j hlt2;have HP2:Hid (pa=lastJ a (os.drop (j+1)) ((j:Int)+1) (if os.getD j 0=a then (j:Int) else p)):=by unfold Hid;rw[HP.out,drop_at hlt2];rfl
       have HQ2:Hid (pb=lastJ b (os.drop (j+1)) ((j:Int)+1) (if os.getD j 0=b then (j:Int) else q)):=by unfold Hid;rw[HQ.out,drop_at hlt2];rfl
       clear hco HP HQ;generalize os.getD j 0=y at *;have hji:(j:Int)<(os.length:Int):=by omega
       have hj0:¬(j:Int)<0:=by omega
       have hk0:¬(k:Int)<0:=by omega
       have hj1:((j:Int)+1)=((j+1:Nat):Int):=by omega
       rw[hj1]at HP2 HQ2;clear hj1;by_cases hya:y=a
       · have hyb:(y==a)=true:=by rw[hya];simp
         rw[if_pos hya]at HP2;clear hya;by_cases hyc:y=b
         · have hyd:(y==b)=true:=by rw[hyc];simp
           rw[if_pos hyc]at HQ2;clear hyc;go_wp2_with fail
           go_region_held3 (fun w'=>w'.cell? ⟨ob,oo+j,none⟩=some (.int .i64 y)∧w'.cell? ⟨eb,eo+k*2,none⟩=some (.int .i64 a)∧w'.cell? ⟨eb,eo+k*2+1,none⟩=some (.int .i64 b)) (first | exact⟨o0,e0,e1⟩ | exact⟨by simpa using o0,by simpa using e0,by simpa using e1⟩) (fail)
           go_wp2_with fail
           go_region_held3 (fun w'=>w'.cell? ⟨ob,oo+j,none⟩=some (.int .i64 y)∧w'.cell? ⟨eb,eo+k*2,none⟩=some (.int .i64 a)∧w'.cell? ⟨eb,eo+k*2+1,none⟩=some (.int .i64 b)) (first | exact⟨o0,e0,e1⟩ | exact⟨by simpa using o0,by simpa using e0,by simpa using e1⟩) (fail)
           go_wp2_with fail;go_roundw;case rel=>exact⟨j+1,_,_,by omega,rfl,rfl,by go_num,HP2.out,HQ2.out,HB2.out.drew.drew⟩
           case measure=>simp[intOf];omega
         · have hyd:(y==b)=false:=beq_eq_false_iff_ne.2 hyc;rw[if_neg hyc]at HQ2;clear hyc;go_wp2_with fail
           go_region_held3 (fun w'=>w'.cell? ⟨ob,oo+j,none⟩=some (.int .i64 y)∧w'.cell? ⟨eb,eo+k*2,none⟩=some (.int .i64 a)∧w'.cell? ⟨eb,eo+k*2+1,none⟩=some (.int .i64 b)) (first | exact⟨o0,e0,e1⟩ | exact⟨by simpa using o0,by simpa using e0,by simpa using e1⟩) (fail)
           go_wp2_with fail
           go_region_held3 (fun w'=>w'.cell? ⟨ob,oo+j,none⟩=some (.int .i64 y)∧w'.cell? ⟨eb,eo+k*2,none⟩=some (.int .i64 a)∧w'.cell? ⟨eb,eo+k*2+1,none⟩=some (.int .i64 b)) (first | exact⟨o0,e0,e1⟩ | exact⟨by simpa using o0,by simpa using e0,by simpa using e1⟩) (fail)
           go_wp2_with fail;go_roundw;case rel=>exact⟨j+1,_,_,by omega,rfl,rfl,by go_num,HP2.out,HQ2.out,HB2.out.drew.drew⟩
           case measure=>simp[intOf];omega
       · have hyb:(y==a)=false:=beq_eq_false_iff_ne.2 hya;rw[if_neg hya]at HP2;clear hya;by_cases hyc:y=b
         · have hyd:(y==b)=true:=by rw[hyc];simp
           rw[if_pos hyc]at HQ2;clear hyc;go_wp2_with fail
           go_region_held3 (fun w'=>w'.cell? ⟨ob,oo+j,none⟩=some (.int .i64 y)∧w'.cell? ⟨eb,eo+k*2,none⟩=some (.int .i64 a)∧w'.cell? ⟨eb,eo+k*2+1,none⟩=some (.int .i64 b)) (first | exact⟨o0,e0,e1⟩ | exact⟨by simpa using o0,by simpa using e0,by simpa using e1⟩) (fail)
           go_wp2_with fail
           go_region_held3 (fun w'=>w'.cell? ⟨ob,oo+j,none⟩=some (.int .i64 y)∧w'.cell? ⟨eb,eo+k*2,none⟩=some (.int .i64 a)∧w'.cell? ⟨eb,eo+k*2+1,none⟩=some (.int .i64 b)) (first | exact⟨o0,e0,e1⟩ | exact⟨by simpa using o0,by simpa using e0,by simpa using e1⟩) (fail)
           go_wp2_with fail;go_roundw;case rel=>exact⟨j+1,_,_,by omega,rfl,rfl,by go_num,HP2.out,HQ2.out,HB2.out.drew.drew⟩
           case measure=>simp[intOf];omega
         · have hyd:(y==b)=false:=beq_eq_false_iff_ne.2 hyc;rw[if_neg hyc]at HQ2;clear hyc;go_wp2_with fail
           go_region_held3 (fun w'=>w'.cell? ⟨ob,oo+j,none⟩=some (.int .i64 y)∧w'.cell? ⟨eb,eo+k*2,none⟩=some (.int .i64 a)∧w'.cell? ⟨eb,eo+k*2+1,none⟩=some (.int .i64 b)) (first | exact⟨o0,e0,e1⟩ | exact⟨by simpa using o0,by simpa using e0,by simpa using e1⟩) (fail)
           go_wp2_with fail
           go_region_held3 (fun w'=>w'.cell? ⟨ob,oo+j,none⟩=some (.int .i64 y)∧w'.cell? ⟨eb,eo+k*2,none⟩=some (.int .i64 a)∧w'.cell? ⟨eb,eo+k*2+1,none⟩=some (.int .i64 b)) (first | exact⟨o0,e0,e1⟩ | exact⟨by simpa using o0,by simpa using e0,by simpa using e1⟩) (fail)
           go_wp2_with fail;go_roundw;case rel=>exact⟨j+1,_,_,by omega,rfl,rfl,by go_num,HP2.out,HQ2.out,HB2.out.drew.drew⟩
           case measure=>simp[intOf];omega
     · obtain rfl:j=os.length:=by omega
       have hp:p=pa:=by rw[HP.out,List.drop_of_length_le (Nat.le_refl _)];rfl
       have hq:q=pb:=by rw[HQ.out,List.drop_of_length_le (Nat.le_refl _)];rfl
       subst hp hq;have hji:¬(os.length:Int)<(os.length:Int):=by omega
       have hn1:¬p<0:=by omega
       have hn2:¬q≤p:=by omega
       go_wp2_with fail;go_roundw;case rel=>exact⟨k+1,by omega,by go_num,HB.out.later HB2.out⟩
       case measure=>simp[intOf];omega
  · obtain rfl:k=me:=by omega
    have hki:¬(k:Int)<(k:Int):=by omega
    have HB6:=zh (HV6.out.later HB.out);have HB6X:=zh (HBV.out.later HB6.out);go_wp2_with fail;refine(HKA'.out wx HB6X.out (HIO.out wx HB6.out)).mono ?_;rintro e w7 ⟨A6,c6,rfl,hd7,hb7⟩;have HB7:=zh (HB6.out.later hb7);have HB7X:=zh (HB6X.out.later hb7);obtain⟨A7,c7,e7,_,hD7⟩:=hd7.reads;injection e7 with q1 q2 q3;subst q1 q3;rw[←q2]at hD7;have HK9:=zh (HKI.out A6 l.length c6 ar w7 HB7X.out hD7 HGA.out);have z0:=HS1.out w7 HB7X.out;clear hd7 hb7 hD7 q2 HKI HKA';go_wp2_with fail;refine HK9.out.mono ?_;rintro e w9 ⟨zv,rfl,hz9,hb9⟩;generalize playB fs ar=P2 at *;obtain⟨cd2,at2,ys⟩:=P2;obtain⟨hp1,hp2⟩:=HPP.out;dsimp only at hp1 hp2 hz9;subst hp1 hp2;obtain⟨A10,cap10,rfl,_,hNz⟩:=hz9.reads;have HV9:=zh (HB7.out.later hb9);have HX9:=zh (HB7X.out.later hb9);clear hb9 hz9 z0 HK9 HPP;obtain⟨WS,hWS⟩:∃WS,WS=w9.alloc (.cells #[.slice A10 ys.length cap10] 26):=⟨_,rfl⟩;have HQS:Hid (Blk WS w9.heap.size 26 #[.slice A10 ys.length cap10]):=by subst hWS;exact heap_alloc_new _ _
    have HBS:Hid (Below WV.heap.size WV WS):=by subst hWS;exact HV9.out.later (Below.new _ _)
    have HBSX:Hid (Below WX.heap.size WX WS):=by subst hWS;exact HX9.out.later (Below.new _ _)
    have HNS:Hid (Nodes WS WS.heap.size A10 ys.length ys):=by subst hWS;exact hNz.later (Below.new _ _)
    have HKE2:=zh (specSameTree_any A10 A8 ys.length cap10 ys.length cap8 ys ys WS HNS.out (HNV.out _ HBS.out) HSL.out HSL.out);rw[show decide (ys=ys)=true from decide_eq_true rfl]at HKE2;have z1:=HSV.out _ HBS.out;have z1':=HSV.out _ HV9.out;have hx29:w5.heap.size<w9.heap.size:=Nat.lt_of_lt_of_le HQV.out.lt HV9.out.size;have y0:=HQS.out.cell 0;have hll:((l.length:Int)==(l.length:Int))=true:=by simp
    simp at y0;clear hNz HNS;go_wp2_with fail;rw[←hWS];clear hWS;refine HKE2.out.mono ?_;rintro e w10 ⟨rfl,hb10⟩;have HB10:=zh (HBSX.out.later hb10);clear hb10 z1 z1' y0 HKE2;go_wp2_with fail;go_ret;exact⟨rfl,HBW.out.later HB10.out⟩
end Go.Proofs.YtlicffeicmoifaaGreatDoor
