import Derived.Test.YtlicffeicmoifaaGreatDoorZ00
import Derived.Test.YtlicffeicmoifaaGreatDoorZ01
import Derived.Test.YtlicffeicmoifaaGreatDoorZ02
import Derived.Test.YtlicffeicmoifaaGreatDoorZ03
import Derived.Test.YtlicffeicmoifaaGreatDoorZ04
import Derived.Test.YtlicffeicmoifaaGreatDoorZ05
import Derived.Test.YtlicffeicmoifaaGreatDoorZ06
import Derived.Test.YtlicffeicmoifaaGreatDoorZ07
import Derived.Test.YtlicffeicmoifaaGreatDoorZ08
import Derived.Test.YtlicffeicmoifaaGreatDoorZ09
import Derived.Test.YtlicffeicmoifaaGreatDoorZ10
import Derived.Test.YtlicffeicmoifaaGreatDoorZ11
import Derived.Test.YtlicffeicmoifaaGreatDoorZ12
import Derived.Test.YtlicffeicmoifaaGreatDoorZ13
import Derived.Test.YtlicffeicmoifaaGreatDoorZ14
import Derived.Test.YtlicffeicmoifaaGreatDoorZ15
import Derived.Test.YtlicffeicmoifaaGreatDoorZ16
import Derived.Test.YtlicffeicmoifaaGreatDoorZ17
import Derived.Test.YtlicffeicmoifaaGreatDoorZ18
import Derived.Test.YtlicffeicmoifaaGreatDoorZ19
import Derived.Test.YtlicffeicmoifaaGreatDoorZ20
import Derived.Test.YtlicffeicmoifaaGreatDoorZ21
import Derived.Test.YtlicffeicmoifaaGreatDoorZ22
import Derived.Test.YtlicffeicmoifaaGreatDoorZ23
import Derived.Test.YtlicffeicmoifaaGreatDoorZ24
import Derived.Test.YtlicffeicmoifaaGreatDoorZ25
import Derived.Test.YtlicffeicmoifaaGreatDoorZ26
import Derived.Test.YtlicffeicmoifaaGreatDoorZ27
import Derived.Test.YtlicffeicmoifaaGreatDoorZ28
import Derived.Test.YtlicffeicmoifaaGreatDoorZ29
import Derived.Test.YtlicffeicmoifaaGreatDoorZ30
import Derived.Test.YtlicffeicmoifaaGreatDoorZ31
import Derived.Test.YtlicffeicmoifaaGreatDoorZ32
import Derived.Test.YtlicffeicmoifaaGreatDoorZ33
import Derived.Test.YtlicffeicmoifaaGreatDoorZ34
import Derived.Test.YtlicffeicmoifaaGreatDoorZ35
import Derived.Test.YtlicffeicmoifaaGreatDoorZ36
import Derived.Test.YtlicffeicmoifaaGreatDoorZ37
import Derived.Test.YtlicffeicmoifaaGreatDoorZ38
import Derived.Test.YtlicffeicmoifaaGreatDoorZ39
import Derived.Test.YtlicffeicmoifaaGreatDoorZ40
import Derived.Test.YtlicffeicmoifaaGreatDoorZ41
import Derived.Test.YtlicffeicmoifaaGreatDoorZ42
import Derived.Test.YtlicffeicmoifaaGreatDoorY03
import Derived.Test.YtlicffeicmoifaaGreatDoorY00
import Derived.Test.YtlicffeicmoifaaGreatDoorProg
import Derived.BigQuiet
import Derived.Deep.AppendLies
import Derived.Deep.CutBlock
import Derived.Deep.DeepCutAuto
import Derived.Deep.QuietTactic
import Derived.Deep.RegionHeld3
import Derived.Deep.RegionLaw
import Derived.Deep.RegionWith
import Derived.Ground.Names2Prog
import Derived.Ground.SlgnProg
import Derived.IntWalk
import Derived.Laws.CopyOwn
import Derived.Laws.CopyRow
import Derived.Laws.OwnMore
import Derived.Lib.AppendIntMem
import Derived.Lib.Hide
import Derived.Lib.IndexAny
import Derived.Lib.ItoaNum
import Derived.Lib.OwnBridge
import Derived.Lib.SlTrimSet
import Derived.Lib.SliceRun
import Derived.Lib.Strings
import Derived.Lib.TrimUEq
import Derived.LoopIn
import Derived.LoopNIn
import Derived.Maps.AppendAt
import Derived.OwnWalk
import Derived.OwnWalkIn
import Derived.RangeFuncBox
import Derived.RangeFuncLeaves
import Derived.RegionTactic
import Derived.Shelf.Abstract
import Derived.Shelf.GgClosure.StringsIndexFuncTop
import Derived.Shelf.LaysM
import Derived.Shelf.Slices.Cells
import Derived.Shelf.Slices.Clone
import Derived.Shelf.Slices.CompactS
import Derived.Shelf.Slices.Empties2
import Derived.Shelf.Slices.Equal
import Derived.Shelf.SlicesE.Clone
import Derived.Shelf.SlicesG.CompactI
import Derived.Shelf.SlicesG.Delete
import Derived.Shelf.SlicesG.SearchI
import Derived.Shelf.Small.Bits
import Derived.Shelf.Small.Strs
import Derived.Shelf.Small.Utf8
import Derived.Shelf.Small.Wraps
import Derived.Shelf.Strconv.Itoa0
import Derived.Shelf.Strconv.Itoa1
import Derived.Shelf.Strconv.Itoa2
import Derived.Shelf.Strconv.Itoa3
import Derived.Shelf.Strconv.Itoa4
import Derived.Shelf.Strings.AsciiSet
import Derived.Shelf.Strings.Builder1
import Derived.Shelf.Strings.Builder2
import Derived.Shelf.Strings.Count
import Derived.Shelf.Strings.OnBuilder
import Derived.Shelf.Strings.Prefix
import Derived.Shelf.Strings.Replace
import Derived.Shelf.Strings.RuneCount
import Derived.Shelf.Strings.Runes
import Derived.Shelf.Strings.Search1
import Derived.Shelf.Strings.Search2
import Derived.Shelf.Strings.Search3
import Derived.Shelf.Strings.Shaped
import Derived.Shelf.Strings.SlTrimAscii
import Derived.Shelf.Strings.Split
import Derived.Shelf.Strings.SplitShaped
import Derived.Shelf.Strings.Trim
import Derived.Shelf.Unicode.Decode
import Derived.Shelf.Unicode.DecodeAny
import Derived.Shelf.Unicode.DecodeLast
import Derived.Shelf.Unicode.DecodeSlow
import Derived.Shelf.Unicode.PredsPay
import Derived.TacticsInMore
import Derived.WalkKit
import Derived.WalkLawsBesides
import Derived.WalkSpells
import Derived.Shelf.SlSortCmp.WholeK
set_option linter.unusedSimpArgs false
set_option maxHeartbeats 16000000
open Go.Lib renaming hid → zh
open List renaming set_cons_succ → zC
namespace Go.Proofs.YtlicffeicmoifaaGreatDoor
open Go.RowKit
set_option linter.unusedVariables false
set_option linter.unusedSimpArgs false
def ordM (o:Option (List Int)):Int × List Int:=match o with | some os=>(0,os) | none=>(5,[])
noncomputable def ordC (l:List DoD):Int × List Int:=if doingsB l=true then ordM (orderJ l) else (1,[])
def OrdPost (r:Int × List Int) (w:World) (e:Ending) (w':World):Prop:=∃A c,e=.returned (.tuple #[.slice A r.2.length c,.int .i64 r.1])∧r.2.length≤c∧Ints w' w'.heap.size A r.2.length r.2∧Below w.heap.size w w'
theorem reads_pre {w:World} {B size:Nat} {A:Option Addr} {n k:Nat} {xs:List Value} (h:Reads w B size A n xs) (hk:k≤n):Reads w B size A k (xs.take (k*size)):=by
 refine⟨by rw[List.length_take,h.1,Nat.min_eq_left (Nat.mul_le_mul_right _ hk)],fun hp=>?_⟩;obtain⟨ad,e,hb,hc⟩:=h.2 (by omega);refine⟨ad,e,hb,fun j u hu=>hc j u ?_⟩;rw[List.getElem?_take]at hu;split at hu
 · exact hu
 · cases hu
theorem ints_reads {w:World} {B n:Nat} {A:Option Addr} {zs:List Int} (h:Ints w B A n zs):Reads w B 1 A n (zs.map (Value.int .i64)):=by
 refine⟨by rw[List.length_map,h.1,Nat.mul_one],fun hp=>?_⟩;obtain⟨b,o,e,hb,hc⟩:=h.2 hp;refine⟨_,e,hb,fun j u hu=>?_⟩;rw[List.getElem?_map]at hu
 have hl:j<zs.length:=by
  rcases Nat.lt_or_ge j zs.length with hl | hl
  · exact hl
  · rw[List.getElem?_eq_none hl]at hu;cases hu
 rw[List.getElem?_eq_getElem hl]at hu;have:=hc j (by rw[←h.1];exact hl);rw[List.getD_eq_getElem?_getD,List.getElem?_eq_getElem hl]at this;rw[add_offN,this];exact hu
theorem free_fun {l:List DoD} (h:doingsB l=true) (left:List Int):freeE (edgesR l) left=freeQ (edgeE l) left:=by
 funext o
 exact free_edges (fun a b=>edgesR_mem h) left o
theorem edgesR_len (l:List DoD):(edgesR l).length≤16:=by
 have h:∀a,(edgR l a [1,2,3,4]).length≤4:=fun a=>edgR_len;have e:edgesR l=edgR l 1 [1,2,3,4]++(edgR l 2 [1,2,3,4]++(edgR l 3 [1,2,3,4]++(edgR l 4 [1,2,3,4]++[]))):=rfl;rw[e];simp only[List.length_append,List.length_nil];have:=h 1;have:=h 2;have:=h 3;have:=h 4;omega
set_option maxRecDepth 100000 in
theorem specSerialOrder_any (A:Option Addr) (n c:Nat) (l:List DoD) (w:World) (h:Dos w w.heap.size A n l) (hok:okDs l) :
 Calls Tryz.prog 16 #[.slice A n c] w (OrdPost (ordC l) w):=by
 obtain⟨i0,hi,hz0,hz1,hz2⟩:=info_parts infoI64;have HK1:=zh (specDoingsOk_any A n c l w h hok);have HKJ:=zh (fun (hd:doingsB l=true) W (hW:Below w.heap.size w W)=>l28Jobs_any A n c l W (h.later hW) (by rw[←h.1];exact(doings_all hd).1));have HKE:=zh (fun (hd:doingsB l=true) W (hW:Below w.heap.size w W)=>l28Edges_any A n c l W (h.later hW) hd hok);have HR:Hid (ordC l=if doingsB l=true then ordM (orderJ l) else (1,[])):=rfl;have HFF:=zh (fun (hd:doingsB l=true) left=>free_fun hd left);have HJN:=zh (rise_nodup (jobs_rise l));have HJL:=zh (fun (hd:doingsB l=true)=>jobs_len hd);have HOJ:Hid (orderJ l=ordE (edgeE l) (jobsJ l).length (jobsJ l)):=rfl;have hel:=edgesR_len l;clear h hok;unfold IntsPost at HKJ;unfold EdsPost at HKE;generalize ordC l=R at *;generalize orderJ l=OJ at *;generalize jobsJ l=js at *;generalize edgesR l=es at *;generalize edgeE l=E at *;generalize doingsB l=d at *;go_enter Tryz.func16,Tryz.ntmps16;go_wp2_with fail;refine HK1.out.mono ?_;rintro e w1 ⟨rfl,hb1⟩;have HB1:=zh hb1;clear hb1 HK1;cases d
 · have HE:Hid (R=(1,[])):=by unfold Hid;rw[HR.out];rfl
   go_wp2_with fail
   go_ret2
   unfold OrdPost;rw[HE.out];exact⟨_,_,rfl,Nat.le_refl _,Ints.zero,HB1.out.later (Below.new _ _)⟩
 have HKJ':=zh (HKJ.out (by first | rfl | trivial));have HKE':=zh (HKE.out (by first | rfl | trivial));have HFF':=zh (HFF.out (by first | rfl | trivial));have hjl:=HJL.out (by first | rfl | trivial);have HR':Hid (R=ordM OJ):=by unfold Hid;rw[HR.out];rfl
 clear HKJ HKE HFF HJL HR;go_wp2_with fail;refine(HKJ'.out _ HB1.out).mono ?_;rintro e w2 ⟨jv,rfl,hjown,hb2⟩;have HB2:=zh (HB1.out.later hb2);obtain⟨JA,jc,rfl,hjc,_⟩:=own_ints hjown;have HJO:=zh (Own.own_base hjown (show w.heap.size≤w1.heap.size from HB1.out.size));clear hjown hb2 HKJ';go_wp2_with fail;refine(HKE'.out _ HB2.out).mono ?_;rintro e w3 ⟨ev,rfl,heown,hb3⟩;obtain⟨EA,ec,rfl,hec,hE⟩:=eds_own heown;have HB3:=zh (HB2.out.later hb3);have HEE:=zh (fun W (hW:Below w3.heap.size w3 W)=>hE.later hW);have HJ3:=zh (Own.own_later HJO.out hb3);have hs3:=HB3.out.size;clear heown hb3 hE HKE' HJO;generalize hEA:es.length=m at *;clear hEA;go_wp2_with fail;go_loopw [4,6] (fun lv ov wr=>∃(left outs:List Int),wr.ownsRow w.heap.size 2 1 lv left.length (left.map (Value.int .i64))∧wr.ownsRow w3.heap.size 2 1 ov outs.length (outs.map (Value.int .i64))∧Own.apart lv ov∧left.length+outs.length≤4∧left.Nodup∧Hid (OJ=(ordE E left.length left).map (outs++·))∧Below w3.heap.size w3 wr) (fun lv _ _=>(match lv with | .slice _ k _=>k | _=>0));case atStart=>refine⟨js,[],Own.own_later HJ3.out (Below.new _ _),World.ownsRow_lit _ _ 0 (Nat.le_refl _) (by omega) rfl,?_,by simpa using hjl,HJN.out,by unfold Hid;rw[HOJ.out];cases ordE E js.length js <;> rfl,Below.new _ _⟩;exact Own.apart_new HJ3.out (w':=w3.alloc (.cells #[] 2)) (World.ownsRow_lit (e:=2) (size:=1) w3 #[] 0 (Nat.le_refl _) (by omega) rfl) (Nat.le_refl _)
 case round =>
  obtain⟨left,outs,hlo,hoo,hap,hlen,hnd,HO,hb⟩:=hrel;have HLO:=zh hlo;have HOO:=zh hoo;have HAP:=zh hap;have HND:=zh hnd;have HB:=zh hb;obtain⟨LA,lc,rfl,hlc,hLI⟩:=own_ints hlo;have HLI:=zh hLI;obtain⟨OA,oc,rfl,hoc,_⟩:=own_ints hoo;have hbz:=HB.out.size;clear hlo hoo hap hnd hb hLI HJ3 HJN HOJ;by_cases hpos:0<left.length
  · have hposI:(0:Int)<(left.length:Int):=by omega
    have HKF:=zh (l28Free_any LA left.length lc EA m ec left es wr HLI.out (HEE.out _ HB.out) (by omega) (by omega));rw[HFF'.out]at HKF;have hbd:=idxF_bd (freeQ E left) left 0;by_cases hneg:idxF (freeQ E left) left 0=-1
    · have HN:=zh (ord_none (E:=E) (left:=left) (fun e=>by rw[e]at hpos;simp at hpos) hneg);rw[hneg]at HKF;have HE:Hid (R=(5,[])):=by unfold Hid;rw[HR'.out,HO.out,HN.out];rfl
      clear HO hbd hneg;go_wp2_with fail;refine HKF.out.mono ?_;rintro e w4 ⟨rfl,hb4⟩;have HB4:=zh (HB.out.later hb4);clear hb4;go_wp2_with fail
      go_ret2
      unfold OrdPost;rw[HE.out];exact⟨_,_,rfl,Nat.le_refl _,Ints.zero,HB3.out.later (HB4.out.later (Below.new _ _))⟩
    obtain⟨j,hj⟩:∃j:Nat,idxF (freeQ E left) left 0=j:=⟨(idxF (freeQ E left) left 0).toNat,by omega⟩;obtain⟨hjl2,ht1,ht2,ht3⟩:=ord_take HND.out hj;rw[hj]at HKF;have HT1:Hid (OJ=(ordE E (left.take j++left.drop (j+1)).length (left.take j++left.drop (j+1))).map ((outs++[left.getD j default])++·)):=by unfold Hid;rw[HO.out,ht1];cases ordE E (left.take j++left.drop (j+1)).length (left.take j++left.drop (j+1)) <;> simp
    have HT2:=zh ht2;have hlen2:(left.take j++left.drop (j+1)).length+1=left.length:=ht3;have hln:(left.take j++left.drop (j+1)).length=j+(left.length-(j+1)):=by simp;omega
    clear HO ht1 ht2 ht3 hbd hneg hj;go_wp2_with fail;refine HKF.out.mono ?_;rintro e w4 ⟨rfl,hb4⟩;have HB4:=zh (HB.out.later hb4);have HL4:=zh (HLI.out.later hb4);have HLO4:=zh (Own.own_later HLO.out hb4);have HOO4:=zh (Own.own_later HOO.out hb4);have hb4z:=HB4.out.size;clear hb4 HKF HLI HLO HOO HB hbz;obtain⟨lb,lo,rfl,hlb,hlcell⟩:=HL4.out.2 hpos;have k0:=hlcell j hjl2;have hgd:left.getD j (0:Int)=left.getD j default:=rfl;rw[hgd]at k0;clear hlcell hgd;generalize left.getD j default=x at *;have hj0:¬(j:Int)<0:=by omega
    have hji:(j:Int)<(left.length:Int):=by omega
    have hji':(j:Int)≤(lc:Int):=by omega
    have hji2:(j:Int)+1≤(left.length:Int):=by omega
    have hji3:(j:Int)+1≤(lc:Int):=by omega
    have hwk:IntKind.i64.wrap ((j:Int)+1)=(j:Int)+1:=by rw[IntKind.wrap_i64];omega
    have htn:((j:Int)+1).toNat=j+1:=by omega
    have h0k:(0:Int)≤(j:Int)+1:=by omega
    have hrow:Hid (∀o,(w4.alloc o).ownsRow w3.heap.size 2 1 (.slice OA outs.length oc) outs.length (outs.map (Value.int .i64))):=fun o=>Own.own_later HOO4.out (Below.new _ _);go_wp2_with (at_builtin;refine wpList_append_own _ rfl (.tmp 27) (.tmp 32) 40 rfl w3.heap.size 2 i0 _ 1 8 Tryz.underlying40 hi hz0 hz1 hz2 rfl (by decide) _ outs.length _ rfl (hrow.out _) ⟨_,0,none⟩ 1 1 [.int .i64 x] rfl rfl ?c1 ?c2 ?c3 ?c4 ?c5 ?_);case c1=>exact cells_newN _ #[.int .i64 x] _
    case c2=>simp[Value.oneCell']
    case c3=>unfold maxLen;omega
    case c4=>omega
    case c5=>first | omega | (simp;omega)
    intro v5 w5 hown5 hg5 _;have HO5:Hid (w5.ownsRow w3.heap.size 2 1 v5 (outs++[x]).length ((outs++[x]).map (Value.int .i64))):=by unfold Hid;rw[List.length_append,List.length_singleton,List.map_append];exact hown5
    have HBA:Hid (Below w3.heap.size w3 w5):=below_own (w0:=w3) (HB4.out.later (Below.new _ _)) (hrow.out _) (Nat.le_refl _) hg5;have HL5:Hid (w5.ownsRow w.heap.size 2 1 (.slice (some ⟨lb,lo,none⟩) left.length lc) left.length (left.map (Value.int .i64))):=Own.kept_apart (Own.own_later HLO4.out (Below.new _ _)) hg5 HAP.out;clear hown5 hg5 k0 HL4 HLO4 HOO4 HB4 hb4z hrow HAP;obtain⟨OA5,oc5,rfl,_,_⟩:=own_ints HO5.out;have hw5:=HBA.out.size;have HRD:Hid (Reads w5 w5.heap.size 1 (some ⟨lb,lo,none⟩) left.length (left.map (Value.int .i64))):=by obtain⟨A',c',e',_,h2⟩:=own_ints HL5.out;injection e' with e1 e2 e3;rw[e1];exact ints_reads h2
    have HPRE:Hid (Reads w5 w5.heap.size 1 (some ⟨lb,lo,none⟩) j ((left.map (Value.int .i64)).take j)):=by have h:=reads_pre HRD.out (Nat.le_of_lt hjl2);rw[Nat.mul_one]at h;exact h
    have HCUT:Hid (Reads w5 w5.heap.size 1 (if lc=j+1 then some ⟨lb,lo,none⟩ else some ⟨lb,lo+(j+1),none⟩) (left.length-(j+1)) ((left.map (Value.int .i64)).drop (j+1))):=by have h:=HRD.out.cut (show j+1≤left.length by omega) hlc;rw[Nat.mul_one]at h;unfold Hid;simpa [add_offN] using h
    go_wp2_with (at_builtin;refine wpList_append_any _ rfl (.tmp 34) (.tmp 37) 40 rfl w5.heap.size 2 i0 _ 1 8 Tryz.underlying40 hi hz0 hz1 hz2 rfl (by decide) _ 0 [] rfl (World.ownsRow_lit _ _ 0 (Nat.le_refl _) (by omega) rfl) w5.heap.size (some ⟨lb,lo,none⟩) j lc ((left.map (Value.int .i64)).take j) rfl (HPRE.out.alloc (Nat.le_refl _) _) (fun u hu=>oneCells_int left u (List.mem_of_mem_take hu)) ?d1 ?d2 ?d3 ?_);case d1=>unfold maxLen;omega
    case d2=>omega
    case d3=>simp
    intro v6 w6 ho6 hg6 _;have HB6:=zh (below_own (w0:=w5) (size:=1) (n:=0) (xs:=[]) (Below.new _ _) (World.ownsRow_lit _ _ 0 (Nat.le_refl _) (by omega) rfl) (Nat.le_refl _) hg6);have HC6:=zh (HCUT.out.below HB6.out);have HO6:=zh ho6;obtain⟨A6,c6,rfl,_,_⟩:=Own.own_slice ho6;clear ho6 hg6 HCUT HPRE HRD;have hb6z:=HB6.out.size
    have HEND:Hid (∀v7 w7,w7.ownsRow w5.heap.size 2 1 v7 (j+(left.length-(j+1))) ((left.map (Value.int .i64)).take j++(left.map (Value.int .i64)).drop (j+1))→w6.grownBy w7 (Value.slice A6 j c6).ownBlock →
     (w7.ownsRow w.heap.size 2 1 v7 (left.take j++left.drop (j+1)).length ((left.take j++left.drop (j+1)).map (Value.int .i64))∧w7.ownsRow w3.heap.size 2 1 (.slice OA5 (outs++[x]).length oc5) (outs++[x]).length ((outs++[x]).map (Value.int .i64))∧Own.apart v7 (.slice OA5 (outs++[x]).length oc5)∧Below w3.heap.size w3 w7)):=fun v7 w7 h7 g7=>by
     have hb7:=below_own (w0:=w5) HB6.out HO6.out (Nat.le_refl _) g7;refine⟨?_,Own.own_later HO5.out hb7,Own.apart_symm (Own.apart_new HO5.out h7 (Nat.le_refl _)),HBA.out.later hb7⟩;rw[hln,List.map_append,List.map_take,List.map_drop];exact Own.own_base h7 (show w.heap.size≤w5.heap.size by omega)
    by_cases hce:lc=j+1
    · rw[if_pos hce]at HC6;have hce0:lc-(j+1)=0:=by omega
      go_wp2_with (at_builtin;go_loud (refine wpList_append_any _ rfl (.tmp 39) (.tmp 43) 40 rfl w5.heap.size 2 i0 _ 1 8 Tryz.underlying40 hi hz0 hz1 hz2 rfl (by decide) _ j ((left.map (Value.int .i64)).take j) rfl HO6.out w5.heap.size (some ⟨lb,lo,none⟩) (left.length-(j+1)) 0 ((left.map (Value.int .i64)).drop (j+1)) rfl HC6.out (fun u hu=>oneCells_int left u (List.mem_of_mem_drop hu)) ?e1 ?e2 ?e3 ?_));case e1=>unfold maxLen;omega
      case e2=>omega
      case e3=>first | omega | (simp;omega)
      intro v7 w7 ho7 hg7 _;obtain⟨h1,h2,h3,h4⟩:=HEND.out v7 w7 ho7 hg7;obtain⟨A7,c7,rfl,_,_⟩:=own_ints h1;go_wp2_with fail;go_roundw;case rel=>exact⟨left.take j++left.drop (j+1),outs++[x],h1,by simpa using h2,by simpa using h3,by simp at hlen2 ⊢;omega,HT2.out,HT1.out,h4⟩
      case measure=>simp at hlen2 ⊢;omega
    · rw[if_neg hce]at HC6;go_wp2_with (at_builtin;go_loud (refine wpList_append_any _ rfl (.tmp 39) (.tmp 43) 40 rfl w5.heap.size 2 i0 _ 1 8 Tryz.underlying40 hi hz0 hz1 hz2 rfl (by decide) _ j ((left.map (Value.int .i64)).take j) rfl HO6.out w5.heap.size (some ⟨lb,lo+(j+1),none⟩) (left.length-(j+1)) (lc-(j+1)) ((left.map (Value.int .i64)).drop (j+1)) rfl HC6.out (fun u hu=>oneCells_int left u (List.mem_of_mem_drop hu)) ?f1 ?f2 ?f3 ?_));case f1=>unfold maxLen;omega
      case f2=>omega
      case f3=>first | omega | (simp;omega)
      intro v7 w7 ho7 hg7 _;obtain⟨h1,h2,h3,h4⟩:=HEND.out v7 w7 ho7 hg7;obtain⟨A7,c7,rfl,_,_⟩:=own_ints h1;go_wp2_with fail;go_roundw;case rel=>exact⟨left.take j++left.drop (j+1),outs++[x],h1,by simpa using h2,by simpa using h3,by simp at hlen2 ⊢;omega,HT2.out,HT1.out,h4⟩
      case measure=>simp at hlen2 ⊢;omega
  · have hposI:¬(0:Int)<(left.length:Int):=by omega
    have hl0:left=[]:=List.eq_nil_of_length_eq_zero (by omega);have HE:Hid (R=(0,outs)):=by unfold Hid;rw[HR'.out,HO.out,hl0];simp[ordE,ordM]
    have HI:Hid (Ints wr wr.heap.size OA outs.length outs):=by obtain⟨A',c',e',_,h2⟩:=own_ints HOO.out;cases e';exact h2
    go_wp2_with fail
    go_ret2
    unfold OrdPost;rw[HE.out];exact⟨_,_,rfl,hoc,HI.out,HB3.out.later HB.out⟩
end Go.Proofs.YtlicffeicmoifaaGreatDoor
namespace Go.Proofs.YtlicffeicmoifaaGreatDoor
open Go.RowKit
set_option linter.unusedVariables false
set_option linter.unusedSimpArgs false
theorem edC_set {es:List (Int × Int)} {k:Nat} {e:Int × Int} (hk:k<es.length):((edC es).set (k*2) (.int .i64 e.1)).set (k*2+1) (.int .i64 e.2)=edC (es.set k e):=by
 induction es generalizing k with
 | nil=>simp at hk
 | cons d r ih =>
   have e1:edC (d::r)=Value.int .i64 d.1::Value.int .i64 d.2::edC r:=rfl
   cases k with
   | zero=>rfl
   | succ k=>have e2:edC ((d::r).set (k+1) e)=Value.int .i64 d.1::Value.int .i64 d.2::edC (r.set k e):=rfl;rw[e1,e2,←ih (by simpa using hk),show(k+1)*2=k*2+1+1 by omega,zC,zC,zC,zC]
theorem edC_take (es:List (Int × Int)) (k:Nat):edC (es.take k)=(edC es).take (k*2):=by
 induction es generalizing k with
 | nil=>simp[edC]
 | cons d r ih =>
   have e1:edC (d::r)=Value.int .i64 d.1::Value.int .i64 d.2::edC r:=rfl
   cases k with
   | zero=>simp[edC]
   | succ k=>have e2:edC ((d::r).take (k+1))=Value.int .i64 d.1::Value.int .i64 d.2::edC (r.take k):=rfl;rw[e1,e2,ih,show(k+1)*2=k*2+1+1 by omega];rfl
structure CpE (es:List (Int × Int)) (k q:Nat) (ys:List (Int × Int)):Prop where
 len:ys.length=es.length
 kq:k≤q
 qn:q≤es.length
 mem:∀z,z∈ys.take k↔z∈es.take q
 rest:∀j,k≤j→ys.getD j default=es.getD j default
theorem mem_takeS {l:List (Int × Int)} {k:Nat} (h:k<l.length) {z:Int × Int}:z∈l.take (k+1)↔z∈l.take k∨z=l.getD k default:=by
 rw[List.take_succ_eq_append_getElem h,List.mem_append,List.mem_singleton,List.getD_eq_getElem?_getD,List.getElem?_eq_getElem h];rfl
theorem mem_atD {l:List (Int × Int)} {j k:Nat} (h:j<l.length) (hk:j<k):l.getD j default∈l.take k:=by
 rw[List.getD_eq_getElem?_getD,List.getElem?_eq_getElem h];exact List.mem_take_iff_getElem.2 ⟨j,by omega,rfl⟩
section
variable {es ys:List (Int × Int)} {k q:Nat}
theorem CpE.start (h:q<es.length) (he:es.getD q default=es.getD (q-1) default) (hq:0<q):CpE es q (q+1) es :=
 ⟨rfl,by omega,h,fun z=>by
   rw[mem_takeS h,he];refine⟨.inl,fun hz=>?_⟩;rcases hz with hz | hz
   · exact hz
   · rw[hz];exact mem_atD (by omega) (by omega),fun j _=>rfl⟩
theorem CpE.skip (h:CpE es k q ys) (hl:q<es.length) (hq:0<q) (he:es.getD q default=es.getD (q-1) default):CpE es k (q+1) ys :=
 ⟨h.len,by have:=h.kq;omega,hl,fun z=>by
   rw[h.mem,mem_takeS hl,he];refine⟨.inl,fun hz=>?_⟩;rcases hz with hz | hz
   · exact hz
   · rw[hz];exact mem_atD (by omega) (by omega),h.rest⟩
theorem CpE.keep (h:CpE es k q ys) (hl:q<es.length):CpE es (k+1) (q+1) (ys.set k (es.getD q default)):=by
 have hkq:=h.kq;have hyl:=h.len;refine⟨by rw[List.length_set];exact hyl,by omega,hl,fun z=>?_,fun j hj=>?_⟩
 · rw[mem_takeS (by rw[List.length_set];omega),mem_takeS hl,List.take_set_of_le (Nat.le_refl _),h.mem,Own.getD_set_ _ _ _ _ _ (by omega),if_pos rfl]
 · rw[Own.getD_set_ _ _ _ _ _ (by omega),if_neg (by omega)];exact h.rest j (by omega)
end
def CompEd (base:Nat) (es:List (Int × Int)) (w:World) (e:Ending) (w':World):Prop:=∃v rs,e=.returned v∧w'.ownsRow base 48 2 v rs.length (edC rs)∧rs.length≤es.length∧(∀z,z∈rs↔z∈es)∧Below base w w'
theorem zeroEdge (w:World):(zeroValue 48).run Tryz.prog w=.ok (.agg #[.int .i64 0,.int .i64 0]) w:=by kernel_rfl
set_option maxRecDepth 100000 in
theorem CompactEd_any (base:Nat) (v:Value) (es:List (Int × Int)) (w:World) (h:w.ownsRow base 48 2 v es.length (edC es)) (hz:es.length≤1048576) (hbw:base≤w.heap.size) :
 Calls Tryz.prog 121 #[v] w (CompEd base es w):=by
 obtain⟨A,cap,rfl,hcap,hcm,hA⟩:=Own.own_slice h;have HO0:=zh h;have HE:=zh (eds_own h);clear h;generalize hn:es.length=n at *;have HN:=zh hn;clear hn;go_enter Tryz.func121,Tryz.ntmps121;by_cases h2:n<2
 · have h2i:(n:Int)<2:=by omega
   go_wp2_with fail;go_ret;exact⟨_,es,rfl,by rw[HN.out];exact HO0.out,by rw[HN.out];exact Nat.le_refl _,fun z=>Iff.rfl,Below.refl _ _⟩
 have h2i:¬(n:Int)<2:=by omega
 obtain⟨g,rfl,hgw,hbg⟩:=hA (by omega);have HC:Hid (∀j,j<n→w.cell? ⟨g,j*2,none⟩=some (.int .i64 (es.getD j default).1)∧w.cell? ⟨g,j*2+1,none⟩=some (.int .i64 (es.getD j default).2)):=fun j hj=>by obtain⟨h1,h2⟩:=edC_at es j (by rw[HN.out];exact hj);exact⟨Own.own_cell HO0.out _ _ (by omega) h1,Own.own_cell HO0.out _ _ (by omega) h2⟩
 clear hA HE;go_wp2_with fail;go_loopw [3] (fun i wr=>∃k:Nat,1≤k∧k≤n∧i=.int .i64 k∧∃q,wr=w.drewN q) (fun i _=>n-(intOf i).toNat);case atStart=>exact⟨1,Nat.le_refl _,by omega,rfl,0,rfl⟩
 case round =>
  obtain⟨k,hk1,hk,rfl,q,rfl⟩:=hrel;by_cases hlt:k<n
  · obtain⟨c0,c1⟩:=HC.out k hlt;obtain⟨d0,d1⟩:=HC.out (k-1) (by omega);have HED:Hid (es.getD k default=es.getD (k-1) default∨¬es.getD k default=es.getD (k-1) default):=Classical.em _;have HST:=zh (fun he=>CpE.start (es:=es) (q:=k) (by rw[HN.out];exact hlt) he (by omega));generalize es.getD k default=a at *;generalize es.getD (k-1) default=b at *;obtain⟨a1,a2⟩:=a;obtain⟨b1,b2⟩:=b;dsimp only at c0 c1 d0 d1;have hki:(k:Int)<(n:Int):=by omega
    have hwk:IntKind.i64.wrap ((k:Int)-1)=(k:Int)-1:=by rw[IntKind.wrap_i64];omega
    have htk:((k:Int)-1).toNat=k-1:=by omega
    have hk0:(0:Int)≤(k:Int)-1:=by omega
    have hkl:(k:Int)-1<(n:Int):=by omega
    rcases HED.out with he | he
    · have hs:=HST.out he;injection he with he1 he2;subst he1 he2;have hck:¬cap=k:=by omega
      have hki2:(k:Int)≤(n:Int):=by omega
      have hki3:(k:Int)≤(cap:Int):=by omega
      have HS0:=zh hs;have hhi:a1=a1:=rfl;clear hs HST HED;go_wp2_with fail
      go_region
      go_wp2_with fail;go_loopw [3,5] (fun kv jv wr=>∃(i j:Nat) (ys:List (Int × Int)),kv=.int .i64 i∧jv=.int .i64 j∧1≤j∧j≤n-k∧i<k+j∧Hid (CpE es i (k+j) ys)∧wr.ownsRow base 48 2 (.slice (some ⟨g,0,none⟩) n cap) n (edC ys)∧Below base w wr) (fun _ jv _=>n-k-(intOf jv).toNat);case atStart=>exact⟨k,1,es,rfl,by go_num,Nat.le_refl _,by omega,by omega,HS0.out,Own.own_later HO0.out (below_drewN (Below.refl _ _) _),(below_drewN (Below.refl w.heap.size w) _).mono hbw⟩
      case round =>
       obtain⟨i,j,ys,rfl,rfl,hj1,hj2,hij,HS,hown,hb⟩:=hrel;have HO:=zh hown;have HB:=zh hb;have hyl:=HS.out.len;rw[HN.out]at hyl;clear hown hb HS0;by_cases hjlt:j<n-k
       · have hql:k+j<es.length:=by rw[HN.out];omega
         have hr1:=HS.out.rest (k+j) (by omega);have hr2:=HS.out.rest (k+j-1) (by omega);obtain⟨q0,q1⟩:=edC_at ys (k+j) (by omega);obtain⟨p0,p1⟩:=edC_at ys (k+j-1) (by omega);have c0:=Own.own_cell HO.out _ _ (by omega) q0;have c1:=Own.own_cell HO.out _ _ (by omega) q1;have d0:=Own.own_cell HO.out _ _ (by omega) p0;have d1:=Own.own_cell HO.out _ _ (by omega) p1;rw[hr1]at c0 c1;rw[hr2]at d0 d1;have HSK:=zh (fun he=>CpE.skip HS.out hql (by omega) he);have HKP:=zh (CpE.keep HS.out hql);have HWR:Hid (∀(x:Int × Int),((wr.drew.setCell ⟨g,i*2,none⟩ (.int .i64 x.1)).setCell ⟨g,i*2+1,none⟩ (.int .i64 x.2)).ownsRow base 48 2 (.slice (some ⟨g,0,none⟩) n cap) n (edC (ys.set i x))∧Below base w ((wr.drew.setCell ⟨g,i*2,none⟩ (.int .i64 x.1)).setCell ⟨g,i*2+1,none⟩ (.int .i64 x.2))):=fun x=>by obtain⟨h1,_⟩:=(Own.own_later HO.out (Below.refl _ _).drew).stored (i*2) (.int .i64 x.1);obtain⟨h2,_⟩:=h1.stored (i*2+1) (.int .i64 x.2);rw[edC_set (by omega)]at h2;exact⟨h2,(HB.out.drew.setCell (p:=⟨g,i*2,none⟩) hbg _).setCell (p:=⟨g,i*2+1,none⟩) hbg _⟩
         obtain⟨m0,m1⟩:=edC_at ys i (by omega);have m0:=Own.own_cell HO.out _ _ (by omega) m0;have m1:=Own.own_cell HO.out _ _ (by omega) m1;have f0:=HO.out.frozenAt (i*2);have f1:=HO.out.frozenAt (i*2+1);have hgr:g<wr.heap.size:=Nat.lt_of_lt_of_le hgw HB.out.size;rw[show(k+j)*2=k*2+j*2 by omega]at c0 c1;rw[show(k+j-1)*2=k*2+(j-1)*2 by omega]at d0 d1;have HED:Hid (es.getD (k+j) default=es.getD (k+j-1) default∨¬es.getD (k+j) default=es.getD (k+j-1) default):=Classical.em _;clear q0 q1 p0 p1 hr1 hr2;generalize es.getD (k+j) default=a at *;generalize es.getD (k+j-1) default=b at *;obtain⟨a1,a2⟩:=a;obtain⟨b1,b2⟩:=b;dsimp only at c0 c1 d0 d1;have hji:(j:Int)<((n-k:Nat):Int):=by omega
         have hwj:IntKind.i64.wrap ((j:Int)-1)=(j:Int)-1:=by rw[IntKind.wrap_i64];omega
         have htj:((j:Int)-1).toNat=j-1:=by omega
         have hj0:(0:Int)≤(j:Int)-1:=by omega
         have hjl:(j:Int)-1<((n-k:Nat):Int):=by omega
         have hii:(i:Int)<(n:Int):=by omega
         rcases HED.out with he | he
         · have hs:=HSK.out he;injection he with he1 he2;subst he1 he2;have HS1:=zh hs;clear hs HSK HKP HED;go_wp2_with fail
           go_region
           go_wp2_with fail;go_roundw;case rel=>exact⟨i,j+1,ys,rfl,by go_num,by omega,by omega,by omega,HS1.out,Own.own_later HO.out (Below.refl _ _).drew,HB.out.drew⟩
           case measure=>simp[intOf];omega
         · have hne:¬(a1=b1∧a2=b2):=fun hh=>he (by rw[hh.1,hh.2])
           have hpair:(a1==b1&&a2==b2)=false:=by
            rw[Bool.and_eq_false_iff];by_cases h1:a1=b1
            · exact .inr (beq_eq_false_iff_ne.2 fun h2=>hne ⟨h1,h2⟩)
            · exact .inl (beq_eq_false_iff_ne.2 h1)
           by_cases h1:a1=b1
           · subst h1;have hb2:(a2==b2)=false:=beq_eq_false_iff_ne.2 (fun hh=>hne ⟨rfl,hh⟩);go_wp2_with fail
             go_region
             go_wp2_with fail;go_roundw;case rel=>exact⟨i+1,j+1,_,by go_num,by go_num,by omega,by omega,by omega,HKP.out,(HWR.out (a1,a2)).1,(HWR.out (a1,a2)).2⟩
             case measure=>simp[intOf];omega
           · have hb1:(a1==b1)=false:=beq_eq_false_iff_ne.2 h1;go_wp2_with fail
             go_region
             go_wp2_with fail;go_roundw;case rel=>exact⟨i+1,j+1,_,by go_num,by go_num,by omega,by omega,by omega,HKP.out,(HWR.out (a1,a2)).1,(HWR.out (a1,a2)).2⟩
             case measure=>simp[intOf];omega
       · obtain rfl:j=n-k:=by omega
         have hji:¬(((n-k:Nat):Nat):Int)<((n-k:Nat):Int):=by omega
         have hin:i<n:=by omega
         obtain⟨w2,hcl,ho2,hg2⟩:=run_clear_own (P:=Tryz.prog) (i:=i) HO.out 44 Tryz.underlying44 _ zeroEdge rfl (fun u hu=>by have:=zero_cells_mem hu;simp[Value.cells]at this;rcases this with rfl | rfl <;> rfl) hin (cap-i);have HB2:Hid (Below base w w2):=HB.out.grown hg2 (by have:=HB.out.size;omega) (fun g' e=>by cases e;exact hbg);have HRR:Hid (w2.ownsRow base 48 2 (.slice (some ⟨g,0,none⟩) (ys.take i).length cap) (ys.take i).length (edC (ys.take i))):=by unfold Hid;rw[List.length_take,hyl,Nat.min_eq_left (Nat.le_of_lt hin),edC_take];exact ho2
         have HME:Hid (∀z,z∈ys.take i↔z∈es):=fun z=>by have h:=HS.out.mem z;have e:es.take (k+(n-k))=es:=List.take_of_length_le (by rw[HN.out];omega);rw[e]at h;exact h
         have hlt2:(ys.take i).length=i:=by rw[List.length_take,hyl];omega
         have hcn:¬cap=i:=by omega
         have hii2:(i:Int)≤(n:Int):=by omega
         have hii3:(i:Int)≤(cap:Int):=by omega
         clear ho2 hg2;rw[hlt2]at HRR;go_wp2_with (simp only[hcl]);go_ret;exact⟨_,ys.take i,rfl,by rw[hlt2];exact HRR.out,by rw[hlt2,HN.out];omega,HME.out,HB2.out⟩
    · have hne:¬(a1=b1∧a2=b2):=fun hh=>he (by rw[hh.1,hh.2]);by_cases h1:a1=b1
      · subst h1;have h2':¬a2=b2:=fun hh=>hne ⟨rfl,hh⟩;have hb2:(a2==b2)=false:=beq_eq_false_iff_ne.2 h2';go_wp2_with fail
        go_region
        go_wp2_with fail;go_roundw;case rel=>exact⟨k+1,by omega,by omega,by go_num,_,rfl⟩
        case measure=>simp[intOf];omega
      · have hb1:(a1==b1)=false:=beq_eq_false_iff_ne.2 h1;go_wp2_with fail
        go_region
        go_wp2_with fail;go_roundw;case rel=>exact⟨k+1,by omega,by omega,by go_num,_,rfl⟩
        case measure=>simp[intOf];omega
  · have hki:¬(k:Int)<(n:Int):=by omega
    go_wp2_with fail;go_ret;exact⟨_,es,rfl,by rw[HN.out];exact Own.own_later HO0.out (below_drewN (Below.refl _ _) _),by rw[HN.out];exact Nat.le_refl _,fun z=>Iff.rfl,(below_drewN (Below.refl _ _) _).mono hbw⟩
end Go.Proofs.YtlicffeicmoifaaGreatDoor
namespace Go.Proofs
open Go.Shelf
def Tryz.laysSlF06_f117_ren:Go.Shelf.Ren:=⟨fun | 6=>117 | 15=>209 | 14=>208 | 28=>270 | 29=>271 | 20=>262 | 21=>263 | 22=>264 | 23=>265 | 24=>266 | 25=>267 | 26=>268 | 27=>269 | 46=>309 | 47=>310 | 48=>311 | 49=>312 | 50=>313 | 57=>333 | n=>n,fun | 22=>44 | 24=>48 | 25=>146 | 3=>3 | 39=>201 | 0=>0 | 53=>243 | 55=>122 | 4=>4 | 46=>237 | 45=>236 | 50=>118 | 5=>5 | 9=>9 | 66=>271 | 70=>275 | 76=>291 | 77=>292 | n=>n,fun | n=>n⟩
theorem Tryz.laysSlF06_f117:Go.Proofs.SlLaysF0.n6 Tryz.prog Tryz.laysSlF06_f117_ren:={
 mixed:=by kernel_rfl
 f6:=⟨Tryz.f117.name,by decide,Tryz.func117.trans (congrArg some (by kernel_rfl))⟩
 f14:=⟨Tryz.f208.name,by decide,Tryz.func208.trans (congrArg some (by kernel_rfl))⟩
 f15:=Tryz.func209.trans (congrArg some (by kernel_rfl))
 f20:=⟨Tryz.f262.name,by decide,Tryz.func262.trans (congrArg some (by kernel_rfl))⟩
 f21:=⟨Tryz.f263.name,by decide,Tryz.func263.trans (congrArg some (by kernel_rfl))⟩
 f22:=⟨Tryz.f264.name,by decide,Tryz.func264.trans (congrArg some (by kernel_rfl))⟩
 f23:=⟨Tryz.f265.name,by decide,Tryz.func265.trans (congrArg some (by kernel_rfl))⟩
 f24:=⟨Tryz.f266.name,by decide,Tryz.func266.trans (congrArg some (by kernel_rfl))⟩
 f25:=⟨Tryz.f267.name,by decide,Tryz.func267.trans (congrArg some (by kernel_rfl))⟩
 f26:=⟨Tryz.f268.name,by decide,Tryz.func268.trans (congrArg some (by kernel_rfl))⟩
 f27:=⟨Tryz.f269.name,by decide,Tryz.func269.trans (congrArg some (by kernel_rfl))⟩
 f28:=Tryz.func270.trans (congrArg some (by kernel_rfl))
 f29:=Tryz.func271.trans (congrArg some (by kernel_rfl))
 f46:=⟨Tryz.f309.name,by decide,Tryz.func309.trans (congrArg some (by kernel_rfl))⟩
 f47:=Tryz.func310.trans (congrArg some (by kernel_rfl))
 f48:=Tryz.func311.trans (congrArg some (by kernel_rfl))
 f49:=⟨Tryz.f312.name,by decide,Tryz.func312.trans (congrArg some (by kernel_rfl))⟩
 f50:=⟨Tryz.f313.name,by decide,Tryz.func313.trans (congrArg some (by kernel_rfl))⟩
 f57:=⟨Tryz.f333.name,by decide,Tryz.func333.trans (congrArg some (by kernel_rfl))⟩
 t0:=Tryz.underlying0
 a0:=Tryz.isAgg0
 z0:=Tryz.sizeOf0
 v0:=Tryz.zeroValue0
 t3:=Tryz.underlying3
 a3:=Tryz.isAgg3
 z3:=Tryz.sizeOf3
 v3:=Tryz.zeroValue3
 t4:=Tryz.underlying4
 a4:=Tryz.isAgg4
 z4:=Tryz.sizeOf4
 v4:=Tryz.zeroValue4
 t5:=Tryz.underlying5
 a5:=Tryz.isAgg5
 z5:=Tryz.sizeOf5
 v5:=Tryz.zeroValue5
 t9:=Tryz.underlying9
 a9:=Tryz.isAgg9
 z9:=Tryz.sizeOf9
 v9:=Tryz.zeroValue9
 t22:=Tryz.underlying44
 a22:=Tryz.isAgg44
 z22:=Tryz.sizeOf44
 v22:=Tryz.zeroValue44
 t25:=Tryz.underlying146
 a25:=Tryz.isAgg146
 z25:=Tryz.sizeOf146
 v25:=Tryz.zeroValue146
 t39:=Tryz.underlying201
 a39:=Tryz.isAgg201
 z39:=Tryz.sizeOf201
 v39:=Tryz.zeroValue201
 t45:=Tryz.underlying236
 a45:=Tryz.isAgg236
 z45:=Tryz.sizeOf236
 v45:=Tryz.zeroValue236
 t46:=Tryz.underlying237
 a46:=Tryz.isAgg237
 z46:=Tryz.sizeOf237
 v46:=Tryz.zeroValue237
 t50:=Tryz.underlying118
 a50:=Tryz.isAgg118
 z50:=Tryz.sizeOf118
 v50:=Tryz.zeroValue118
 t53:=Tryz.underlying243
 a53:=Tryz.isAgg243
 z53:=Tryz.sizeOf243
 v53:=Tryz.zeroValue243
 t55:=Tryz.underlying122
 a55:=Tryz.isAgg122
 z55:=Tryz.sizeOf122
 v55:=Tryz.zeroValue122
 t66:=Tryz.underlying271
 a66:=Tryz.isAgg271
 z66:=Tryz.sizeOf271
 v66:=Tryz.zeroValue271
 t70:=Tryz.underlying275
 a70:=Tryz.isAgg275
 z70:=Tryz.sizeOf275
 v70:=Tryz.zeroValue275
 t76:=Tryz.underlying291
 a76:=Tryz.isAgg291
 z76:=Tryz.sizeOf291
 v76:=Tryz.zeroValue291
 t77:=Tryz.underlying292
 a77:=Tryz.isAgg292
 z77:=Tryz.sizeOf292
 v77:=Tryz.zeroValue292 }
end Go.Proofs
namespace Go.Proofs.YtlicffeicmoifaaGreatDoor
open Go.RowKit
set_option linter.unusedVariables false
set_option linter.unusedSimpArgs false
def cmpE (x y:Int × Int):Int:=orI (cmpI x.1 y.1) (cmpI x.2 y.2)
theorem cmpI_lt {a b:Int}:cmpI a b<0↔a<b:=by
 unfold cmpI;split
 · constructor <;> intro <;> omega
 · split <;> constructor <;> intro <;> omega
theorem cmpI_zero {a b:Int}:cmpI a b=0↔a=b:=by
 unfold cmpI;split
 · constructor <;> intro <;> omega
 · split <;> constructor <;> intro <;> omega
theorem cmpE_lt {x y:Int × Int}:cmpE x y<0↔x.1<y.1∨(x.1=y.1∧x.2<y.2):=by
 unfold cmpE orI;split
 · next h =>
   rw[cmpI_zero]at h;rw[cmpI_lt];constructor
   · intro h2;exact .inr ⟨h,h2⟩
   · rintro(h2 | h2)
     · omega
     · exact h2.2
 · next h =>
   rw[cmpI_zero]at h;rw[cmpI_lt];constructor
   · intro h2;exact .inl h2
   · rintro(h2 | h2)
     · exact h2
     · exact absurd h2.1 h
theorem cmpE_swo:Sort.SWO (Go.Proofs.ltOf cmpE):=by
 refine⟨fun x=>?_,fun x y z h1 h2=>?_,fun x y z h1 h2=>?_⟩
 · unfold ltOf;rw[decide_eq_false_iff_not,cmpE_lt];omega
 · unfold ltOf at *;rw[decide_eq_true_eq,cmpE_lt]at *;omega
 · unfold ltOf at *;rw[decide_eq_false_iff_not,cmpE_lt]at *;omega
theorem grow_three (w:World) (a b o:Obj):((w.alloc a).alloc b).drew.alloc o=Sort.grow (w.drewN 1) #[a,b,o]:=by
 have h:((w.heap.push a).push b).push o=w.heap++#[a,b,o]:=by apply Array.ext';simp
 show World.mk (((w.heap.push a).push b).push o) w.tape (w.drawn+1) w.os w.output=World.mk (w.heap++#[a,b,o]) w.tape (w.drawn+1) w.os w.output;rw[h]
set_option maxRecDepth 100000 in
theorem edgesOf1_any (x y:Int × Int) (w:World) :
 Calls Tryz.prog 118 #[.agg #[.int .i64 x.1,.int .i64 x.2],.agg #[.int .i64 y.1,.int .i64 y.2]] w fun e w'=>e=.returned (.int .i64 (cmpE x y))∧∃q os',w'=Sort.grow (w.drewN q) os':=by
 have HR:Hid (cmpE x y=orI (cmpI x.1 y.1) (cmpI x.2 y.2)):=rfl;generalize cmpE x y=R at *;obtain⟨x1,x2⟩:=x;obtain⟨y1,y2⟩:=y;dsimp only at HR ⊢;obtain⟨W,hW⟩:∃W,W=(w.alloc (.cells #[.int .i64 x1,.int .i64 x2] 48)).alloc (.cells #[.int .i64 y1,.int .i64 y2] 48):=⟨_,rfl⟩;have k0:Blk W w.heap.size 48 #[.int .i64 x1,.int .i64 x2]:=by subst hW;exact heap_two0 _ _ _
 have k1:Blk W (w.heap.size+1) 48 #[.int .i64 y1,.int .i64 y2]:=by subst hW;exact heap_two1 _ _ _
 have a0:=k0.at 0 rfl;have a1:=k0.at 1 rfl;have b0:=k1.at 0 rfl;have b1:=k1.at 1 rfl
 have HGW:Hid (∀o,∃q os',W.drew.alloc o=Sort.grow (w.drewN q) os'):=fun o=>⟨1,#[.cells #[.int .i64 x1,.int .i64 x2] 48,.cells #[.int .i64 y1,.int .i64 y2] 48,o],by
  subst hW
  exact grow_three w _ _ o⟩
 clear k0 k1;go_enter Tryz.func118,Tryz.ntmps118;go_wp2_with fail;rw[←hW];clear hW
 go_region_held3 (fun w'=>w'.cell? ⟨w.heap.size,0,none⟩=some (.int .i64 x1)∧w'.cell? ⟨w.heap.size,1,none⟩=some (.int .i64 x2)∧w'.cell? ⟨w.heap.size+1,0,none⟩=some (.int .i64 y1)∧w'.cell? ⟨w.heap.size+1,1,none⟩=some (.int .i64 y2)) (first | exact⟨a0,a1,b0,b1⟩ | exact⟨cell_later ((Below.refl _ _).drew.later (Below.new _ _)) a0,cell_later ((Below.refl _ _).drew.later (Below.new _ _)) a1,cell_later ((Below.refl _ _).drew.later (Below.new _ _)) b0,cell_later ((Below.refl _ _).drew.later (Below.new _ _)) b1⟩)
  (first
    | (go_at_call 120;refine(cmpI_any _ _ _).mono ?_;rintro e w1 ⟨rfl,rfl⟩)
    | (go_at_call 119;refine(Or2_any W.heap.size (cmpI x1 y1) (cmpI x2 y2) _ (by exact cell2_0 W _ _ _) (by exact cell2_1 W _ _ _)).mono ?_;rintro e w3 ⟨rfl,rfl⟩))
 all_goals (try go_wp2_with fail)
 all_goals go_ret
 all_goals exact⟨ret_int HR.out.symm,HGW.out _⟩
theorem flat_ed (es:List (Int × Int)):Sort.flatK edL 2 es.toArray=(edC es).toArray:=by
 apply Array.ext
 · simp[edC_len]
 · intro i h1 h2;have hlt:i<es.length*2:=by simpa [edC_len] using h2
   have h3:=Sort.get_flatK edL 2 es.toArray i (by simpa using hlt);rw[getElem!_pos _ i h1]at h3;rw[h3];obtain⟨e1,e2⟩:=edC_at es (i / 2) (by omega);have hd:es.toArray[i / 2]! =es.getD (i / 2) default:=by rw[List.getD_eq_getElem?_getD,List.getElem?_eq_getElem (by omega),Option.getD_some];simp[getElem!_pos,show i / 2<es.length by omega]
   rw[hd];have hm:i % 2=0∨i % 2=1:=by omega
   rcases hm with hm | hm
   · rw[show i / 2*2=i by omega]at e1;rw[hm];have:=List.getElem?_eq_some_iff.1 e1;obtain⟨_,h5⟩:=this;simp[edL,h5]
   · rw[show i / 2*2+1=i by omega]at e2;rw[hm];obtain⟨_,h5⟩:=List.getElem?_eq_some_iff.1 e2;simp[edL,h5]
theorem own_putRow2 {w:World} {base:Nat} {e:TypeId} {g n cap q size:Nat} {zs ys:List Value} (h:w.ownsRow base e size (.slice (some ⟨g,0,none⟩) n cap) n zs) (hy:ys.length=n*size) :
 (Sort.putRow id (Sort.ahead w q) g 0 ys.toArray).ownsRow base e size (.slice (some ⟨g,0,none⟩) n cap) n ys:=by
 rcases h.2 with ⟨e0,_⟩ | ⟨g',cap',cur,e0,hb,hg,hn,hm,hs,ht⟩
 · cases e0
 · injection e0 with e1 _ e3;injection e1 with e1;injection e1 with e1;subst e1;subst e3;have hmul:n*size≤cap*size:=Nat.mul_le_mul_right _ hn;refine⟨hy,.inr ⟨g,cap,Sort.putCells id 0 ys.toArray cur,rfl,hb,?_,hn,hm,by simpa [Sort.putCells] using hs,?_⟩⟩
   · simp[Sort.putRow,Sort.mapBlock,Sort.ahead,Array.getElem?_modify,hg,Sort.onCells]
   · apply List.ext_getElem?;intro j;rw[List.getElem?_take,Array.getElem?_toList];by_cases hj:j<n*size
     · have hjc:j<cur.size:=by rw[hs];omega
       simp only[if_pos hj,Sort.putCells,Array.getElem?_mapIdx,Array.getElem?_eq_getElem hjc,Option.map_some];rw[if_pos (by simp;omega),List.getElem?_eq_getElem (by omega)];simp[getElem!_pos,show j<ys.length by omega]
     · rw[if_neg hj,List.getElem?_eq_none (by omega)]
def SortEd (base:Nat) (v:Value) (es:List (Int × Int)) (w:World) (e:Ending) (w':World):Prop:=e=.returned (.tuple #[])∧∃rs:List (Int × Int),rs.Perm es∧w'.ownsRow base 48 2 v rs.length (edC rs)∧Below base w w'
theorem SortEd_any (base:Nat) (v:Value) (es:List (Int × Int)) (w:World) (h:w.ownsRow base 48 2 v es.length (edC es)) (hnn:v≠.slice none 0 0) (hBw:base≤w.heap.size) (hz:es.length≤1048576) :
 Calls Tryz.prog 117 #[v,.func (.func 118) #[] #[]] w (SortEd base v es w):=by
 have h0:=h;rcases h.2 with ⟨hv,_⟩ | ⟨g,cap,cur,rfl,hb,hg,hn,hm,hs,ht⟩
 · exact absurd hv hnn
 have hlt:g<w.heap.size:=Blk.lt (t:=48) hg;have eg:∀args w,(callFunc 118 args).run Tryz.prog w=.ok (.enter 118 args) w:=enters_of Tryz.func118 (by kernel_rfl) rfl
 have hH:Sort.HoldsK edL 2 w g 0 es.toArray:=by
  unfold Sort.HoldsK;rw[flat_ed];intro j hj;have hj':j<es.length*2:=by simpa [edC_len] using hj
  refine⟨?_,by rw[Nat.zero_add];exact h0.frozenAt j⟩;rw[Nat.zero_add];refine(h0.cellAt j hj').trans ?_;rw[List.getElem?_eq_getElem (by rw[edC_len];exact hj')];simp[getElem!_pos,edC_len,hj']
 have hK:=AnyQ.slices_SortFunc (α:=Int × Int) Tryz.laysSlF06_f117 2 (by intro w;kernel_rfl) (by intro w;kernel_rfl) edL (fun x=>rfl) (fun x v hv=>by
  simp only[edL,List.mem_cons,List.not_mem_nil,or_false]at hv
  rcases hv with rfl | rfl <;> rfl) cmpE cmpE_swo 118 #[] g 0 cap es.toArray w eg (fun m os dk hdk x y=>edgesOf1_any x y _) hH hlt (by simp;omega)
 have hK2:Calls Tryz.prog 117 #[.slice (some ⟨g,0,none⟩) es.length cap,.func (.func 118) #[] #[]] w _:=hK;refine hK2.mono ?_;rintro e w' ⟨he,d',n,os,⟨hsz,_,hperm⟩,_,hw⟩;have hsz':d'.size=es.length:=by simpa using hsz
 have hl:d'.toList.length=es.length:=by rw[Array.length_toList];exact hsz'
 refine⟨he,d'.toList,?_,?_,?_⟩
 · have e1:d'.extract 0 es.toArray.size=d':=by
    have:es.toArray.size=d'.size:=by simp[hsz']
    rw[this];simp
   rw[e1]at hperm;simpa using hperm
 · have h1:=own_putRow2 (q:=n) h0 (ys:=edC d'.toList) (by rw[edC_len,hl]);rw[hw,hl];have h2:sortWorldK edL 2 w g 0 n d' os=Sort.grow (Sort.putRow id (Sort.ahead w n) g 0 (edC d'.toList).toArray) os:=by unfold sortWorldK Sort.putRowK;rw[←flat_ed d'.toList,Array.toArray_toList]
   rw[h2];exact Own.own_later h1 (Lib.below_grow _ _ (Nat.le_refl _) 0 os)
 · rw[hw];have h2:sortWorldK edL 2 w g 0 n d' os=Sort.grow (Sort.putRow id (Sort.ahead w n) g 0 (Sort.flatK edL 2 d')) os:=rfl;rw[h2];have h3:Below base w (Sort.putRow id (Sort.ahead w n) g 0 (Sort.flatK edL 2 d')):=Lib.below_putRow (Below.refl base w) hb;exact h3.trans (Lib.below_grow base _ (Nat.le_trans hBw h3.size) 0 os)
end Go.Proofs.YtlicffeicmoifaaGreatDoor
