import Derived.Test.YtlicffeicmoifaaGreatDoorZ00
import Derived.Test.YtlicffeicmoifaaGreatDoorZ01
import Derived.Test.YtlicffeicmoifaaGreatDoorZ02
import Derived.Test.YtlicffeicmoifaaGreatDoorZ03
import Derived.Test.YtlicffeicmoifaaGreatDoorZ04
import Derived.Test.YtlicffeicmoifaaGreatDoorZ05
import Derived.Test.YtlicffeicmoifaaGreatDoorZ06
import Derived.Test.YtlicffeicmoifaaGreatDoorZ07
import Derived.Test.YtlicffeicmoifaaGreatDoorZ08
import Derived.Test.YtlicffeicmoifaaGreatDoorZ09
import Derived.Test.YtlicffeicmoifaaGreatDoorZ10
import Derived.Test.YtlicffeicmoifaaGreatDoorZ11
import Derived.Test.YtlicffeicmoifaaGreatDoorZ12
import Derived.Test.YtlicffeicmoifaaGreatDoorZ13
import Derived.Test.YtlicffeicmoifaaGreatDoorZ14
import Derived.Test.YtlicffeicmoifaaGreatDoorZ15
import Derived.Test.YtlicffeicmoifaaGreatDoorZ16
import Derived.Test.YtlicffeicmoifaaGreatDoorZ17
import Derived.Test.YtlicffeicmoifaaGreatDoorZ18
import Derived.Test.YtlicffeicmoifaaGreatDoorZ19
import Derived.Test.YtlicffeicmoifaaGreatDoorZ20
import Derived.Test.YtlicffeicmoifaaGreatDoorZ21
import Derived.Test.YtlicffeicmoifaaGreatDoorZ22
import Derived.Test.YtlicffeicmoifaaGreatDoorZ23
import Derived.Test.YtlicffeicmoifaaGreatDoorZ24
import Derived.Test.YtlicffeicmoifaaGreatDoorZ25
import Derived.Test.YtlicffeicmoifaaGreatDoorZ26
import Derived.Test.YtlicffeicmoifaaGreatDoorZ27
import Derived.Test.YtlicffeicmoifaaGreatDoorZ28
import Derived.Test.YtlicffeicmoifaaGreatDoorZ29
import Derived.Test.YtlicffeicmoifaaGreatDoorZ30
import Derived.Test.YtlicffeicmoifaaGreatDoorZ31
import Derived.Test.YtlicffeicmoifaaGreatDoorZ32
import Derived.Test.YtlicffeicmoifaaGreatDoorZ33
import Derived.Test.YtlicffeicmoifaaGreatDoorZ34
import Derived.Test.YtlicffeicmoifaaGreatDoorZ35
import Derived.Test.YtlicffeicmoifaaGreatDoorZ36
import Derived.Test.YtlicffeicmoifaaGreatDoorZ37
import Derived.Test.YtlicffeicmoifaaGreatDoorZ38
import Derived.Test.YtlicffeicmoifaaGreatDoorZ39
import Derived.Test.YtlicffeicmoifaaGreatDoorZ40
import Derived.Test.YtlicffeicmoifaaGreatDoorZ41
import Derived.Test.YtlicffeicmoifaaGreatDoorZ42
import Derived.Test.YtlicffeicmoifaaGreatDoorY00
import Derived.Test.YtlicffeicmoifaaGreatDoorProg
import Derived.BigQuiet
import Derived.Deep.AppendLies
import Derived.Deep.CutBlock
import Derived.Deep.DeepCutAuto
import Derived.Deep.QuietTactic
import Derived.Deep.RegionHeld3
import Derived.Deep.RegionLaw
import Derived.Deep.RegionWith
import Derived.Ground.Names2Prog
import Derived.Ground.SlgnProg
import Derived.IntWalk
import Derived.Laws.CopyOwn
import Derived.Laws.CopyRow
import Derived.Laws.IdiomStrings
import Derived.Laws.OwnMore
import Derived.Lib.AppendIntMem
import Derived.Lib.BufferWrite
import Derived.Lib.Hide
import Derived.Lib.IndexAny
import Derived.Lib.IndexBytes
import Derived.Lib.ItoaNum
import Derived.Lib.Join
import Derived.Lib.OwnBridge
import Derived.Lib.SlTrimSet
import Derived.Lib.SliceRun
import Derived.Lib.SplitLaws
import Derived.Lib.Strings
import Derived.Lib.TrimUEq
import Derived.LoopIn
import Derived.LoopNIn
import Derived.Maps.AppendAt
import Derived.OwnWalk
import Derived.OwnWalkIn
import Derived.RangeFuncBox
import Derived.RangeFuncLeaves
import Derived.RegionTactic
import Derived.Shelf.Abstract
import Derived.Shelf.GgClosure.StringsIndexFuncTop
import Derived.Shelf.LaysM
import Derived.Shelf.Slices.Cells
import Derived.Shelf.Slices.Clone
import Derived.Shelf.Slices.CompactS
import Derived.Shelf.Slices.Empties2
import Derived.Shelf.Slices.Equal
import Derived.Shelf.SlicesE.Clone
import Derived.Shelf.SlicesG.CompactI
import Derived.Shelf.SlicesG.Delete
import Derived.Shelf.SlicesG.SearchI
import Derived.Shelf.Small.Bits
import Derived.Shelf.Small.Strs
import Derived.Shelf.Small.Utf8
import Derived.Shelf.Small.Wraps
import Derived.Shelf.Strconv.Itoa0
import Derived.Shelf.Strconv.Itoa1
import Derived.Shelf.Strconv.Itoa2
import Derived.Shelf.Strconv.Itoa3
import Derived.Shelf.Strconv.Itoa4
import Derived.Shelf.Strings.AsciiSet
import Derived.Shelf.Strings.Builder1
import Derived.Shelf.Strings.Builder2
import Derived.Shelf.Strings.Count
import Derived.Shelf.Strings.OnBuilder
import Derived.Shelf.Strings.Prefix
import Derived.Shelf.Strings.Replace
import Derived.Shelf.Strings.RuneCount
import Derived.Shelf.Strings.Runes
import Derived.Shelf.Strings.Search1
import Derived.Shelf.Strings.Search2
import Derived.Shelf.Strings.Search3
import Derived.Shelf.Strings.Shaped
import Derived.Shelf.Strings.SlTrimAscii
import Derived.Shelf.Strings.Split
import Derived.Shelf.Strings.SplitShaped
import Derived.Shelf.Strings.Trim
import Derived.Shelf.Unicode.Decode
import Derived.Shelf.Unicode.DecodeAny
import Derived.Shelf.Unicode.DecodeLast
import Derived.Shelf.Unicode.DecodeSlow
import Derived.Shelf.Unicode.PredsPay
import Derived.TacticsInMore
import Derived.WalkKit
import Derived.WalkLawsBesides
import Derived.WalkSpells
set_option linter.unusedSimpArgs false
open Go.Lib renaming hid → zh
open List renaming getElem_cons_succ → zE, getElem_cons_zero → zF, getElem_toArray → zD, setIfInBounds_toArray → zA, set_cons_succ → zC, set_cons_zero → zB
namespace Go.Proofs.YtlicffeicmoifaaGreatDoor
open Go.RowKit
set_option linter.unusedVariables false
set_option linter.unusedSimpArgs false
theorem edge_step {l:List DoD} {a b:Int} {k:Nat} (h:k<l.length):edgeB (l.drop k) a b=((decide ((l.getD k default).job=a)&&(l.drop (k+1)).any fun y=>decide (y.job=b)&&confB (l.getD k default).ev y.ev)||edgeB (l.drop (k+1)) a b):=by
 rw[List.drop_eq_getElem_cons h,List.getD_eq_getElem?_getD,List.getElem?_eq_getElem h];rfl
theorem any_stepQ {α:Type} [Inhabited α] (p:α→Bool) (l:List α) (k:Nat) (h:k<l.length):(l.drop k).any p=(p (l.getD k default)||(l.drop (k+1)).any p):=by
 rw[List.drop_eq_getElem_cons h,List.getD_eq_getElem?_getD,List.getElem?_eq_getElem h];rfl
theorem conf_note {a b:EvD} (ha:noteB a=true) (hb:noteB b=true):confB a b=confT a b:=by
 rw[conf_eq,ha,hb];rfl
set_option maxRecDepth 100000 in
set_option maxHeartbeats 16000000 in
theorem l28Edge_any (A:Option Addr) (n c:Nat) (l:List DoD) (a b:Int) (w:World) (h:Dos w w.heap.size A n l) (hd:doingsB l=true) (hok:okDs l) :
 Calls Tryz.prog 127 #[.slice A n c,.int .i64 a,.int .i64 b] w fun e w'=>e=.returned (.bool (edgeB l a b))∧Below w.heap.size w w':=by
 have HEV:=zh h;have HL:=zh h.1;have HNO:=zh (fun d (hm:d∈l)=>((doings_all hd).2 d hm).2);have HOK:=zh hok.2;have hn:n≤60:=by rw[←h.1];exact(doings_all hd).1
 have HR0:Hid (edgeB l a b=edgeB (l.drop 0) a b):=rfl;clear h hd hok;generalize edgeB l a b=RES at *;go_enter Tryz.func127,Tryz.ntmps127;go_wp2_with fail;go_loopw [7] (fun i wr=>∃k:Nat,k≤n∧i=.int .i64 k∧Below w.heap.size w wr∧Hid (RES=edgeB (l.drop k) a b)) (fun i _=>n-(intOf i).toNat);case atStart=>exact⟨0,Nat.zero_le _,rfl,Below.refl _ _,HR0.out⟩
 case round =>
  obtain⟨k,hk,rfl,hb,HRES⟩:=hrel;have HBK:=zh hb;clear hb HR0;by_cases hlt:k<n
  · have hl:k<l.length:=by rw[HL.out];exact hlt
    have HSTK:=zh (edge_step (a:=a) (b:=b) hl);obtain⟨bb,o,Sa,ma,ca,rfl,hata⟩:=dos_at HEV.out hlt;have hxo:=HOK.out _ (getD_memQ l k hl);have hxn:=HNO.out _ (getD_memQ l k hl);have HXO:=zh hxo;have HXN:=zh hxn;have HATA:=zh hata;generalize l.getD k default=x at *;have hki:(k:Int)<(n:Int):=by omega
    clear hl hxo hxn hata;go_wp2_with fail;go_loopw [8] (fun jv wx=>∃j:Nat,k+1≤j∧j≤n∧jv=.int .i64 j∧Below w.heap.size w wx∧Hid (RES=((decide (x.job=a)&&(l.drop j).any fun y=>decide (y.job=b)&&confB x.ev y.ev)||edgeB (l.drop (k+1)) a b))) (fun jv _=>n-(intOf jv).toNat);case atStart=>exact⟨k+1,Nat.le_refl _,by omega,by go_num,HBK.out,HRES.out.trans HSTK.out⟩
    case round =>
     obtain⟨j,hj1,hj2,rfl,hb,hS⟩:=hrel;obtain⟨wx,rfl⟩:∃wx,wx=wr:=⟨wr,rfl⟩;have HB:=zh hb;clear hb HBK;by_cases hjlt:j<n
     · have hl:j<l.length:=by rw[HL.out];exact hjlt
       obtain⟨bb',o',Sb,mb,cb,he,hatb⟩:=dos_at HEV.out hjlt;cases he;have hyo:=HOK.out _ (getD_memQ l j hl);have hyn:=HNO.out _ (getD_memQ l j hl);have HST:=zh (any_stepQ (fun y=>decide (y.job=b)&&confB x.ev y.ev) l j hl);generalize l.getD j default=y at *;have hji:(j:Int)<(n:Int):=by omega
       have HSS:Hid (∀W,Below wx.heap.size wx W→(W.cell? ⟨bb,o+k*6,none⟩=some (.int .i64 x.job)∧W.cell? ⟨bb,o+k*6+1,none⟩=some (.int .i64 x.ev.kind)∧W.cell? ⟨bb,o+k*6+2,none⟩=some (.string x.ev.name)∧W.cell? ⟨bb,o+k*6+3,none⟩=some (.slice Sa ma ca)∧W.cell? ⟨bb,o+k*6+4,none⟩=some (.string x.ev.val)∧W.cell? ⟨bb,o+k*6+5,none⟩=some (.int .i64 x.ev.n)∧W.cell? ⟨bb,o+j*6,none⟩=some (.int .i64 y.job)∧W.cell? ⟨bb,o+j*6+1,none⟩=some (.int .i64 y.ev.kind)∧W.cell? ⟨bb,o+j*6+2,none⟩=some (.string y.ev.name)∧W.cell? ⟨bb,o+j*6+3,none⟩=some (.slice Sb mb cb)∧W.cell? ⟨bb,o+j*6+4,none⟩=some (.string y.ev.val)∧W.cell? ⟨bb,o+j*6+5,none⟩=some (.int .i64 y.ev.n))):=fun W hW=>by obtain⟨a0,a1,a2,a3,a4,a5⟩:=(HATA.out _ (HB.out.later hW)).1;obtain⟨b0,b1,b2,b3,b4,b5⟩:=(hatb _ (HB.out.later hW)).1;exact⟨a0,a1,a2,a3,a4,a5,b0,b1,b2,b3,b4,b5⟩
       have HKC:=zh (fun W (hW:Below wx.heap.size wx W)=>l28Conflict_any _ _ _ _ _ _ _ _ _ _ x.ev y.ev W (HATA.out _ (HB.out.later hW)).2 (hatb _ (HB.out.later hW)).2 HXO.out.1.2.1.1 hyo.1.2.1.1 (note_area HXN.out) (note_area hyn));have hcn:=conf_note HXN.out hyn;try dsimp only at HST
       rw[hcn]at HST;clear hl hyo hyn hatb hcn;generalize confT x.ev y.ev=cf at *;have HBD0:Hid (Below w.heap.size w wx.drew):=HB.out.drew;generalize hxj:x.job=xj at *;generalize hyj:y.job=yj at *;clear hxj hyj;by_cases hxa:xj=a
       case neg =>
        have hxb:(xj==a)=false:=beq_eq_false_iff_ne.2 hxa;have HBD:=HBD0;have hda:decide (xj=a)=false:=decide_eq_false hxa;go_wp2_with fail;refine wpEnd_begin (S:=fun W=>W.cell? ⟨bb,o+k*6,none⟩=some (.int .i64 xj)∧W.cell? ⟨bb,o+k*6+1,none⟩=some (.int .i64 x.ev.kind)∧W.cell? ⟨bb,o+k*6+2,none⟩=some (.string x.ev.name)∧W.cell? ⟨bb,o+k*6+3,none⟩=some (.slice Sa ma ca)∧W.cell? ⟨bb,o+k*6+4,none⟩=some (.string x.ev.val)∧W.cell? ⟨bb,o+k*6+5,none⟩=some (.int .i64 x.ev.n)∧W.cell? ⟨bb,o+j*6,none⟩=some (.int .i64 yj)∧W.cell? ⟨bb,o+j*6+1,none⟩=some (.int .i64 y.ev.kind)∧W.cell? ⟨bb,o+j*6+2,none⟩=some (.string y.ev.name)∧W.cell? ⟨bb,o+j*6+3,none⟩=some (.slice Sb mb cb)∧W.cell? ⟨bb,o+j*6+4,none⟩=some (.string y.ev.val)∧W.cell? ⟨bb,o+j*6+5,none⟩=some (.int .i64 y.ev.n)) 28 (by kernel_rfl) ?hSa (fun hHeld=>?rga);case hSa=>exact HSS.out _ (Below.refl _ _).drew
        refine wt 0 ?aa1 [16,7,6,4,3,2] ?ab2 ?ac3;case ab2=>intro w hSw;(try dsimp only at hSw);obtain⟨s0,s1,s2,s3,s4,s5,s6,s7,s8,s9,s10,s11⟩:=hSw;go_simp;(try with_reducible rfl)
        try simp only[Act.put,zA,zB,zC,zD,zF]
        refine wt 1 ?aa4 [16,7,6,4,3,2] ?ab5 ?ac6;case ab5=>intro w hSw;(try dsimp only at hSw);obtain⟨s0,s1,s2,s3,s4,s5,s6,s7,s8,s9,s10,s11⟩:=hSw;go_simp;(try with_reducible rfl)
        try simp only[Act.put,zA,zB,zC,zD,zE,zF]
        refine wt 2 ?aa7 [16,7,6,4,3] ?ab8 ?ac9;case ab8=>intro w hSw;(try dsimp only at hSw);obtain⟨s0,s1,s2,s3,s4,s5,s6,s7,s8,s9,s10,s11⟩:=hSw;go_simp;(try with_reducible rfl)
        try simp only[Act.put,zA,zB,zC,zD,zE,zF]
        refine wt 3 ?aa10 [16,7,6,4] ?ab11 ?ac12;case ab11=>intro w hSw;(try dsimp only at hSw);obtain⟨s0,s1,s2,s3,s4,s5,s6,s7,s8,s9,s10,s11⟩:=hSw;go_simp;(try with_reducible rfl)
        try simp only[Act.put,zA,zB,zC,zD,zE,zF]
        refine wt 4 ?aa13 [16,7,6] ?ab14 ?ac15;case ab14=>intro w hSw;(try dsimp only at hSw);obtain⟨s0,s1,s2,s3,s4,s5,s6,s7,s8,s9,s10,s11⟩:=hSw;go_simp;(try with_reducible rfl)
        try simp only[Act.put,zA,zB,zC,zD,zE,zF]
        refine wt 5 ?aa16 [16,7,6] ?ab17 ?ac18;case ab17=>intro w hSw;(try dsimp only at hSw);obtain⟨s0,s1,s2,s3,s4,s5,s6,s7,s8,s9,s10,s11⟩:=hSw;go_simp;(try with_reducible rfl)
        try simp only[Act.put,zA,zB,zC,zD,zE,zF]
        refine wt 6 ?aa19 [16,7] ?ab20 ?ac21;case ab20=>intro w hSw;(try dsimp only at hSw);obtain⟨s0,s1,s2,s3,s4,s5,s6,s7,s8,s9,s10,s11⟩:=hSw;go_simp;(try with_reducible rfl)
        try simp only[Act.put,zA,zB,zC,zD,zE,zF]
        refine wt 7 ?aa22 [16] ?ab23 ?ac24;case ab23=>intro w hSw;(try dsimp only at hSw);obtain⟨s0,s1,s2,s3,s4,s5,s6,s7,s8,s9,s10,s11⟩:=hSw;go_simp;(try with_reducible rfl)
        try simp only[Act.put,zA,zB,zC,zD,zE,zF]
        refine wu 8 [16,15,14,12,11,10] ?ac25;try simp only[Act.put,zA,zB,zC,zD,zE,zF]
        refine wu 9 [16,15,14,12,11,10] ?ac26;try simp only[Act.put,zA,zB,zC,zD,zE,zF]
        refine wu 10 [16,15,14,12,11] ?ac27;try simp only[Act.put,zA,zB,zC,zD,zE,zF]
        refine wu 11 [16,15,14,12] ?ac28;try simp only[Act.put,zA,zB,zC,zD,zE,zF]
        refine wu 12 [16,15,14] ?ac29;try simp only[Act.put,zA,zB,zC,zD,zE,zF]
        refine wu 13 [16,15,14] ?ac30;try simp only[Act.put,zA,zB,zC,zD,zE,zF]
        refine wu 14 [16,15] ?ac31;try simp only[Act.put,zA,zB,zC,zD,zE,zF]
        refine wt 15 ?aa32 [16] ?ab33 ?ac34;case ab33=>intro w hSw;(try dsimp only at hSw);obtain⟨s0,s1,s2,s3,s4,s5,s6,s7,s8,s9,s10,s11⟩:=hSw;go_simp;(try with_reducible rfl)
        try simp only[Act.put,zA,zB,zC,zD,zE,zF]
        refine wt 16 ?aa35 [] ?ab36 ?ac37;case ab36=>intro w hSw;(try dsimp only at hSw);obtain⟨s0,s1,s2,s3,s4,s5,s6,s7,s8,s9,s10,s11⟩:=hSw;go_simp;(try with_reducible rfl)
        try simp only[Act.put,zA,zB,zC,zD,zE,zF]
        refine wu 17 [27,21,20,19] ?ac38;try simp only[Act.put,zA,zB,zC,zD,zE,zF]
        refine wu 18 [27,21,20,19] ?ac39;try simp only[Act.put,zA,zB,zC,zD,zE,zF]
        refine wu 19 [27,21,20] ?ac40;try simp only[Act.put,zA,zB,zC,zD,zE,zF]
        refine wu 20 [27,21] ?ac41;try simp only[Act.put,zA,zB,zC,zD,zE,zF]
        refine wu 21 [27] ?ac42;try simp only[Act.put,zA,zB,zC,zD,zE,zF]
        refine wu 22 [27,26,25,24] ?ac43;try simp only[Act.put,zA,zB,zC,zD,zE,zF]
        refine wu 23 [27,26,25,24] ?ac44;try simp only[Act.put,zA,zB,zC,zD,zE,zF]
        refine wu 24 [27,26,25] ?ac45;try simp only[Act.put,zA,zB,zC,zD,zE,zF]
        refine wu 25 [27,26] ?ac46;try simp only[Act.put,zA,zB,zC,zD,zE,zF]
        refine wu 26 [27] ?ac47;try simp only[Act.put,zA,zB,zC,zD,zE,zF]
        refine wu 27 [] ?ac48;try simp only[Act.put,zA,zB,zC,zD,zE,zF]
        refine wpEnd_ready (rs:=[28]) (by kernel_rfl) (by simp) ?_;refine AllReadyE.cons rfl (fun KW hK=>?ast49) AllReadyE.nil;go_simp;refine hK.out _ _ (fun h=>absurd rfl h) (fun hHeld=>?ars51);clear hK KW;try simp only[Act.put,zA,zB,zC,zD,zE,zF]
        refine wpEnd_done (by kernel_rfl) ?_ _;go_wp2_with fail;go_roundw;case rel=>exact⟨j+1,by omega,by omega,by go_num,HBD.out,by unfold Hid;rw[hS.out,hda];rfl⟩
        case measure=>simp[intOf];omega
       subst hxa;by_cases hyb:yj=b
       case neg =>
        have hyb':(yj==b)=false:=beq_eq_false_iff_ne.2 hyb;have HBD:=HBD0;have hdb:decide (yj=b)=false:=decide_eq_false hyb;go_wp2_with fail;refine wpEnd_begin (S:=fun W=>W.cell? ⟨bb,o+k*6,none⟩=some (.int .i64 xj)∧W.cell? ⟨bb,o+k*6+1,none⟩=some (.int .i64 x.ev.kind)∧W.cell? ⟨bb,o+k*6+2,none⟩=some (.string x.ev.name)∧W.cell? ⟨bb,o+k*6+3,none⟩=some (.slice Sa ma ca)∧W.cell? ⟨bb,o+k*6+4,none⟩=some (.string x.ev.val)∧W.cell? ⟨bb,o+k*6+5,none⟩=some (.int .i64 x.ev.n)∧W.cell? ⟨bb,o+j*6,none⟩=some (.int .i64 yj)∧W.cell? ⟨bb,o+j*6+1,none⟩=some (.int .i64 y.ev.kind)∧W.cell? ⟨bb,o+j*6+2,none⟩=some (.string y.ev.name)∧W.cell? ⟨bb,o+j*6+3,none⟩=some (.slice Sb mb cb)∧W.cell? ⟨bb,o+j*6+4,none⟩=some (.string y.ev.val)∧W.cell? ⟨bb,o+j*6+5,none⟩=some (.int .i64 y.ev.n)) 28 (by kernel_rfl) ?hSb (fun hHeld=>?rgb);case hSb=>exact HSS.out _ (Below.refl _ _).drew
        refine wt 0 ?ba1 [16,7,6,4,3,2] ?bb2 ?bc3;case bb2=>intro w hSw;(try dsimp only at hSw);obtain⟨s0,s1,s2,s3,s4,s5,s6,s7,s8,s9,s10,s11⟩:=hSw;go_simp;(try with_reducible rfl)
        try simp only[Act.put,zA,zB,zC,zD,zF]
        refine wt 1 ?ba4 [16,7,6,4,3,2] ?bb5 ?bc6;case bb5=>intro w hSw;(try dsimp only at hSw);obtain⟨s0,s1,s2,s3,s4,s5,s6,s7,s8,s9,s10,s11⟩:=hSw;go_simp;(try with_reducible rfl)
        try simp only[Act.put,zA,zB,zC,zD,zE,zF]
        refine wt 2 ?ba7 [16,7,6,4,3] ?bb8 ?bc9;case bb8=>intro w hSw;(try dsimp only at hSw);obtain⟨s0,s1,s2,s3,s4,s5,s6,s7,s8,s9,s10,s11⟩:=hSw;go_simp;(try with_reducible rfl)
        try simp only[Act.put,zA,zB,zC,zD,zE,zF]
        refine wt 3 ?ba10 [16,7,6,4] ?bb11 ?bc12;case bb11=>intro w hSw;(try dsimp only at hSw);obtain⟨s0,s1,s2,s3,s4,s5,s6,s7,s8,s9,s10,s11⟩:=hSw;go_simp;(try with_reducible rfl)
        try simp only[Act.put,zA,zB,zC,zD,zE,zF]
        refine wt 4 ?ba13 [16,7,6] ?bb14 ?bc15;case bb14=>intro w hSw;(try dsimp only at hSw);obtain⟨s0,s1,s2,s3,s4,s5,s6,s7,s8,s9,s10,s11⟩:=hSw;go_simp;(try with_reducible rfl)
        try simp only[Act.put,zA,zB,zC,zD,zE,zF]
        refine wt 5 ?ba16 [16,7,6] ?bb17 ?bc18;case bb17=>intro w hSw;(try dsimp only at hSw);obtain⟨s0,s1,s2,s3,s4,s5,s6,s7,s8,s9,s10,s11⟩:=hSw;go_simp;(try with_reducible rfl)
        try simp only[Act.put,zA,zB,zC,zD,zE,zF]
        refine wt 6 ?ba19 [16,7] ?bb20 ?bc21;case bb20=>intro w hSw;(try dsimp only at hSw);obtain⟨s0,s1,s2,s3,s4,s5,s6,s7,s8,s9,s10,s11⟩:=hSw;go_simp;(try with_reducible rfl)
        try simp only[Act.put,zA,zB,zC,zD,zE,zF]
        refine wt 7 ?ba22 [16] ?bb23 ?bc24;case bb23=>intro w hSw;(try dsimp only at hSw);obtain⟨s0,s1,s2,s3,s4,s5,s6,s7,s8,s9,s10,s11⟩:=hSw;go_simp;(try with_reducible rfl)
        try simp only[Act.put,zA,zB,zC,zD,zE,zF]
        refine wt 8 ?ba25 [16,15,14,12,11,10] ?bb26 ?bc27;case bb26=>intro w hSw;(try dsimp only at hSw);obtain⟨s0,s1,s2,s3,s4,s5,s6,s7,s8,s9,s10,s11⟩:=hSw;go_simp;(try with_reducible rfl)
        try simp only[Act.put,zA,zB,zC,zD,zE,zF]
        refine wt 9 ?ba28 [16,15,14,12,11,10] ?bb29 ?bc30;case bb29=>intro w hSw;(try dsimp only at hSw);obtain⟨s0,s1,s2,s3,s4,s5,s6,s7,s8,s9,s10,s11⟩:=hSw;go_simp;(try with_reducible rfl)
        try simp only[Act.put,zA,zB,zC,zD,zE,zF]
        refine wt 10 ?ba31 [16,15,14,12,11] ?bb32 ?bc33;case bb32=>intro w hSw;(try dsimp only at hSw);obtain⟨s0,s1,s2,s3,s4,s5,s6,s7,s8,s9,s10,s11⟩:=hSw;go_simp;(try with_reducible rfl)
        try simp only[Act.put,zA,zB,zC,zD,zE,zF]
        refine wt 11 ?ba34 [16,15,14,12] ?bb35 ?bc36;case bb35=>intro w hSw;(try dsimp only at hSw);obtain⟨s0,s1,s2,s3,s4,s5,s6,s7,s8,s9,s10,s11⟩:=hSw;go_simp;(try with_reducible rfl)
        try simp only[Act.put,zA,zB,zC,zD,zE,zF]
        refine wt 12 ?ba37 [16,15,14] ?bb38 ?bc39;case bb38=>intro w hSw;(try dsimp only at hSw);obtain⟨s0,s1,s2,s3,s4,s5,s6,s7,s8,s9,s10,s11⟩:=hSw;go_simp;(try with_reducible rfl)
        try simp only[Act.put,zA,zB,zC,zD,zE,zF]
        refine wt 13 ?ba40 [16,15,14] ?bb41 ?bc42;case bb41=>intro w hSw;(try dsimp only at hSw);obtain⟨s0,s1,s2,s3,s4,s5,s6,s7,s8,s9,s10,s11⟩:=hSw;go_simp;(try with_reducible rfl)
        try simp only[Act.put,zA,zB,zC,zD,zE,zF]
        refine wt 14 ?ba43 [16,15] ?bb44 ?bc45;case bb44=>intro w hSw;(try dsimp only at hSw);obtain⟨s0,s1,s2,s3,s4,s5,s6,s7,s8,s9,s10,s11⟩:=hSw;go_simp;(try with_reducible rfl)
        try simp only[Act.put,zA,zB,zC,zD,zE,zF]
        refine wt 15 ?ba46 [16] ?bb47 ?bc48;case bb47=>intro w hSw;(try dsimp only at hSw);obtain⟨s0,s1,s2,s3,s4,s5,s6,s7,s8,s9,s10,s11⟩:=hSw;go_simp;(try with_reducible rfl)
        try simp only[Act.put,zA,zB,zC,zD,zE,zF]
        refine wt 16 ?ba49 [] ?bb50 ?bc51;case bb50=>intro w hSw;(try dsimp only at hSw);obtain⟨s0,s1,s2,s3,s4,s5,s6,s7,s8,s9,s10,s11⟩:=hSw;go_simp;(try with_reducible rfl)
        try simp only[Act.put,zA,zB,zC,zD,zE,zF]
        refine wu 17 [27,21,20,19] ?bc52;try simp only[Act.put,zA,zB,zC,zD,zE,zF]
        refine wu 18 [27,21,20,19] ?bc53;try simp only[Act.put,zA,zB,zC,zD,zE,zF]
        refine wu 19 [27,21,20] ?bc54;try simp only[Act.put,zA,zB,zC,zD,zE,zF]
        refine wu 20 [27,21] ?bc55;try simp only[Act.put,zA,zB,zC,zD,zE,zF]
        refine wu 21 [27] ?bc56;try simp only[Act.put,zA,zB,zC,zD,zE,zF]
        refine wu 22 [27,26,25,24] ?bc57;try simp only[Act.put,zA,zB,zC,zD,zE,zF]
        refine wu 23 [27,26,25,24] ?bc58;try simp only[Act.put,zA,zB,zC,zD,zE,zF]
        refine wu 24 [27,26,25] ?bc59;try simp only[Act.put,zA,zB,zC,zD,zE,zF]
        refine wu 25 [27,26] ?bc60;try simp only[Act.put,zA,zB,zC,zD,zE,zF]
        refine wu 26 [27] ?bc61;try simp only[Act.put,zA,zB,zC,zD,zE,zF]
        refine wu 27 [] ?bc62;try simp only[Act.put,zA,zB,zC,zD,zE,zF]
        refine wpEnd_ready (rs:=[28]) (by kernel_rfl) (by simp) ?_;refine AllReadyE.cons rfl (fun KW hK=>?bst63) AllReadyE.nil;go_simp;refine hK.out _ _ (fun h=>absurd rfl h) (fun hHeld=>?brs65);clear hK KW;try simp only[Act.put,zA,zB,zC,zD,zE,zF]
        refine wpEnd_done (by kernel_rfl) ?_ _;go_wp2_with fail;go_roundw;case rel=>exact⟨j+1,by omega,by omega,by go_num,HBD.out,by unfold Hid;rw[hS.out,HST.out,hdb];simp⟩
        case measure=>simp[intOf];omega
       subst hyb;cases cf
       case false =>
        go_wp2_with fail;refine wpEnd_begin (S:=fun W=>W.cell? ⟨bb,o+k*6,none⟩=some (.int .i64 xj)∧W.cell? ⟨bb,o+k*6+1,none⟩=some (.int .i64 x.ev.kind)∧W.cell? ⟨bb,o+k*6+2,none⟩=some (.string x.ev.name)∧W.cell? ⟨bb,o+k*6+3,none⟩=some (.slice Sa ma ca)∧W.cell? ⟨bb,o+k*6+4,none⟩=some (.string x.ev.val)∧W.cell? ⟨bb,o+k*6+5,none⟩=some (.int .i64 x.ev.n)∧W.cell? ⟨bb,o+j*6,none⟩=some (.int .i64 yj)∧W.cell? ⟨bb,o+j*6+1,none⟩=some (.int .i64 y.ev.kind)∧W.cell? ⟨bb,o+j*6+2,none⟩=some (.string y.ev.name)∧W.cell? ⟨bb,o+j*6+3,none⟩=some (.slice Sb mb cb)∧W.cell? ⟨bb,o+j*6+4,none⟩=some (.string y.ev.val)∧W.cell? ⟨bb,o+j*6+5,none⟩=some (.int .i64 y.ev.n)) 28 (by kernel_rfl) ?hSc (fun hHeld=>?rgc);case hSc=>exact HSS.out _ (Below.refl _ _).drew
        refine wt 0 ?ca1 [16,7,6,4,3,2] ?cb2 ?cc3;case cb2=>intro w hSw;(try dsimp only at hSw);obtain⟨s0,s1,s2,s3,s4,s5,s6,s7,s8,s9,s10,s11⟩:=hSw;go_simp;(try with_reducible rfl)
        try simp only[Act.put,zA,zB,zC,zD,zF]
        refine wt 1 ?ca4 [16,7,6,4,3,2] ?cb5 ?cc6;case cb5=>intro w hSw;(try dsimp only at hSw);obtain⟨s0,s1,s2,s3,s4,s5,s6,s7,s8,s9,s10,s11⟩:=hSw;go_simp;(try with_reducible rfl)
        try simp only[Act.put,zA,zB,zC,zD,zE,zF]
        refine wt 2 ?ca7 [16,7,6,4,3] ?cb8 ?cc9;case cb8=>intro w hSw;(try dsimp only at hSw);obtain⟨s0,s1,s2,s3,s4,s5,s6,s7,s8,s9,s10,s11⟩:=hSw;go_simp;(try with_reducible rfl)
        try simp only[Act.put,zA,zB,zC,zD,zE,zF]
        refine wt 3 ?ca10 [16,7,6,4] ?cb11 ?cc12;case cb11=>intro w hSw;(try dsimp only at hSw);obtain⟨s0,s1,s2,s3,s4,s5,s6,s7,s8,s9,s10,s11⟩:=hSw;go_simp;(try with_reducible rfl)
        try simp only[Act.put,zA,zB,zC,zD,zE,zF]
        refine wt 4 ?ca13 [16,7,6] ?cb14 ?cc15;case cb14=>intro w hSw;(try dsimp only at hSw);obtain⟨s0,s1,s2,s3,s4,s5,s6,s7,s8,s9,s10,s11⟩:=hSw;go_simp;(try with_reducible rfl)
        try simp only[Act.put,zA,zB,zC,zD,zE,zF]
        refine wt 5 ?ca16 [16,7,6] ?cb17 ?cc18;case cb17=>intro w hSw;(try dsimp only at hSw);obtain⟨s0,s1,s2,s3,s4,s5,s6,s7,s8,s9,s10,s11⟩:=hSw;go_simp;(try with_reducible rfl)
        try simp only[Act.put,zA,zB,zC,zD,zE,zF]
        refine wt 6 ?ca19 [16,7] ?cb20 ?cc21;case cb20=>intro w hSw;(try dsimp only at hSw);obtain⟨s0,s1,s2,s3,s4,s5,s6,s7,s8,s9,s10,s11⟩:=hSw;go_simp;(try with_reducible rfl)
        try simp only[Act.put,zA,zB,zC,zD,zE,zF]
        refine wt 7 ?ca22 [16] ?cb23 ?cc24;case cb23=>intro w hSw;(try dsimp only at hSw);obtain⟨s0,s1,s2,s3,s4,s5,s6,s7,s8,s9,s10,s11⟩:=hSw;go_simp;(try with_reducible rfl)
        try simp only[Act.put,zA,zB,zC,zD,zE,zF]
        refine wt 8 ?ca25 [16,15,14,12,11,10] ?cb26 ?cc27;case cb26=>intro w hSw;(try dsimp only at hSw);obtain⟨s0,s1,s2,s3,s4,s5,s6,s7,s8,s9,s10,s11⟩:=hSw;go_simp;(try with_reducible rfl)
        try simp only[Act.put,zA,zB,zC,zD,zE,zF]
        refine wt 9 ?ca28 [16,15,14,12,11,10] ?cb29 ?cc30;case cb29=>intro w hSw;(try dsimp only at hSw);obtain⟨s0,s1,s2,s3,s4,s5,s6,s7,s8,s9,s10,s11⟩:=hSw;go_simp;(try with_reducible rfl)
        try simp only[Act.put,zA,zB,zC,zD,zE,zF]
        refine wt 10 ?ca31 [16,15,14,12,11] ?cb32 ?cc33;case cb32=>intro w hSw;(try dsimp only at hSw);obtain⟨s0,s1,s2,s3,s4,s5,s6,s7,s8,s9,s10,s11⟩:=hSw;go_simp;(try with_reducible rfl)
        try simp only[Act.put,zA,zB,zC,zD,zE,zF]
        refine wt 11 ?ca34 [16,15,14,12] ?cb35 ?cc36;case cb35=>intro w hSw;(try dsimp only at hSw);obtain⟨s0,s1,s2,s3,s4,s5,s6,s7,s8,s9,s10,s11⟩:=hSw;go_simp;(try with_reducible rfl)
        try simp only[Act.put,zA,zB,zC,zD,zE,zF]
        refine wt 12 ?ca37 [16,15,14] ?cb38 ?cc39;case cb38=>intro w hSw;(try dsimp only at hSw);obtain⟨s0,s1,s2,s3,s4,s5,s6,s7,s8,s9,s10,s11⟩:=hSw;go_simp;(try with_reducible rfl)
        try simp only[Act.put,zA,zB,zC,zD,zE,zF]
        refine wt 13 ?ca40 [16,15,14] ?cb41 ?cc42;case cb41=>intro w hSw;(try dsimp only at hSw);obtain⟨s0,s1,s2,s3,s4,s5,s6,s7,s8,s9,s10,s11⟩:=hSw;go_simp;(try with_reducible rfl)
        try simp only[Act.put,zA,zB,zC,zD,zE,zF]
        refine wt 14 ?ca43 [16,15] ?cb44 ?cc45;case cb44=>intro w hSw;(try dsimp only at hSw);obtain⟨s0,s1,s2,s3,s4,s5,s6,s7,s8,s9,s10,s11⟩:=hSw;go_simp;(try with_reducible rfl)
        try simp only[Act.put,zA,zB,zC,zD,zE,zF]
        refine wt 15 ?ca46 [16] ?cb47 ?cc48;case cb47=>intro w hSw;(try dsimp only at hSw);obtain⟨s0,s1,s2,s3,s4,s5,s6,s7,s8,s9,s10,s11⟩:=hSw;go_simp;(try with_reducible rfl)
        try simp only[Act.put,zA,zB,zC,zD,zE,zF]
        refine wt 16 ?ca49 [] ?cb50 ?cc51;case cb50=>intro w hSw;(try dsimp only at hSw);obtain⟨s0,s1,s2,s3,s4,s5,s6,s7,s8,s9,s10,s11⟩:=hSw;go_simp;(try with_reducible rfl)
        try simp only[Act.put,zA,zB,zC,zD,zE,zF]
        refine wt 17 ?ca52 [27,21,20,19] ?cb53 ?cc54;case cb53=>intro w hSw;(try dsimp only at hSw);obtain⟨s0,s1,s2,s3,s4,s5,s6,s7,s8,s9,s10,s11⟩:=hSw;go_simp;(try with_reducible rfl)
        try simp only[Act.put,zA,zB,zC,zD,zE,zF]
        refine wt 18 ?ca55 [27,21,20,19] ?cb56 ?cc57;case cb56=>intro w hSw;(try dsimp only at hSw);obtain⟨s0,s1,s2,s3,s4,s5,s6,s7,s8,s9,s10,s11⟩:=hSw;go_simp;(try with_reducible rfl)
        try simp only[Act.put,zA,zB,zC,zD,zE,zF]
        refine wt 19 ?ca58 [27,21,20] ?cb59 ?cc60;case cb59=>intro w hSw;(try dsimp only at hSw);obtain⟨s0,s1,s2,s3,s4,s5,s6,s7,s8,s9,s10,s11⟩:=hSw;go_simp;(try with_reducible rfl)
        try simp only[Act.put,zA,zB,zC,zD,zE,zF]
        refine wt 20 ?ca61 [27,21] ?cb62 ?cc63;case cb62=>intro w hSw;(try dsimp only at hSw);obtain⟨s0,s1,s2,s3,s4,s5,s6,s7,s8,s9,s10,s11⟩:=hSw;go_simp;(try with_reducible rfl)
        try simp only[Act.put,zA,zB,zC,zD,zE,zF]
        refine wt 21 ?ca64 [27] ?cb65 ?cc66;case cb65=>intro w hSw;(try dsimp only at hSw);obtain⟨s0,s1,s2,s3,s4,s5,s6,s7,s8,s9,s10,s11⟩:=hSw;go_simp;(try with_reducible rfl)
        try simp only[Act.put,zA,zB,zC,zD,zE,zF]
        refine wt 22 ?ca67 [27,26,25,24] ?cb68 ?cc69;case cb68=>intro w hSw;(try dsimp only at hSw);obtain⟨s0,s1,s2,s3,s4,s5,s6,s7,s8,s9,s10,s11⟩:=hSw;go_simp;(try with_reducible rfl)
        try simp only[Act.put,zA,zB,zC,zD,zE,zF]
        refine wt 23 ?ca70 [27,26,25,24] ?cb71 ?cc72;case cb71=>intro w hSw;(try dsimp only at hSw);obtain⟨s0,s1,s2,s3,s4,s5,s6,s7,s8,s9,s10,s11⟩:=hSw;go_simp;(try with_reducible rfl)
        try simp only[Act.put,zA,zB,zC,zD,zE,zF]
        refine wt 24 ?ca73 [27,26,25] ?cb74 ?cc75;case cb74=>intro w hSw;(try dsimp only at hSw);obtain⟨s0,s1,s2,s3,s4,s5,s6,s7,s8,s9,s10,s11⟩:=hSw;go_simp;(try with_reducible rfl)
        try simp only[Act.put,zA,zB,zC,zD,zE,zF]
        refine wt 25 ?ca76 [27,26] ?cb77 ?cc78;case cb77=>intro w hSw;(try dsimp only at hSw);obtain⟨s0,s1,s2,s3,s4,s5,s6,s7,s8,s9,s10,s11⟩:=hSw;go_simp;(try with_reducible rfl)
        try simp only[Act.put,zA,zB,zC,zD,zE,zF]
        refine wt 26 ?ca79 [27] ?cb80 ?cc81;case cb80=>intro w hSw;(try dsimp only at hSw);obtain⟨s0,s1,s2,s3,s4,s5,s6,s7,s8,s9,s10,s11⟩:=hSw;go_simp;(try with_reducible rfl)
        try simp only[Act.put,zA,zB,zC,zD,zE,zF]
        refine wpEnd_ready (rs:=[27]) (by kernel_rfl) (by simp) ?_;refine AllReadyE.cons rfl (fun KW hK=>?cst82) AllReadyE.nil;go_simp;refine(HKC.out _ (by exact(Below.refl _ _).drew)).mono ?_;rintro e wb ⟨rfl,hb1⟩;have HBX1:=zh (undrew hb1);have HBD:=zh (HB.out.later HBX1.out);clear hb1;try go_wp2_with fail
        refine hK.out _ _ (fun _=>?cke83) (fun hHeld'=>?crs84);case cke83=>exact HSS.out _ HBX1.out
        have hHeld:=hHeld' (by decide);clear hHeld';clear hK KW;try simp only[Act.put,zA,zB,zC,zD,zE,zF]
        refine wpEnd_ready (rs:=[28]) (by kernel_rfl) (by simp) ?_;refine AllReadyE.cons rfl (fun KW hK=>?cst85) AllReadyE.nil;go_simp;refine hK.out _ _ (fun h=>absurd rfl h) (fun hHeld=>?crs87);clear hK KW;try simp only[Act.put,zA,zB,zC,zD,zE,zF]
        refine wpEnd_done (by kernel_rfl) ?_ _;go_wp2_with fail;go_roundw;case rel=>exact⟨j+1,by omega,by omega,by go_num,HBD.out,by unfold Hid;rw[hS.out,HST.out];simp⟩
        case measure=>simp[intOf];omega
       case true =>
        go_wp2_with fail;refine wpEnd_begin (S:=fun W=>W.cell? ⟨bb,o+k*6,none⟩=some (.int .i64 xj)∧W.cell? ⟨bb,o+k*6+1,none⟩=some (.int .i64 x.ev.kind)∧W.cell? ⟨bb,o+k*6+2,none⟩=some (.string x.ev.name)∧W.cell? ⟨bb,o+k*6+3,none⟩=some (.slice Sa ma ca)∧W.cell? ⟨bb,o+k*6+4,none⟩=some (.string x.ev.val)∧W.cell? ⟨bb,o+k*6+5,none⟩=some (.int .i64 x.ev.n)∧W.cell? ⟨bb,o+j*6,none⟩=some (.int .i64 yj)∧W.cell? ⟨bb,o+j*6+1,none⟩=some (.int .i64 y.ev.kind)∧W.cell? ⟨bb,o+j*6+2,none⟩=some (.string y.ev.name)∧W.cell? ⟨bb,o+j*6+3,none⟩=some (.slice Sb mb cb)∧W.cell? ⟨bb,o+j*6+4,none⟩=some (.string y.ev.val)∧W.cell? ⟨bb,o+j*6+5,none⟩=some (.int .i64 y.ev.n)) 28 (by kernel_rfl) ?hSd (fun hHeld=>?rgd);case hSd=>exact HSS.out _ (Below.refl _ _).drew
        refine wt 0 ?da1 [16,7,6,4,3,2] ?db2 ?dc3;case db2=>intro w hSw;(try dsimp only at hSw);obtain⟨s0,s1,s2,s3,s4,s5,s6,s7,s8,s9,s10,s11⟩:=hSw;go_simp;(try with_reducible rfl)
        try simp only[Act.put,zA,zB,zC,zD,zF]
        refine wt 1 ?da4 [16,7,6,4,3,2] ?db5 ?dc6;case db5=>intro w hSw;(try dsimp only at hSw);obtain⟨s0,s1,s2,s3,s4,s5,s6,s7,s8,s9,s10,s11⟩:=hSw;go_simp;(try with_reducible rfl)
        try simp only[Act.put,zA,zB,zC,zD,zE,zF]
        refine wt 2 ?da7 [16,7,6,4,3] ?db8 ?dc9;case db8=>intro w hSw;(try dsimp only at hSw);obtain⟨s0,s1,s2,s3,s4,s5,s6,s7,s8,s9,s10,s11⟩:=hSw;go_simp;(try with_reducible rfl)
        try simp only[Act.put,zA,zB,zC,zD,zE,zF]
        refine wt 3 ?da10 [16,7,6,4] ?db11 ?dc12;case db11=>intro w hSw;(try dsimp only at hSw);obtain⟨s0,s1,s2,s3,s4,s5,s6,s7,s8,s9,s10,s11⟩:=hSw;go_simp;(try with_reducible rfl)
        try simp only[Act.put,zA,zB,zC,zD,zE,zF]
        refine wt 4 ?da13 [16,7,6] ?db14 ?dc15;case db14=>intro w hSw;(try dsimp only at hSw);obtain⟨s0,s1,s2,s3,s4,s5,s6,s7,s8,s9,s10,s11⟩:=hSw;go_simp;(try with_reducible rfl)
        try simp only[Act.put,zA,zB,zC,zD,zE,zF]
        refine wt 5 ?da16 [16,7,6] ?db17 ?dc18;case db17=>intro w hSw;(try dsimp only at hSw);obtain⟨s0,s1,s2,s3,s4,s5,s6,s7,s8,s9,s10,s11⟩:=hSw;go_simp;(try with_reducible rfl)
        try simp only[Act.put,zA,zB,zC,zD,zE,zF]
        refine wt 6 ?da19 [16,7] ?db20 ?dc21;case db20=>intro w hSw;(try dsimp only at hSw);obtain⟨s0,s1,s2,s3,s4,s5,s6,s7,s8,s9,s10,s11⟩:=hSw;go_simp;(try with_reducible rfl)
        try simp only[Act.put,zA,zB,zC,zD,zE,zF]
        refine wt 7 ?da22 [16] ?db23 ?dc24;case db23=>intro w hSw;(try dsimp only at hSw);obtain⟨s0,s1,s2,s3,s4,s5,s6,s7,s8,s9,s10,s11⟩:=hSw;go_simp;(try with_reducible rfl)
        try simp only[Act.put,zA,zB,zC,zD,zE,zF]
        refine wt 8 ?da25 [16,15,14,12,11,10] ?db26 ?dc27;case db26=>intro w hSw;(try dsimp only at hSw);obtain⟨s0,s1,s2,s3,s4,s5,s6,s7,s8,s9,s10,s11⟩:=hSw;go_simp;(try with_reducible rfl)
        try simp only[Act.put,zA,zB,zC,zD,zE,zF]
        refine wt 9 ?da28 [16,15,14,12,11,10] ?db29 ?dc30;case db29=>intro w hSw;(try dsimp only at hSw);obtain⟨s0,s1,s2,s3,s4,s5,s6,s7,s8,s9,s10,s11⟩:=hSw;go_simp;(try with_reducible rfl)
        try simp only[Act.put,zA,zB,zC,zD,zE,zF]
        refine wt 10 ?da31 [16,15,14,12,11] ?db32 ?dc33;case db32=>intro w hSw;(try dsimp only at hSw);obtain⟨s0,s1,s2,s3,s4,s5,s6,s7,s8,s9,s10,s11⟩:=hSw;go_simp;(try with_reducible rfl)
        try simp only[Act.put,zA,zB,zC,zD,zE,zF]
        refine wt 11 ?da34 [16,15,14,12] ?db35 ?dc36;case db35=>intro w hSw;(try dsimp only at hSw);obtain⟨s0,s1,s2,s3,s4,s5,s6,s7,s8,s9,s10,s11⟩:=hSw;go_simp;(try with_reducible rfl)
        try simp only[Act.put,zA,zB,zC,zD,zE,zF]
        refine wt 12 ?da37 [16,15,14] ?db38 ?dc39;case db38=>intro w hSw;(try dsimp only at hSw);obtain⟨s0,s1,s2,s3,s4,s5,s6,s7,s8,s9,s10,s11⟩:=hSw;go_simp;(try with_reducible rfl)
        try simp only[Act.put,zA,zB,zC,zD,zE,zF]
        refine wt 13 ?da40 [16,15,14] ?db41 ?dc42;case db41=>intro w hSw;(try dsimp only at hSw);obtain⟨s0,s1,s2,s3,s4,s5,s6,s7,s8,s9,s10,s11⟩:=hSw;go_simp;(try with_reducible rfl)
        try simp only[Act.put,zA,zB,zC,zD,zE,zF]
        refine wt 14 ?da43 [16,15] ?db44 ?dc45;case db44=>intro w hSw;(try dsimp only at hSw);obtain⟨s0,s1,s2,s3,s4,s5,s6,s7,s8,s9,s10,s11⟩:=hSw;go_simp;(try with_reducible rfl)
        try simp only[Act.put,zA,zB,zC,zD,zE,zF]
        refine wt 15 ?da46 [16] ?db47 ?dc48;case db47=>intro w hSw;(try dsimp only at hSw);obtain⟨s0,s1,s2,s3,s4,s5,s6,s7,s8,s9,s10,s11⟩:=hSw;go_simp;(try with_reducible rfl)
        try simp only[Act.put,zA,zB,zC,zD,zE,zF]
        refine wt 16 ?da49 [] ?db50 ?dc51;case db50=>intro w hSw;(try dsimp only at hSw);obtain⟨s0,s1,s2,s3,s4,s5,s6,s7,s8,s9,s10,s11⟩:=hSw;go_simp;(try with_reducible rfl)
        try simp only[Act.put,zA,zB,zC,zD,zE,zF]
        refine wt 17 ?da52 [27,21,20,19] ?db53 ?dc54;case db53=>intro w hSw;(try dsimp only at hSw);obtain⟨s0,s1,s2,s3,s4,s5,s6,s7,s8,s9,s10,s11⟩:=hSw;go_simp;(try with_reducible rfl)
        try simp only[Act.put,zA,zB,zC,zD,zE,zF]
        refine wt 18 ?da55 [27,21,20,19] ?db56 ?dc57;case db56=>intro w hSw;(try dsimp only at hSw);obtain⟨s0,s1,s2,s3,s4,s5,s6,s7,s8,s9,s10,s11⟩:=hSw;go_simp;(try with_reducible rfl)
        try simp only[Act.put,zA,zB,zC,zD,zE,zF]
        refine wt 19 ?da58 [27,21,20] ?db59 ?dc60;case db59=>intro w hSw;(try dsimp only at hSw);obtain⟨s0,s1,s2,s3,s4,s5,s6,s7,s8,s9,s10,s11⟩:=hSw;go_simp;(try with_reducible rfl)
        try simp only[Act.put,zA,zB,zC,zD,zE,zF]
        refine wt 20 ?da61 [27,21] ?db62 ?dc63;case db62=>intro w hSw;(try dsimp only at hSw);obtain⟨s0,s1,s2,s3,s4,s5,s6,s7,s8,s9,s10,s11⟩:=hSw;go_simp;(try with_reducible rfl)
        try simp only[Act.put,zA,zB,zC,zD,zE,zF]
        refine wt 21 ?da64 [27] ?db65 ?dc66;case db65=>intro w hSw;(try dsimp only at hSw);obtain⟨s0,s1,s2,s3,s4,s5,s6,s7,s8,s9,s10,s11⟩:=hSw;go_simp;(try with_reducible rfl)
        try simp only[Act.put,zA,zB,zC,zD,zE,zF]
        refine wt 22 ?da67 [27,26,25,24] ?db68 ?dc69;case db68=>intro w hSw;(try dsimp only at hSw);obtain⟨s0,s1,s2,s3,s4,s5,s6,s7,s8,s9,s10,s11⟩:=hSw;go_simp;(try with_reducible rfl)
        try simp only[Act.put,zA,zB,zC,zD,zE,zF]
        refine wt 23 ?da70 [27,26,25,24] ?db71 ?dc72;case db71=>intro w hSw;(try dsimp only at hSw);obtain⟨s0,s1,s2,s3,s4,s5,s6,s7,s8,s9,s10,s11⟩:=hSw;go_simp;(try with_reducible rfl)
        try simp only[Act.put,zA,zB,zC,zD,zE,zF]
        refine wt 24 ?da73 [27,26,25] ?db74 ?dc75;case db74=>intro w hSw;(try dsimp only at hSw);obtain⟨s0,s1,s2,s3,s4,s5,s6,s7,s8,s9,s10,s11⟩:=hSw;go_simp;(try with_reducible rfl)
        try simp only[Act.put,zA,zB,zC,zD,zE,zF]
        refine wt 25 ?da76 [27,26] ?db77 ?dc78;case db77=>intro w hSw;(try dsimp only at hSw);obtain⟨s0,s1,s2,s3,s4,s5,s6,s7,s8,s9,s10,s11⟩:=hSw;go_simp;(try with_reducible rfl)
        try simp only[Act.put,zA,zB,zC,zD,zE,zF]
        refine wt 26 ?da79 [27] ?db80 ?dc81;case db80=>intro w hSw;(try dsimp only at hSw);obtain⟨s0,s1,s2,s3,s4,s5,s6,s7,s8,s9,s10,s11⟩:=hSw;go_simp;(try with_reducible rfl)
        try simp only[Act.put,zA,zB,zC,zD,zE,zF]
        refine wpEnd_ready (rs:=[27]) (by kernel_rfl) (by simp) ?_;refine AllReadyE.cons rfl (fun KW hK=>?dst82) AllReadyE.nil;go_simp;refine(HKC.out _ (by exact(Below.refl _ _).drew)).mono ?_;rintro e wb ⟨rfl,hb1⟩;have HBX1:=zh (undrew hb1);have HBD:=zh (HB.out.later HBX1.out);clear hb1;try go_wp2_with fail
        refine hK.out _ _ (fun _=>?dke83) (fun hHeld'=>?drs84);case dke83=>exact HSS.out _ HBX1.out
        have hHeld:=hHeld' (by decide);clear hHeld';clear hK KW;try simp only[Act.put,zA,zB,zC,zD,zE,zF]
        refine wpEnd_ready (rs:=[28]) (by kernel_rfl) (by simp) ?_;refine AllReadyE.cons rfl (fun KW hK=>?dst85) AllReadyE.nil;go_simp;refine hK.out _ _ (fun h=>absurd rfl h) (fun hHeld=>?drs87);clear hK KW;try simp only[Act.put,zA,zB,zC,zD,zE,zF]
        refine wpEnd_done (by kernel_rfl) ?_ _;go_wp2_with fail;go_ret;exact⟨ret_bool (by rw[hS.out,HST.out];simp),HBD.out⟩
     · have hji:¬(j:Int)<(n:Int):=by omega
       have HE:Hid (RES=edgeB (l.drop (k+1)) a b):=by unfold Hid;rw[hS.out,List.drop_of_length_le (show l.length≤j by rw[HL.out];omega)];simp
       go_wp2_with fail;go_roundw;case rel=>exact⟨k+1,by omega,by go_num,HB.out,HE.out⟩
       case measure=>simp[intOf];omega
  · have HE:Hid (RES=false):=by unfold Hid;rw[HRES.out,List.drop_of_length_le (by rw[HL.out];omega)];rfl
    have hki:¬(k:Int)<(n:Int):=by omega
    go_wp2_with fail;go_ret;exact⟨ret_bool HE.out.symm,HBK.out⟩
end Go.Proofs.YtlicffeicmoifaaGreatDoor
