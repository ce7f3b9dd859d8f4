import Derived.Test.YtlicffeicmoifaaGreatDoorZ00
import Derived.Test.YtlicffeicmoifaaGreatDoorZ01
import Derived.Test.YtlicffeicmoifaaGreatDoorZ02
import Derived.Test.YtlicffeicmoifaaGreatDoorZ03
import Derived.Test.YtlicffeicmoifaaGreatDoorZ04
import Derived.Test.YtlicffeicmoifaaGreatDoorZ05
import Derived.Test.YtlicffeicmoifaaGreatDoorZ06
import Derived.Test.YtlicffeicmoifaaGreatDoorZ07
import Derived.Test.YtlicffeicmoifaaGreatDoorZ08
import Derived.Test.YtlicffeicmoifaaGreatDoorZ09
import Derived.Test.YtlicffeicmoifaaGreatDoorZ10
import Derived.Test.YtlicffeicmoifaaGreatDoorZ11
import Derived.Test.YtlicffeicmoifaaGreatDoorZ12
import Derived.Test.YtlicffeicmoifaaGreatDoorZ13
import Derived.Test.YtlicffeicmoifaaGreatDoorZ14
import Derived.Test.YtlicffeicmoifaaGreatDoorZ15
import Derived.Test.YtlicffeicmoifaaGreatDoorZ16
import Derived.Test.YtlicffeicmoifaaGreatDoorZ17
import Derived.Test.YtlicffeicmoifaaGreatDoorZ18
import Derived.Test.YtlicffeicmoifaaGreatDoorZ19
import Derived.Test.YtlicffeicmoifaaGreatDoorZ20
import Derived.Test.YtlicffeicmoifaaGreatDoorZ21
import Derived.Test.YtlicffeicmoifaaGreatDoorZ22
import Derived.Test.YtlicffeicmoifaaGreatDoorZ23
import Derived.Test.YtlicffeicmoifaaGreatDoorZ24
import Derived.Test.YtlicffeicmoifaaGreatDoorZ25
import Derived.Test.YtlicffeicmoifaaGreatDoorZ26
import Derived.Test.YtlicffeicmoifaaGreatDoorZ27
import Derived.Test.YtlicffeicmoifaaGreatDoorZ28
import Derived.Test.YtlicffeicmoifaaGreatDoorZ29
import Derived.Test.YtlicffeicmoifaaGreatDoorZ30
import Derived.Test.YtlicffeicmoifaaGreatDoorZ31
import Derived.Test.YtlicffeicmoifaaGreatDoorZ32
import Derived.Test.YtlicffeicmoifaaGreatDoorZ33
import Derived.Test.YtlicffeicmoifaaGreatDoorZ34
import Derived.Test.YtlicffeicmoifaaGreatDoorZ35
import Derived.Test.YtlicffeicmoifaaGreatDoorZ36
import Derived.Test.YtlicffeicmoifaaGreatDoorZ37
import Derived.Test.YtlicffeicmoifaaGreatDoorZ38
import Derived.Test.YtlicffeicmoifaaGreatDoorZ39
import Derived.Test.YtlicffeicmoifaaGreatDoorZ40
import Derived.Test.YtlicffeicmoifaaGreatDoorZ41
import Derived.Test.YtlicffeicmoifaaGreatDoorZ42
import Derived.Test.YtlicffeicmoifaaGreatDoorY02
import Derived.Deep.RegionHeld3
set_option linter.unusedSimpArgs false
open List renaming getElem_cons_succ → zE, getElem_cons_zero → zF, getElem_toArray → zD, setIfInBounds_toArray → zA, set_cons_succ → zC, set_cons_zero → zB
namespace Go.Proofs.YtlicffeicmoifaaGreatDoor
open Go.RowKit
set_option linter.unusedVariables false
set_option linter.unusedSimpArgs false
def freeE (es:List (Int × Int)) (left:List Int) (o:Int):Bool:=!(es.any fun e=>decide (e.2=o)&&decide (e.1∈left))
set_option maxRecDepth 100000 in
set_option maxHeartbeats 16000000 in
theorem l28Free_any (A:Option Addr) (n c:Nat) (A':Option Addr) (m c':Nat) (left:List Int) (es:List (Int × Int)) (w:World) (h:Ints w w.heap.size A n left) (h':Eds w w.heap.size A' m es) (hn:n≤1048576) (hm:m≤1048576) :
 Calls Tryz.prog 61 #[.slice A n c,.slice A' m c'] w fun e w'=>e=.returned (.int .i64 (idxF (freeE es left) left 0))∧Below w.heap.size w w':=by
 have HLI:=Lib.hid h;have HEI:=Lib.hid h';have HL:=Lib.hid h.1;have HM:=Lib.hid h'.1;have HF:Hid (∀o,freeE es left o=!(es.any fun e=>decide (e.2=o)&&decide (e.1∈left))):=fun _=>rfl;clear h h';generalize hP:freeE es left=P at *;clear hP;go_enter Tryz.func61,Tryz.ntmps61;go_wp2_with fail;go_loopw [5] (fun i wr=>∃k:Nat,k≤n∧i=.int .i64 k∧Below w.heap.size w wr∧Hid (idxF P left 0=idxF P (left.drop k) k)) (fun i _=>n-(intOf i).toNat);case atStart=>exact⟨0,Nat.zero_le _,rfl,Below.refl _ _,rfl⟩
 case round =>
  obtain⟨k,hk,rfl,hb,HS⟩:=hrel;have HBK:=Lib.hid hb;clear hb;by_cases hlt:k<n
  · have hl:k<left.length:=by rw[HL.out];exact hlt
    obtain⟨lb,lo,rfl,hlb,hlc⟩:=HLI.out.2 (by omega);have hlk:=hlc k hlt;have HSTK:=Lib.hid (idxF_step P left k hl);have HFO:=Lib.hid (HF.out (left.getD k default));have hgd:left.getD k (0:Int)=left.getD k default:=rfl;rw[hgd]at hlk;clear hgd hl hlc;generalize left.getD k default=o at *;have HLK:=Lib.hid (fun W (hW:Below w.heap.size w W)=>(hW.cell hlb).trans hlk);have hki:(k:Int)<(n:Int):=by omega
    have HP0:Hid (P o=(true&&!((es.drop 0).any fun e=>decide (e.2=o)&&decide (e.1∈left)))):=by unfold Hid;rw[HFO.out,List.drop_zero,Bool.true_and]
    clear hlk HFO;go_wp2_with fail;go_loopw [6,7] (fun fv jv wx=>∃(j:Nat) (f:Bool),j≤m∧fv=.bool f∧jv=.int .i64 j∧Below w.heap.size w wx∧Hid (P o=(f&&!((es.drop j).any fun e=>decide (e.2=o)&&decide (e.1∈left))))) (fun _ jv _=>m-(intOf jv).toNat);case atStart=>exact⟨0,true,Nat.zero_le _,rfl,rfl,HBK.out,HP0.out⟩
    case round =>
     obtain⟨j,f,hj,rfl,rfl,hb,hS⟩:=hrel;obtain⟨wx,rfl⟩:∃wx,wx=wr:=⟨wr,rfl⟩;have HB:=Lib.hid hb;clear hb HBK HP0;by_cases hjlt:j<m
     · have hl:j<es.length:=by rw[HM.out];exact hjlt
       obtain⟨eb,eo,rfl,heb,hec⟩:=HEI.out.2 (by omega);obtain⟨he1,he2⟩:=hec j hjlt;have HST:=Lib.hid (any_stepQ (fun e:Int × Int=>decide (e.2=o)&&decide (e.1∈left)) es j hl);generalize es.getD j default=e at *;obtain⟨e1,e2⟩:=e;try dsimp only at he1 he2 HST
       have hji:(j:Int)<(m:Int):=by omega
       have HSS:Hid (∀W,Below wx.heap.size wx W→(W.cell? ⟨lb,lo+k,none⟩=some (.int .i64 o)∧W.cell? ⟨eb,eo+j*2,none⟩=some (.int .i64 e1)∧W.cell? ⟨eb,eo+j*2+1,none⟩=some (.int .i64 e2))):=fun W hW=>⟨HLK.out W (HB.out.later hW),((HB.out.later hW).cell heb).trans he1,((HB.out.later hW).cell heb).trans he2⟩;have HKH:=Lib.hid (l00Has_any (some ⟨lb,lo,none⟩) n c left e1 wx.drew (HLI.out.later HB.out.drew) hn);have HBD:Hid (Below w.heap.size w wx.drew):=HB.out.drew;clear hl hec he1 he2;generalize decide (e1∈left)=hs at *;cases f
       case false =>
        have HE:Hid (P o=(false&&!((es.drop (j+1)).any fun e=>decide (e.2=o)&&decide (e.1∈left)))):=by unfold Hid;rw[hS.out];rfl
        go_wp2_with fail;refine wpEnd_begin (S:=fun W=>W.cell? ⟨lb,lo+k,none⟩=some (.int .i64 o)∧W.cell? ⟨eb,eo+j*2,none⟩=some (.int .i64 e1)∧W.cell? ⟨eb,eo+j*2+1,none⟩=some (.int .i64 e2)) 23 (by kernel_rfl) ?hSa (fun hHeld=>?rga);case hSa=>exact HSS.out _ (Below.refl _ _).drew
        refine wt 0 ?aa1 [] ?ab2 ?ac3;case ab2=>intro w hSw;(try dsimp only at hSw);obtain⟨s0,s1,s2⟩:=hSw;go_simp;(try with_reducible rfl)
        try simp only[Act.put,zA,zB,zC,zD,zF]
        refine wt 1 ?aa4 [] ?ab5 ?ac6;case ab5=>intro w hSw;(try dsimp only at hSw);obtain⟨s0,s1,s2⟩:=hSw;go_simp;(try with_reducible rfl)
        try simp only[Act.put,zA,zB,zC,zD,zE,zF]
        refine wu 2 [] ?ac7;try simp only[Act.put,zA,zB,zC,zD,zE,zF]
        refine wu 3 [] ?ac8;try simp only[Act.put,zA,zB,zC,zD,zE,zF]
        refine wu 4 [] ?ac9;try simp only[Act.put,zA,zB,zC,zD,zE,zF]
        refine wu 5 [] ?ac10;try simp only[Act.put,zA,zB,zC,zD,zE,zF]
        refine wu 6 [] ?ac11;try simp only[Act.put,zA,zB,zC,zD,zE,zF]
        refine wu 7 [] ?ac12;try simp only[Act.put,zA,zB,zC,zD,zE,zF]
        refine wu 8 [] ?ac13;try simp only[Act.put,zA,zB,zC,zD,zE,zF]
        refine wu 9 [] ?ac14;try simp only[Act.put,zA,zB,zC,zD,zE,zF]
        refine wu 10 [] ?ac15;try simp only[Act.put,zA,zB,zC,zD,zE,zF]
        refine wu 11 [] ?ac16;try simp only[Act.put,zA,zB,zC,zD,zE,zF]
        refine wu 12 [] ?ac17;try simp only[Act.put,zA,zB,zC,zD,zE,zF]
        refine wu 13 [] ?ac18;try simp only[Act.put,zA,zB,zC,zD,zE,zF]
        refine wu 14 [] ?ac19;try simp only[Act.put,zA,zB,zC,zD,zE,zF]
        refine wu 15 [] ?ac20;try simp only[Act.put,zA,zB,zC,zD,zE,zF]
        refine wu 16 [] ?ac21;try simp only[Act.put,zA,zB,zC,zD,zE,zF]
        refine wu 17 [] ?ac22;try simp only[Act.put,zA,zB,zC,zD,zE,zF]
        refine wu 18 [] ?ac23;try simp only[Act.put,zA,zB,zC,zD,zE,zF]
        refine wu 19 [] ?ac24;try simp only[Act.put,zA,zB,zC,zD,zE,zF]
        refine wu 20 [] ?ac25;try simp only[Act.put,zA,zB,zC,zD,zE,zF]
        refine wu 21 [] ?ac26;try simp only[Act.put,zA,zB,zC,zD,zE,zF]
        refine wt 22 ?aa27 [] ?ab28 ?ac29;case ab28=>intro w hSw;(try dsimp only at hSw);obtain⟨s0,s1,s2⟩:=hSw;go_simp;(try with_reducible rfl)
        try simp only[Act.put,zA,zB,zC,zD,zE,zF]
        refine wpEnd_ready (rs:=[23]) (by kernel_rfl) (by simp) ?_;refine AllReadyE.cons rfl (fun KW hK=>?ast30) AllReadyE.nil;go_simp;refine hK.out _ _ (fun h=>absurd rfl h) (fun hHeld=>?ars32);clear hK KW;try simp only[Act.put,zA,zB,zC,zD,zE,zF]
        refine wpEnd_done (by kernel_rfl) ?_ _;go_wp2_with fail;go_roundw;case rel=>exact⟨j+1,_,by omega,rfl,by go_num,HBD.out,HE.out⟩
        case measure=>simp[intOf];omega
       by_cases heq:e2=o
       case neg =>
        have hqb:(e2==o)=false:=beq_eq_false_iff_ne.2 heq;have hqd:decide (e2=o)=false:=decide_eq_false heq;have HE:Hid (P o=(true&&!((es.drop (j+1)).any fun e=>decide (e.2=o)&&decide (e.1∈left)))):=by unfold Hid;rw[hS.out,HST.out,hqd];rfl
        go_wp2_with fail;refine wpEnd_begin (S:=fun W=>W.cell? ⟨lb,lo+k,none⟩=some (.int .i64 o)∧W.cell? ⟨eb,eo+j*2,none⟩=some (.int .i64 e1)∧W.cell? ⟨eb,eo+j*2+1,none⟩=some (.int .i64 e2)) 23 (by kernel_rfl) ?hSb (fun hHeld=>?rgb);case hSb=>exact HSS.out _ (Below.refl _ _).drew
        refine wt 0 ?ba1 [] ?bb2 ?bc3;case bb2=>intro w hSw;(try dsimp only at hSw);obtain⟨s0,s1,s2⟩:=hSw;go_simp;(try with_reducible rfl)
        try simp only[Act.put,zA,zB,zC,zD,zF]
        refine wt 1 ?ba4 [] ?bb5 ?bc6;case bb5=>intro w hSw;(try dsimp only at hSw);obtain⟨s0,s1,s2⟩:=hSw;go_simp;(try with_reducible rfl)
        try simp only[Act.put,zA,zB,zC,zD,zE,zF]
        refine wt 2 ?ba7 [] ?bb8 ?bc9;case bb8=>intro w hSw;(try dsimp only at hSw);obtain⟨s0,s1,s2⟩:=hSw;go_simp;(try with_reducible rfl)
        try simp only[Act.put,zA,zB,zC,zD,zE,zF]
        refine wt 3 ?ba10 [] ?bb11 ?bc12;case bb11=>intro w hSw;(try dsimp only at hSw);obtain⟨s0,s1,s2⟩:=hSw;go_simp;(try with_reducible rfl)
        try simp only[Act.put,zA,zB,zC,zD,zE,zF]
        refine wt 4 ?ba13 [] ?bb14 ?bc15;case bb14=>intro w hSw;(try dsimp only at hSw);obtain⟨s0,s1,s2⟩:=hSw;go_simp;(try with_reducible rfl)
        try simp only[Act.put,zA,zB,zC,zD,zE,zF]
        refine wt 5 ?ba16 [] ?bb17 ?bc18;case bb17=>intro w hSw;(try dsimp only at hSw);obtain⟨s0,s1,s2⟩:=hSw;go_simp;(try with_reducible rfl)
        try simp only[Act.put,zA,zB,zC,zD,zE,zF]
        refine wt 6 ?ba19 [] ?bb20 ?bc21;case bb20=>intro w hSw;(try dsimp only at hSw);obtain⟨s0,s1,s2⟩:=hSw;go_simp;(try with_reducible rfl)
        try simp only[Act.put,zA,zB,zC,zD,zE,zF]
        refine wt 7 ?ba22 [] ?bb23 ?bc24;case bb23=>intro w hSw;(try dsimp only at hSw);obtain⟨s0,s1,s2⟩:=hSw;go_simp;(try with_reducible rfl)
        try simp only[Act.put,zA,zB,zC,zD,zE,zF]
        refine wt 8 ?ba25 [] ?bb26 ?bc27;case bb26=>intro w hSw;(try dsimp only at hSw);obtain⟨s0,s1,s2⟩:=hSw;go_simp;(try with_reducible rfl)
        try simp only[Act.put,zA,zB,zC,zD,zE,zF]
        refine wt 9 ?ba28 [] ?bb29 ?bc30;case bb29=>intro w hSw;(try dsimp only at hSw);obtain⟨s0,s1,s2⟩:=hSw;go_simp;(try with_reducible rfl)
        try simp only[Act.put,zA,zB,zC,zD,zE,zF]
        refine wt 10 ?ba31 [] ?bb32 ?bc33;case bb32=>intro w hSw;(try dsimp only at hSw);obtain⟨s0,s1,s2⟩:=hSw;go_simp;(try with_reducible rfl)
        try simp only[Act.put,zA,zB,zC,zD,zE,zF]
        refine wt 11 ?ba34 [] ?bb35 ?bc36;case bb35=>intro w hSw;(try dsimp only at hSw);obtain⟨s0,s1,s2⟩:=hSw;go_simp;(try with_reducible rfl)
        try simp only[Act.put,zA,zB,zC,zD,zE,zF]
        refine wt 12 ?ba37 [] ?bb38 ?bc39;case bb38=>intro w hSw;(try dsimp only at hSw);obtain⟨s0,s1,s2⟩:=hSw;go_simp;(try with_reducible rfl)
        try simp only[Act.put,zA,zB,zC,zD,zE,zF]
        refine wu 13 [] ?bc40;try simp only[Act.put,zA,zB,zC,zD,zE,zF]
        refine wu 14 [] ?bc41;try simp only[Act.put,zA,zB,zC,zD,zE,zF]
        refine wu 15 [] ?bc42;try simp only[Act.put,zA,zB,zC,zD,zE,zF]
        refine wu 16 [] ?bc43;try simp only[Act.put,zA,zB,zC,zD,zE,zF]
        refine wu 17 [] ?bc44;try simp only[Act.put,zA,zB,zC,zD,zE,zF]
        refine wu 18 [] ?bc45;try simp only[Act.put,zA,zB,zC,zD,zE,zF]
        refine wu 19 [] ?bc46;try simp only[Act.put,zA,zB,zC,zD,zE,zF]
        refine wt 20 ?ba47 [] ?bb48 ?bc49;case bb48=>intro w hSw;(try dsimp only at hSw);obtain⟨s0,s1,s2⟩:=hSw;go_simp;(try with_reducible rfl)
        try simp only[Act.put,zA,zB,zC,zD,zE,zF]
        refine wt 21 ?ba50 [] ?bb51 ?bc52;case bb51=>intro w hSw;(try dsimp only at hSw);obtain⟨s0,s1,s2⟩:=hSw;go_simp;(try with_reducible rfl)
        try simp only[Act.put,zA,zB,zC,zD,zE,zF]
        refine wt 22 ?ba53 [] ?bb54 ?bc55;case bb54=>intro w hSw;(try dsimp only at hSw);obtain⟨s0,s1,s2⟩:=hSw;go_simp;(try with_reducible rfl)
        try simp only[Act.put,zA,zB,zC,zD,zE,zF]
        refine wpEnd_ready (rs:=[23]) (by kernel_rfl) (by simp) ?_;refine AllReadyE.cons rfl (fun KW hK=>?bst56) AllReadyE.nil;go_simp;refine hK.out _ _ (fun h=>absurd rfl h) (fun hHeld=>?brs58);clear hK KW;try simp only[Act.put,zA,zB,zC,zD,zE,zF]
        refine wpEnd_done (by kernel_rfl) ?_ _;go_wp2_with fail;go_roundw;case rel=>exact⟨j+1,_,by omega,rfl,by go_num,HBD.out,HE.out⟩
        case measure=>simp[intOf];omega
       subst heq;cases hs
       case false =>
        have HE:Hid (P e2=(true&&!((es.drop (j+1)).any fun e=>decide (e.2=e2)&&decide (e.1∈left)))):=by unfold Hid;rw[hS.out,HST.out];simp
        go_wp2_with fail;refine wpEnd_begin (S:=fun W=>W.cell? ⟨lb,lo+k,none⟩=some (.int .i64 e2)∧W.cell? ⟨eb,eo+j*2,none⟩=some (.int .i64 e1)∧W.cell? ⟨eb,eo+j*2+1,none⟩=some (.int .i64 e2)) 23 (by kernel_rfl) ?hSc (fun hHeld=>?rgc);case hSc=>exact HSS.out _ (Below.refl _ _).drew
        refine wt 0 ?ca1 [] ?cb2 ?cc3;case cb2=>intro w hSw;(try dsimp only at hSw);obtain⟨s0,s1,s2⟩:=hSw;go_simp;(try with_reducible rfl)
        try simp only[Act.put,zA,zB,zC,zD,zF]
        refine wt 1 ?ca4 [] ?cb5 ?cc6;case cb5=>intro w hSw;(try dsimp only at hSw);obtain⟨s0,s1,s2⟩:=hSw;go_simp;(try with_reducible rfl)
        try simp only[Act.put,zA,zB,zC,zD,zE,zF]
        refine wt 2 ?ca7 [] ?cb8 ?cc9;case cb8=>intro w hSw;(try dsimp only at hSw);obtain⟨s0,s1,s2⟩:=hSw;go_simp;(try with_reducible rfl)
        try simp only[Act.put,zA,zB,zC,zD,zE,zF]
        refine wt 3 ?ca10 [] ?cb11 ?cc12;case cb11=>intro w hSw;(try dsimp only at hSw);obtain⟨s0,s1,s2⟩:=hSw;go_simp;(try with_reducible rfl)
        try simp only[Act.put,zA,zB,zC,zD,zE,zF]
        refine wt 4 ?ca13 [] ?cb14 ?cc15;case cb14=>intro w hSw;(try dsimp only at hSw);obtain⟨s0,s1,s2⟩:=hSw;go_simp;(try with_reducible rfl)
        try simp only[Act.put,zA,zB,zC,zD,zE,zF]
        refine wt 5 ?ca16 [] ?cb17 ?cc18;case cb17=>intro w hSw;(try dsimp only at hSw);obtain⟨s0,s1,s2⟩:=hSw;go_simp;(try with_reducible rfl)
        try simp only[Act.put,zA,zB,zC,zD,zE,zF]
        refine wt 6 ?ca19 [] ?cb20 ?cc21;case cb20=>intro w hSw;(try dsimp only at hSw);obtain⟨s0,s1,s2⟩:=hSw;go_simp;(try with_reducible rfl)
        try simp only[Act.put,zA,zB,zC,zD,zE,zF]
        refine wt 7 ?ca22 [] ?cb23 ?cc24;case cb23=>intro w hSw;(try dsimp only at hSw);obtain⟨s0,s1,s2⟩:=hSw;go_simp;(try with_reducible rfl)
        try simp only[Act.put,zA,zB,zC,zD,zE,zF]
        refine wt 8 ?ca25 [] ?cb26 ?cc27;case cb26=>intro w hSw;(try dsimp only at hSw);obtain⟨s0,s1,s2⟩:=hSw;go_simp;(try with_reducible rfl)
        try simp only[Act.put,zA,zB,zC,zD,zE,zF]
        refine wt 9 ?ca28 [] ?cb29 ?cc30;case cb29=>intro w hSw;(try dsimp only at hSw);obtain⟨s0,s1,s2⟩:=hSw;go_simp;(try with_reducible rfl)
        try simp only[Act.put,zA,zB,zC,zD,zE,zF]
        refine wt 10 ?ca31 [] ?cb32 ?cc33;case cb32=>intro w hSw;(try dsimp only at hSw);obtain⟨s0,s1,s2⟩:=hSw;go_simp;(try with_reducible rfl)
        try simp only[Act.put,zA,zB,zC,zD,zE,zF]
        refine wt 11 ?ca34 [] ?cb35 ?cc36;case cb35=>intro w hSw;(try dsimp only at hSw);obtain⟨s0,s1,s2⟩:=hSw;go_simp;(try with_reducible rfl)
        try simp only[Act.put,zA,zB,zC,zD,zE,zF]
        refine wt 12 ?ca37 [] ?cb38 ?cc39;case cb38=>intro w hSw;(try dsimp only at hSw);obtain⟨s0,s1,s2⟩:=hSw;go_simp;(try with_reducible rfl)
        try simp only[Act.put,zA,zB,zC,zD,zE,zF]
        refine wt 13 ?ca40 [] ?cb41 ?cc42;case cb41=>intro w hSw;(try dsimp only at hSw);obtain⟨s0,s1,s2⟩:=hSw;go_simp;(try with_reducible rfl)
        try simp only[Act.put,zA,zB,zC,zD,zE,zF]
        refine wt 14 ?ca43 [] ?cb44 ?cc45;case cb44=>intro w hSw;(try dsimp only at hSw);obtain⟨s0,s1,s2⟩:=hSw;go_simp;(try with_reducible rfl)
        try simp only[Act.put,zA,zB,zC,zD,zE,zF]
        refine wt 15 ?ca46 [] ?cb47 ?cc48;case cb47=>intro w hSw;(try dsimp only at hSw);obtain⟨s0,s1,s2⟩:=hSw;go_simp;(try with_reducible rfl)
        try simp only[Act.put,zA,zB,zC,zD,zE,zF]
        refine wt 16 ?ca49 [] ?cb50 ?cc51;case cb50=>intro w hSw;(try dsimp only at hSw);obtain⟨s0,s1,s2⟩:=hSw;go_simp;(try with_reducible rfl)
        try simp only[Act.put,zA,zB,zC,zD,zE,zF]
        refine wt 17 ?ca52 [] ?cb53 ?cc54;case cb53=>intro w hSw;(try dsimp only at hSw);obtain⟨s0,s1,s2⟩:=hSw;go_simp;(try with_reducible rfl)
        try simp only[Act.put,zA,zB,zC,zD,zE,zF]
        refine wt 18 ?ca55 [] ?cb56 ?cc57;case cb56=>intro w hSw;(try dsimp only at hSw);obtain⟨s0,s1,s2⟩:=hSw;go_simp;(try with_reducible rfl)
        try simp only[Act.put,zA,zB,zC,zD,zE,zF]
        refine wpEnd_ready (rs:=[19]) (by kernel_rfl) (by simp) ?_;refine AllReadyE.cons rfl (fun KW hK=>?cst58) AllReadyE.nil;go_simp;refine(HKH.out).mono ?_;rintro e wb ⟨rfl,rfl⟩;try go_wp2_with fail
        refine hK.out _ _ (fun _=>?cke59) (fun hHeld'=>?crs60);case cke59=>exact HSS.out _ (Below.refl _ _).drew
        have hHeld:=hHeld' (by decide);clear hHeld';clear hK KW;try simp only[Act.put,zA,zB,zC,zD,zE,zF]
        refine wt 20 ?ca61 [] ?cb62 ?cc63;case cb62=>intro w hSw;(try dsimp only at hSw);obtain⟨s0,s1,s2⟩:=hSw;go_simp;(try with_reducible rfl)
        try simp only[Act.put,zA,zB,zC,zD,zE,zF]
        refine wt 21 ?ca64 [] ?cb65 ?cc66;case cb65=>intro w hSw;(try dsimp only at hSw);obtain⟨s0,s1,s2⟩:=hSw;go_simp;(try with_reducible rfl)
        try simp only[Act.put,zA,zB,zC,zD,zE,zF]
        refine wt 22 ?ca67 [] ?cb68 ?cc69;case cb68=>intro w hSw;(try dsimp only at hSw);obtain⟨s0,s1,s2⟩:=hSw;go_simp;(try with_reducible rfl)
        try simp only[Act.put,zA,zB,zC,zD,zE,zF]
        refine wpEnd_ready (rs:=[23]) (by kernel_rfl) (by simp) ?_;refine AllReadyE.cons rfl (fun KW hK=>?cst70) AllReadyE.nil;go_simp;refine hK.out _ _ (fun h=>absurd rfl h) (fun hHeld=>?crs72);clear hK KW;try simp only[Act.put,zA,zB,zC,zD,zE,zF]
        refine wpEnd_done (by kernel_rfl) ?_ _;go_wp2_with fail;go_roundw;case rel=>exact⟨j+1,_,by omega,rfl,by go_num,HBD.out,HE.out⟩
        case measure=>simp[intOf];omega
       case true =>
        have HE:Hid (P e2=(false&&!((es.drop (j+1)).any fun e=>decide (e.2=e2)&&decide (e.1∈left)))):=by unfold Hid;rw[hS.out,HST.out];simp
        go_wp2_with fail;refine wpEnd_begin (S:=fun W=>W.cell? ⟨lb,lo+k,none⟩=some (.int .i64 e2)∧W.cell? ⟨eb,eo+j*2,none⟩=some (.int .i64 e1)∧W.cell? ⟨eb,eo+j*2+1,none⟩=some (.int .i64 e2)) 23 (by kernel_rfl) ?hSd (fun hHeld=>?rgd);case hSd=>exact HSS.out _ (Below.refl _ _).drew
        refine wt 0 ?da1 [] ?db2 ?dc3;case db2=>intro w hSw;(try dsimp only at hSw);obtain⟨s0,s1,s2⟩:=hSw;go_simp;(try with_reducible rfl)
        try simp only[Act.put,zA,zB,zC,zD,zF]
        refine wt 1 ?da4 [] ?db5 ?dc6;case db5=>intro w hSw;(try dsimp only at hSw);obtain⟨s0,s1,s2⟩:=hSw;go_simp;(try with_reducible rfl)
        try simp only[Act.put,zA,zB,zC,zD,zE,zF]
        refine wt 2 ?da7 [] ?db8 ?dc9;case db8=>intro w hSw;(try dsimp only at hSw);obtain⟨s0,s1,s2⟩:=hSw;go_simp;(try with_reducible rfl)
        try simp only[Act.put,zA,zB,zC,zD,zE,zF]
        refine wt 3 ?da10 [] ?db11 ?dc12;case db11=>intro w hSw;(try dsimp only at hSw);obtain⟨s0,s1,s2⟩:=hSw;go_simp;(try with_reducible rfl)
        try simp only[Act.put,zA,zB,zC,zD,zE,zF]
        refine wt 4 ?da13 [] ?db14 ?dc15;case db14=>intro w hSw;(try dsimp only at hSw);obtain⟨s0,s1,s2⟩:=hSw;go_simp;(try with_reducible rfl)
        try simp only[Act.put,zA,zB,zC,zD,zE,zF]
        refine wt 5 ?da16 [] ?db17 ?dc18;case db17=>intro w hSw;(try dsimp only at hSw);obtain⟨s0,s1,s2⟩:=hSw;go_simp;(try with_reducible rfl)
        try simp only[Act.put,zA,zB,zC,zD,zE,zF]
        refine wt 6 ?da19 [] ?db20 ?dc21;case db20=>intro w hSw;(try dsimp only at hSw);obtain⟨s0,s1,s2⟩:=hSw;go_simp;(try with_reducible rfl)
        try simp only[Act.put,zA,zB,zC,zD,zE,zF]
        refine wt 7 ?da22 [] ?db23 ?dc24;case db23=>intro w hSw;(try dsimp only at hSw);obtain⟨s0,s1,s2⟩:=hSw;go_simp;(try with_reducible rfl)
        try simp only[Act.put,zA,zB,zC,zD,zE,zF]
        refine wt 8 ?da25 [] ?db26 ?dc27;case db26=>intro w hSw;(try dsimp only at hSw);obtain⟨s0,s1,s2⟩:=hSw;go_simp;(try with_reducible rfl)
        try simp only[Act.put,zA,zB,zC,zD,zE,zF]
        refine wt 9 ?da28 [] ?db29 ?dc30;case db29=>intro w hSw;(try dsimp only at hSw);obtain⟨s0,s1,s2⟩:=hSw;go_simp;(try with_reducible rfl)
        try simp only[Act.put,zA,zB,zC,zD,zE,zF]
        refine wt 10 ?da31 [] ?db32 ?dc33;case db32=>intro w hSw;(try dsimp only at hSw);obtain⟨s0,s1,s2⟩:=hSw;go_simp;(try with_reducible rfl)
        try simp only[Act.put,zA,zB,zC,zD,zE,zF]
        refine wt 11 ?da34 [] ?db35 ?dc36;case db35=>intro w hSw;(try dsimp only at hSw);obtain⟨s0,s1,s2⟩:=hSw;go_simp;(try with_reducible rfl)
        try simp only[Act.put,zA,zB,zC,zD,zE,zF]
        refine wt 12 ?da37 [] ?db38 ?dc39;case db38=>intro w hSw;(try dsimp only at hSw);obtain⟨s0,s1,s2⟩:=hSw;go_simp;(try with_reducible rfl)
        try simp only[Act.put,zA,zB,zC,zD,zE,zF]
        refine wt 13 ?da40 [] ?db41 ?dc42;case db41=>intro w hSw;(try dsimp only at hSw);obtain⟨s0,s1,s2⟩:=hSw;go_simp;(try with_reducible rfl)
        try simp only[Act.put,zA,zB,zC,zD,zE,zF]
        refine wt 14 ?da43 [] ?db44 ?dc45;case db44=>intro w hSw;(try dsimp only at hSw);obtain⟨s0,s1,s2⟩:=hSw;go_simp;(try with_reducible rfl)
        try simp only[Act.put,zA,zB,zC,zD,zE,zF]
        refine wt 15 ?da46 [] ?db47 ?dc48;case db47=>intro w hSw;(try dsimp only at hSw);obtain⟨s0,s1,s2⟩:=hSw;go_simp;(try with_reducible rfl)
        try simp only[Act.put,zA,zB,zC,zD,zE,zF]
        refine wt 16 ?da49 [] ?db50 ?dc51;case db50=>intro w hSw;(try dsimp only at hSw);obtain⟨s0,s1,s2⟩:=hSw;go_simp;(try with_reducible rfl)
        try simp only[Act.put,zA,zB,zC,zD,zE,zF]
        refine wt 17 ?da52 [] ?db53 ?dc54;case db53=>intro w hSw;(try dsimp only at hSw);obtain⟨s0,s1,s2⟩:=hSw;go_simp;(try with_reducible rfl)
        try simp only[Act.put,zA,zB,zC,zD,zE,zF]
        refine wt 18 ?da55 [] ?db56 ?dc57;case db56=>intro w hSw;(try dsimp only at hSw);obtain⟨s0,s1,s2⟩:=hSw;go_simp;(try with_reducible rfl)
        try simp only[Act.put,zA,zB,zC,zD,zE,zF]
        refine wpEnd_ready (rs:=[19]) (by kernel_rfl) (by simp) ?_;refine AllReadyE.cons rfl (fun KW hK=>?dst58) AllReadyE.nil;go_simp;refine(HKH.out).mono ?_;rintro e wb ⟨rfl,rfl⟩;try go_wp2_with fail
        refine hK.out _ _ (fun _=>?dke59) (fun hHeld'=>?drs60);case dke59=>exact HSS.out _ (Below.refl _ _).drew
        have hHeld:=hHeld' (by decide);clear hHeld';clear hK KW;try simp only[Act.put,zA,zB,zC,zD,zE,zF]
        refine wt 20 ?da61 [] ?db62 ?dc63;case db62=>intro w hSw;(try dsimp only at hSw);obtain⟨s0,s1,s2⟩:=hSw;go_simp;(try with_reducible rfl)
        try simp only[Act.put,zA,zB,zC,zD,zE,zF]
        refine wt 21 ?da64 [] ?db65 ?dc66;case db65=>intro w hSw;(try dsimp only at hSw);obtain⟨s0,s1,s2⟩:=hSw;go_simp;(try with_reducible rfl)
        try simp only[Act.put,zA,zB,zC,zD,zE,zF]
        refine wt 22 ?da67 [] ?db68 ?dc69;case db68=>intro w hSw;(try dsimp only at hSw);obtain⟨s0,s1,s2⟩:=hSw;go_simp;(try with_reducible rfl)
        try simp only[Act.put,zA,zB,zC,zD,zE,zF]
        refine wpEnd_ready (rs:=[23]) (by kernel_rfl) (by simp) ?_;refine AllReadyE.cons rfl (fun KW hK=>?dst70) AllReadyE.nil;go_simp;refine hK.out _ _ (fun h=>absurd rfl h) (fun hHeld=>?drs72);clear hK KW;try simp only[Act.put,zA,zB,zC,zD,zE,zF]
        refine wpEnd_done (by kernel_rfl) ?_ _;go_wp2_with fail;go_roundw;case rel=>exact⟨j+1,_,by omega,rfl,by go_num,HBD.out,HE.out⟩
        case measure=>simp[intOf];omega
     · have hji:¬(j:Int)<(m:Int):=by omega
       have HE:Hid (P o=f):=by unfold Hid;rw[hS.out,List.drop_of_length_le (show es.length≤j by rw[HM.out];omega)];simp
       cases f
       · go_wp2_with fail;go_roundw;case rel=>exact⟨k+1,by omega,by go_num,HB.out,by unfold Hid;rw[HS.out,HSTK.out,HE.out];rfl⟩
         case measure=>simp[intOf];omega
       · go_wp2_with fail;go_ret;exact⟨ret_int (by rw[HS.out,HSTK.out,HE.out];rfl),HB.out⟩
  · have HE:Hid (idxF P left 0=-1):=by unfold Hid;rw[HS.out,List.drop_of_length_le (by rw[HL.out];omega)];rfl
    have hki:¬(k:Int)<(n:Int):=by omega
    go_wp2_with fail;go_ret;exact⟨ret_int HE.out.symm,HBK.out⟩
end Go.Proofs.YtlicffeicmoifaaGreatDoor
