import Derived.Test.YtgmaamnofhmecaaGreatDoorV40
import Derived.Test.YtgmaamnofhmecaaGreatDoorV35
import Derived.Test.YtgmaamnofhmecaaGreatDoorV23
open Go.Lib renaming hid → zh
open List renaming getElem_cons_succ → zE, getElem_cons_zero → zF, getElem_toArray → zD, setIfInBounds_toArray → zA, set_cons_succ → zC, set_cons_zero → zB
namespace Go.Proofs.YtgmaamnofhmecaaGreatDoor
open Go.RowKit
set_option linter.unusedVariables false
theorem zJU {α:Type} [Inhabited α] (p:α→Bool) (l:List α) (k:Nat) (hk:k<l.length) (h:p (l.getD k default)=true):l.any p=true:=List.any_eq_true.2 ⟨_,zAe l k hk,h⟩
theorem zKQ {α:Type} [Inhabited α] (p:α→Bool) (l:List α) (h:∀k,k<l.length→p (l.getD k default)=false):l.any p=false:=by
 rw[List.any_eq_false];intro x hx;obtain⟨i,hi,rfl⟩:=List.getElem_of_mem hx;have:=h i hi;rw[List.getD_eq_getElem?_getD,List.getElem?_eq_getElem hi]at this;simpa using this
def zIn (cols:List ByteArray) (x1 x2 x3:ByteArray) (r:List ByteArray):Bool:=decide (r.getD 0 ByteArray.empty=x3)&&decide (cellAt cols r x1=x2)
set_option maxRecDepth 100000 in
set_option maxHeartbeats 40000000 in
theorem zEq (b0 b1 b2 b3:Value) (A:Option Addr) (n c:Nat) (c0 c1 c2:Value) (b:TableD) (rs:List (List ByteArray)) (d:NodeD) (w:World) (hb:TableR w w.heap.size b0 b1 b2 b3 b) (h:RowsRd w w.heap.size A n rs) (hd:NodeR w w.heap.size c0 c1 c2 d)
 (hn:n≤1048576) (hbs:b.small) (hpos:0<b.cols.length) (hin:∀x,0≤wA b.idx x→0≤wA b.cols x) (hrl:∀k,k<n→(rs.getD k default).length=b.cols.length) :
 Calls Tryz.prog 64 #[.agg #[b0,b1,b2,b3],.slice A n c,.agg #[c0,c1,c2]] w fun e w'=>e=.returned (.bool (vR b rs d))∧Below w.heap.size w w':=by
 obtain⟨rfl,rfl,⟨A2,n2,p2,rfl,s2,k2⟩,⟨A3,n3,p3,rfl,s3,k3⟩⟩:=hb;obtain⟨rfl,⟨A1,n1,p1,rfl,s1,k1⟩,rfl⟩:=hd;have HC2:=zh (fun W (hW:Below w.heap.size w W)=>s2.later hW);have HC3:=zh (fun W (hW:Below w.heap.size w W)=>s3.later hW);have HC1:=zh (fun W (hW:Below w.heap.size w W)=>s1.later hW);have HRD:=zh (fun W (hW:Below w.heap.size w W)=>h.later hW);have hln:rs.length=n:=h.1;have hl2:b.cols.length=n2:=s2.1;have hl1:d.subs.length=n1:=s1.1;have hn2:n2≤1048576:=by rw[←hl2];exact hbs.2.2.1.1
 have hn3:n3≤1048576:=by rw[←s3.1];exact hbs.2.2.2.1
 have hp2:0<n2:=by omega
 have HPL:=zh (fun x (hx:0≤wA b.idx x)=>(show ∃p:Nat,wA b.cols x=(p:Int)∧p<n2 from⟨(wA b.cols x).toNat,by have:=hin x hx;omega,by have:=(xJ b.cols x).2;have:=hin x hx;omega⟩));have HRL:Hid (∀k,k<n→(rs.getD k default).length=n2):=fun k hk=>(hrl k hk).trans hl2;have HR:Hid (vR b rs d=(decide (n1=4)&&(decide (0≤wA b.idx (d.subs.getD 1 ByteArray.empty))&&(decide (d.val=⟨#[]⟩)&&rs.any (zIn b.cols (d.subs.getD 1 ByteArray.empty) (d.subs.getD 2 ByteArray.empty) (d.subs.getD 3 ByteArray.empty)))))):=by unfold Hid vR;rw[hl1];rfl
 have HLN:=zh hln;obtain⟨WB,hWB⟩:∃WB,WB=(w.alloc (.cells #[.string b.name,.string b.glob,.slice A2 n2 p2,.slice A3 n3 p3] 29)).alloc (.cells #[.string d.name,.slice A1 n1 p1,.string d.val] 102):=⟨_,rfl⟩;have HBB:Hid (Below w.heap.size w WB):=by subst hWB;exact(Below.new _ _).later (Below.new _ _)
 have HT0:Hid (Blk WB w.heap.size 29 #[.string b.name,.string b.glob,.slice A2 n2 p2,.slice A3 n3 p3]):=by subst hWB;exact uC _ _ _
 have HD0:Hid (Blk WB (w.heap.size+1) 102 #[.string d.name,.slice A1 n1 p1,.string d.val]):=by subst hWB;exact xB _ _ _
 have HSA:Hid (∀W,Below WB.heap.size WB W→(W.cell? ⟨w.heap.size,3,none⟩=some (.slice A3 n3 p3)∧W.cell? ⟨w.heap.size+1,1,none⟩=some (.slice A1 n1 p1)∧W.cell? ⟨w.heap.size+1,2,none⟩=some (.string d.val))):=fun W hW=>⟨(HT0.out.later hW HT0.out.lt).at 3 rfl,(HD0.out.later hW HD0.out.lt).at 1 rfl,(HD0.out.later hW HD0.out.lt).at 2 rfl⟩;have HS2:Hid (∀W,Below WB.heap.size WB W→W.cell? ⟨w.heap.size,2,none⟩=some (.slice A2 n2 p2)):=fun W hW=>(HT0.out.later hW HT0.out.lt).at 2 rfl;have HKI:=zh (fun W (hW:Below WB.heap.size WB W)=>wP A3 n3 p3 b.idx (d.subs.getD 1 ByteArray.empty) W (HC3.out W (HBB.out.later hW)) hn3);have HKC:=zh (fun W (hW:Below WB.heap.size WB W)=>wP A2 n2 p2 b.cols (d.subs.getD 1 ByteArray.empty) W (HC2.out W (HBB.out.later hW)) hn2);clear s1 s2 s3 h hln hl2 hl1 hbs hrl hin hpos HT0 HD0;generalize vR b rs d=RES at *;generalize d.val=val at *;generalize b.name=nm at *;generalize b.glob=gl at *;generalize d.name=dn at *;obtain⟨z0,z1,z2⟩:=HSA.out _ (Below.refl _ _);go_enter Tryz.func64,Tryz.ntmps64;go_wp2_with fail;(try rw[←hWB]);clear hWB;(try go_wp2_with fail);by_cases h4:n1=4
 case neg =>
  have hb4:((n1:Int) != 4)=true:=by simp[bne,beq_eq_false_iff_ne];omega
  have hd4:decide (n1=4)=false:=decide_eq_false h4;clear z0 z1 z2;refine uN (S:=fun W=>W.cell? ⟨w.heap.size,3,none⟩=some (.slice A3 n3 p3)∧W.cell? ⟨w.heap.size+1,1,none⟩=some (.slice A1 n1 p1)∧W.cell? ⟨w.heap.size+1,2,none⟩=some (.string val)) 18 (by kernel_rfl) ?hSwa (fun hHeld=>?rgwa);case hSwa=>exact HSA.out _ (Below.refl _ _).drew
  refine wt 0 ?waa1 [14,11,4,3,2,1] ?wab2 ?wac3;case wab2=>intro w hSw;(try dsimp only at hSw);obtain⟨s0,s1,s2⟩:=hSw;go_simp;(try with_reducible rfl)
  try simp only[Act.put,zA,zB,zC,zD,zF]
  refine wt 1 ?waa4 [14,11,4,3,2] ?wab5 ?wac6;case wab5=>intro w hSw;(try dsimp only at hSw);obtain⟨s0,s1,s2⟩:=hSw;go_simp;(try with_reducible rfl)
  try simp only[Act.put,zA,zB,zC,zD,zE,zF]
  refine wt 2 ?waa7 [14,11,4,3] ?wab8 ?wac9;case wab8=>intro w hSw;(try dsimp only at hSw);obtain⟨s0,s1,s2⟩:=hSw;go_simp;(try with_reducible rfl)
  try simp only[Act.put,zA,zB,zC,zD,zE,zF]
  refine wt 3 ?waa10 [14,11,4] ?wab11 ?wac12;case wab11=>intro w hSw;(try dsimp only at hSw);obtain⟨s0,s1,s2⟩:=hSw;go_simp;(try with_reducible rfl)
  try simp only[Act.put,zA,zB,zC,zD,zE,zF]
  refine wt 4 ?waa13 [14,11] ?wab14 ?wac15;case wab14=>intro w hSw;(try dsimp only at hSw);obtain⟨s0,s1,s2⟩:=hSw;go_simp;(try with_reducible rfl)
  try simp only[Act.put,zA,zB,zC,zD,zE,zF]
  refine wu 5 [14,11,6] ?wac16;try simp only[Act.put,zA,zB,zC,zD,zE,zF]
  refine wu 6 [14,11] ?wac17;try simp only[Act.put,zA,zB,zC,zD,zE,zF]
  refine wu 7 [14,11,10,9,8] ?wac18;try simp only[Act.put,zA,zB,zC,zD,zE,zF]
  refine wu 8 [14,11,10,9] ?wac19;try simp only[Act.put,zA,zB,zC,zD,zE,zF]
  refine wu 9 [14,11,10] ?wac20;try simp only[Act.put,zA,zB,zC,zD,zE,zF]
  refine wu 10 [14,11] ?wac21;try simp only[Act.put,zA,zB,zC,zD,zE,zF]
  refine wu 11 [14] ?wac22;try simp only[Act.put,zA,zB,zC,zD,zE,zF]
  refine wu 12 [14,13] ?wac23;try simp only[Act.put,zA,zB,zC,zD,zE,zF]
  refine wt 13 ?waa24 [14] ?wab25 ?wac26;case wab25=>intro w hSw;(try dsimp only at hSw);obtain⟨s0,s1,s2⟩:=hSw;go_simp;(try with_reducible rfl)
  try simp only[Act.put,zA,zB,zC,zD,zE,zF]
  refine wt 14 ?waa27 [] ?wab28 ?wac29;case wab28=>intro w hSw;(try dsimp only at hSw);obtain⟨s0,s1,s2⟩:=hSw;go_simp;(try with_reducible rfl)
  try simp only[Act.put,zA,zB,zC,zD,zE,zF]
  refine wu 15 [17,16] ?wac30;try simp only[Act.put,zA,zB,zC,zD,zE,zF]
  refine wu 16 [17] ?wac31;try simp only[Act.put,zA,zB,zC,zD,zE,zF]
  refine wu 17 [] ?wac32;try simp only[Act.put,zA,zB,zC,zD,zE,zF]
  refine yH (rs:=[18]) (by kernel_rfl) (by simp) ?_;refine AllReadyE.cons rfl (fun KW hK=>?wast33) AllReadyE.nil;go_simp;refine hK.out _ _ (fun h=>absurd rfl h) (fun hHeld=>?wars35);clear hK KW;try simp only[Act.put,zA,zB,zC,zD,zE,zF]
  refine yS (by kernel_rfl) ?_ _;go_wp2_with fail;go_ret;exact⟨by rw[HR.out,hd4];rfl,HBB.out.later (Below.refl _ _).drew⟩
 subst h4;obtain⟨sb,so,rfl,hsb,hsc0⟩:=(HC1.out w (Below.refl _ _)).2 (by omega);have HSC:Hid (∀W,Below WB.heap.size WB W→∀j,j<4→W.cell? ⟨sb,so+j,none⟩=some (.string (d.subs.getD j ByteArray.empty))):=fun W hW j hj=>cell_later (HBB.out.later hW) (hsc0 j hj);have HSB:Hid (∀W,Below WB.heap.size WB W→(W.cell? ⟨w.heap.size,3,none⟩=some (.slice A3 n3 p3)∧W.cell? ⟨w.heap.size+1,1,none⟩=some (.slice (some ⟨sb,so,none⟩) 4 p1)∧W.cell? ⟨w.heap.size+1,2,none⟩=some (.string val)∧W.cell? ⟨sb,so+1,none⟩=some (.string (d.subs.getD 1 ByteArray.empty)))):=fun W hW=>⟨(HSA.out W hW).1,(HSA.out W hW).2.1,(HSA.out W hW).2.2,HSC.out W hW 1 (by omega)⟩;clear hsc0 z0 z1 z2;generalize hx1:d.subs.getD 1 ByteArray.empty=x1 at *;generalize hx2:d.subs.getD 2 ByteArray.empty=x2 at *;generalize hx3:d.subs.getD 3 ByteArray.empty=x3 at *;have HX1:=zh hx1;have HX2:=zh hx2;have HX3:=zh hx3;clear hx1 hx2 hx3;have HPX:=zh (HPL.out x1);by_cases h0:0≤wA b.idx x1
 case neg =>
  have hd0:decide (0≤wA b.idx x1)=false:=decide_eq_false h0;have hneg:wA b.idx x1<0:=by omega
  have hdn:decide (wA b.idx x1<0)=true:=decide_eq_true hneg;generalize wA b.idx x1=pi at *;refine uN (S:=fun W=>W.cell? ⟨w.heap.size,3,none⟩=some (.slice A3 n3 p3)∧W.cell? ⟨w.heap.size+1,1,none⟩=some (.slice (some ⟨sb,so,none⟩) 4 p1)∧W.cell? ⟨w.heap.size+1,2,none⟩=some (.string val)∧W.cell? ⟨sb,so+1,none⟩=some (.string x1)) 18 (by kernel_rfl) ?hSwb (fun hHeld=>?rgwb);case hSwb=>exact HSB.out _ (Below.refl _ _).drew
  refine wt 0 ?wba1 [14,11,4,3,2,1] ?wbb2 ?wbc3;case wbb2=>intro w hSw;(try dsimp only at hSw);obtain⟨s0,s1,s2,s3⟩:=hSw;go_simp;(try with_reducible rfl)
  try simp only[Act.put,zA,zB,zC,zD,zF]
  refine wt 1 ?wba4 [14,11,4,3,2] ?wbb5 ?wbc6;case wbb5=>intro w hSw;(try dsimp only at hSw);obtain⟨s0,s1,s2,s3⟩:=hSw;go_simp;(try with_reducible rfl)
  try simp only[Act.put,zA,zB,zC,zD,zE,zF]
  refine wt 2 ?wba7 [14,11,4,3] ?wbb8 ?wbc9;case wbb8=>intro w hSw;(try dsimp only at hSw);obtain⟨s0,s1,s2,s3⟩:=hSw;go_simp;(try with_reducible rfl)
  try simp only[Act.put,zA,zB,zC,zD,zE,zF]
  refine wt 3 ?wba10 [14,11,4] ?wbb11 ?wbc12;case wbb11=>intro w hSw;(try dsimp only at hSw);obtain⟨s0,s1,s2,s3⟩:=hSw;go_simp;(try with_reducible rfl)
  try simp only[Act.put,zA,zB,zC,zD,zE,zF]
  refine wt 4 ?wba13 [14,11] ?wbb14 ?wbc15;case wbb14=>intro w hSw;(try dsimp only at hSw);obtain⟨s0,s1,s2,s3⟩:=hSw;go_simp;(try with_reducible rfl)
  try simp only[Act.put,zA,zB,zC,zD,zE,zF]
  refine wt 5 ?wba16 [14,11,6] ?wbb17 ?wbc18;case wbb17=>intro w hSw;(try dsimp only at hSw);obtain⟨s0,s1,s2,s3⟩:=hSw;go_simp;(try with_reducible rfl)
  try simp only[Act.put,zA,zB,zC,zD,zE,zF]
  refine wt 6 ?wba19 [14,11] ?wbb20 ?wbc21;case wbb20=>intro w hSw;(try dsimp only at hSw);obtain⟨s0,s1,s2,s3⟩:=hSw;go_simp;(try with_reducible rfl)
  try simp only[Act.put,zA,zB,zC,zD,zE,zF]
  refine wt 7 ?wba22 [14,11,10,9,8] ?wbb23 ?wbc24;case wbb23=>intro w hSw;(try dsimp only at hSw);obtain⟨s0,s1,s2,s3⟩:=hSw;go_simp;(try with_reducible rfl)
  try simp only[Act.put,zA,zB,zC,zD,zE,zF]
  refine wt 8 ?wba25 [14,11,10,9] ?wbb26 ?wbc27;case wbb26=>intro w hSw;(try dsimp only at hSw);obtain⟨s0,s1,s2,s3⟩:=hSw;go_simp;(try with_reducible rfl)
  try simp only[Act.put,zA,zB,zC,zD,zE,zF]
  refine wt 9 ?wba28 [14,11,10] ?wbb29 ?wbc30;case wbb29=>intro w hSw;(try dsimp only at hSw);obtain⟨s0,s1,s2,s3⟩:=hSw;go_simp;(try with_reducible rfl)
  try simp only[Act.put,zA,zB,zC,zD,zE,zF]
  refine wt 10 ?wba31 [14,11] ?wbb32 ?wbc33;case wbb32=>intro w hSw;(try dsimp only at hSw);obtain⟨s0,s1,s2,s3⟩:=hSw;go_simp;(try with_reducible rfl)
  try simp only[Act.put,zA,zB,zC,zD,zE,zF]
  refine yH (rs:=[11]) (by kernel_rfl) (by simp) ?_;refine AllReadyE.cons rfl (fun KW hK=>?wbst34) AllReadyE.nil;go_simp;refine(HKI.out _ (by exact(Below.refl _ _).drew)).mono ?_;rintro e wb ⟨rfl,rfl⟩;try go_wp2_with fail
  refine hK.out _ _ (fun _=>?wbke35) (fun hHeld'=>?wbrs36);case wbke35=>exact HSB.out _ (Below.refl _ _).drew
  have hHeld:=hHeld' (by decide);clear hHeld';clear hK KW;try simp only[Act.put,zA,zB,zC,zD,zE,zF]
  refine wt 12 ?wba37 [14,13] ?wbb38 ?wbc39;case wbb38=>intro w hSw;(try dsimp only at hSw);obtain⟨s0,s1,s2,s3⟩:=hSw;go_simp;(try with_reducible rfl)
  try simp only[Act.put,zA,zB,zC,zD,zE,zF]
  refine wt 13 ?wba40 [14] ?wbb41 ?wbc42;case wbb41=>intro w hSw;(try dsimp only at hSw);obtain⟨s0,s1,s2,s3⟩:=hSw;go_simp;(try with_reducible rfl)
  try simp only[Act.put,zA,zB,zC,zD,zE,zF]
  refine wt 14 ?wba43 [] ?wbb44 ?wbc45;case wbb44=>intro w hSw;(try dsimp only at hSw);obtain⟨s0,s1,s2,s3⟩:=hSw;go_simp;(try with_reducible rfl)
  try simp only[Act.put,zA,zB,zC,zD,zE,zF]
  refine wu 15 [17,16] ?wbc46;try simp only[Act.put,zA,zB,zC,zD,zE,zF]
  refine wu 16 [17] ?wbc47;try simp only[Act.put,zA,zB,zC,zD,zE,zF]
  refine wu 17 [] ?wbc48;try simp only[Act.put,zA,zB,zC,zD,zE,zF]
  refine yH (rs:=[18]) (by kernel_rfl) (by simp) ?_;refine AllReadyE.cons rfl (fun KW hK=>?wbst49) AllReadyE.nil;go_simp;refine hK.out _ _ (fun h=>absurd rfl h) (fun hHeld=>?wbrs51);clear hK KW;try simp only[Act.put,zA,zB,zC,zD,zE,zF]
  refine yS (by kernel_rfl) ?_ _;go_wp2_with fail;go_ret;exact⟨by rw[HR.out,hd0,Bool.false_and,Bool.and_false];rfl,HBB.out.later (Below.refl _ _).drew⟩
 have hd0:decide (0≤wA b.idx x1)=true:=decide_eq_true h0;have hdn:decide (wA b.idx x1<0)=false:=decide_eq_false (by omega);obtain⟨pl,hpl,hpln⟩:=HPX.out h0;by_cases hv:val=⟨#[]⟩
 case neg =>
  have hdv:decide (val=(⟨#[]⟩:ByteArray))=false:=decide_eq_false hv;have hvb:=wY hv
  have hvb2:(!val.toList==[])=true:=by
   have h1:(⟨#[]⟩:ByteArray).toList=[]:=by first | rfl | simp | decide
   rw[h1]at hvb;exact hvb
  have hvb3:(!val.toList.isEmpty)=true:=by revert hvb2;cases val.toList <;> simp
  clear hvb hvb2;generalize wA b.idx x1=pi at *;refine uN (S:=fun W=>W.cell? ⟨w.heap.size,3,none⟩=some (.slice A3 n3 p3)∧W.cell? ⟨w.heap.size+1,1,none⟩=some (.slice (some ⟨sb,so,none⟩) 4 p1)∧W.cell? ⟨w.heap.size+1,2,none⟩=some (.string val)∧W.cell? ⟨sb,so+1,none⟩=some (.string x1)) 18 (by kernel_rfl) ?hSwc (fun hHeld=>?rgwc);case hSwc=>exact HSB.out _ (Below.refl _ _).drew
  refine wt 0 ?wca1 [14,11,4,3,2,1] ?wcb2 ?wcc3;case wcb2=>intro w hSw;(try dsimp only at hSw);obtain⟨s0,s1,s2,s3⟩:=hSw;go_simp;(try with_reducible rfl)
  try simp only[Act.put,zA,zB,zC,zD,zF]
  refine wt 1 ?wca4 [14,11,4,3,2] ?wcb5 ?wcc6;case wcb5=>intro w hSw;(try dsimp only at hSw);obtain⟨s0,s1,s2,s3⟩:=hSw;go_simp;(try with_reducible rfl)
  try simp only[Act.put,zA,zB,zC,zD,zE,zF]
  refine wt 2 ?wca7 [14,11,4,3] ?wcb8 ?wcc9;case wcb8=>intro w hSw;(try dsimp only at hSw);obtain⟨s0,s1,s2,s3⟩:=hSw;go_simp;(try with_reducible rfl)
  try simp only[Act.put,zA,zB,zC,zD,zE,zF]
  refine wt 3 ?wca10 [14,11,4] ?wcb11 ?wcc12;case wcb11=>intro w hSw;(try dsimp only at hSw);obtain⟨s0,s1,s2,s3⟩:=hSw;go_simp;(try with_reducible rfl)
  try simp only[Act.put,zA,zB,zC,zD,zE,zF]
  refine wt 4 ?wca13 [14,11] ?wcb14 ?wcc15;case wcb14=>intro w hSw;(try dsimp only at hSw);obtain⟨s0,s1,s2,s3⟩:=hSw;go_simp;(try with_reducible rfl)
  try simp only[Act.put,zA,zB,zC,zD,zE,zF]
  refine wt 5 ?wca16 [14,11,6] ?wcb17 ?wcc18;case wcb17=>intro w hSw;(try dsimp only at hSw);obtain⟨s0,s1,s2,s3⟩:=hSw;go_simp;(try with_reducible rfl)
  try simp only[Act.put,zA,zB,zC,zD,zE,zF]
  refine wt 6 ?wca19 [14,11] ?wcb20 ?wcc21;case wcb20=>intro w hSw;(try dsimp only at hSw);obtain⟨s0,s1,s2,s3⟩:=hSw;go_simp;(try with_reducible rfl)
  try simp only[Act.put,zA,zB,zC,zD,zE,zF]
  refine wt 7 ?wca22 [14,11,10,9,8] ?wcb23 ?wcc24;case wcb23=>intro w hSw;(try dsimp only at hSw);obtain⟨s0,s1,s2,s3⟩:=hSw;go_simp;(try with_reducible rfl)
  try simp only[Act.put,zA,zB,zC,zD,zE,zF]
  refine wt 8 ?wca25 [14,11,10,9] ?wcb26 ?wcc27;case wcb26=>intro w hSw;(try dsimp only at hSw);obtain⟨s0,s1,s2,s3⟩:=hSw;go_simp;(try with_reducible rfl)
  try simp only[Act.put,zA,zB,zC,zD,zE,zF]
  refine wt 9 ?wca28 [14,11,10] ?wcb29 ?wcc30;case wcb29=>intro w hSw;(try dsimp only at hSw);obtain⟨s0,s1,s2,s3⟩:=hSw;go_simp;(try with_reducible rfl)
  try simp only[Act.put,zA,zB,zC,zD,zE,zF]
  refine wt 10 ?wca31 [14,11] ?wcb32 ?wcc33;case wcb32=>intro w hSw;(try dsimp only at hSw);obtain⟨s0,s1,s2,s3⟩:=hSw;go_simp;(try with_reducible rfl)
  try simp only[Act.put,zA,zB,zC,zD,zE,zF]
  refine yH (rs:=[11]) (by kernel_rfl) (by simp) ?_;refine AllReadyE.cons rfl (fun KW hK=>?wcst34) AllReadyE.nil;go_simp;refine(HKI.out _ (by exact(Below.refl _ _).drew)).mono ?_;rintro e wb ⟨rfl,rfl⟩;try go_wp2_with fail
  refine hK.out _ _ (fun _=>?wcke35) (fun hHeld'=>?wcrs36);case wcke35=>exact HSB.out _ (Below.refl _ _).drew
  have hHeld:=hHeld' (by decide);clear hHeld';clear hK KW;try simp only[Act.put,zA,zB,zC,zD,zE,zF]
  refine wt 12 ?wca37 [14,13] ?wcb38 ?wcc39;case wcb38=>intro w hSw;(try dsimp only at hSw);obtain⟨s0,s1,s2,s3⟩:=hSw;go_simp;(try with_reducible rfl)
  try simp only[Act.put,zA,zB,zC,zD,zE,zF]
  refine wt 13 ?wca40 [14] ?wcb41 ?wcc42;case wcb41=>intro w hSw;(try dsimp only at hSw);obtain⟨s0,s1,s2,s3⟩:=hSw;go_simp;(try with_reducible rfl)
  try simp only[Act.put,zA,zB,zC,zD,zE,zF]
  refine wt 14 ?wca43 [] ?wcb44 ?wcc45;case wcb44=>intro w hSw;(try dsimp only at hSw);obtain⟨s0,s1,s2,s3⟩:=hSw;go_simp;(try with_reducible rfl)
  try simp only[Act.put,zA,zB,zC,zD,zE,zF]
  refine wt 15 ?wca46 [17,16] ?wcb47 ?wcc48;case wcb47=>intro w hSw;(try dsimp only at hSw);obtain⟨s0,s1,s2,s3⟩:=hSw;go_simp;(try with_reducible rfl)
  try simp only[Act.put,zA,zB,zC,zD,zE,zF]
  refine wt 16 ?wca49 [17] ?wcb50 ?wcc51;case wcb50=>intro w hSw;(try dsimp only at hSw);obtain⟨s0,s1,s2,s3⟩:=hSw;go_simp;(try with_reducible rfl)
  try simp only[Act.put,zA,zB,zC,zD,zE,zF]
  refine wt 17 ?wca52 [] ?wcb53 ?wcc54;case wcb53=>intro w hSw;(try dsimp only at hSw);obtain⟨s0,s1,s2,s3⟩:=hSw;go_simp;(try with_reducible rfl)
  try simp only[Act.put,zA,zB,zC,zD,zE,zF]
  refine yH (rs:=[18]) (by kernel_rfl) (by simp) ?_;refine AllReadyE.cons rfl (fun KW hK=>?wcst55) AllReadyE.nil;go_simp;refine hK.out _ _ (fun h=>absurd rfl h) (fun hHeld=>?wcrs57);clear hK KW;try simp only[Act.put,zA,zB,zC,zD,zE,zF]
  refine yS (by kernel_rfl) ?_ _;go_wp2_with fail;go_ret;exact⟨by rw[HR.out,hdv,Bool.false_and,Bool.and_false,Bool.and_false];rfl,HBB.out.later (Below.refl _ _).drew⟩
 subst hv;have HRA:Hid (RES=rs.any (zIn b.cols x1 x2 x3)):=by unfold Hid;rw[HR.out,hd0,decide_eq_true (rfl:(⟨#[]⟩:ByteArray)=⟨#[]⟩),decide_eq_true (rfl:4=4)];rfl
 have HHT:Hid (∀r,zIn b.cols x1 x2 x3 r=(decide (r.getD 0 ByteArray.empty=x3)&&decide (r.getD pl ByteArray.empty=x2))):=fun r=>by unfold zIn cellAt;rw[hpl];rfl
 have hneg:¬wA b.idx x1<0:=by omega
 clear HR hd0;generalize wA b.idx x1=pi at *;rw[hpl]at HKC;clear hpl
 go_upto_region 1 with fail
 go_cut [26] (fun v wx=>v=.bool false∧Hid (Below WB.heap.size WB wx))
 case first=>as_aux_lemma =>
  refine uN (S:=fun W=>W.cell? ⟨w.heap.size,3,none⟩=some (.slice A3 n3 p3)∧W.cell? ⟨w.heap.size+1,1,none⟩=some (.slice (some ⟨sb,so,none⟩) 4 p1)∧W.cell? ⟨w.heap.size+1,2,none⟩=some (.string ⟨#[]⟩)∧W.cell? ⟨sb,so+1,none⟩=some (.string x1)) 18 (by kernel_rfl) ?hSwd (fun hHeld=>?rgwd);case hSwd=>exact HSB.out _ (Below.refl _ _).drew
  refine wt 0 ?wda1 [14,11,4,3,2,1] ?wdb2 ?wdc3;case wdb2=>intro w hSw;(try dsimp only at hSw);obtain⟨s0,s1,s2,s3⟩:=hSw;go_simp;(try with_reducible rfl)
  try simp only[Act.put,zA,zB,zC,zD,zF]
  refine wt 1 ?wda4 [14,11,4,3,2] ?wdb5 ?wdc6;case wdb5=>intro w hSw;(try dsimp only at hSw);obtain⟨s0,s1,s2,s3⟩:=hSw;go_simp;(try with_reducible rfl)
  try simp only[Act.put,zA,zB,zC,zD,zE,zF]
  refine wt 2 ?wda7 [14,11,4,3] ?wdb8 ?wdc9;case wdb8=>intro w hSw;(try dsimp only at hSw);obtain⟨s0,s1,s2,s3⟩:=hSw;go_simp;(try with_reducible rfl)
  try simp only[Act.put,zA,zB,zC,zD,zE,zF]
  refine wt 3 ?wda10 [14,11,4] ?wdb11 ?wdc12;case wdb11=>intro w hSw;(try dsimp only at hSw);obtain⟨s0,s1,s2,s3⟩:=hSw;go_simp;(try with_reducible rfl)
  try simp only[Act.put,zA,zB,zC,zD,zE,zF]
  refine wt 4 ?wda13 [14,11] ?wdb14 ?wdc15;case wdb14=>intro w hSw;(try dsimp only at hSw);obtain⟨s0,s1,s2,s3⟩:=hSw;go_simp;(try with_reducible rfl)
  try simp only[Act.put,zA,zB,zC,zD,zE,zF]
  refine wt 5 ?wda16 [14,11,6] ?wdb17 ?wdc18;case wdb17=>intro w hSw;(try dsimp only at hSw);obtain⟨s0,s1,s2,s3⟩:=hSw;go_simp;(try with_reducible rfl)
  try simp only[Act.put,zA,zB,zC,zD,zE,zF]
  refine wt 6 ?wda19 [14,11] ?wdb20 ?wdc21;case wdb20=>intro w hSw;(try dsimp only at hSw);obtain⟨s0,s1,s2,s3⟩:=hSw;go_simp;(try with_reducible rfl)
  try simp only[Act.put,zA,zB,zC,zD,zE,zF]
  refine wt 7 ?wda22 [14,11,10,9,8] ?wdb23 ?wdc24;case wdb23=>intro w hSw;(try dsimp only at hSw);obtain⟨s0,s1,s2,s3⟩:=hSw;go_simp;(try with_reducible rfl)
  try simp only[Act.put,zA,zB,zC,zD,zE,zF]
  refine wt 8 ?wda25 [14,11,10,9] ?wdb26 ?wdc27;case wdb26=>intro w hSw;(try dsimp only at hSw);obtain⟨s0,s1,s2,s3⟩:=hSw;go_simp;(try with_reducible rfl)
  try simp only[Act.put,zA,zB,zC,zD,zE,zF]
  refine wt 9 ?wda28 [14,11,10] ?wdb29 ?wdc30;case wdb29=>intro w hSw;(try dsimp only at hSw);obtain⟨s0,s1,s2,s3⟩:=hSw;go_simp;(try with_reducible rfl)
  try simp only[Act.put,zA,zB,zC,zD,zE,zF]
  refine wt 10 ?wda31 [14,11] ?wdb32 ?wdc33;case wdb32=>intro w hSw;(try dsimp only at hSw);obtain⟨s0,s1,s2,s3⟩:=hSw;go_simp;(try with_reducible rfl)
  try simp only[Act.put,zA,zB,zC,zD,zE,zF]
  refine yH (rs:=[11]) (by kernel_rfl) (by simp) ?_;refine AllReadyE.cons rfl (fun KW hK=>?wdst34) AllReadyE.nil;go_simp;refine(HKI.out _ (by exact(Below.refl _ _).drew)).mono ?_;rintro e wb ⟨rfl,rfl⟩;try go_wp2_with fail
  refine hK.out _ _ (fun _=>?wdke35) (fun hHeld'=>?wdrs36);case wdke35=>exact HSB.out _ (Below.refl _ _).drew
  have hHeld:=hHeld' (by decide);clear hHeld';clear hK KW;try simp only[Act.put,zA,zB,zC,zD,zE,zF]
  refine wt 12 ?wda37 [14,13] ?wdb38 ?wdc39;case wdb38=>intro w hSw;(try dsimp only at hSw);obtain⟨s0,s1,s2,s3⟩:=hSw;go_simp;(try with_reducible rfl)
  try simp only[Act.put,zA,zB,zC,zD,zE,zF]
  refine wt 13 ?wda40 [14] ?wdb41 ?wdc42;case wdb41=>intro w hSw;(try dsimp only at hSw);obtain⟨s0,s1,s2,s3⟩:=hSw;go_simp;(try with_reducible rfl)
  try simp only[Act.put,zA,zB,zC,zD,zE,zF]
  refine wt 14 ?wda43 [] ?wdb44 ?wdc45;case wdb44=>intro w hSw;(try dsimp only at hSw);obtain⟨s0,s1,s2,s3⟩:=hSw;go_simp;(try with_reducible rfl)
  try simp only[Act.put,zA,zB,zC,zD,zE,zF]
  refine wt 15 ?wda46 [17,16] ?wdb47 ?wdc48;case wdb47=>intro w hSw;(try dsimp only at hSw);obtain⟨s0,s1,s2,s3⟩:=hSw;go_simp;(try with_reducible rfl)
  try simp only[Act.put,zA,zB,zC,zD,zE,zF]
  refine wt 16 ?wda49 [17] ?wdb50 ?wdc51;case wdb50=>intro w hSw;(try dsimp only at hSw);obtain⟨s0,s1,s2,s3⟩:=hSw;go_simp;(try with_reducible rfl)
  try simp only[Act.put,zA,zB,zC,zD,zE,zF]
  refine wt 17 ?wda52 [] ?wdb53 ?wdc54;case wdb53=>intro w hSw;(try dsimp only at hSw);obtain⟨s0,s1,s2,s3⟩:=hSw;go_simp;(try with_reducible rfl)
  try simp only[Act.put,zA,zB,zC,zD,zE,zF]
  refine yH (rs:=[18]) (by kernel_rfl) (by simp) ?_;refine AllReadyE.cons rfl (fun KW hK=>?wdst55) AllReadyE.nil;go_simp;refine hK.out _ _ (fun h=>absurd rfl h) (fun hHeld=>?wdrs57);clear hK KW;try simp only[Act.put,zA,zB,zC,zD,zE,zF]
  refine yS (by kernel_rfl) ?_ _;go_wp2_with fail
  go_meet
  case rel=>exact⟨rfl,(Below.refl _ _).drew⟩
 case rest=>as_aux_lemma =>
 obtain⟨rfl,HBD⟩:=hcut;obtain⟨WD,rfl⟩:∃WD,WD=wc:=⟨wc,rfl⟩;go_wp2_with fail;go_loopw [7] (fun i wr=>∃k:Nat,k≤n∧i=.int .i64 k∧Below WB.heap.size WB wr∧Hid (∀j,j<k→zIn b.cols x1 x2 x3 (rs.getD j default)=false)) (fun i _=>n-(intOf i).toNat);case atStart=>exact⟨0,Nat.zero_le _,rfl,HBD.out,fun j hj=>absurd hj (by omega)⟩
 case round =>
  obtain⟨k,hk,rfl,hbw,HNO⟩:=hrel;obtain⟨W1,rfl⟩:∃W1,W1=wr:=⟨wr,rfl⟩;have HB1:=zh hbw;have HW1:=zh (HBB.out.later hbw);clear hbw;by_cases hlt:k<n
  · have hki:(k:Int)<(n:Int):=by omega
    obtain⟨rb,ro,rfl,hrb,hrc⟩:=(HRD.out _ HW1.out).2 (by omega);obtain⟨rv,kc,RA,rn,rp,rfl,rs1,rk⟩:=hrc k hlt;have hrn:n2=rn:=(HRL.out k hlt).symm.trans rs1.1;subst hrn;obtain⟨xb,xo,rfl,hxb,hxc⟩:=rs1.2 hp2;have hy0:=hxc 0 hp2;rw[Nat.add_zero]at hy0;have hyp:=hxc pl hpln;have HHK:=zh (HHT.out (rs.getD k default));have HSL:Hid (∀W,Below W1.heap.size W1 W→(W.cell? ⟨w.heap.size,2,none⟩=some (.slice A2 n2 p2)∧W.cell? ⟨w.heap.size+1,1,none⟩=some (.slice (some ⟨sb,so,none⟩) 4 p1)∧W.cell? ⟨sb,so+1,none⟩=some (.string x1)∧W.cell? ⟨sb,so+2,none⟩=some (.string x2)∧W.cell? ⟨sb,so+3,none⟩=some (.string x3)∧W.cell? ⟨rb,ro+k,none⟩=some (.slice (some ⟨xb,xo,none⟩) n2 rp)∧W.cell? ⟨xb,xo,none⟩=some (.string ((rs.getD k default).getD 0 ByteArray.empty))∧W.cell? ⟨xb,xo+pl,none⟩=some (.string ((rs.getD k default).getD pl ByteArray.empty)))):=fun W hW=>⟨HS2.out W (HB1.out.later hW),(HSB.out W (HB1.out.later hW)).2.1,HX1.out ▸ HSC.out W (HB1.out.later hW) 1 (by omega),HX2.out ▸ HSC.out W (HB1.out.later hW) 2 (by omega),HX3.out ▸ HSC.out W (HB1.out.later hW) 3 (by omega),cell_later hW kc,cell_later hW hy0,cell_later hW hyp⟩;have HKC1:=zh (fun W (hW:Below W1.heap.size W1 W)=>HKC.out W (HB1.out.later hW));have HAS:=zh (fun h=>zJU (zIn b.cols x1 x2 x3) rs k (by rw[HLN.out];exact hlt) h);clear kc rs1 hxc hrc hy0 hyp;generalize hhr:zIn b.cols x1 x2 x3 (rs.getD k default)=hr at *;have HHR:=zh hhr;clear hhr;generalize (rs.getD k default).getD 0 ByteArray.empty=y0 at *;generalize (rs.getD k default).getD pl ByteArray.empty=yp at *;have hpli:(pl:Int)<(n2:Int):=by omega
    go_upto_region 6 with fail
    go_cut [65] (fun v wx=>v=.bool hr∧Hid (Below W1.heap.size W1 wx))
    case first=>as_aux_lemma =>
     by_cases hy3:y0=x3
     · subst hy3;by_cases hy2:yp=x2
       · subst hy2;have hE:hr=true:=by rw[HHK.out,decide_eq_true rfl,decide_eq_true rfl];rfl
         subst hE;refine uN (S:=fun W=>W.cell? ⟨w.heap.size,2,none⟩=some (.slice A2 n2 p2)∧W.cell? ⟨w.heap.size+1,1,none⟩=some (.slice (some ⟨sb,so,none⟩) 4 p1)∧W.cell? ⟨sb,so+1,none⟩=some (.string x1)∧W.cell? ⟨sb,so+2,none⟩=some (.string yp)∧W.cell? ⟨sb,so+3,none⟩=some (.string y0)∧W.cell? ⟨rb,ro+k,none⟩=some (.slice (some ⟨xb,xo,none⟩) n2 rp)∧W.cell? ⟨xb,xo,none⟩=some (.string y0)∧W.cell? ⟨xb,xo+pl,none⟩=some (.string yp)) 32 (by kernel_rfl) ?hSwe (fun hHeld=>?rgwe);case hSwe=>exact HSL.out _ (Below.refl _ _).drew
         refine wt 0 ?wea1 [12,11,6,5,4,3,2] ?web2 ?wec3;case web2=>intro w hSw;(try dsimp only at hSw);obtain⟨s0,s1,s2,s3,s4,s5,s6,s7⟩:=hSw;go_simp;(try with_reducible rfl)
         try simp only[Act.put,zA,zB,zC,zD,zF]
         refine wt 1 ?wea4 [12,11,6,5,4,3,2] ?web5 ?wec6;case web5=>intro w hSw;(try dsimp only at hSw);obtain⟨s0,s1,s2,s3,s4,s5,s6,s7⟩:=hSw;go_simp;(try with_reducible rfl)
         try simp only[Act.put,zA,zB,zC,zD,zE,zF]
         refine wt 2 ?wea7 [12,11,6,5,4,3] ?web8 ?wec9;case web8=>intro w hSw;(try dsimp only at hSw);obtain⟨s0,s1,s2,s3,s4,s5,s6,s7⟩:=hSw;go_simp;(try with_reducible rfl)
         try simp only[Act.put,zA,zB,zC,zD,zE,zF]
         refine wt 3 ?wea10 [12,11,6,5,4] ?web11 ?wec12;case web11=>intro w hSw;(try dsimp only at hSw);obtain⟨s0,s1,s2,s3,s4,s5,s6,s7⟩:=hSw;go_simp;(try with_reducible rfl)
         try simp only[Act.put,zA,zB,zC,zD,zE,zF]
         refine wt 4 ?wea13 [12,11,6,5] ?web14 ?wec15;case web14=>intro w hSw;(try dsimp only at hSw);obtain⟨s0,s1,s2,s3,s4,s5,s6,s7⟩:=hSw;go_simp;(try with_reducible rfl)
         try simp only[Act.put,zA,zB,zC,zD,zE,zF]
         refine wt 5 ?wea16 [12,11,6] ?web17 ?wec18;case web17=>intro w hSw;(try dsimp only at hSw);obtain⟨s0,s1,s2,s3,s4,s5,s6,s7⟩:=hSw;go_simp;(try with_reducible rfl)
         try simp only[Act.put,zA,zB,zC,zD,zE,zF]
         refine wt 6 ?wea19 [12,11] ?web20 ?wec21;case web20=>intro w hSw;(try dsimp only at hSw);obtain⟨s0,s1,s2,s3,s4,s5,s6,s7⟩:=hSw;go_simp;(try with_reducible rfl)
         try simp only[Act.put,zA,zB,zC,zD,zE,zF]
         refine wt 7 ?wea22 [12,11,10,9,8] ?web23 ?wec24;case web23=>intro w hSw;(try dsimp only at hSw);obtain⟨s0,s1,s2,s3,s4,s5,s6,s7⟩:=hSw;go_simp;(try with_reducible rfl)
         try simp only[Act.put,zA,zB,zC,zD,zE,zF]
         refine wt 8 ?wea25 [12,11,10,9] ?web26 ?wec27;case web26=>intro w hSw;(try dsimp only at hSw);obtain⟨s0,s1,s2,s3,s4,s5,s6,s7⟩:=hSw;go_simp;(try with_reducible rfl)
         try simp only[Act.put,zA,zB,zC,zD,zE,zF]
         refine wt 9 ?wea28 [12,11,10] ?web29 ?wec30;case web29=>intro w hSw;(try dsimp only at hSw);obtain⟨s0,s1,s2,s3,s4,s5,s6,s7⟩:=hSw;go_simp;(try with_reducible rfl)
         try simp only[Act.put,zA,zB,zC,zD,zE,zF]
         refine wt 10 ?wea31 [12,11] ?web32 ?wec33;case web32=>intro w hSw;(try dsimp only at hSw);obtain⟨s0,s1,s2,s3,s4,s5,s6,s7⟩:=hSw;go_simp;(try with_reducible rfl)
         try simp only[Act.put,zA,zB,zC,zD,zE,zF]
         refine wt 11 ?wea34 [12] ?web35 ?wec36;case web35=>intro w hSw;(try dsimp only at hSw);obtain⟨s0,s1,s2,s3,s4,s5,s6,s7⟩:=hSw;go_simp;(try with_reducible rfl)
         try simp only[Act.put,zA,zB,zC,zD,zE,zF]
         refine wt 12 ?wea37 [] ?web38 ?wec39;case web38=>intro w hSw;(try dsimp only at hSw);obtain⟨s0,s1,s2,s3,s4,s5,s6,s7⟩:=hSw;go_simp;(try with_reducible rfl)
         try simp only[Act.put,zA,zB,zC,zD,zE,zF]
         refine wt 13 ?wea40 [31,26,25,17,16,15] ?web41 ?wec42;case web41=>intro w hSw;(try dsimp only at hSw);obtain⟨s0,s1,s2,s3,s4,s5,s6,s7⟩:=hSw;go_simp;(try with_reducible rfl)
         try simp only[Act.put,zA,zB,zC,zD,zE,zF]
         refine wt 14 ?wea43 [31,26,25,17,16,15] ?web44 ?wec45;case web44=>intro w hSw;(try dsimp only at hSw);obtain⟨s0,s1,s2,s3,s4,s5,s6,s7⟩:=hSw;go_simp;(try with_reducible rfl)
         try simp only[Act.put,zA,zB,zC,zD,zE,zF]
         refine wt 15 ?wea46 [31,26,25,17,16] ?web47 ?wec48;case web47=>intro w hSw;(try dsimp only at hSw);obtain⟨s0,s1,s2,s3,s4,s5,s6,s7⟩:=hSw;go_simp;(try with_reducible rfl)
         try simp only[Act.put,zA,zB,zC,zD,zE,zF]
         refine wt 16 ?wea49 [31,26,25,17] ?web50 ?wec51;case web50=>intro w hSw;(try dsimp only at hSw);obtain⟨s0,s1,s2,s3,s4,s5,s6,s7⟩:=hSw;go_simp;(try with_reducible rfl)
         try simp only[Act.put,zA,zB,zC,zD,zE,zF]
         refine wt 17 ?wea52 [31,26,25] ?web53 ?wec54;case web53=>intro w hSw;(try dsimp only at hSw);obtain⟨s0,s1,s2,s3,s4,s5,s6,s7⟩:=hSw;go_simp;(try with_reducible rfl)
         try simp only[Act.put,zA,zB,zC,zD,zE,zF]
         refine wt 18 ?wea55 [31,26,25,24,19] ?web56 ?wec57;case web56=>intro w hSw;(try dsimp only at hSw);obtain⟨s0,s1,s2,s3,s4,s5,s6,s7⟩:=hSw;go_simp;(try with_reducible rfl)
         try simp only[Act.put,zA,zB,zC,zD,zE,zF]
         refine wt 19 ?wea58 [31,26,25,24] ?web59 ?wec60;case web59=>intro w hSw;(try dsimp only at hSw);obtain⟨s0,s1,s2,s3,s4,s5,s6,s7⟩:=hSw;go_simp;(try with_reducible rfl)
         try simp only[Act.put,zA,zB,zC,zD,zE,zF]
         refine wt 20 ?wea61 [31,26,25,24,23,22,21] ?web62 ?wec63;case web62=>intro w hSw;(try dsimp only at hSw);obtain⟨s0,s1,s2,s3,s4,s5,s6,s7⟩:=hSw;go_simp;(try with_reducible rfl)
         try simp only[Act.put,zA,zB,zC,zD,zE,zF]
         refine wt 21 ?wea64 [31,26,25,24,23,22] ?web65 ?wec66;case web65=>intro w hSw;(try dsimp only at hSw);obtain⟨s0,s1,s2,s3,s4,s5,s6,s7⟩:=hSw;go_simp;(try with_reducible rfl)
         try simp only[Act.put,zA,zB,zC,zD,zE,zF]
         refine wt 22 ?wea67 [31,26,25,24,23] ?web68 ?wec69;case web68=>intro w hSw;(try dsimp only at hSw);obtain⟨s0,s1,s2,s3,s4,s5,s6,s7⟩:=hSw;go_simp;(try with_reducible rfl)
         try simp only[Act.put,zA,zB,zC,zD,zE,zF]
         refine wt 23 ?wea70 [31,26,25,24] ?web71 ?wec72;case web71=>intro w hSw;(try dsimp only at hSw);obtain⟨s0,s1,s2,s3,s4,s5,s6,s7⟩:=hSw;go_simp;(try with_reducible rfl)
         try simp only[Act.put,zA,zB,zC,zD,zE,zF]
         refine wt 27 ?wea73 [31,30,29,28] ?web74 ?wec75;case web74=>intro w hSw;(try dsimp only at hSw);obtain⟨s0,s1,s2,s3,s4,s5,s6,s7⟩:=hSw;go_simp;(try with_reducible rfl)
         try simp only[Act.put,zA,zB,zC,zD,zE,zF]
         refine wt 28 ?wea76 [31,30,29] ?web77 ?wec78;case web77=>intro w hSw;(try dsimp only at hSw);obtain⟨s0,s1,s2,s3,s4,s5,s6,s7⟩:=hSw;go_simp;(try with_reducible rfl)
         try simp only[Act.put,zA,zB,zC,zD,zE,zF]
         refine wt 29 ?wea79 [31,30] ?web80 ?wec81;case web80=>intro w hSw;(try dsimp only at hSw);obtain⟨s0,s1,s2,s3,s4,s5,s6,s7⟩:=hSw;go_simp;(try with_reducible rfl)
         try simp only[Act.put,zA,zB,zC,zD,zE,zF]
         refine wt 30 ?wea82 [31] ?web83 ?wec84;case web83=>intro w hSw;(try dsimp only at hSw);obtain⟨s0,s1,s2,s3,s4,s5,s6,s7⟩:=hSw;go_simp;(try with_reducible rfl)
         try simp only[Act.put,zA,zB,zC,zD,zE,zF]
         refine yH (rs:=[24]) (by kernel_rfl) (by simp) ?_;refine AllReadyE.cons rfl (fun KW hK=>?west85) AllReadyE.nil;go_simp;refine(HKC1.out _ (by exact(Below.refl _ _).drew)).mono ?_;rintro e wb ⟨rfl,rfl⟩;try go_wp2_with fail
         refine hK.out _ _ (fun _=>?weke86) (fun hHeld'=>?wers87);case weke86=>exact HSL.out _ (Below.refl _ _).drew
         have hHeld:=hHeld' (by decide);clear hHeld';clear hK KW;try simp only[Act.put,zA,zB,zC,zD,zE,zF]
         refine wt 25 ?wea88 [31,26] ?web89 ?wec90;case web89=>intro w hSw;(try dsimp only at hSw);obtain⟨s0,s1,s2,s3,s4,s5,s6,s7⟩:=hSw;go_simp;(try with_reducible rfl)
         try simp only[Act.put,zA,zB,zC,zD,zE,zF]
         refine wt 26 ?wea91 [31] ?web92 ?wec93;case web92=>intro w hSw;(try dsimp only at hSw);obtain⟨s0,s1,s2,s3,s4,s5,s6,s7⟩:=hSw;go_simp;(try with_reducible rfl)
         try simp only[Act.put,zA,zB,zC,zD,zE,zF]
         refine wt 31 ?wea94 [] ?web95 ?wec96;case web95=>intro w hSw;(try dsimp only at hSw);obtain⟨s0,s1,s2,s3,s4,s5,s6,s7⟩:=hSw;go_simp;(try with_reducible rfl)
         try simp only[Act.put,zA,zB,zC,zD,zE,zF]
         refine yH (rs:=[32]) (by kernel_rfl) (by simp) ?_;refine AllReadyE.cons rfl (fun KW hK=>?west97) AllReadyE.nil;go_simp;refine hK.out _ _ (fun h=>absurd rfl h) (fun hHeld=>?wers99);clear hK KW;try simp only[Act.put,zA,zB,zC,zD,zE,zF]
         refine yS (by kernel_rfl) ?_ _;go_wp2_with fail
         go_meet
         case rel=>exact⟨rfl,(Below.refl _ _).drew⟩
       · have hE:hr=false:=by rw[HHK.out,decide_eq_false hy2,Bool.and_false]
         have hb2:=vE hy2;subst hE;refine uN (S:=fun W=>W.cell? ⟨w.heap.size,2,none⟩=some (.slice A2 n2 p2)∧W.cell? ⟨w.heap.size+1,1,none⟩=some (.slice (some ⟨sb,so,none⟩) 4 p1)∧W.cell? ⟨sb,so+1,none⟩=some (.string x1)∧W.cell? ⟨sb,so+2,none⟩=some (.string x2)∧W.cell? ⟨sb,so+3,none⟩=some (.string y0)∧W.cell? ⟨rb,ro+k,none⟩=some (.slice (some ⟨xb,xo,none⟩) n2 rp)∧W.cell? ⟨xb,xo,none⟩=some (.string y0)∧W.cell? ⟨xb,xo+pl,none⟩=some (.string yp)) 32 (by kernel_rfl) ?hSwf (fun hHeld=>?rgwf);case hSwf=>exact HSL.out _ (Below.refl _ _).drew
         refine wt 0 ?wfa1 [12,11,6,5,4,3,2] ?wfb2 ?wfc3;case wfb2=>intro w hSw;(try dsimp only at hSw);obtain⟨s0,s1,s2,s3,s4,s5,s6,s7⟩:=hSw;go_simp;(try with_reducible rfl)
         try simp only[Act.put,zA,zB,zC,zD,zF]
         refine wt 1 ?wfa4 [12,11,6,5,4,3,2] ?wfb5 ?wfc6;case wfb5=>intro w hSw;(try dsimp only at hSw);obtain⟨s0,s1,s2,s3,s4,s5,s6,s7⟩:=hSw;go_simp;(try with_reducible rfl)
         try simp only[Act.put,zA,zB,zC,zD,zE,zF]
         refine wt 2 ?wfa7 [12,11,6,5,4,3] ?wfb8 ?wfc9;case wfb8=>intro w hSw;(try dsimp only at hSw);obtain⟨s0,s1,s2,s3,s4,s5,s6,s7⟩:=hSw;go_simp;(try with_reducible rfl)
         try simp only[Act.put,zA,zB,zC,zD,zE,zF]
         refine wt 3 ?wfa10 [12,11,6,5,4] ?wfb11 ?wfc12;case wfb11=>intro w hSw;(try dsimp only at hSw);obtain⟨s0,s1,s2,s3,s4,s5,s6,s7⟩:=hSw;go_simp;(try with_reducible rfl)
         try simp only[Act.put,zA,zB,zC,zD,zE,zF]
         refine wt 4 ?wfa13 [12,11,6,5] ?wfb14 ?wfc15;case wfb14=>intro w hSw;(try dsimp only at hSw);obtain⟨s0,s1,s2,s3,s4,s5,s6,s7⟩:=hSw;go_simp;(try with_reducible rfl)
         try simp only[Act.put,zA,zB,zC,zD,zE,zF]
         refine wt 5 ?wfa16 [12,11,6] ?wfb17 ?wfc18;case wfb17=>intro w hSw;(try dsimp only at hSw);obtain⟨s0,s1,s2,s3,s4,s5,s6,s7⟩:=hSw;go_simp;(try with_reducible rfl)
         try simp only[Act.put,zA,zB,zC,zD,zE,zF]
         refine wt 6 ?wfa19 [12,11] ?wfb20 ?wfc21;case wfb20=>intro w hSw;(try dsimp only at hSw);obtain⟨s0,s1,s2,s3,s4,s5,s6,s7⟩:=hSw;go_simp;(try with_reducible rfl)
         try simp only[Act.put,zA,zB,zC,zD,zE,zF]
         refine wt 7 ?wfa22 [12,11,10,9,8] ?wfb23 ?wfc24;case wfb23=>intro w hSw;(try dsimp only at hSw);obtain⟨s0,s1,s2,s3,s4,s5,s6,s7⟩:=hSw;go_simp;(try with_reducible rfl)
         try simp only[Act.put,zA,zB,zC,zD,zE,zF]
         refine wt 8 ?wfa25 [12,11,10,9] ?wfb26 ?wfc27;case wfb26=>intro w hSw;(try dsimp only at hSw);obtain⟨s0,s1,s2,s3,s4,s5,s6,s7⟩:=hSw;go_simp;(try with_reducible rfl)
         try simp only[Act.put,zA,zB,zC,zD,zE,zF]
         refine wt 9 ?wfa28 [12,11,10] ?wfb29 ?wfc30;case wfb29=>intro w hSw;(try dsimp only at hSw);obtain⟨s0,s1,s2,s3,s4,s5,s6,s7⟩:=hSw;go_simp;(try with_reducible rfl)
         try simp only[Act.put,zA,zB,zC,zD,zE,zF]
         refine wt 10 ?wfa31 [12,11] ?wfb32 ?wfc33;case wfb32=>intro w hSw;(try dsimp only at hSw);obtain⟨s0,s1,s2,s3,s4,s5,s6,s7⟩:=hSw;go_simp;(try with_reducible rfl)
         try simp only[Act.put,zA,zB,zC,zD,zE,zF]
         refine wt 11 ?wfa34 [12] ?wfb35 ?wfc36;case wfb35=>intro w hSw;(try dsimp only at hSw);obtain⟨s0,s1,s2,s3,s4,s5,s6,s7⟩:=hSw;go_simp;(try with_reducible rfl)
         try simp only[Act.put,zA,zB,zC,zD,zE,zF]
         refine wt 12 ?wfa37 [] ?wfb38 ?wfc39;case wfb38=>intro w hSw;(try dsimp only at hSw);obtain⟨s0,s1,s2,s3,s4,s5,s6,s7⟩:=hSw;go_simp;(try with_reducible rfl)
         try simp only[Act.put,zA,zB,zC,zD,zE,zF]
         refine wt 13 ?wfa40 [31,26,25,17,16,15] ?wfb41 ?wfc42;case wfb41=>intro w hSw;(try dsimp only at hSw);obtain⟨s0,s1,s2,s3,s4,s5,s6,s7⟩:=hSw;go_simp;(try with_reducible rfl)
         try simp only[Act.put,zA,zB,zC,zD,zE,zF]
         refine wt 14 ?wfa43 [31,26,25,17,16,15] ?wfb44 ?wfc45;case wfb44=>intro w hSw;(try dsimp only at hSw);obtain⟨s0,s1,s2,s3,s4,s5,s6,s7⟩:=hSw;go_simp;(try with_reducible rfl)
         try simp only[Act.put,zA,zB,zC,zD,zE,zF]
         refine wt 15 ?wfa46 [31,26,25,17,16] ?wfb47 ?wfc48;case wfb47=>intro w hSw;(try dsimp only at hSw);obtain⟨s0,s1,s2,s3,s4,s5,s6,s7⟩:=hSw;go_simp;(try with_reducible rfl)
         try simp only[Act.put,zA,zB,zC,zD,zE,zF]
         refine wt 16 ?wfa49 [31,26,25,17] ?wfb50 ?wfc51;case wfb50=>intro w hSw;(try dsimp only at hSw);obtain⟨s0,s1,s2,s3,s4,s5,s6,s7⟩:=hSw;go_simp;(try with_reducible rfl)
         try simp only[Act.put,zA,zB,zC,zD,zE,zF]
         refine wt 17 ?wfa52 [31,26,25] ?wfb53 ?wfc54;case wfb53=>intro w hSw;(try dsimp only at hSw);obtain⟨s0,s1,s2,s3,s4,s5,s6,s7⟩:=hSw;go_simp;(try with_reducible rfl)
         try simp only[Act.put,zA,zB,zC,zD,zE,zF]
         refine wt 18 ?wfa55 [31,26,25,24,19] ?wfb56 ?wfc57;case wfb56=>intro w hSw;(try dsimp only at hSw);obtain⟨s0,s1,s2,s3,s4,s5,s6,s7⟩:=hSw;go_simp;(try with_reducible rfl)
         try simp only[Act.put,zA,zB,zC,zD,zE,zF]
         refine wt 19 ?wfa58 [31,26,25,24] ?wfb59 ?wfc60;case wfb59=>intro w hSw;(try dsimp only at hSw);obtain⟨s0,s1,s2,s3,s4,s5,s6,s7⟩:=hSw;go_simp;(try with_reducible rfl)
         try simp only[Act.put,zA,zB,zC,zD,zE,zF]
         refine wt 20 ?wfa61 [31,26,25,24,23,22,21] ?wfb62 ?wfc63;case wfb62=>intro w hSw;(try dsimp only at hSw);obtain⟨s0,s1,s2,s3,s4,s5,s6,s7⟩:=hSw;go_simp;(try with_reducible rfl)
         try simp only[Act.put,zA,zB,zC,zD,zE,zF]
         refine wt 21 ?wfa64 [31,26,25,24,23,22] ?wfb65 ?wfc66;case wfb65=>intro w hSw;(try dsimp only at hSw);obtain⟨s0,s1,s2,s3,s4,s5,s6,s7⟩:=hSw;go_simp;(try with_reducible rfl)
         try simp only[Act.put,zA,zB,zC,zD,zE,zF]
         refine wt 22 ?wfa67 [31,26,25,24,23] ?wfb68 ?wfc69;case wfb68=>intro w hSw;(try dsimp only at hSw);obtain⟨s0,s1,s2,s3,s4,s5,s6,s7⟩:=hSw;go_simp;(try with_reducible rfl)
         try simp only[Act.put,zA,zB,zC,zD,zE,zF]
         refine wt 23 ?wfa70 [31,26,25,24] ?wfb71 ?wfc72;case wfb71=>intro w hSw;(try dsimp only at hSw);obtain⟨s0,s1,s2,s3,s4,s5,s6,s7⟩:=hSw;go_simp;(try with_reducible rfl)
         try simp only[Act.put,zA,zB,zC,zD,zE,zF]
         refine wt 27 ?wfa73 [31,30,29,28] ?wfb74 ?wfc75;case wfb74=>intro w hSw;(try dsimp only at hSw);obtain⟨s0,s1,s2,s3,s4,s5,s6,s7⟩:=hSw;go_simp;(try with_reducible rfl)
         try simp only[Act.put,zA,zB,zC,zD,zE,zF]
         refine wt 28 ?wfa76 [31,30,29] ?wfb77 ?wfc78;case wfb77=>intro w hSw;(try dsimp only at hSw);obtain⟨s0,s1,s2,s3,s4,s5,s6,s7⟩:=hSw;go_simp;(try with_reducible rfl)
         try simp only[Act.put,zA,zB,zC,zD,zE,zF]
         refine wt 29 ?wfa79 [31,30] ?wfb80 ?wfc81;case wfb80=>intro w hSw;(try dsimp only at hSw);obtain⟨s0,s1,s2,s3,s4,s5,s6,s7⟩:=hSw;go_simp;(try with_reducible rfl)
         try simp only[Act.put,zA,zB,zC,zD,zE,zF]
         refine wt 30 ?wfa82 [31] ?wfb83 ?wfc84;case wfb83=>intro w hSw;(try dsimp only at hSw);obtain⟨s0,s1,s2,s3,s4,s5,s6,s7⟩:=hSw;go_simp;(try with_reducible rfl)
         try simp only[Act.put,zA,zB,zC,zD,zE,zF]
         refine yH (rs:=[24]) (by kernel_rfl) (by simp) ?_;refine AllReadyE.cons rfl (fun KW hK=>?wfst85) AllReadyE.nil;go_simp;refine(HKC1.out _ (by exact(Below.refl _ _).drew)).mono ?_;rintro e wb ⟨rfl,rfl⟩;try go_wp2_with fail
         refine hK.out _ _ (fun _=>?wfke86) (fun hHeld'=>?wfrs87);case wfke86=>exact HSL.out _ (Below.refl _ _).drew
         have hHeld:=hHeld' (by decide);clear hHeld';clear hK KW;try simp only[Act.put,zA,zB,zC,zD,zE,zF]
         refine wt 25 ?wfa88 [31,26] ?wfb89 ?wfc90;case wfb89=>intro w hSw;(try dsimp only at hSw);obtain⟨s0,s1,s2,s3,s4,s5,s6,s7⟩:=hSw;go_simp;(try with_reducible rfl)
         try simp only[Act.put,zA,zB,zC,zD,zE,zF]
         refine wt 26 ?wfa91 [31] ?wfb92 ?wfc93;case wfb92=>intro w hSw;(try dsimp only at hSw);obtain⟨s0,s1,s2,s3,s4,s5,s6,s7⟩:=hSw;go_simp;(try with_reducible rfl)
         try simp only[Act.put,zA,zB,zC,zD,zE,zF]
         refine wt 31 ?wfa94 [] ?wfb95 ?wfc96;case wfb95=>intro w hSw;(try dsimp only at hSw);obtain⟨s0,s1,s2,s3,s4,s5,s6,s7⟩:=hSw;go_simp;(try with_reducible rfl)
         try simp only[Act.put,zA,zB,zC,zD,zE,zF]
         refine yH (rs:=[32]) (by kernel_rfl) (by simp) ?_;refine AllReadyE.cons rfl (fun KW hK=>?wfst97) AllReadyE.nil;go_simp;refine hK.out _ _ (fun h=>absurd rfl h) (fun hHeld=>?wfrs99);clear hK KW;try simp only[Act.put,zA,zB,zC,zD,zE,zF]
         refine yS (by kernel_rfl) ?_ _;go_wp2_with fail
         go_meet
         case rel=>exact⟨rfl,(Below.refl _ _).drew⟩
     · have hE:hr=false:=by rw[HHK.out,decide_eq_false hy3,Bool.false_and]
       have hb3:=vE hy3;subst hE;refine uN (S:=fun W=>W.cell? ⟨w.heap.size,2,none⟩=some (.slice A2 n2 p2)∧W.cell? ⟨w.heap.size+1,1,none⟩=some (.slice (some ⟨sb,so,none⟩) 4 p1)∧W.cell? ⟨sb,so+1,none⟩=some (.string x1)∧W.cell? ⟨sb,so+2,none⟩=some (.string x2)∧W.cell? ⟨sb,so+3,none⟩=some (.string x3)∧W.cell? ⟨rb,ro+k,none⟩=some (.slice (some ⟨xb,xo,none⟩) n2 rp)∧W.cell? ⟨xb,xo,none⟩=some (.string y0)∧W.cell? ⟨xb,xo+pl,none⟩=some (.string yp)) 32 (by kernel_rfl) ?hSwg (fun hHeld=>?rgwg);case hSwg=>exact HSL.out _ (Below.refl _ _).drew
       refine wt 0 ?wga1 [12,11,6,5,4,3,2] ?wgb2 ?wgc3;case wgb2=>intro w hSw;(try dsimp only at hSw);obtain⟨s0,s1,s2,s3,s4,s5,s6,s7⟩:=hSw;go_simp;(try with_reducible rfl)
       try simp only[Act.put,zA,zB,zC,zD,zF]
       refine wt 1 ?wga4 [12,11,6,5,4,3,2] ?wgb5 ?wgc6;case wgb5=>intro w hSw;(try dsimp only at hSw);obtain⟨s0,s1,s2,s3,s4,s5,s6,s7⟩:=hSw;go_simp;(try with_reducible rfl)
       try simp only[Act.put,zA,zB,zC,zD,zE,zF]
       refine wt 2 ?wga7 [12,11,6,5,4,3] ?wgb8 ?wgc9;case wgb8=>intro w hSw;(try dsimp only at hSw);obtain⟨s0,s1,s2,s3,s4,s5,s6,s7⟩:=hSw;go_simp;(try with_reducible rfl)
       try simp only[Act.put,zA,zB,zC,zD,zE,zF]
       refine wt 3 ?wga10 [12,11,6,5,4] ?wgb11 ?wgc12;case wgb11=>intro w hSw;(try dsimp only at hSw);obtain⟨s0,s1,s2,s3,s4,s5,s6,s7⟩:=hSw;go_simp;(try with_reducible rfl)
       try simp only[Act.put,zA,zB,zC,zD,zE,zF]
       refine wt 4 ?wga13 [12,11,6,5] ?wgb14 ?wgc15;case wgb14=>intro w hSw;(try dsimp only at hSw);obtain⟨s0,s1,s2,s3,s4,s5,s6,s7⟩:=hSw;go_simp;(try with_reducible rfl)
       try simp only[Act.put,zA,zB,zC,zD,zE,zF]
       refine wt 5 ?wga16 [12,11,6] ?wgb17 ?wgc18;case wgb17=>intro w hSw;(try dsimp only at hSw);obtain⟨s0,s1,s2,s3,s4,s5,s6,s7⟩:=hSw;go_simp;(try with_reducible rfl)
       try simp only[Act.put,zA,zB,zC,zD,zE,zF]
       refine wt 6 ?wga19 [12,11] ?wgb20 ?wgc21;case wgb20=>intro w hSw;(try dsimp only at hSw);obtain⟨s0,s1,s2,s3,s4,s5,s6,s7⟩:=hSw;go_simp;(try with_reducible rfl)
       try simp only[Act.put,zA,zB,zC,zD,zE,zF]
       refine wt 7 ?wga22 [12,11,10,9,8] ?wgb23 ?wgc24;case wgb23=>intro w hSw;(try dsimp only at hSw);obtain⟨s0,s1,s2,s3,s4,s5,s6,s7⟩:=hSw;go_simp;(try with_reducible rfl)
       try simp only[Act.put,zA,zB,zC,zD,zE,zF]
       refine wt 8 ?wga25 [12,11,10,9] ?wgb26 ?wgc27;case wgb26=>intro w hSw;(try dsimp only at hSw);obtain⟨s0,s1,s2,s3,s4,s5,s6,s7⟩:=hSw;go_simp;(try with_reducible rfl)
       try simp only[Act.put,zA,zB,zC,zD,zE,zF]
       refine wt 9 ?wga28 [12,11,10] ?wgb29 ?wgc30;case wgb29=>intro w hSw;(try dsimp only at hSw);obtain⟨s0,s1,s2,s3,s4,s5,s6,s7⟩:=hSw;go_simp;(try with_reducible rfl)
       try simp only[Act.put,zA,zB,zC,zD,zE,zF]
       refine wt 10 ?wga31 [12,11] ?wgb32 ?wgc33;case wgb32=>intro w hSw;(try dsimp only at hSw);obtain⟨s0,s1,s2,s3,s4,s5,s6,s7⟩:=hSw;go_simp;(try with_reducible rfl)
       try simp only[Act.put,zA,zB,zC,zD,zE,zF]
       refine wt 11 ?wga34 [12] ?wgb35 ?wgc36;case wgb35=>intro w hSw;(try dsimp only at hSw);obtain⟨s0,s1,s2,s3,s4,s5,s6,s7⟩:=hSw;go_simp;(try with_reducible rfl)
       try simp only[Act.put,zA,zB,zC,zD,zE,zF]
       refine wt 12 ?wga37 [] ?wgb38 ?wgc39;case wgb38=>intro w hSw;(try dsimp only at hSw);obtain⟨s0,s1,s2,s3,s4,s5,s6,s7⟩:=hSw;go_simp;(try with_reducible rfl)
       try simp only[Act.put,zA,zB,zC,zD,zE,zF]
       refine wu 13 [31,26,25,17,16,15] ?wgc40;try simp only[Act.put,zA,zB,zC,zD,zE,zF]
       refine wu 14 [31,26,25,17,16,15] ?wgc41;try simp only[Act.put,zA,zB,zC,zD,zE,zF]
       refine wu 15 [31,26,25,17,16] ?wgc42;try simp only[Act.put,zA,zB,zC,zD,zE,zF]
       refine wu 16 [31,26,25,17] ?wgc43;try simp only[Act.put,zA,zB,zC,zD,zE,zF]
       refine wu 17 [31,26,25] ?wgc44;try simp only[Act.put,zA,zB,zC,zD,zE,zF]
       refine wu 18 [31,26,25,24,19] ?wgc45;try simp only[Act.put,zA,zB,zC,zD,zE,zF]
       refine wu 19 [31,26,25,24] ?wgc46;try simp only[Act.put,zA,zB,zC,zD,zE,zF]
       refine wu 20 [31,26,25,24,23,22,21] ?wgc47;try simp only[Act.put,zA,zB,zC,zD,zE,zF]
       refine wu 21 [31,26,25,24,23,22] ?wgc48;try simp only[Act.put,zA,zB,zC,zD,zE,zF]
       refine wu 22 [31,26,25,24,23] ?wgc49;try simp only[Act.put,zA,zB,zC,zD,zE,zF]
       refine wu 23 [31,26,25,24] ?wgc50;try simp only[Act.put,zA,zB,zC,zD,zE,zF]
       refine wu 24 [31,26,25] ?wgc51;try simp only[Act.put,zA,zB,zC,zD,zE,zF]
       refine wu 25 [31,26] ?wgc52;try simp only[Act.put,zA,zB,zC,zD,zE,zF]
       refine wu 26 [31] ?wgc53;try simp only[Act.put,zA,zB,zC,zD,zE,zF]
       refine wu 27 [31,30,29,28] ?wgc54;try simp only[Act.put,zA,zB,zC,zD,zE,zF]
       refine wu 28 [31,30,29] ?wgc55;try simp only[Act.put,zA,zB,zC,zD,zE,zF]
       refine wu 29 [31,30] ?wgc56;try simp only[Act.put,zA,zB,zC,zD,zE,zF]
       refine wu 30 [31] ?wgc57;try simp only[Act.put,zA,zB,zC,zD,zE,zF]
       refine wu 31 [] ?wgc58;try simp only[Act.put,zA,zB,zC,zD,zE,zF]
       refine yH (rs:=[32]) (by kernel_rfl) (by simp) ?_;refine AllReadyE.cons rfl (fun KW hK=>?wgst59) AllReadyE.nil;go_simp;refine hK.out _ _ (fun h=>absurd rfl h) (fun hHeld=>?wgrs61);clear hK KW;try simp only[Act.put,zA,zB,zC,zD,zE,zF]
       refine yS (by kernel_rfl) ?_ _;go_wp2_with fail
       go_meet
       case rel=>exact⟨rfl,(Below.refl _ _).drew⟩
    case rest=>as_aux_lemma =>
    obtain⟨rfl,HBX⟩:=hcut;cases hr
    · go_wp2_with fail;go_roundw
      case rel=>exact⟨k+1,by omega,by go_num,HB1.out.later HBX.out,fun j hj=>by
       rcases Nat.lt_or_ge j k with h1 | h1
       · exact HNO.out j h1
       · obtain rfl:j=k:=by omega
         exact HHR.out⟩
      case measure=>simp[intOf];omega
    · go_wp2_with fail;go_ret;exact⟨by rw[HRA.out,HAS.out (by first | rfl | trivial)];rfl,HW1.out.later HBX.out⟩
  · have hki:¬((k:Int)<(n:Int)):=by omega
    have HRF:Hid (RES=false):=by unfold Hid;rw[HRA.out];exact zKQ _ _ (fun j hj=>HNO.out j (by have:=HLN.out;omega))
    go_wp2_with fail;go_ret;exact⟨by rw[HRF.out];rfl,HW1.out⟩
end Go.Proofs.YtgmaamnofhmecaaGreatDoor
