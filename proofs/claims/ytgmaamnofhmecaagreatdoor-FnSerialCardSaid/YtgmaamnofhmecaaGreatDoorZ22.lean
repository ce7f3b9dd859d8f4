import Derived.Test.YtgmaamnofhmecaaGreatDoorZ18
import Derived.Test.YtgmaamnofhmecaaGreatDoorZ21
import Derived.Test.YtgmaamnofhmecaaGreatDoorZ00
import Derived.Test.YtgmaamnofhmecaaGreatDoorZ07
import Derived.Test.YtgmaamnofhmecaaGreatDoorZ08
set_option maxHeartbeats 8000000
open Go.Lib renaming hid → zh
namespace Go.Proofs.YtgmaamnofhmecaaGreatDoor
open Go.RowKit Go.Lib
set_option linter.unusedVariables false
theorem zHk {s:ByteArray} (h:yQ s):Lib.countByte s.data.toList 0=0:=List.count_eq_zero.2 h
theorem zCG (s:ByteArray) (w:World) (h:yQ s) :
 Calls Tryz.prog 254 #[.string s,.string ⟨#[0]⟩,.string ⟨#[0,255]⟩] w fun e w'=>e=.returned (.string s)∧w'=w:=by
 have HC:Hid (∀W,Calls Tryz.prog 274 #[.string s,.string ⟨#[0]⟩] W fun e w'=>e=.returned (.int .i64 0)∧w'=W):=fun W=>by have h1:=Tryz.strings_Count_one s 0 W;rw[zHk h]at h1;exact h1
 have HR:Hid (∀W,Calls Tryz.prog 283 #[.string s,.string ⟨#[0]⟩,.string ⟨#[0,255]⟩,.int .i64 (-1)] W fun e w'=>e=.returned (.string s)∧w'=W):=fun W=>by go_enter Tryz.func283,Tryz.ntmps283;go_wp2_with fail;refine(HC.out _).mono ?_;rintro e w1 ⟨rfl,rfl⟩;go_wp2_with fail;go_ret;exact⟨rfl,rfl⟩
 go_enter Tryz.func254,Tryz.ntmps254;go_wp2_with fail;refine(HR.out _).mono ?_;rintro e w1 ⟨rfl,rfl⟩;go_wp2_with fail;go_ret;exact⟨rfl,rfl⟩
theorem zEy {B b:Nat} {bs:List Value} {p:Value} {w w':World} (h:BuilderAt 188 5 B b p bs w) (hb:Below w.heap.size w w'):BuilderAt 188 5 B b p bs w':=by
 have hlt:=h.lt;obtain⟨h1,v,h2,h3,h4⟩:=h;exact⟨h1,v,Blk.later h2 hb hlt,Own.own_later h3 hb,h4⟩
theorem zBZ {B b:Nat} {bs:List Value} {w w':World} (h:IsBuilder 188 5 B b bs w) (hb:Below w.heap.size w w'):IsBuilder 188 5 B b bs w':=h.elim (fun x=>.inl (zEy x hb)) (fun x=>.inr (zEy x hb))
theorem zKK {B b N k:Nat} {bs:List Value} {p:Value} {c:Int} {w:World} (h:BuilderAt 188 5 B b p ((bs++Go.Lib.byteCells (1::(be8 N).take k))++[.int .u8 c]) w) (hk:k<8) (hc:c=(((N / 2 ^ (56-8*k)) % 256:Nat):Int)):BuilderAt 188 5 B b p (bs++Go.Lib.byteCells (1::(be8 N).take (k+1))) w:=by
 have e:bs++Go.Lib.byteCells (1::(be8 N).take (k+1))=(bs++Go.Lib.byteCells (1::(be8 N).take k))++[.int .u8 c]:=by
  have h2:((UInt8.ofNat ((N / 2 ^ (56-8*k)) % 256)).toNat:Int)=c:=by rw[hc,UInt8.toNat_ofNat'];have:=Nat.mod_lt (N / 2 ^ (56-8*k)) (show 0<256 by decide);rw[Nat.mod_eq_of_lt (a:=N / 2 ^ (56-8*k) % 256) (by simpa using this)]
  rw[zHT N k hk,Go.Lib.byteCells,Go.Lib.byteCells,List.map_cons,List.map_cons,List.map_append,List.map_cons,List.map_nil,h2];simp
 rw[e];exact h
set_option maxRecDepth 100000 in
theorem zGT (b:Nat) (bs:List Value) (s:ByteArray) (w0 w:World) (h:IsBuilder 188 5 w0.heap.size b bs w) (hp:yQ s) (hs:s.size≤1048576) (htab:yH w0) (hb0:Below w0.heap.size w0 w) (hlen:bs.length≤1000000) :
 Calls Tryz.prog 207 #[.pointer (some ⟨b,0,none⟩),.string s] w fun e w'=>e=.returned (.tuple #[])∧IsBuilder 188 5 w0.heap.size b (bs++Go.Lib.byteCells (vD s)) w'∧Below w0.heap.size w w':=by
 have HK1:=zh (fun W (hW:Below w0.heap.size w0 W)=>zAN s W (wA htab hW) hs);have HK2:Hid (∀W,Calls Tryz.prog 252 #[.string s] W fun e w'=>e=.returned (.int .i64 (xH s.data.toList))∧Below W.heap.size W w'):=fun W=>by have h:=zBb s W hs;rw[zER]at h;exact h
 have HRP:=zh (fun W=>zCG s W hp);have hBz:=hb0.size;have HBL:=zh h;have HB0:=zh hb0;have HSE:Hid (vD s=if vB s=true then 1::be8 (vU s) else 2::(s.data.toList++[0,0])):=rfl;obtain⟨hn1,hn2,hn3⟩:=zCP s;have hw0:wrap64 (xH s.data.toList+1000000000000000000)=(vU s:Int):=by unfold wrap64;omega
 have HSZ:Hid (s.data.toList.length=s.size):=by unfold Hid;rw[Array.length_toList];rfl
 clear h hb0 htab hp hn3;generalize vB s=cn at *;generalize vU s=N at *;generalize xH s.data.toList=M at *;go_enter Tryz.func207,Tryz.ntmps207;go_wp2_with fail;refine(HK1.out _ HB0.out).mono ?_;rintro e w1 ⟨rfl,hb1⟩;have HBL1:=zh (zBZ HBL.out hb1);have HB1:Hid (Below w0.heap.size w w1):=hb1.mono hBz;have hw1:=hb1.size;clear hb1;cases cn
 · go_wp2_with fail;refine(Tryz.B_WriteByte _ b bs 2 w1 HBL1.out (by omega) (by omega)).mono ?_;rintro e w2 ⟨rfl,hbl2,hb2⟩;have HB2:=zh (HB1.out.trans hb2);have HBL2:=zh hbl2;have hw2:=hb2.size;clear hb2 hbl2;go_wp2_with fail;refine(HRP.out _).mono ?_;rintro e w3 ⟨rfl,rfl⟩;go_wp2_with fail;refine(Tryz.B_WriteString _ b _ s _ (.inr HBL2.out) (by rw[List.length_append];simp only[List.length_cons,List.length_nil];omega) (by omega)).mono ?_;rintro e w4 ⟨rfl,hbl4,hb4⟩;have HB4:=zh (HB2.out.trans hb4);have HBL4:=zh hbl4;have hw4:=hb4.size;clear hb4 hbl4;go_wp2_with fail;refine(Tryz.B_WriteString _ b _ ⟨#[0,0]⟩ w4 (.inr HBL4.out) (by rw[List.length_append,List.length_append,strCells_length,show(⟨#[0,0]⟩:ByteArray).size=2 from rfl];simp only[List.length_cons,List.length_nil];omega) (by omega)).mono ?_;rintro e w5 ⟨rfl,hbl5,hb5⟩;have HB5:=zh (HB4.out.trans hb5);have HBL5:=zh hbl5;clear hb5 hbl5;go_wp2_with fail
   go_end0
   refine⟨rfl,.inr ?_,HB5.out⟩;have h:=HBL5.out;rw[HSE.out];simpa [Go.Lib.byteCells,strCells] using h
 · go_wp2_with fail;refine(HK2.out _).mono ?_;rintro e w2 ⟨rfl,hb2⟩;have HBL2:=zh (zBZ HBL1.out hb2);have HB2:Hid (Below w0.heap.size w w2):=HB1.out.trans (hb2.mono (by omega));have hw2:=hb2.size;clear hb2;go_wp2_with fail;refine(Tryz.B_WriteByte _ b bs 1 _ HBL2.out (by omega) (by omega)).mono ?_;rintro e w3 ⟨rfl,hbl3,hb3⟩;have HB3:=zh (HB2.out.trans hb3);have HBL3:=zh hbl3;clear hb3 hbl3;go_wp2_with fail;go_loopw [5] (fun v wr=>∃k:Nat,k≤8∧v=.int .i64 (56-8*(k:Int))∧Hid (BuilderAt 188 5 w0.heap.size b (.pointer (some ⟨b,0,none⟩)) (bs++Go.Lib.byteCells (1::(be8 N).take k)) wr)∧Below w0.heap.size w wr) (fun v _=>(intOf v+8).toNat);case atStart=>exact⟨0,by omega,rfl,by unfold Hid;simpa [Go.Lib.byteCells] using HBL3.out,HB3.out⟩
   case round =>
    obtain⟨k,hk,rfl,HBLr,hbr⟩:=hrel;have HBr:=zh hbr;have hwr:=hbr.size;clear hbr;by_cases hk8:k=8
    · subst hk8;go_wp2_with fail;refine bodyPost_ret (results_none rfl _ _ _) rfl ?_;refine⟨rfl,.inr ?_,HBr.out⟩;have h:=HBLr.out;rw[HSE.out];exact h
    · have hcs:k=0∨k=1∨k=2∨k=3∨k=4∨k=5∨k=6∨k=7:=by omega
      rcases hcs with rfl | rfl | rfl | rfl | rfl | rfl | rfl | rfl
      all_goals
       go_wp2_with fail;refine(Tryz.B_WriteByte _ b _ _ _ (.inr HBLr.out) (by rw[List.length_append,Go.Lib.byteCells_length,List.length_cons,List.length_take];omega) (by omega)).mono ?_;rintro e w4 ⟨rfl,hbl4,hb4⟩;have HB4:=zh (HBr.out.trans hb4);have HBL4:=zh (zKK hbl4 (by decide) (by simp only[Nat.reduceMul,Nat.reduceSub,Nat.reducePow];omega));clear hb4 hbl4;go_wp2_with fail;go_roundw;case rel=>exact⟨_+1,by omega,by go_num,HBL4.out,HB4.out⟩
       case measure=>simp[intOf];try omega
set_option maxRecDepth 100000 in
theorem zCx (A:Option Addr) (n c:Nat) (ss:List ByteArray) (w:World) (h:Strs w w.heap.size A n ss) (hp:∀s∈ss,yQ s) (hok:yC ss=true) (htab:yH w) :
 Calls Tryz.prog 146 #[.slice A n c] w fun e w'=>e=.returned (.string ⟨(ss.flatMap vD).toArray⟩)∧Below w.heap.size w w':=by
 have hn4:ss.length≤4:=by unfold yC at hok;rw[Bool.and_eq_true,decide_eq_true_eq]at hok;exact hok.1
 have hsz:∀s∈ss,s.size≤24:=fun s hs=>by unfold yC at hok;rw[Bool.and_eq_true,List.all_eq_true]at hok;have:=hok.2 s hs;unfold vG at this;rw[Bool.and_eq_true,decide_eq_true_eq,decide_eq_true_eq]at this;exact this.2
 have HK1:Hid (∀W,Below w.heap.size w W→Calls Tryz.prog 168 #[.slice A n c] W fun e w'=>e=.returned (.bool (yC ss))∧Below W.heap.size W w'):=fun W hW=>(xP A n c ss W (h.later hW) (by rw[←h.1];omega) (fun s hs=>by have:=hsz s hs;omega)).mono fun e w' h=>⟨h.1,h.2 ▸ Below.refl _ _⟩;have HKP:=zh (fun b bs s W (hs:s∈ss) (hbl:IsBuilder 188 5 w.heap.size b bs W) (hW:Below w.heap.size w W) (hl:bs.length≤1000000)=>zGT b bs s w W hbl (hp s hs) (by have:=hsz s hs;omega) htab hW hl);have HS:=zh h;have HLN:=zh h.1;have HN4:=zh hn4
 have HEL:Hid (∀s∈ss,(vD s).length≤30):=fun s hs=>by
  have h1:=hsz s hs;have h2:s.data.toList.length=s.size:=by rw[Array.length_toList];rfl
  unfold vD;split
  · rw[List.length_cons,zM0];omega
  · rw[List.length_cons,List.length_append,h2];simp only[List.length_cons,List.length_nil];omega
 clear h hp htab hsz hn4;rw[hok]at HK1;clear hok;go_enter Tryz.func146,Tryz.ntmps146;go_wp2_with fail;refine(HK1.out _ (Below.refl _ _)).mono ?_;rintro e w1 ⟨rfl,hb1⟩;have HB1:=zh hb1;have hw1:=hb1.size;have HBn:=zh (hb1.later (Below.new w1 (.cells #[.pointer none,.slice none 0 0] 188)));have HBL0:Hid (IsBuilder 188 5 w.heap.size w1.heap.size (Go.Lib.byteCells []) (w1.alloc (.cells #[.pointer none,.slice none 0 0] 188))):=.inl ⟨hw1,.slice none 0 0,heap_alloc_new _ _,World.ownsRow_nil _ _ _ _,by simp[Value.ownBlock]⟩;clear hb1;go_wp2_with fail;go_loopw [11] (fun i wr=>∃k:Nat,k≤n∧i=.int .i64 k∧Hid (IsBuilder 188 5 w.heap.size w1.heap.size (Go.Lib.byteCells ((ss.take k).flatMap vD)) wr)∧Hid (((ss.take k).flatMap vD).length≤30*k)∧Below w.heap.size w wr) (fun i _=>n-(intOf i).toNat);case atStart=>exact⟨0,Nat.zero_le _,rfl,HBL0.out,by unfold Hid;simp,HBn.out⟩
 case round =>
  obtain⟨k,hk,rfl,HBL,HLE,hb⟩:=hrel;have HB:=zh hb;have hwr:=hb.size;clear hb;have hn4:n≤4:=by rw[←HLN.out];exact HN4.out
  by_cases hlt:k<n
  · obtain⟨sb,so,rfl,hsb,hsc⟩:=(HS.out.later HB.out).2 (by omega);have hck:=hsc k hlt;have hl:k<ss.length:=by rw[HLN.out];exact hlt
    have hmem:=Own.mem_of_getD ss k ByteArray.empty hl;have HEk:=zh (HEL.out _ hmem);have HKk:=zh (HKP.out w1.heap.size (Go.Lib.byteCells ((ss.take k).flatMap vD)) _ wr hmem HBL.out HB.out (by rw[Go.Lib.byteCells_length];have:=HLE.out;omega));have HST:Hid ((ss.take (k+1)).flatMap vD=(ss.take k).flatMap vD++vD (ss.getD k ByteArray.empty)):=by unfold Hid;rw[List.take_succ_eq_append_getElem hl,List.flatMap_append,List.getD_eq_getElem?_getD,List.getElem?_eq_getElem hl];simp
    clear hsc hl hmem;generalize ss.getD k ByteArray.empty=s at *;go_wp2_with fail;refine HKk.out.mono ?_;rintro e w2 ⟨rfl,hbl,hb2⟩;have HB2:=zh (HB.out.trans hb2);have HBL2:Hid (IsBuilder 188 5 w.heap.size w1.heap.size (Go.Lib.byteCells ((ss.take (k+1)).flatMap vD)) w2):=by unfold Hid;rw[HST.out,Go.Lib.byteCells,List.map_append];exact hbl
    have HLE2:Hid (((ss.take (k+1)).flatMap vD).length≤30*(k+1)):=by unfold Hid;have h1:=HLE.out;have h2:=HEk.out;rw[HST.out,List.length_append];omega
    clear hbl hb2;go_wp2_with fail;go_roundw;case rel=>exact⟨k+1,by omega,by go_num,HBL2.out,HLE2.out,HB2.out⟩
    case measure=>simp[intOf];omega
  · have HBE:Hid (IsBuilder 188 5 w.heap.size w1.heap.size (Go.Lib.byteCells (ss.flatMap vD)) wr):=by have h:=HBL.out;rw[List.take_of_length_le (l:=ss) (by rw[HLN.out];omega)]at h;exact h
    go_wp2_with fail;refine(Tryz.B_String _ w1.heap.size _ wr HBE.out hwr).mono ?_;rintro e w2 ⟨rfl,hb2⟩;have HB2:=zh (HB.out.trans hb2);clear hb2;go_wp2_with fail;go_ret;exact⟨rfl,HB2.out⟩
end Go.Proofs.YtgmaamnofhmecaaGreatDoor
