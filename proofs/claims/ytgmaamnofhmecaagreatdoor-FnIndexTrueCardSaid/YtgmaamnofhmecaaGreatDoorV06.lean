import Derived.Test.YtgmaamnofhmecaaGreatDoorV04
import Derived.Test.YtgmaamnofhmecaaGreatDoorV00
import Derived.Deep.RegionHeld3
set_option maxHeartbeats 1000000
open Go.Lib renaming hid → zh
namespace Go.Proofs.YtgmaamnofhmecaaGreatDoor
open Go.RowKit
def xG (c:UInt8):Bool:=(decide (97≤c.toNat)&&decide (c.toNat≤122))||(decide (65≤c.toNat)&&decide (c.toNat≤90))
def zEm:List UInt8→Bool
 | []=>false
 | c::r=>(xG c||decide (c=37))&&r.all (fun x=>xG x||isD x)
def xC (s:ByteArray):Bool:=decide (s.size≤8)&&zEm s.data.toList
def xS (s:ByteArray):Bool:=decide (1≤s.size)&&decide (s.size≤24)
def yK (l:List ByteArray):Bool:=decide (l.length≤4)&&l.all xS
def zK0 (a b:ByteArray):Bool:=if (zC0 a&&zC0 b)=true then decide (yN a.data.toList<yN b.data.toList) else if (zC0 a != zC0 b)=true then zC0 a else Op.bytesLess a.toList b.toList
theorem zBW (c:UInt8) (w:World) :
 Calls Tryz.prog 249 #[.int .u8 c.toNat] w fun e w'=>e=.returned (.bool (xG c))∧w=w':=by
 unfold xG;generalize c.toNat=n;by_cases h1:97≤n
 · by_cases h2:n≤122
   all_goals
    go_enter Tryz.func249,Tryz.ntmps249
    go_wp2
    all_goals
     go_ret;exact⟨zA0 (by first | (simp;done) | (simp;omega) | (rw[Bool.eq_iff_iff];simp;omega)),rfl⟩
 · by_cases h3:65≤n
   · by_cases h4:n≤90
     all_goals
      go_enter Tryz.func249,Tryz.ntmps249
      go_wp2
      all_goals
       go_ret;exact⟨zA0 (by first | (simp;done) | (simp;omega) | (rw[Bool.eq_iff_iff];simp;omega)),rfl⟩
   · go_enter Tryz.func249,Tryz.ntmps249
     go_wp2
     all_goals
      go_ret;exact⟨zA0 (by first | (simp;done) | (simp;omega) | (rw[Bool.eq_iff_iff];simp;omega)),rfl⟩
theorem zIi (s:ByteArray) (w:World) (hs:s.size≤1048576) :
 Calls Tryz.prog 223 #[.string s] w fun e w'=>e=.returned (.bool (xS s))∧w=w':=by
 unfold xS;by_cases h1:1≤s.size
 · by_cases h2:s.size≤24
   all_goals
    go_enter Tryz.func223,Tryz.ntmps223
    go_wp2
    go_ret;exact⟨zA0 (by first | (simp;done) | (simp;omega) | (rw[Bool.eq_iff_iff];simp;omega)),rfl⟩
 · go_enter Tryz.func223,Tryz.ntmps223
   go_wp2
   go_ret;exact⟨zA0 (by first | (simp;done) | (simp;omega) | (rw[Bool.eq_iff_iff];simp;omega)),rfl⟩
theorem zJW {α:Type} (p:α→Bool) (l:List α) (k:Nat) (h:k<l.length):(l.drop k).all p=(p l[k]&&(l.drop (k+1)).all p):=by
 rw[List.drop_eq_getElem_cons h];rfl
theorem zGT (A:Option Addr) (n c:Nat) (ss:List ByteArray) (w:World) (h:Strs w w.heap.size A n ss) (hn:n≤1048576) (hz:∀s∈ss,s.size≤1048576) :
 Calls Tryz.prog 225 #[.slice A n c] w fun e w'=>e=.returned (.bool (yK ss))∧w=w':=by
 have Hlen:=zh h.1;have HC:=zh h.2;have Hz:=zh hz;clear h hz;by_cases h4:4<n
 · have HE:Hid (yK ss=false):=by unfold Hid yK;rw[Hlen.out,decide_eq_false (by omega)];rfl
   go_enter Tryz.func225,Tryz.ntmps225;go_wp2_with fail;go_ret;exact⟨zA0 HE.out.symm,rfl⟩
 · have HE:Hid (yK ss=ss.all xS):=by unfold Hid yK;rw[Hlen.out,decide_eq_true (by omega)];rfl
   go_enter Tryz.func225,Tryz.ntmps225;go_wp2_with fail
   go_loop [3] (fun i=>∃k:Nat,k≤n∧i=.int .i64 k∧Hid (ss.all xS=(ss.drop k).all xS)) (fun i=>n-(intOf i).toNat)
   case atStart=>exact⟨0,Nat.zero_le _,rfl,rfl⟩
   case round =>
    obtain⟨k,hk,rfl,hS⟩:=hrel;by_cases hlt:k<n
    · obtain⟨b,o,rfl,hb,hcell⟩:=HC.out (by omega);have hck:=hcell k hlt;have hl:k<ss.length:=by rw[Hlen.out];exact hlt
      have HS:Hid ((ss.drop k).all xS=(xS (ss.getD k ByteArray.empty)&&(ss.drop (k+1)).all xS)):=by unfold Hid;rw[zJW _ _ _ hl,List.getD_eq_getElem?_getD,List.getElem?_eq_getElem hl];rfl
      have hsz:=Hz.out (ss.getD k ByteArray.empty) (by rw[List.getD_eq_getElem?_getD,List.getElem?_eq_getElem hl];simp);clear hcell hl;generalize ss.getD k ByteArray.empty=s at *;have HK:=zh (zIi s w hsz);go_wp2_with fail;refine HK.out.mono ?_;rintro e w' ⟨rfl,rfl⟩;cases hx:xS s
      · have HX:=zh hx;clear hx;go_wp2_with fail;go_ret;exact⟨zA0 (by rw[HE.out,hS.out,HS.out,HX.out];rfl),rfl⟩
      · have HX:=zh hx;clear hx;go_wp2_with fail
        go_round
        case rel=>exact⟨k+1,by omega,by go_num,by unfold Hid;rw[hS.out,HS.out,HX.out];rfl⟩
        case measure=>simp[intOf];omega
    · go_wp2_with fail;go_ret;exact⟨zA0 (by rw[HE.out,hS.out,List.drop_of_length_le (by rw[Hlen.out];omega)];rfl),rfl⟩
theorem zEl (s:ByteArray) (h:0<s.size):zEm s.data.toList=((xG s[0]||decide (s[0]=37))&&(s.data.toList.drop 1).all (fun x=>xG x||isD x)):=by
 have:=uL s 0 h;rw[List.drop_zero]at this;rw[this];rfl
theorem zGV (s:ByteArray) (w:World) (hs:s.size≤1048576) :
 Calls Tryz.prog 205 #[.string s] w fun e w'=>e=.returned (.bool (xC s))∧w=w':=by
 by_cases h1:s.size<1
 · have HE:Hid (xC s=false):=by unfold Hid xC;rw[List.eq_nil_of_length_eq_zero (show s.data.toList.length=0 by rw[←Lib.size_eq];omega)];simp[zEm]
   go_enter Tryz.func205,Tryz.ntmps205;go_wp2_with fail;go_ret;exact⟨zA0 HE.out.symm,rfl⟩
 · by_cases h8:8<s.size
   · have HE:Hid (xC s=false):=by unfold Hid xC;rw[decide_eq_false (by omega)];rfl
     go_enter Tryz.func205,Tryz.ntmps205;go_wp2_with fail;go_ret;exact⟨zA0 HE.out.symm,rfl⟩
   · have h0:0<s.size:=by omega
     have HE:Hid (xC s=((xG s[0]||decide (s[0]=37))&&(s.data.toList.drop 1).all (fun x=>xG x||isD x))):=by unfold Hid xC;rw[decide_eq_true (by omega),zEl s h0];rfl
     have HK0:=zh (zBW s[0]);have hbe:=zCK s[0] 37 (by omega);by_cases hf:(xG s[0]||decide (s[0]=37))=true
     · have HF:=zh hf;have HE2:Hid (xC s=(s.data.toList.drop 1).all (fun x=>xG x||isD x)):=by unfold Hid;rw[HE.out,hf];rfl
       have hbn:xG s[0]=false→((s[0].toNat:Int) != 37)=false:=fun h=>by
        rw[h]at hf;have:s[0]=37:=by simpa using hf
        rw[this];rfl
       have HBN:=zh hbn;clear hbn hf hbe HE;go_enter Tryz.func205,Tryz.ntmps205;go_wp2_with fail;refine(HK0.out _).mono ?_;rintro e w' ⟨rfl,rfl⟩;cases hl:xG s[0]
       all_goals
        have hq:=HBN.out
        first
          | (have hq2:=hq hl;clear hq)
          | clear hq
        clear hl HBN HF HK0;go_wp2_with fail
        go_loop [3] (fun i=>∃k:Nat,1≤k∧k≤s.size∧i=.int .i64 k∧Hid ((s.data.toList.drop 1).all (fun x=>xG x||isD x)=(s.data.toList.drop k).all (fun x=>xG x||isD x))) (fun i=>s.size-(intOf i).toNat)
        case atStart=>exact⟨1,by omega,by omega,rfl,rfl⟩
        case round =>
         obtain⟨k,hk1,hk,rfl,hS⟩:=hrel;by_cases hlt:k<s.size
         · have HD:=zh (uL s k hlt);have HK1:=zh (zBW s[k]);have HK2:=zh (zAP s[k]);go_wp2_with fail;refine(HK1.out _).mono ?_;rintro e w' ⟨rfl,rfl⟩;cases hl1:xG s[k]
           · have HL:=zh hl1;clear hl1;go_wp2_with fail;refine(HK2.out _).mono ?_;rintro e w' ⟨rfl,rfl⟩;cases hd1:isD s[k]
             · have HD1:=zh hd1;clear hd1;go_wp2_with fail;go_ret;exact⟨zA0 (by rw[HE2.out,hS.out,HD.out,List.all_cons,HL.out,HD1.out];rfl),rfl⟩
             · have HD1:=zh hd1;clear hd1;go_wp2_with fail
               go_round
               case rel=>exact⟨k+1,by omega,by omega,by go_num,by unfold Hid;rw[hS.out,HD.out,List.all_cons,HD1.out];simp⟩
               case measure=>simp[intOf];omega
           · have HL:=zh hl1;clear hl1;go_wp2_with fail
             go_round
             case rel=>exact⟨k+1,by omega,by omega,by go_num,by unfold Hid;rw[hS.out,HD.out,List.all_cons,HL.out];simp⟩
             case measure=>simp[intOf];omega
         · go_wp2_with fail;go_ret;exact⟨zA0 (by rw[HE2.out,hS.out,wW s k (by omega)];rfl),rfl⟩
     · have HE2:Hid (xC s=false):=by unfold Hid;rw[HE.out,Bool.not_eq_true _ |>.mp hf];rfl
       have hl0:xG s[0]=false:=by
        cases hx:xG s[0]
        · rfl
        · rw[hx]at hf;simp at hf
       have hb2:((s[0].toNat:Int) != 37)=true:=by
        rw[hl0]at hf;have h37:s[0]≠37:=by simpa using hf
        have hx:((s[0].toNat:Int)==37)=false:=by rw[decide_eq_false (by exact h37)]at hbe;exact hbe
        simp only[bne,hx];rfl
       rw[hl0]at HK0;clear hbe hf HE hl0;go_enter Tryz.func205,Tryz.ntmps205;go_wp2_with fail;refine(HK0.out _).mono ?_;rintro e w' ⟨rfl,rfl⟩;go_wp2_with fail;go_ret;exact⟨zA0 HE2.out.symm,rfl⟩
theorem zFa (a b:ByteArray) (w:World) (ha:a.size≤1048576) (hb:b.size≤1048576) :
 Calls Tryz.prog 264 #[.string a,.string b] w fun e w'=>e=.returned (.bool (zK0 a b))∧Below w.heap.size w w':=by
 have HK1:=zh (fun W=>zCx a W ha);have HK2:=zh (fun W=>zCx b W hb);have HK3:=zh (fun W=>zCZ a W ha);have HK4:=zh (fun W=>zCZ b W hb);have hR:zK0 a b=zK0 a b:=rfl
 conv at hR=>rhs;unfold zK0
 generalize zK0 a b=R at *;generalize zC0 a=x at *;generalize zC0 b=y at *;generalize yN a.data.toList=p at *;generalize yN b.data.toList=q at *;have HR:=zh hR;clear hR;go_enter Tryz.func264,Tryz.ntmps264;go_wp2_with fail;refine(HK1.out _).mono ?_;rintro e w1 ⟨rfl,hb1⟩;have HB1:=zh hb1;clear hb1;go_wp2_with fail;refine(HK2.out _).mono ?_;rintro e w2 ⟨rfl,hb2⟩;have HB2:=zh (HB1.out.later hb2);clear hb2;cases x
 · cases y
   · have HE:Hid (R=Op.bytesLess a.toList b.toList):=HR.out;go_wp2_with fail;go_ret;exact⟨zA0 HE.out.symm,HB2.out⟩
   · have HE:Hid (R=false):=HR.out;go_wp2_with fail;go_ret;exact⟨zA0 HE.out.symm,HB2.out⟩
 · cases y
   · have HE:Hid (R=true):=HR.out;go_wp2_with fail;go_ret;exact⟨zA0 HE.out.symm,HB2.out⟩
   · have HE:Hid (R=decide (p<q)):=HR.out;go_wp2_with fail;refine(HK3.out _).mono ?_;rintro e w3 ⟨rfl,rfl⟩;go_wp2_with fail;refine(HK4.out _).mono ?_;rintro e w4 ⟨rfl,rfl⟩;go_wp2_with fail;go_ret;exact⟨zA0 HE.out.symm,HB2.out⟩
end Go.Proofs.YtgmaamnofhmecaaGreatDoor
namespace Go.Proofs.YtgmaamnofhmecaaGreatDoor
open Go.RowKit
def zG0:List ByteArray→List ByteArray→Bool
 | [],_=>true
 | _::_,[]=>false
 | x::r,y::s=>decide (x=y)&&zG0 r s
def wC (n:ByteArray) (s:List ByteArray):Bool:=xC n&&yK s
def zJ0:List ByteArray→List ByteArray→Bool
 | [],[]=>false
 | [],_::_=>true
 | _::_,[]=>false
 | x::r,y::s=>if x=y then zJ0 r s else zK0 x y
def zBr (n:ByteArray) (s:List ByteArray) (n':ByteArray) (s':List ByteArray):Bool:=if n=n' then zJ0 s s' else Op.bytesLess n.toList n'.toList
theorem zFQ (a b:List ByteArray) (k:Nat) (h:k<a.length) (h':k<b.length) :
 zG0 (a.drop k) (b.drop k)=(decide (a.getD k ByteArray.empty=b.getD k ByteArray.empty)&&zG0 (a.drop (k+1)) (b.drop (k+1))):=by
 rw[List.drop_eq_getElem_cons h,List.drop_eq_getElem_cons h'];simp[zG0,List.getD_eq_getElem?_getD,List.getElem?_eq_getElem h,List.getElem?_eq_getElem h']
theorem zGz (b:List ByteArray):zG0 [] b=true:=by cases b <;> rfl
theorem zIe (a b:List ByteArray) (k:Nat) (h:k<a.length) (h':k<b.length) :
 zJ0 (a.drop k) (b.drop k)=if a.getD k ByteArray.empty=b.getD k ByteArray.empty then zJ0 (a.drop (k+1)) (b.drop (k+1)) else zK0 (a.getD k ByteArray.empty) (b.getD k ByteArray.empty):=by
 rw[List.drop_eq_getElem_cons h,List.drop_eq_getElem_cons h'];simp[zJ0,List.getD_eq_getElem?_getD,List.getElem?_eq_getElem h,List.getElem?_eq_getElem h']
theorem zFu:∀(a b:List ByteArray),a=[]∨b=[]→zJ0 a b=decide (a.length<b.length)
 | [],[],_=>rfl
 | [],_::_,_=>by simp[zJ0]
 | _::_,[],_=>by simp[zJ0]
 | _::_,_::_,h=>by simp at h
theorem zCf:∀(a b:List ByteArray),(decide (a.length=b.length)&&zG0 a b)=eqS a b
 | [],[]=>rfl
 | [],_::_=>by simp[eqS]
 | _::_,[]=>by simp[eqS]
 | x::r,y::s=>by
   have h:=zCf r s;unfold eqS at h ⊢;simp only[zG0,List.length_cons,List.cons.injEq];by_cases hx:x=y
   · subst hx;simp only[decide_true,Bool.true_and,true_and];rw[←h];simp
   · simp[hx]
theorem vE {a b:ByteArray} (h:a≠b):(a.toList==b.toList)=false:=by
 cases hx:(a.toList==b.toList)
 · rfl
 · exact absurd (uP (by simpa using hx)) h
theorem wY {a b:ByteArray} (h:a≠b):(!a.toList==b.toList)=true:=by rw[vE h];rfl
theorem yT (s:ByteArray) (w:World) (hs:s.size≤1048576) :
 Calls Tryz.prog 133 #[.string s] w fun e w'=>e=.returned (.bool (xC s))∧w=w':=by
 have HK:=zh (zGV s w hs);generalize xC s=x at *;go_enter Tryz.func133,Tryz.ntmps133;go_wp2_with fail;refine HK.out.mono ?_;rintro e w1 ⟨rfl,rfl⟩;go_wp2_with fail;go_ret;exact⟨rfl,rfl⟩
theorem zEc (A:Option Addr) (n c:Nat) (ss:List ByteArray) (w:World) (h:Strs w w.heap.size A n ss) (hn:n≤1048576) (hz:∀s∈ss,s.size≤1048576) :
 Calls Tryz.prog 174 #[.slice A n c] w fun e w'=>e=.returned (.bool (yK ss))∧w=w':=by
 have HK:=zh (zGT A n c ss w h hn hz);clear h hz;generalize yK ss=x at *;go_enter Tryz.func174,Tryz.ntmps174;go_wp2_with fail;refine HK.out.mono ?_;rintro e w1 ⟨rfl,rfl⟩;go_wp2_with fail;go_ret;exact⟨rfl,rfl⟩
def inB (n a b:Int):Bool:=decide (a≤n)&&decide (n≤b)
theorem zCn {ss:List ByteArray} {M:Nat} (hz:∀s∈ss,s.size≤M) (k:Nat) (hk:k<ss.length):(ss.getD k ByteArray.empty).size≤M:=by
 apply hz;rw[List.getD_eq_getElem?_getD,List.getElem?_eq_getElem hk];simp
end Go.Proofs.YtgmaamnofhmecaaGreatDoor
