import Derived.Test.YtgmaamnofhmecaaGreatDoorY02
import Derived.Test.YtgmaamnofhmecaaGreatDoorY00
import Derived.Deep.RegionHeld3
set_option linter.unusedSimpArgs false
set_option maxHeartbeats 1000000
open Go.Lib renaming hid → zh
namespace Go.Proofs.YtgmaamnofhmecaaGreatDoor
open Go.RowKit
def yE (c:UInt8):Bool:=(decide (97≤c.toNat)&&decide (c.toNat≤122))||(decide (65≤c.toNat)&&decide (c.toNat≤90))
def zEy:List UInt8→Bool
 | []=>false
 | c::r=>(yE c||decide (c=37))&&r.all (fun x=>yE x||isD x)
def xF (s:ByteArray):Bool:=decide (s.size≤8)&&zEy s.data.toList
def xG (s:ByteArray):Bool:=decide (1≤s.size)&&decide (s.size≤24)
def xC (l:List ByteArray):Bool:=decide (l.length≤4)&&l.all xG
def uA (a b:ByteArray):Bool:=if (wB a&&wB b)=true then decide (zH0 a.data.toList<zH0 b.data.toList) else if (wB a != wB b)=true then wB a else Op.bytesLess a.toList b.toList
theorem zBg (c:UInt8) (w:World) :
 Calls Tryz.prog 249 #[.int .u8 c.toNat] w fun e w'=>e=.returned (.bool (yE c))∧w=w':=by
 unfold yE;generalize c.toNat=n;by_cases h1:97≤n
 · by_cases h2:n≤122
   all_goals
    go_enter Tryz.func249,Tryz.ntmps249
    go_wp2
    all_goals
     go_ret;exact⟨zA0 (by first | (simp;done) | (simp;omega) | (rw[Bool.eq_iff_iff];simp;omega)),rfl⟩
 · by_cases h3:65≤n
   · by_cases h4:n≤90
     all_goals
      go_enter Tryz.func249,Tryz.ntmps249
      go_wp2
      all_goals
       go_ret;exact⟨zA0 (by first | (simp;done) | (simp;omega) | (rw[Bool.eq_iff_iff];simp;omega)),rfl⟩
   · go_enter Tryz.func249,Tryz.ntmps249
     go_wp2
     all_goals
      go_ret;exact⟨zA0 (by first | (simp;done) | (simp;omega) | (rw[Bool.eq_iff_iff];simp;omega)),rfl⟩
theorem zDt (s:ByteArray) (w:World) (hs:s.size≤1048576) :
 Calls Tryz.prog 223 #[.string s] w fun e w'=>e=.returned (.bool (xG s))∧w=w':=by
 unfold xG;by_cases h1:1≤s.size
 · by_cases h2:s.size≤24
   all_goals
    go_enter Tryz.func223,Tryz.ntmps223
    go_wp2
    go_ret;exact⟨zA0 (by first | (simp;done) | (simp;omega) | (rw[Bool.eq_iff_iff];simp;omega)),rfl⟩
 · go_enter Tryz.func223,Tryz.ntmps223
   go_wp2
   go_ret;exact⟨zA0 (by first | (simp;done) | (simp;omega) | (rw[Bool.eq_iff_iff];simp;omega)),rfl⟩
theorem zJc {α:Type} (p:α→Bool) (l:List α) (k:Nat) (h:k<l.length):(l.drop k).all p=(p l[k]&&(l.drop (k+1)).all p):=by
 rw[List.drop_eq_getElem_cons h];rfl
theorem zAx (A:Option Addr) (n c:Nat) (ss:List ByteArray) (w:World) (h:Strs w w.heap.size A n ss) (hn:n≤1048576) (hz:∀s∈ss,s.size≤1048576) :
 Calls Tryz.prog 225 #[.slice A n c] w fun e w'=>e=.returned (.bool (xC ss))∧w=w':=by
 have Hlen:=zh h.1;have HC:=zh h.2;have Hz:=zh hz;clear h hz;by_cases h4:4<n
 · have HE:Hid (xC ss=false):=by unfold Hid xC;rw[Hlen.out,decide_eq_false (by omega)];rfl
   go_enter Tryz.func225,Tryz.ntmps225;go_wp2_with fail;go_ret;exact⟨zA0 HE.out.symm,rfl⟩
 · have HE:Hid (xC ss=ss.all xG):=by unfold Hid xC;rw[Hlen.out,decide_eq_true (by omega)];rfl
   go_enter Tryz.func225,Tryz.ntmps225;go_wp2_with fail
   go_loop [3] (fun i=>∃k:Nat,k≤n∧i=.int .i64 k∧Hid (ss.all xG=(ss.drop k).all xG)) (fun i=>n-(intOf i).toNat)
   case atStart=>exact⟨0,Nat.zero_le _,rfl,rfl⟩
   case round =>
    obtain⟨k,hk,rfl,hS⟩:=hrel;by_cases hlt:k<n
    · obtain⟨b,o,rfl,hb,hcell⟩:=HC.out (by omega);have hck:=hcell k hlt;have hl:k<ss.length:=by rw[Hlen.out];exact hlt
      have HS:Hid ((ss.drop k).all xG=(xG (ss.getD k ByteArray.empty)&&(ss.drop (k+1)).all xG)):=by unfold Hid;rw[zJc _ _ _ hl,List.getD_eq_getElem?_getD,List.getElem?_eq_getElem hl];rfl
      have hsz:=Hz.out (ss.getD k ByteArray.empty) (by rw[List.getD_eq_getElem?_getD,List.getElem?_eq_getElem hl];simp);clear hcell hl;generalize ss.getD k ByteArray.empty=s at *;have HK:=zh (zDt s w hsz);go_wp2_with fail;refine HK.out.mono ?_;rintro e w' ⟨rfl,rfl⟩;cases hx:xG s
      · have HX:=zh hx;clear hx;go_wp2_with fail;go_ret;exact⟨zA0 (by rw[HE.out,hS.out,HS.out,HX.out];rfl),rfl⟩
      · have HX:=zh hx;clear hx;go_wp2_with fail
        go_round
        case rel=>exact⟨k+1,by omega,by go_num,by unfold Hid;rw[hS.out,HS.out,HX.out];rfl⟩
        case measure=>simp[intOf];omega
    · go_wp2_with fail;go_ret;exact⟨zA0 (by rw[HE.out,hS.out,List.drop_of_length_le (by rw[Hlen.out];omega)];rfl),rfl⟩
theorem zDq (s:ByteArray) (h:0<s.size):zEy s.data.toList=((yE s[0]||decide (s[0]=37))&&(s.data.toList.drop 1).all (fun x=>yE x||isD x)):=by
 have:=wK s 0 h;rw[List.drop_zero]at this;rw[this];rfl
theorem zGt (s:ByteArray) (w:World) (hs:s.size≤1048576) :
 Calls Tryz.prog 205 #[.string s] w fun e w'=>e=.returned (.bool (xF s))∧w=w':=by
 by_cases h1:s.size<1
 · have HE:Hid (xF s=false):=by unfold Hid xF;rw[List.eq_nil_of_length_eq_zero (show s.data.toList.length=0 by rw[←Lib.size_eq];omega)];simp[zEy]
   go_enter Tryz.func205,Tryz.ntmps205;go_wp2_with fail;go_ret;exact⟨zA0 HE.out.symm,rfl⟩
 · by_cases h8:8<s.size
   · have HE:Hid (xF s=false):=by unfold Hid xF;rw[decide_eq_false (by omega)];rfl
     go_enter Tryz.func205,Tryz.ntmps205;go_wp2_with fail;go_ret;exact⟨zA0 HE.out.symm,rfl⟩
   · have h0:0<s.size:=by omega
     have HE:Hid (xF s=((yE s[0]||decide (s[0]=37))&&(s.data.toList.drop 1).all (fun x=>yE x||isD x))):=by unfold Hid xF;rw[decide_eq_true (by omega),zDq s h0];rfl
     have HK0:=zh (zBg s[0]);have hbe:=zBM s[0] 37 (by omega);by_cases hf:(yE s[0]||decide (s[0]=37))=true
     · have HF:=zh hf;have HE2:Hid (xF s=(s.data.toList.drop 1).all (fun x=>yE x||isD x)):=by unfold Hid;rw[HE.out,hf];rfl
       have hbn:yE s[0]=false→((s[0].toNat:Int) != 37)=false:=fun h=>by
        rw[h]at hf;have:s[0]=37:=by simpa using hf
        rw[this];rfl
       have HBN:=zh hbn;clear hbn hf hbe HE;go_enter Tryz.func205,Tryz.ntmps205;go_wp2_with fail;refine(HK0.out _).mono ?_;rintro e w' ⟨rfl,rfl⟩;cases hl:yE s[0]
       all_goals
        have hq:=HBN.out
        first
          | (have hq2:=hq hl;clear hq)
          | clear hq
        clear hl HBN HF HK0;go_wp2_with fail
        go_loop [3] (fun i=>∃k:Nat,1≤k∧k≤s.size∧i=.int .i64 k∧Hid ((s.data.toList.drop 1).all (fun x=>yE x||isD x)=(s.data.toList.drop k).all (fun x=>yE x||isD x))) (fun i=>s.size-(intOf i).toNat)
        case atStart=>exact⟨1,by omega,by omega,rfl,rfl⟩
        case round =>
         obtain⟨k,hk1,hk,rfl,hS⟩:=hrel;by_cases hlt:k<s.size
         · have HD:=zh (wK s k hlt);have HK1:=zh (zBg s[k]);have HK2:=zh (uZ s[k]);go_wp2_with fail;refine(HK1.out _).mono ?_;rintro e w' ⟨rfl,rfl⟩;cases hl1:yE s[k]
           · have HL:=zh hl1;clear hl1;go_wp2_with fail;refine(HK2.out _).mono ?_;rintro e w' ⟨rfl,rfl⟩;cases hd1:isD s[k]
             · have HD1:=zh hd1;clear hd1;go_wp2_with fail;go_ret;exact⟨zA0 (by rw[HE2.out,hS.out,HD.out,List.all_cons,HL.out,HD1.out];rfl),rfl⟩
             · have HD1:=zh hd1;clear hd1;go_wp2_with fail
               go_round
               case rel=>exact⟨k+1,by omega,by omega,by go_num,by unfold Hid;rw[hS.out,HD.out,List.all_cons,HD1.out];simp⟩
               case measure=>simp[intOf];omega
           · have HL:=zh hl1;clear hl1;go_wp2_with fail
             go_round
             case rel=>exact⟨k+1,by omega,by omega,by go_num,by unfold Hid;rw[hS.out,HD.out,List.all_cons,HL.out];simp⟩
             case measure=>simp[intOf];omega
         · go_wp2_with fail;go_ret;exact⟨zA0 (by rw[HE2.out,hS.out,wU s k (by omega)];rfl),rfl⟩
     · have HE2:Hid (xF s=false):=by unfold Hid;rw[HE.out,Bool.not_eq_true _ |>.mp hf];rfl
       have hl0:yE s[0]=false:=by
        cases hx:yE s[0]
        · rfl
        · rw[hx]at hf;simp at hf
       have hb2:((s[0].toNat:Int) != 37)=true:=by
        rw[hl0]at hf;have h37:s[0]≠37:=by simpa using hf
        have hx:((s[0].toNat:Int)==37)=false:=by rw[decide_eq_false (by exact h37)]at hbe;exact hbe
        simp only[bne,hx];rfl
       rw[hl0]at HK0;clear hbe hf HE hl0;go_enter Tryz.func205,Tryz.ntmps205;go_wp2_with fail;refine(HK0.out _).mono ?_;rintro e w' ⟨rfl,rfl⟩;go_wp2_with fail;go_ret;exact⟨zA0 HE2.out.symm,rfl⟩
theorem zBh (a b:ByteArray) (w:World) (ha:a.size≤1048576) (hb:b.size≤1048576) :
 Calls Tryz.prog 264 #[.string a,.string b] w fun e w'=>e=.returned (.bool (uA a b))∧Below w.heap.size w w':=by
 have HK1:=zh (fun W=>zAa a W ha);have HK2:=zh (fun W=>zAa b W hb);have HK3:=zh (fun W=>zAT a W ha);have HK4:=zh (fun W=>zAT b W hb);have hR:uA a b=uA a b:=rfl
 conv at hR=>rhs;unfold uA
 generalize uA a b=R at *;generalize wB a=x at *;generalize wB b=y at *;generalize zH0 a.data.toList=p at *;generalize zH0 b.data.toList=q at *;have HR:=zh hR;clear hR;go_enter Tryz.func264,Tryz.ntmps264;go_wp2_with fail;refine(HK1.out _).mono ?_;rintro e w1 ⟨rfl,hb1⟩;have HB1:=zh hb1;clear hb1;go_wp2_with fail;refine(HK2.out _).mono ?_;rintro e w2 ⟨rfl,hb2⟩;have HB2:=zh (HB1.out.later hb2);clear hb2;cases x
 · cases y
   · have HE:Hid (R=Op.bytesLess a.toList b.toList):=HR.out;go_wp2_with fail;go_ret;exact⟨zA0 HE.out.symm,HB2.out⟩
   · have HE:Hid (R=false):=HR.out;go_wp2_with fail;go_ret;exact⟨zA0 HE.out.symm,HB2.out⟩
 · cases y
   · have HE:Hid (R=true):=HR.out;go_wp2_with fail;go_ret;exact⟨zA0 HE.out.symm,HB2.out⟩
   · have HE:Hid (R=decide (p<q)):=HR.out;go_wp2_with fail;refine(HK3.out _).mono ?_;rintro e w3 ⟨rfl,rfl⟩;go_wp2_with fail;refine(HK4.out _).mono ?_;rintro e w4 ⟨rfl,rfl⟩;go_wp2_with fail;go_ret;exact⟨zA0 HE.out.symm,HB2.out⟩
end Go.Proofs.YtgmaamnofhmecaaGreatDoor
namespace Go.Proofs.YtgmaamnofhmecaaGreatDoor
open Go.RowKit
def yB:List ByteArray→List ByteArray→Bool
 | [],_=>true
 | _::_,[]=>false
 | x::r,y::s=>decide (x=y)&&yB r s
def wD (n:ByteArray) (s:List ByteArray):Bool:=xF n&&xC s
def vE:List ByteArray→List ByteArray→Bool
 | [],[]=>false
 | [],_::_=>true
 | _::_,[]=>false
 | x::r,y::s=>if x=y then vE r s else uA x y
def zAw (n:ByteArray) (s:List ByteArray) (n':ByteArray) (s':List ByteArray):Bool:=if n=n' then vE s s' else Op.bytesLess n.toList n'.toList
theorem zBv:∀(a b:List ByteArray),b.length<a.length→yB a b=false
 | [],_,h=>absurd h (by simp)
 | _::_,[],_=>rfl
 | x::r,y::s,h=>by unfold yB;rw[zBv r s (by simpa using h),Bool.and_false]
theorem xZ (a b:List ByteArray) (k:Nat) (h:k<a.length) (h':k<b.length) :
 yB (a.drop k) (b.drop k)=(decide (a.getD k ByteArray.empty=b.getD k ByteArray.empty)&&yB (a.drop (k+1)) (b.drop (k+1))):=by
 rw[List.drop_eq_getElem_cons h,List.drop_eq_getElem_cons h'];simp[yB,List.getD_eq_getElem?_getD,List.getElem?_eq_getElem h,List.getElem?_eq_getElem h']
theorem zAs (b:List ByteArray):yB [] b=true:=by cases b <;> rfl
theorem zHu (a b:List ByteArray) (k:Nat) (h:k<a.length) (h':k<b.length) :
 vE (a.drop k) (b.drop k)=if a.getD k ByteArray.empty=b.getD k ByteArray.empty then vE (a.drop (k+1)) (b.drop (k+1)) else uA (a.getD k ByteArray.empty) (b.getD k ByteArray.empty):=by
 rw[List.drop_eq_getElem_cons h,List.drop_eq_getElem_cons h'];simp[vE,List.getD_eq_getElem?_getD,List.getElem?_eq_getElem h,List.getElem?_eq_getElem h']
theorem zEz:∀(a b:List ByteArray),a=[]∨b=[]→vE a b=decide (a.length<b.length)
 | [],[],_=>rfl
 | [],_::_,_=>by simp[vE]
 | _::_,[],_=>by simp[vE]
 | _::_,_::_,h=>by simp at h
theorem zAc:∀(a b:List ByteArray),(decide (a.length=b.length)&&yB a b)=eqS a b
 | [],[]=>rfl
 | [],_::_=>by simp[eqS]
 | _::_,[]=>by simp[eqS]
 | x::r,y::s=>by
   have h:=zAc r s;unfold eqS at h ⊢;simp only[yB,List.length_cons,List.cons.injEq];by_cases hx:x=y
   · subst hx;simp only[decide_true,Bool.true_and,true_and];rw[←h];simp
   · simp[hx]
theorem zEg (A A':Option Addr) (n c n' c':Nat) (ss ts:List ByteArray) (w:World) (h:Strs w w.heap.size A n ss) (h':Strs w w.heap.size A' n' ts) (hn:n≤1048576) (hn':n'≤1048576) :
 Calls Tryz.prog 227 #[.slice A n c,.slice A' n' c'] w fun e w'=>e=.returned (.bool (yB ss ts))∧∃q,w'=w.drewN q:=by
 obtain⟨hlen,hc⟩:=h;obtain⟨hlen',hc'⟩:=h';have Hc:=zh hc;have Hlen:=zh hlen;have Hc':=zh hc';have Hlen':=zh hlen';clear hc hlen hc' hlen';by_cases hgt:n'<n
 · have HE:Hid (yB ss ts=false):=zBv _ _ (by rw[Hlen.out,Hlen'.out];exact hgt);go_enter Tryz.func227,Tryz.ntmps227;go_wp2_with fail;go_ret;exact⟨zA0 HE.out.symm,0,rfl⟩
 · go_enter Tryz.func227,Tryz.ntmps227;go_wp2_with fail;go_loopw [5] (fun i wr=>∃(k:Nat),k≤n∧i=.int .i64 k∧(∃q,wr=w.drewN q)∧Hid (yB ss ts=yB (ss.drop k) (ts.drop k))) (fun i _=>n-(intOf i).toNat);case atStart=>exact⟨0,Nat.zero_le _,rfl,⟨0,rfl⟩,rfl⟩
   case round =>
    obtain⟨k,hk,rfl,⟨q,rfl⟩,hS⟩:=hrel;by_cases hlt:k<n
    · obtain⟨b,o,rfl,hb,hcell⟩:=Hc.out (by omega);obtain⟨b',o',rfl,hb',hcell'⟩:=Hc'.out (by omega);have hck:=hcell k hlt;have hck':=hcell' k (by omega);clear hcell hcell';have HS:=zh (xZ ss ts k (by rw[Hlen.out];exact hlt) (by rw[Hlen'.out];omega));generalize ss.getD k ByteArray.empty=s at *;generalize ts.getD k ByteArray.empty=t at *;go_wp2_with fail
      go_quiet (fail)
      go_wp2_with fail
      · go_ret;have hst:s≠t:=zEZ (by assumption);exact⟨zA0 (by rw[hS.out,HS.out,decide_eq_false hst];rfl),_,World.drewN_drewN _ _ _⟩
      · go_roundw;case rel=>have hst:s=t:=zFb (by assumption);exact⟨k+1,by omega,by go_num,⟨_,rfl⟩,by unfold Hid;rw[hS.out,HS.out,decide_eq_true hst];rfl⟩
        case measure=>simp[intOf];omega
    · go_wp2_with fail;go_ret;exact⟨zA0 (by rw[hS.out,List.drop_of_length_le (by rw[Hlen.out];omega),zAs]),_,rfl⟩
theorem zFn (A A':Option Addr) (n c n' c':Nat) (ss ts:List ByteArray) (w:World) (h:Strs w w.heap.size A n ss) (h':Strs w w.heap.size A' n' ts) (hn:n≤1048576) (hn':n'≤1048576) :
 Calls Tryz.prog 175 #[.slice A n c,.slice A' n' c'] w fun e w'=>e=.returned (.bool (eqS ss ts))∧∃q,w'=w.drewN q:=by
 have HK:=zh (zEg A A' n c n' c' ss ts w h h' hn hn');have hE:=zAc ss ts;rw[h.1,h'.1]at hE;clear h h';generalize yB ss ts=x at *;generalize eqS ss ts=R at *;by_cases hne:n=n'
 · subst hne;have HE:Hid (x=R):=by unfold Hid;rw[←hE];simp
   clear hE;go_enter Tryz.func175,Tryz.ntmps175;go_wp2_with fail;refine HK.out.mono ?_;rintro e w1 ⟨rfl,q,rfl⟩;go_wp2_with fail;go_ret;exact⟨zA0 HE.out,q,rfl⟩
 · have HE:Hid (false=R):=by unfold Hid;rw[←hE];simp[hne]
   have hb:((n:Int)==(n':Int))=false:=by rw[beq_eq_false_iff_ne];omega
   have hb2:(n==n')=false:=by rw[beq_eq_false_iff_ne];omega
   clear hE hne;go_enter Tryz.func175,Tryz.ntmps175;go_wp2_with fail;go_ret;exact⟨zA0 HE.out,0,rfl⟩
theorem zG0 {a b:ByteArray} (h:a≠b):(a.toList==b.toList)=false:=by
 cases hx:(a.toList==b.toList)
 · rfl
 · exact absurd (xM (by simpa using hx)) h
theorem zBu {a b:ByteArray} (h:a≠b):(!a.toList==b.toList)=true:=by rw[zG0 h];rfl
theorem wT (s:ByteArray) (w:World) (hs:s.size≤1048576) :
 Calls Tryz.prog 133 #[.string s] w fun e w'=>e=.returned (.bool (xF s))∧w=w':=by
 have HK:=zh (zGt s w hs);generalize xF s=x at *;go_enter Tryz.func133,Tryz.ntmps133;go_wp2_with fail;refine HK.out.mono ?_;rintro e w1 ⟨rfl,rfl⟩;go_wp2_with fail;go_ret;exact⟨rfl,rfl⟩
theorem zK0 (A:Option Addr) (n c:Nat) (ss:List ByteArray) (w:World) (h:Strs w w.heap.size A n ss) (hn:n≤1048576) (hz:∀s∈ss,s.size≤1048576) :
 Calls Tryz.prog 174 #[.slice A n c] w fun e w'=>e=.returned (.bool (xC ss))∧w=w':=by
 have HK:=zh (zAx A n c ss w h hn hz);clear h hz;generalize xC ss=x at *;go_enter Tryz.func174,Tryz.ntmps174;go_wp2_with fail;refine HK.out.mono ?_;rintro e w1 ⟨rfl,rfl⟩;go_wp2_with fail;go_ret;exact⟨rfl,rfl⟩
theorem zDk (a b:ByteArray) (w:World) (ha:a.size≤1048576) (hb:b.size≤1048576) :
 Calls Tryz.prog 263 #[.string a,.string b] w fun e w'=>e=.returned (.bool (uA a b))∧Below w.heap.size w w':=by
 have HK:=zh (zBh a b w ha hb);generalize uA a b=x at *;go_enter Tryz.func263,Tryz.ntmps263;go_wp2_with fail;refine HK.out.mono ?_;rintro e w1 ⟨rfl,hb1⟩;have HB:=zh hb1;clear hb1;go_wp2_with fail;go_ret;exact⟨rfl,HB.out⟩
def inB (n a b:Int):Bool:=decide (a≤n)&&decide (n≤b)
theorem zEC (n a b:Int) (w:World) :
 Calls Tryz.prog 91 #[.int .i64 n,.int .i64 a,.int .i64 b] w fun e w'=>e=.returned (.bool (inB n a b))∧w=w':=by
 unfold inB;by_cases h1:a≤n
 · by_cases h2:n≤b
   all_goals
    go_enter Tryz.func91,Tryz.ntmps91
    go_wp2
    go_ret;exact⟨zA0 (by first | (simp;done) | (simp;omega) | (rw[Bool.eq_iff_iff];simp;omega)),rfl⟩
 · go_enter Tryz.func91,Tryz.ntmps91
   go_wp2
   go_ret;exact⟨zA0 (by first | (simp;done) | (simp;omega) | (rw[Bool.eq_iff_iff];simp;omega)),rfl⟩
theorem zHw (n:Int) (w:World) :
 Calls Tryz.prog 210 #[.int .i64 n] w fun e w'=>e=.returned (.bool (inB n 1 4))∧w=w':=by
 have HK:=zh (zEC n 1 4 w);generalize inB n 1 4=x at *;go_enter Tryz.func210,Tryz.ntmps210;go_wp2_with fail;refine HK.out.mono ?_;rintro e w1 ⟨rfl,rfl⟩;go_wp2_with fail;go_ret;exact⟨rfl,rfl⟩
theorem zCV {ss:List ByteArray} {M:Nat} (hz:∀s∈ss,s.size≤M) (k:Nat) (hk:k<ss.length):(ss.getD k ByteArray.empty).size≤M:=by
 apply hz;rw[List.getD_eq_getElem?_getD,List.getElem?_eq_getElem hk];simp
end Go.Proofs.YtgmaamnofhmecaaGreatDoor
namespace Go.Proofs.YtgmaamnofhmecaaGreatDoor
open Go.RowKit
def xJ {α:Type} (p:α→Bool):List α→Nat→Int
 | [],_=>-1
 | d::r,k=>if p d=true then k else xJ p r (k+1)
theorem zY0 {α:Type} [Inhabited α] (p:α→Bool) (l:List α) (k:Nat) (h:k<l.length):xJ p (l.drop k) k=if p (l.getD k default)=true then (k:Int) else xJ p (l.drop (k+1)) (k+1):=by
 rw[List.drop_eq_getElem_cons h];simp[xJ,List.getD_eq_getElem?_getD,List.getElem?_eq_getElem h]
end Go.Proofs.YtgmaamnofhmecaaGreatDoor
