import Derived.Test.YtfpcjhajjejpdaaGreatDoorZ03
import Derived.Test.YtfpcjhajjejpdaaGreatDoorZ00
import Derived.Deep.RegionHeld3
set_option maxHeartbeats 1000000
open Go.Lib renaming hid → zh
namespace Go.Proofs.YtfpcjhajjejpdaaGreatDoor
open Go.RowKit
def xG (c:UInt8):Bool:=(decide (97≤c.toNat)&&decide (c.toNat≤122))||(decide (65≤c.toNat)&&decide (c.toNat≤90))
def zFh:List UInt8→Bool
 | []=>false
 | c::r=>(xG c||decide (c=37))&&r.all (fun x=>xG x||isD x)
def zB0 (s:ByteArray):Bool:=decide (s.size≤8)&&zFh s.data.toList
def wV (s:ByteArray):Bool:=decide (1≤s.size)&&decide (s.size≤24)
def xQ (l:List ByteArray):Bool:=decide (l.length≤4)&&l.all wV
def yB (a b:ByteArray):Bool:=if (uD a&&uD b)=true then decide (yQ a.data.toList<yQ b.data.toList) else if (uD a != uD b)=true then uD a else Op.bytesLess a.toList b.toList
theorem zBz (c:UInt8) (w:World) :
 Calls Tryz.prog 215 #[.int .u8 c.toNat] w fun e w'=>e=.returned (.bool (xG c))∧w=w':=by
 unfold xG;generalize c.toNat=n;by_cases h1:97≤n
 · by_cases h2:n≤122
   all_goals
    go_enter Tryz.func215,Tryz.ntmps215
    go_wp2
    all_goals
     go_ret;exact⟨zA0 (by first | (simp;done) | (simp;omega) | (rw[Bool.eq_iff_iff];simp;omega)),rfl⟩
 · by_cases h3:65≤n
   · by_cases h4:n≤90
     all_goals
      go_enter Tryz.func215,Tryz.ntmps215
      go_wp2
      all_goals
       go_ret;exact⟨zA0 (by first | (simp;done) | (simp;omega) | (rw[Bool.eq_iff_iff];simp;omega)),rfl⟩
   · go_enter Tryz.func215,Tryz.ntmps215
     go_wp2
     all_goals
      go_ret;exact⟨zA0 (by first | (simp;done) | (simp;omega) | (rw[Bool.eq_iff_iff];simp;omega)),rfl⟩
theorem zIj (s:ByteArray) (w:World) (hs:s.size≤1048576) :
 Calls Tryz.prog 242 #[.string s] w fun e w'=>e=.returned (.bool (wV s))∧w=w':=by
 unfold wV;by_cases h1:1≤s.size
 · by_cases h2:s.size≤24
   all_goals
    go_enter Tryz.func242,Tryz.ntmps242
    go_wp2
    go_ret;exact⟨zA0 (by first | (simp;done) | (simp;omega) | (rw[Bool.eq_iff_iff];simp;omega)),rfl⟩
 · go_enter Tryz.func242,Tryz.ntmps242
   go_wp2
   go_ret;exact⟨zA0 (by first | (simp;done) | (simp;omega) | (rw[Bool.eq_iff_iff];simp;omega)),rfl⟩
theorem zKa {α:Type} (p:α→Bool) (l:List α) (k:Nat) (h:k<l.length):(l.drop k).all p=(p l[k]&&(l.drop (k+1)).all p):=by
 rw[List.drop_eq_getElem_cons h];rfl
theorem zGN (A:Option Addr) (n c:Nat) (ss:List ByteArray) (w:World) (h:Strs w w.heap.size A n ss) (hn:n≤1048576) (hz:∀s∈ss,s.size≤1048576) :
 Calls Tryz.prog 216 #[.slice A n c] w fun e w'=>e=.returned (.bool (xQ ss))∧w=w':=by
 have Hlen:=zh h.1;have HC:=zh h.2;have Hz:=zh hz;clear h hz;by_cases h4:4<n
 · have HE:Hid (xQ ss=false):=by unfold Hid xQ;rw[Hlen.out,decide_eq_false (by omega)];rfl
   go_enter Tryz.func216,Tryz.ntmps216;go_wp2_with fail;go_ret;exact⟨zA0 HE.out.symm,rfl⟩
 · have HE:Hid (xQ ss=ss.all wV):=by unfold Hid xQ;rw[Hlen.out,decide_eq_true (by omega)];rfl
   go_enter Tryz.func216,Tryz.ntmps216;go_wp2_with fail
   go_loop [3] (fun i=>∃k:Nat,k≤n∧i=.int .i64 k∧Hid (ss.all wV=(ss.drop k).all wV)) (fun i=>n-(intOf i).toNat)
   case atStart=>exact⟨0,Nat.zero_le _,rfl,rfl⟩
   case round =>
    obtain⟨k,hk,rfl,hS⟩:=hrel;by_cases hlt:k<n
    · obtain⟨b,o,rfl,hb,hcell⟩:=HC.out (by omega);have hck:=hcell k hlt;have hl:k<ss.length:=by rw[Hlen.out];exact hlt
      have HS:Hid ((ss.drop k).all wV=(wV (ss.getD k ByteArray.empty)&&(ss.drop (k+1)).all wV)):=by unfold Hid;rw[zKa _ _ _ hl,List.getD_eq_getElem?_getD,List.getElem?_eq_getElem hl];rfl
      have hsz:=Hz.out (ss.getD k ByteArray.empty) (by rw[List.getD_eq_getElem?_getD,List.getElem?_eq_getElem hl];simp);clear hcell hl;generalize ss.getD k ByteArray.empty=s at *;have HK:=zh (zIj s w hsz);go_wp2_with fail;refine HK.out.mono ?_;rintro e w' ⟨rfl,rfl⟩;cases hx:wV s
      · have HX:=zh hx;clear hx;go_wp2_with fail;go_ret;exact⟨zA0 (by rw[HE.out,hS.out,HS.out,HX.out];rfl),rfl⟩
      · have HX:=zh hx;clear hx;go_wp2_with fail
        go_round
        case rel=>exact⟨k+1,by omega,by go_num,by unfold Hid;rw[hS.out,HS.out,HX.out];rfl⟩
        case measure=>simp[intOf];omega
    · go_wp2_with fail;go_ret;exact⟨zA0 (by rw[HE.out,hS.out,List.drop_of_length_le (by rw[Hlen.out];omega)];rfl),rfl⟩
theorem zDT (s:ByteArray) (h:0<s.size):zFh s.data.toList=((xG s[0]||decide (s[0]=37))&&(s.data.toList.drop 1).all (fun x=>xG x||isD x)):=by
 have:=yK s 0 h;rw[List.drop_zero]at this;rw[this];rfl
theorem zGP (s:ByteArray) (w:World) (hs:s.size≤1048576) :
 Calls Tryz.prog 184 #[.string s] w fun e w'=>e=.returned (.bool (zB0 s))∧w=w':=by
 by_cases h1:s.size<1
 · have HE:Hid (zB0 s=false):=by unfold Hid zB0;rw[List.eq_nil_of_length_eq_zero (show s.data.toList.length=0 by rw[←Lib.size_eq];omega)];simp[zFh]
   go_enter Tryz.func184,Tryz.ntmps184;go_wp2_with fail;go_ret;exact⟨zA0 HE.out.symm,rfl⟩
 · by_cases h8:8<s.size
   · have HE:Hid (zB0 s=false):=by unfold Hid zB0;rw[decide_eq_false (by omega)];rfl
     go_enter Tryz.func184,Tryz.ntmps184;go_wp2_with fail;go_ret;exact⟨zA0 HE.out.symm,rfl⟩
   · have h0:0<s.size:=by omega
     have HE:Hid (zB0 s=((xG s[0]||decide (s[0]=37))&&(s.data.toList.drop 1).all (fun x=>xG x||isD x))):=by unfold Hid zB0;rw[decide_eq_true (by omega),zDT s h0];rfl
     have HK0:=zh (zBz s[0]);have hbe:=zCl s[0] 37 (by omega);by_cases hf:(xG s[0]||decide (s[0]=37))=true
     · have HF:=zh hf;have HE2:Hid (zB0 s=(s.data.toList.drop 1).all (fun x=>xG x||isD x)):=by unfold Hid;rw[HE.out,hf];rfl
       have hbn:xG s[0]=false→((s[0].toNat:Int) != 37)=false:=fun h=>by
        rw[h]at hf;have:s[0]=37:=by simpa using hf
        rw[this];rfl
       have HBN:=zh hbn;clear hbn hf hbe HE;go_enter Tryz.func184,Tryz.ntmps184;go_wp2_with fail;refine(HK0.out _).mono ?_;rintro e w' ⟨rfl,rfl⟩;cases hl:xG s[0]
       all_goals
        have hq:=HBN.out
        first
          | (have hq2:=hq hl;clear hq)
          | clear hq
        clear hl HBN HF HK0;go_wp2_with fail
        go_loop [3] (fun i=>∃k:Nat,1≤k∧k≤s.size∧i=.int .i64 k∧Hid ((s.data.toList.drop 1).all (fun x=>xG x||isD x)=(s.data.toList.drop k).all (fun x=>xG x||isD x))) (fun i=>s.size-(intOf i).toNat)
        case atStart=>exact⟨1,by omega,by omega,rfl,rfl⟩
        case round =>
         obtain⟨k,hk1,hk,rfl,hS⟩:=hrel;by_cases hlt:k<s.size
         · have HD:=zh (yK s k hlt);have HK1:=zh (zBz s[k]);have HK2:=zh (zAI s[k]);go_wp2_with fail;refine(HK1.out _).mono ?_;rintro e w' ⟨rfl,rfl⟩;cases hl1:xG s[k]
           · have HL:=zh hl1;clear hl1;go_wp2_with fail;refine(HK2.out _).mono ?_;rintro e w' ⟨rfl,rfl⟩;cases hd1:isD s[k]
             · have HD1:=zh hd1;clear hd1;go_wp2_with fail;go_ret;exact⟨zA0 (by rw[HE2.out,hS.out,HD.out,List.all_cons,HL.out,HD1.out];rfl),rfl⟩
             · have HD1:=zh hd1;clear hd1;go_wp2_with fail
               go_round
               case rel=>exact⟨k+1,by omega,by omega,by go_num,by unfold Hid;rw[hS.out,HD.out,List.all_cons,HD1.out];simp⟩
               case measure=>simp[intOf];omega
           · have HL:=zh hl1;clear hl1;go_wp2_with fail
             go_round
             case rel=>exact⟨k+1,by omega,by omega,by go_num,by unfold Hid;rw[hS.out,HD.out,List.all_cons,HL.out];simp⟩
             case measure=>simp[intOf];omega
         · go_wp2_with fail;go_ret;exact⟨zA0 (by rw[HE2.out,hS.out,uS s k (by omega)];rfl),rfl⟩
     · have HE2:Hid (zB0 s=false):=by unfold Hid;rw[HE.out,Bool.not_eq_true _ |>.mp hf];rfl
       have hl0:xG s[0]=false:=by
        cases hx:xG s[0]
        · rfl
        · rw[hx]at hf;simp at hf
       have hb2:((s[0].toNat:Int) != 37)=true:=by
        rw[hl0]at hf;have h37:s[0]≠37:=by simpa using hf
        have hx:((s[0].toNat:Int)==37)=false:=by rw[decide_eq_false (by exact h37)]at hbe;exact hbe
        simp only[bne,hx];rfl
       rw[hl0]at HK0;clear hbe hf HE hl0;go_enter Tryz.func184,Tryz.ntmps184;go_wp2_with fail;refine(HK0.out _).mono ?_;rintro e w' ⟨rfl,rfl⟩;go_wp2_with fail;go_ret;exact⟨zA0 HE2.out.symm,rfl⟩
theorem zBA (a b:ByteArray) (w:World) (ha:a.size≤1048576) (hb:b.size≤1048576) :
 Calls Tryz.prog 55 #[.string a,.string b] w fun e w'=>e=.returned (.bool (yB a b))∧Below w.heap.size w w':=by
 have HK1:=zh (fun W=>zCd a W ha);have HK2:=zh (fun W=>zCd b W hb);have HK3:=zh (fun W=>zCF a W ha);have HK4:=zh (fun W=>zCF b W hb);have hR:yB a b=yB a b:=rfl
 conv at hR=>rhs;unfold yB
 generalize yB a b=R at *;generalize uD a=x at *;generalize uD b=y at *;generalize yQ a.data.toList=p at *;generalize yQ b.data.toList=q at *;have HR:=zh hR;clear hR;go_enter Tryz.func55,Tryz.ntmps55;go_wp2_with fail;refine(HK1.out _).mono ?_;rintro e w1 ⟨rfl,hb1⟩;have HB1:=zh hb1;clear hb1;go_wp2_with fail;refine(HK2.out _).mono ?_;rintro e w2 ⟨rfl,hb2⟩;have HB2:=zh (HB1.out.later hb2);clear hb2;cases x
 · cases y
   · have HE:Hid (R=Op.bytesLess a.toList b.toList):=HR.out;go_wp2_with fail;go_ret;exact⟨zA0 HE.out.symm,HB2.out⟩
   · have HE:Hid (R=false):=HR.out;go_wp2_with fail;go_ret;exact⟨zA0 HE.out.symm,HB2.out⟩
 · cases y
   · have HE:Hid (R=true):=HR.out;go_wp2_with fail;go_ret;exact⟨zA0 HE.out.symm,HB2.out⟩
   · have HE:Hid (R=decide (p<q)):=HR.out;go_wp2_with fail;refine(HK3.out _).mono ?_;rintro e w3 ⟨rfl,rfl⟩;go_wp2_with fail;refine(HK4.out _).mono ?_;rintro e w4 ⟨rfl,rfl⟩;go_wp2_with fail;go_ret;exact⟨zA0 HE.out.symm,HB2.out⟩
end Go.Proofs.YtfpcjhajjejpdaaGreatDoor
namespace Go.Proofs.YtfpcjhajjejpdaaGreatDoor
open Go.RowKit
def xF:List ByteArray→List ByteArray→Bool
 | [],_=>true
 | _::_,[]=>false
 | x::r,y::s=>decide (x=y)&&xF r s
def zH0 (n:ByteArray) (s:List ByteArray):Bool:=zB0 n&&xQ s
def vI:List ByteArray→List ByteArray→Bool
 | [],[]=>false
 | [],_::_=>true
 | _::_,[]=>false
 | x::r,y::s=>if x=y then vI r s else yB x y
def zBe (n:ByteArray) (s:List ByteArray) (n':ByteArray) (s':List ByteArray):Bool:=if n=n' then vI s s' else Op.bytesLess n.toList n'.toList
theorem zBS:∀(a b:List ByteArray),b.length<a.length→xF a b=false
 | [],_,h=>absurd h (by simp)
 | _::_,[],_=>rfl
 | x::r,y::s,h=>by unfold xF;rw[zBS r s (by simpa using h),Bool.and_false]
theorem zBR (a b:List ByteArray) (k:Nat) (h:k<a.length) (h':k<b.length) :
 xF (a.drop k) (b.drop k)=(decide (a.getD k ByteArray.empty=b.getD k ByteArray.empty)&&xF (a.drop (k+1)) (b.drop (k+1))):=by
 rw[List.drop_eq_getElem_cons h,List.drop_eq_getElem_cons h'];simp[xF,List.getD_eq_getElem?_getD,List.getElem?_eq_getElem h,List.getElem?_eq_getElem h']
theorem zCZ (b:List ByteArray):xF [] b=true:=by cases b <;> rfl
theorem zIc (a b:List ByteArray) (k:Nat) (h:k<a.length) (h':k<b.length) :
 vI (a.drop k) (b.drop k)=if a.getD k ByteArray.empty=b.getD k ByteArray.empty then vI (a.drop (k+1)) (b.drop (k+1)) else yB (a.getD k ByteArray.empty) (b.getD k ByteArray.empty):=by
 rw[List.drop_eq_getElem_cons h,List.drop_eq_getElem_cons h'];simp[vI,List.getD_eq_getElem?_getD,List.getElem?_eq_getElem h,List.getElem?_eq_getElem h']
theorem zFj:∀(a b:List ByteArray),a=[]∨b=[]→vI a b=decide (a.length<b.length)
 | [],[],_=>rfl
 | [],_::_,_=>by simp[vI]
 | _::_,[],_=>by simp[vI]
 | _::_,_::_,h=>by simp at h
theorem zBL:∀(a b:List ByteArray),(decide (a.length=b.length)&&xF a b)=eqS a b
 | [],[]=>rfl
 | [],_::_=>by simp[eqS]
 | _::_,[]=>by simp[eqS]
 | x::r,y::s=>by
   have h:=zBL r s;unfold eqS at h ⊢;simp only[xF,List.length_cons,List.cons.injEq];by_cases hx:x=y
   · subst hx;simp only[decide_true,Bool.true_and,true_and];rw[←h];simp
   · simp[hx]
theorem zEO (A A':Option Addr) (n c n' c':Nat) (ss ts:List ByteArray) (w:World) (h:Strs w w.heap.size A n ss) (h':Strs w w.heap.size A' n' ts) (hn:n≤1048576) (hn':n'≤1048576) :
 Calls Tryz.prog 122 #[.slice A n c,.slice A' n' c'] w fun e w'=>e=.returned (.bool (xF ss ts))∧∃q,w'=w.drewN q:=by
 obtain⟨hlen,hc⟩:=h;obtain⟨hlen',hc'⟩:=h';have Hc:=zh hc;have Hlen:=zh hlen;have Hc':=zh hc';have Hlen':=zh hlen';clear hc hlen hc' hlen';by_cases hgt:n'<n
 · have HE:Hid (xF ss ts=false):=zBS _ _ (by rw[Hlen.out,Hlen'.out];exact hgt);go_enter Tryz.func122,Tryz.ntmps122;go_wp2_with fail;go_ret;exact⟨zA0 HE.out.symm,0,rfl⟩
 · go_enter Tryz.func122,Tryz.ntmps122;go_wp2_with fail;go_loopw [5] (fun i wr=>∃(k:Nat),k≤n∧i=.int .i64 k∧(∃q,wr=w.drewN q)∧Hid (xF ss ts=xF (ss.drop k) (ts.drop k))) (fun i _=>n-(intOf i).toNat);case atStart=>exact⟨0,Nat.zero_le _,rfl,⟨0,rfl⟩,rfl⟩
   case round =>
    obtain⟨k,hk,rfl,⟨q,rfl⟩,hS⟩:=hrel;by_cases hlt:k<n
    · obtain⟨b,o,rfl,hb,hcell⟩:=Hc.out (by omega);obtain⟨b',o',rfl,hb',hcell'⟩:=Hc'.out (by omega);have hck:=hcell k hlt;have hck':=hcell' k (by omega);clear hcell hcell';have HS:=zh (zBR ss ts k (by rw[Hlen.out];exact hlt) (by rw[Hlen'.out];omega));generalize ss.getD k ByteArray.empty=s at *;generalize ts.getD k ByteArray.empty=t at *;go_wp2_with fail
      go_quiet (fail)
      go_wp2_with fail
      · go_ret;have hst:s≠t:=zHF (by assumption);exact⟨zA0 (by rw[hS.out,HS.out,decide_eq_false hst];rfl),_,World.drewN_drewN _ _ _⟩
      · go_roundw;case rel=>have hst:s=t:=zHG (by assumption);exact⟨k+1,by omega,by go_num,⟨_,rfl⟩,by unfold Hid;rw[hS.out,HS.out,decide_eq_true hst];rfl⟩
        case measure=>simp[intOf];omega
    · go_wp2_with fail;go_ret;exact⟨zA0 (by rw[hS.out,List.drop_of_length_le (by rw[Hlen.out];omega),zCZ]),_,rfl⟩
theorem zFJ (A A':Option Addr) (n c n' c':Nat) (ss ts:List ByteArray) (w:World) (h:Strs w w.heap.size A n ss) (h':Strs w w.heap.size A' n' ts) (hn:n≤1048576) (hn':n'≤1048576) :
 Calls Tryz.prog 51 #[.slice A n c,.slice A' n' c'] w fun e w'=>e=.returned (.bool (eqS ss ts))∧∃q,w'=w.drewN q:=by
 have HK:=zh (zEO A A' n c n' c' ss ts w h h' hn hn');have hE:=zBL ss ts;rw[h.1,h'.1]at hE;clear h h';generalize xF ss ts=x at *;generalize eqS ss ts=R at *;by_cases hne:n=n'
 · subst hne;have HE:Hid (x=R):=by unfold Hid;rw[←hE];simp
   clear hE;go_enter Tryz.func51,Tryz.ntmps51;go_wp2_with fail;refine HK.out.mono ?_;rintro e w1 ⟨rfl,q,rfl⟩;go_wp2_with fail;go_ret;exact⟨zA0 HE.out,q,rfl⟩
 · have HE:Hid (false=R):=by unfold Hid;rw[←hE];simp[hne]
   have hb:((n:Int)==(n':Int))=false:=by rw[beq_eq_false_iff_ne];omega
   have hb2:(n==n')=false:=by rw[beq_eq_false_iff_ne];omega
   clear hE hne;go_enter Tryz.func51,Tryz.ntmps51;go_wp2_with fail;go_ret;exact⟨zA0 HE.out,0,rfl⟩
theorem uC {a b:ByteArray} (h:a≠b):(a.toList==b.toList)=false:=by
 cases hx:(a.toList==b.toList)
 · rfl
 · exact absurd (uR (by simpa using hx)) h
theorem zP0 {a b:ByteArray} (h:a≠b):(!a.toList==b.toList)=true:=by rw[uC h];rfl
theorem vD (s:ByteArray) (w:World) (hs:s.size≤1048576) :
 Calls Tryz.prog 131 #[.string s] w fun e w'=>e=.returned (.bool (zB0 s))∧w=w':=by
 have HK:=zh (zGP s w hs);generalize zB0 s=x at *;go_enter Tryz.func131,Tryz.ntmps131;go_wp2_with fail;refine HK.out.mono ?_;rintro e w1 ⟨rfl,rfl⟩;go_wp2_with fail;go_ret;exact⟨rfl,rfl⟩
theorem zDJ (A:Option Addr) (n c:Nat) (ss:List ByteArray) (w:World) (h:Strs w w.heap.size A n ss) (hn:n≤1048576) (hz:∀s∈ss,s.size≤1048576) :
 Calls Tryz.prog 185 #[.slice A n c] w fun e w'=>e=.returned (.bool (xQ ss))∧w=w':=by
 have HK:=zh (zGN A n c ss w h hn hz);clear h hz;generalize xQ ss=x at *;go_enter Tryz.func185,Tryz.ntmps185;go_wp2_with fail;refine HK.out.mono ?_;rintro e w1 ⟨rfl,rfl⟩;go_wp2_with fail;go_ret;exact⟨rfl,rfl⟩
theorem yJ (a b:ByteArray) (w:World) (ha:a.size≤1048576) (hb:b.size≤1048576) :
 Calls Tryz.prog 14 #[.string a,.string b] w fun e w'=>e=.returned (.bool (yB a b))∧Below w.heap.size w w':=by
 have HK:=zh (zBA a b w ha hb);generalize yB a b=x at *;go_enter Tryz.func14,Tryz.ntmps14;go_wp2_with fail;refine HK.out.mono ?_;rintro e w1 ⟨rfl,hb1⟩;have HB:=zh hb1;clear hb1;go_wp2_with fail;go_ret;exact⟨rfl,HB.out⟩
def inB (n a b:Int):Bool:=decide (a≤n)&&decide (n≤b)
theorem zBr (n a b:Int) (w:World) :
 Calls Tryz.prog 172 #[.int .i64 n,.int .i64 a,.int .i64 b] w fun e w'=>e=.returned (.bool (inB n a b))∧w=w':=by
 unfold inB;by_cases h1:a≤n
 · by_cases h2:n≤b
   all_goals
    go_enter Tryz.func172,Tryz.ntmps172
    go_wp2
    go_ret;exact⟨zA0 (by first | (simp;done) | (simp;omega) | (rw[Bool.eq_iff_iff];simp;omega)),rfl⟩
 · go_enter Tryz.func172,Tryz.ntmps172
   go_wp2
   go_ret;exact⟨zA0 (by first | (simp;done) | (simp;omega) | (rw[Bool.eq_iff_iff];simp;omega)),rfl⟩
theorem zAi {ss:List ByteArray} {M:Nat} (hz:∀s∈ss,s.size≤M) (k:Nat) (hk:k<ss.length):(ss.getD k ByteArray.empty).size≤M:=by
 apply hz;rw[List.getD_eq_getElem?_getD,List.getElem?_eq_getElem hk];simp
end Go.Proofs.YtfpcjhajjejpdaaGreatDoor
