import Derived.Test.YtfpcjhajjejpdaaGreatDoorY03
import Derived.Test.YtfpcjhajjejpdaaGreatDoorY00
import Derived.Deep.RegionHeld3
set_option maxHeartbeats 1000000
open Go.Lib renaming hid → zh
namespace Go.Proofs.YtfpcjhajjejpdaaGreatDoor
open Go.RowKit
def yD:List ByteArray→List ByteArray→Bool
 | [],_=>true
 | _::_,[]=>false
 | x::r,y::s=>decide (x=y)&&yD r s
def zI0 (n:ByteArray) (s:List ByteArray):Bool:=xB n&&wT s
def yK:List ByteArray→List ByteArray→Bool
 | [],[]=>false
 | [],_::_=>true
 | _::_,[]=>false
 | x::r,y::s=>if x=y then yK r s else wB x y
def zAy (n:ByteArray) (s:List ByteArray) (n':ByteArray) (s':List ByteArray):Bool:=if n=n' then yK s s' else Op.bytesLess n.toList n'.toList
theorem zCO:∀(a b:List ByteArray),b.length<a.length→yD a b=false
 | [],_,h=>absurd h (by simp)
 | _::_,[],_=>rfl
 | x::r,y::s,h=>by unfold yD;rw[zCO r s (by simpa using h),Bool.and_false]
theorem zBm (a b:List ByteArray) (k:Nat) (h:k<a.length) (h':k<b.length) :
 yD (a.drop k) (b.drop k)=(decide (a.getD k ByteArray.empty=b.getD k ByteArray.empty)&&yD (a.drop (k+1)) (b.drop (k+1))):=by
 rw[List.drop_eq_getElem_cons h,List.drop_eq_getElem_cons h'];simp[yD,List.getD_eq_getElem?_getD,List.getElem?_eq_getElem h,List.getElem?_eq_getElem h']
theorem zBQ (b:List ByteArray):yD [] b=true:=by cases b <;> rfl
theorem zJD (a b:List ByteArray) (k:Nat) (h:k<a.length) (h':k<b.length) :
 yK (a.drop k) (b.drop k)=if a.getD k ByteArray.empty=b.getD k ByteArray.empty then yK (a.drop (k+1)) (b.drop (k+1)) else wB (a.getD k ByteArray.empty) (b.getD k ByteArray.empty):=by
 rw[List.drop_eq_getElem_cons h,List.drop_eq_getElem_cons h'];simp[yK,List.getD_eq_getElem?_getD,List.getElem?_eq_getElem h,List.getElem?_eq_getElem h']
theorem zGp:∀(a b:List ByteArray),a=[]∨b=[]→yK a b=decide (a.length<b.length)
 | [],[],_=>rfl
 | [],_::_,_=>by simp[yK]
 | _::_,[],_=>by simp[yK]
 | _::_,_::_,h=>by simp at h
theorem zAD:∀(a b:List ByteArray),(decide (a.length=b.length)&&yD a b)=eqS a b
 | [],[]=>rfl
 | [],_::_=>by simp[eqS]
 | _::_,[]=>by simp[eqS]
 | x::r,y::s=>by
   have h:=zAD r s;unfold eqS at h ⊢;simp only[yD,List.length_cons,List.cons.injEq];by_cases hx:x=y
   · subst hx;simp only[decide_true,Bool.true_and,true_and];rw[←h];simp
   · simp[hx]
theorem zFQ (A A':Option Addr) (n c n' c':Nat) (ss ts:List ByteArray) (w:World) (h:Strs w w.heap.size A n ss) (h':Strs w w.heap.size A' n' ts) (hn:n≤1048576) (hn':n'≤1048576) :
 Calls Tryz.prog 122 #[.slice A n c,.slice A' n' c'] w fun e w'=>e=.returned (.bool (yD ss ts))∧∃q,w'=w.drewN q:=by
 obtain⟨hlen,hc⟩:=h;obtain⟨hlen',hc'⟩:=h';have Hc:=zh hc;have Hlen:=zh hlen;have Hc':=zh hc';have Hlen':=zh hlen';clear hc hlen hc' hlen';by_cases hgt:n'<n
 · have HE:Hid (yD ss ts=false):=zCO _ _ (by rw[Hlen.out,Hlen'.out];exact hgt);go_enter Tryz.func122,Tryz.ntmps122;go_wp2_with fail;go_ret;exact⟨zA0 HE.out.symm,0,rfl⟩
 · go_enter Tryz.func122,Tryz.ntmps122;go_wp2_with fail;go_loopw [5] (fun i wr=>∃(k:Nat),k≤n∧i=.int .i64 k∧(∃q,wr=w.drewN q)∧Hid (yD ss ts=yD (ss.drop k) (ts.drop k))) (fun i _=>n-(intOf i).toNat);case atStart=>exact⟨0,Nat.zero_le _,rfl,⟨0,rfl⟩,rfl⟩
   case round =>
    obtain⟨k,hk,rfl,⟨q,rfl⟩,hS⟩:=hrel;by_cases hlt:k<n
    · obtain⟨b,o,rfl,hb,hcell⟩:=Hc.out (by omega);obtain⟨b',o',rfl,hb',hcell'⟩:=Hc'.out (by omega);have hck:=hcell k hlt;have hck':=hcell' k (by omega);clear hcell hcell';have HS:=zh (zBm ss ts k (by rw[Hlen.out];exact hlt) (by rw[Hlen'.out];omega));generalize ss.getD k ByteArray.empty=s at *;generalize ts.getD k ByteArray.empty=t at *;go_wp2_with fail
      go_quiet (fail)
      go_wp2_with fail
      · go_ret;have hst:s≠t:=zGS (by assumption);exact⟨zA0 (by rw[hS.out,HS.out,decide_eq_false hst];rfl),_,World.drewN_drewN _ _ _⟩
      · go_roundw;case rel=>have hst:s=t:=zGT (by assumption);exact⟨k+1,by omega,by go_num,⟨_,rfl⟩,by unfold Hid;rw[hS.out,HS.out,decide_eq_true hst];rfl⟩
        case measure=>simp[intOf];omega
    · go_wp2_with fail;go_ret;exact⟨zA0 (by rw[hS.out,List.drop_of_length_le (by rw[Hlen.out];omega),zBQ]),_,rfl⟩
theorem zHc (A A':Option Addr) (n c n' c':Nat) (ss ts:List ByteArray) (w:World) (h:Strs w w.heap.size A n ss) (h':Strs w w.heap.size A' n' ts) (hn:n≤1048576) (hn':n'≤1048576) :
 Calls Tryz.prog 51 #[.slice A n c,.slice A' n' c'] w fun e w'=>e=.returned (.bool (eqS ss ts))∧∃q,w'=w.drewN q:=by
 have HK:=zh (zFQ A A' n c n' c' ss ts w h h' hn hn');have hE:=zAD ss ts;rw[h.1,h'.1]at hE;clear h h';generalize yD ss ts=x at *;generalize eqS ss ts=R at *;by_cases hne:n=n'
 · subst hne;have HE:Hid (x=R):=by unfold Hid;rw[←hE];simp
   clear hE;go_enter Tryz.func51,Tryz.ntmps51;go_wp2_with fail;refine HK.out.mono ?_;rintro e w1 ⟨rfl,q,rfl⟩;go_wp2_with fail;go_ret;exact⟨zA0 HE.out,q,rfl⟩
 · have HE:Hid (false=R):=by unfold Hid;rw[←hE];simp[hne]
   have hb:((n:Int)==(n':Int))=false:=by rw[beq_eq_false_iff_ne];omega
   have hb2:(n==n')=false:=by rw[beq_eq_false_iff_ne];omega
   clear hE hne;go_enter Tryz.func51,Tryz.ntmps51;go_wp2_with fail;go_ret;exact⟨zA0 HE.out,0,rfl⟩
theorem zB0 {a b:ByteArray} (h:a≠b):(a.toList==b.toList)=false:=by
 cases hx:(a.toList==b.toList)
 · rfl
 · exact absurd (uV (by simpa using hx)) h
theorem yJ {a b:ByteArray} (h:a≠b):(!a.toList==b.toList)=true:=by rw[zB0 h];rfl
theorem xF (s:ByteArray) (w:World) (hs:s.size≤1048576) :
 Calls Tryz.prog 131 #[.string s] w fun e w'=>e=.returned (.bool (xB s))∧w=w':=by
 have HK:=zh (zIn s w hs);generalize xB s=x at *;go_enter Tryz.func131,Tryz.ntmps131;go_wp2_with fail;refine HK.out.mono ?_;rintro e w1 ⟨rfl,rfl⟩;go_wp2_with fail;go_ret;exact⟨rfl,rfl⟩
theorem zED (A:Option Addr) (n c:Nat) (ss:List ByteArray) (w:World) (h:Strs w w.heap.size A n ss) (hn:n≤1048576) (hz:∀s∈ss,s.size≤1048576) :
 Calls Tryz.prog 185 #[.slice A n c] w fun e w'=>e=.returned (.bool (wT ss))∧w=w':=by
 have HK:=zh (zIl A n c ss w h hn hz);clear h hz;generalize wT ss=x at *;go_enter Tryz.func185,Tryz.ntmps185;go_wp2_with fail;refine HK.out.mono ?_;rintro e w1 ⟨rfl,rfl⟩;go_wp2_with fail;go_ret;exact⟨rfl,rfl⟩
theorem vQ (a b:ByteArray) (w:World) (ha:a.size≤1048576) (hb:b.size≤1048576) :
 Calls Tryz.prog 14 #[.string a,.string b] w fun e w'=>e=.returned (.bool (wB a b))∧Below w.heap.size w w':=by
 have HK:=zh (zCz a b w ha hb);generalize wB a b=x at *;go_enter Tryz.func14,Tryz.ntmps14;go_wp2_with fail;refine HK.out.mono ?_;rintro e w1 ⟨rfl,hb1⟩;have HB:=zh hb1;clear hb1;go_wp2_with fail;go_ret;exact⟨rfl,HB.out⟩
def inB (n a b:Int):Bool:=decide (a≤n)&&decide (n≤b)
theorem zCp (n a b:Int) (w:World) :
 Calls Tryz.prog 172 #[.int .i64 n,.int .i64 a,.int .i64 b] w fun e w'=>e=.returned (.bool (inB n a b))∧w=w':=by
 unfold inB;by_cases h1:a≤n
 · by_cases h2:n≤b
   all_goals
    go_enter Tryz.func172,Tryz.ntmps172
    go_wp2
    go_ret;exact⟨zA0 (by first | (simp;done) | (simp;omega) | (rw[Bool.eq_iff_iff];simp;omega)),rfl⟩
 · go_enter Tryz.func172,Tryz.ntmps172
   go_wp2
   go_ret;exact⟨zA0 (by first | (simp;done) | (simp;omega) | (rw[Bool.eq_iff_iff];simp;omega)),rfl⟩
theorem zAL {ss:List ByteArray} {M:Nat} (hz:∀s∈ss,s.size≤M) (k:Nat) (hk:k<ss.length):(ss.getD k ByteArray.empty).size≤M:=by
 apply hz;rw[List.getD_eq_getElem?_getD,List.getElem?_eq_getElem hk];simp
end Go.Proofs.YtfpcjhajjejpdaaGreatDoor
namespace Go.Proofs.YtfpcjhajjejpdaaGreatDoor
open Go.RowKit
theorem zHd (c:UInt8) (w:World) :
 Calls Tryz.prog 176 #[.int .u8 c.toNat] w fun e w'=>e=.returned (.bool (uH c))∧w=w':=by
 unfold uH;generalize c.toNat=n;by_cases h1:97≤n
 · by_cases h2:n≤122
   all_goals
    go_enter Tryz.func176,Tryz.ntmps176
    go_wp2
    all_goals
     go_ret;exact⟨zA0 (by first | (simp;done) | (simp;omega) | (rw[Bool.eq_iff_iff];simp;omega)),rfl⟩
 · by_cases h3:65≤n
   · by_cases h4:n≤90
     all_goals
      go_enter Tryz.func176,Tryz.ntmps176
      go_wp2
      all_goals
       go_ret;exact⟨zA0 (by first | (simp;done) | (simp;omega) | (rw[Bool.eq_iff_iff];simp;omega)),rfl⟩
   · go_enter Tryz.func176,Tryz.ntmps176
     go_wp2
     all_goals
      go_ret;exact⟨zA0 (by first | (simp;done) | (simp;omega) | (rw[Bool.eq_iff_iff];simp;omega)),rfl⟩
theorem zIs (c:UInt8) (w:World) :
 Calls Tryz.prog 177 #[.int .u8 c.toNat] w fun e w'=>e=.returned (.bool (isD c))∧w=w':=by
 unfold isD;generalize c.toNat=n;by_cases h1:48≤n
 · by_cases h2:n≤57
   all_goals
    go_enter Tryz.func177,Tryz.ntmps177
    go_wp2
    go_ret;exact⟨zA0 (by first | (simp;done) | (simp;omega) | (rw[Bool.eq_iff_iff];simp;omega)),rfl⟩
 · go_enter Tryz.func177,Tryz.ntmps177
   go_wp2
   go_ret;exact⟨zA0 (by first | (simp;done) | (simp;omega) | (rw[Bool.eq_iff_iff];simp;omega)),rfl⟩
def zNS (x:UInt8):Bool:=uH x||isD x
def zAg:Nat→List UInt8→Bool
 | 0,l=>decide (l=[])||zGn l
 | _+1,l=>l.all zNS
theorem zMl (s:ByteArray):xB s=(zAg 0 s.data.toList&&(decide (1≤s.size)&&decide (s.size≤8))):=by
 unfold xB zAg;rw[Lib.size_eq]
 cases hl:s.data.toList with
 | nil=>simp[zGn]
 | cons c r=>simp;rw[Bool.and_comm]
theorem zJn (s:ByteArray) (h:0<s.size):zAg 0 s.data.toList=((uH s[0]||decide (s[0]=37))&&zAg 1 (s.data.toList.drop 1)):=by
 have h0:=yN s 0 h;rw[List.drop_zero]at h0;show(decide (s.data.toList=[])||zGn s.data.toList)=_;rw[zET s h];have:decide (s.data.toList=[])=false:=by rw[h0];simp
 rw[this,Bool.false_or];rfl
theorem zJo (s:ByteArray) (k:Nat) (h:k<s.size) (hk:0<k):zAg k (s.data.toList.drop k)=((uH s[k]||isD s[k])&&zAg (k+1) (s.data.toList.drop (k+1))):=by
 obtain⟨j,rfl⟩:∃j,k=j+1:=⟨k-1,by omega⟩;rw[yN s _ h];rfl
theorem xS (s:ByteArray) (w:World) (hs:s.size≤1048576) :
 Calls Tryz.prog 123 #[.string s] w fun e w'=>e=.returned (.bool (xB s))∧w=w':=by
 have HE:=zh (zMl s);go_enter Tryz.func123,Tryz.ntmps123;go_wp2_with fail
 go_loop [3] (fun i=>∃k:Nat,k≤s.size∧i=.int .i64 k∧Hid (zAg 0 s.data.toList=zAg k (s.data.toList.drop k))) (fun i=>s.size-(intOf i).toNat)
 case atStart=>exact⟨0,Nat.zero_le _,rfl,rfl⟩
 case round =>
  obtain⟨k,hk,rfl,hS⟩:=hrel;by_cases hlt:k<s.size
  · have HK1:=zh (zHd s[k]);have HK2:=zh (zIs s[k]);by_cases h0:k=0
    · subst h0;have HZ:=zh (zJn s hlt);have hbe:=zDk s[0] 37 (by omega);cases hx:uH s[0]
      · by_cases h37:s[0]=37
        · have HF:Hid (zAg 0 s.data.toList=zAg 1 (s.data.toList.drop 1)):=by unfold Hid;rw[HZ.out,hx,decide_eq_true h37];rfl
          have hb:((s[0].toNat:Int)==37)=true:=by rw[decide_eq_true (show s[0]=UInt8.ofNat 37 from h37)]at hbe;exact hbe
          rw[hx]at HK1;clear hx h37 hbe;go_wp2_with fail;refine(HK1.out _).mono ?_;rintro e w' ⟨rfl,rfl⟩;go_wp2_with fail
          go_round
          case rel=>exact⟨1,by omega,by go_num,HF.out⟩
          case measure=>simp[intOf];omega
        · have HF:Hid (xB s=false):=by unfold Hid;rw[HE.out,HZ.out,hx,decide_eq_false h37];rfl
          have hb:((s[0].toNat:Int)==37)=false:=by rw[decide_eq_false (show ¬s[0]=UInt8.ofNat 37 from h37)]at hbe;exact hbe
          rw[hx]at HK1;clear hx h37 hbe;go_wp2_with fail;refine(HK1.out _).mono ?_;rintro e w' ⟨rfl,rfl⟩;go_wp2_with fail;go_ret;exact⟨zA0 HF.out.symm,rfl⟩
      · have HF:Hid (zAg 0 s.data.toList=zAg 1 (s.data.toList.drop 1)):=by unfold Hid;rw[HZ.out,hx];rfl
        rw[hx]at HK1;clear hx hbe;go_wp2_with fail;refine(HK1.out _).mono ?_;rintro e w' ⟨rfl,rfl⟩;go_wp2_with fail
        go_round
        case rel=>exact⟨1,by omega,by go_num,HF.out⟩
        case measure=>simp[intOf];omega
    · have HZ:=zh (zJo s k hlt (by omega));have hb0:((k:Int)==0)=false:=by rw[beq_eq_false_iff_ne];omega
      have hb1:(k==0)=false:=by rw[beq_eq_false_iff_ne];omega
      clear h0;cases hx:uH s[k]
      · cases hy:isD s[k]
        · have HF:Hid (xB s=false):=by unfold Hid;rw[HE.out,hS.out,HZ.out,hx,hy];rfl
          rw[hx]at HK1;rw[hy]at HK2;clear hx hy;go_wp2_with fail;refine(HK1.out _).mono ?_;rintro e w' ⟨rfl,rfl⟩;go_wp2_with fail;refine(HK2.out _).mono ?_;rintro e w' ⟨rfl,rfl⟩;go_wp2_with fail;go_ret;exact⟨zA0 HF.out.symm,rfl⟩
        · have HF:Hid (zAg 0 s.data.toList=zAg (k+1) (s.data.toList.drop (k+1))):=by unfold Hid;rw[hS.out,HZ.out,hx,hy];rfl
          rw[hx]at HK1;rw[hy]at HK2;clear hx hy;go_wp2_with fail;refine(HK1.out _).mono ?_;rintro e w' ⟨rfl,rfl⟩;go_wp2_with fail;refine(HK2.out _).mono ?_;rintro e w' ⟨rfl,rfl⟩;go_wp2_with fail
          go_round
          case rel=>exact⟨k+1,by omega,by go_num,HF.out⟩
          case measure=>simp[intOf];omega
      · have HF:Hid (zAg 0 s.data.toList=zAg (k+1) (s.data.toList.drop (k+1))):=by unfold Hid;rw[hS.out,HZ.out,hx];rfl
        rw[hx]at HK1;clear hx;go_wp2_with fail;refine(HK1.out _).mono ?_;rintro e w' ⟨rfl,rfl⟩;go_wp2_with fail
        go_round
        case rel=>exact⟨k+1,by omega,by go_num,HF.out⟩
        case measure=>simp[intOf];omega
  · have HF:Hid (xB s=(decide (1≤s.size)&&decide (s.size≤8))):=by unfold Hid;rw[HE.out,hS.out,yX s k (by omega)];cases k <;> simp[zAg]
    by_cases h1:1≤s.size
    · by_cases h8:s.size≤8
      all_goals
       go_wp2_with fail;go_ret;exact⟨zA0 (by rw[HF.out];first | (simp;done) | (simp;omega) | (rw[Bool.eq_iff_iff];simp;omega)),rfl⟩
    · go_wp2_with fail;go_ret;exact⟨zA0 (by rw[HF.out];first | (simp;done) | (simp;omega) | (rw[Bool.eq_iff_iff];simp;omega)),rfl⟩
theorem zLN (s:ByteArray) (w:World) (hs:s.size≤1048576) :
 Calls Tryz.prog 223 #[.string s] w fun e w'=>e=.returned (.bool (zAc s))∧w=w':=by
 unfold zAc;by_cases h1:1≤s.size
 · by_cases h2:s.size≤24
   all_goals
    go_enter Tryz.func223,Tryz.ntmps223
    go_wp2
    go_ret;exact⟨zA0 (by first | (simp;done) | (simp;omega) | (rw[Bool.eq_iff_iff];simp;omega)),rfl⟩
 · go_enter Tryz.func223,Tryz.ntmps223
   go_wp2
   go_ret;exact⟨zA0 (by first | (simp;done) | (simp;omega) | (rw[Bool.eq_iff_iff];simp;omega)),rfl⟩
theorem zIR (s:ByteArray) (w:World) (hs:s.size≤1048576) :
 Calls Tryz.prog 222 #[.string s] w fun e w'=>e=.returned (.bool (!zAc s))∧w=w':=by
 have HK:=zh (zLN s w hs);generalize zAc s=x at *;go_enter Tryz.func222,Tryz.ntmps222;go_wp2_with fail;refine HK.out.mono ?_;rintro e w' ⟨rfl,rfl⟩;go_wp2_with fail;go_ret;exact⟨rfl,rfl⟩
def xQ (p:ByteArray→Bool):List ByteArray→Nat→Int
 | [],_=>-1
 | d::r,k=>if p d=true then k else xQ p r (k+1)
theorem zDC (p:ByteArray→Bool) (l:List ByteArray) (k:Nat) (h:k<l.length):xQ p (l.drop k) k=if p (l.getD k ByteArray.empty)=true then (k:Int) else xQ p (l.drop (k+1)) (k+1):=by
 rw[List.drop_eq_getElem_cons h];simp[xQ,List.getD_eq_getElem?_getD,List.getElem?_eq_getElem h]
theorem zCY (p:ByteArray→Bool):∀(l:List ByteArray) (k:Nat),decide (0≤xQ p l k)=l.any p
 | [],k=>by simp[xQ]
 | d::r,k=>by
   unfold xQ;rw[List.any_cons,←zCY p r (k+1)];by_cases h:p d=true
   · simp[h]
   · simp[h]
theorem zFI (g:Nat) (lb:Array Value) (p:ByteArray→Bool) (A:Option Addr) (n c:Nat) (ss:List ByteArray) (w:World) (h:Strs w w.heap.size A n ss) (hn:n≤1048576)
 (eg:∀args w,(callFunc g args).run Tryz.prog w=.ok (.enter g args) w)
 (hg:∀s∈ss,∀W,Below w.heap.size w W→Calls Tryz.prog g (#[.string s]++lb) W fun e w'=>e=.returned (.bool (p s))∧Below W.heap.size W w') :
 Calls Tryz.prog 163 #[.slice A n c,.func (.func g) #[] lb] w fun e w'=>e=.returned (.int .i64 (xQ p ss 0))∧Below w.heap.size w w':=by
 have Hh:=zh h;have Hlen:=zh h.1;have Hg:=zh hg;clear h hg;go_enter Tryz.func163,Tryz.ntmps163;go_wp2_with fail;go_loopw [8] (fun i wr=>∃k:Nat,k≤n∧i=.int .i64 k∧Below w.heap.size w wr∧Hid (xQ p ss 0=xQ p (ss.drop k) k)) (fun i _=>n-(intOf i).toNat);case atStart=>exact⟨0,Nat.zero_le _,rfl,Below.refl _ _,rfl⟩
 case round =>
  obtain⟨k,hk,rfl,hb,hS⟩:=hrel;have HB:=zh hb;clear hb;by_cases hlt:k<n
  · obtain⟨b,o,rfl,hbB,hcell⟩:=(Hh.out.later HB.out).2 (by omega);have hck:=hcell k hlt;clear hcell;have hl:k<ss.length:=by rw[Hlen.out];exact hlt
    have HS:=zh (zDC p ss k hl);have HK:=zh (Hg.out (ss.getD k ByteArray.empty) (by rw[List.getD_eq_getElem?_getD,List.getElem?_eq_getElem hl];simp) wr HB.out);clear hl;generalize ss.getD k ByteArray.empty=s at *;generalize hx:p s=x at *;have HX:=zh hx;clear hx;go_wp2_with fail;refine HK.out.mono ?_;rintro e w' ⟨rfl,hb1⟩;have HB1:=zh (HB.out.later hb1);clear hb1;cases x
    · go_wp2_with fail;go_roundw;case rel=>exact⟨k+1,by omega,by go_num,HB1.out,by unfold Hid;rw[hS.out,HS.out];rfl⟩
      case measure=>simp[intOf];omega
    · go_wp2_with fail;go_ret;exact⟨zC0 (by rw[hS.out,HS.out];rfl),HB1.out⟩
  · have HE:Hid (xQ p ss 0=-1):=by unfold Hid;rw[hS.out,List.drop_of_length_le (by rw[Hlen.out];omega)];rfl
    go_wp2_with fail;go_ret;exact⟨zC0 HE.out.symm,HB.out⟩
theorem vX (g:Nat) (lb:Array Value) (p:ByteArray→Bool) (A:Option Addr) (n c:Nat) (ss:List ByteArray) (w:World) (h:Strs w w.heap.size A n ss) (hn:n≤1048576)
 (eg:∀args w,(callFunc g args).run Tryz.prog w=.ok (.enter g args) w)
 (hg:∀s∈ss,∀W,Below w.heap.size w W→Calls Tryz.prog g (#[.string s]++lb) W fun e w'=>e=.returned (.bool (p s))∧Below W.heap.size W w') :
 Calls Tryz.prog 104 #[.slice A n c,.func (.func g) #[] lb] w fun e w'=>e=.returned (.bool (ss.any p))∧Below w.heap.size w w':=by
 have HK:=zh (zFI g lb p A n c ss w h hn eg hg);have hE:=zCY p ss 0;clear h hg eg;generalize ss.any p=R at *;generalize xQ p ss 0=x at *;have HE:=zh hE;clear hE;go_enter Tryz.func104,Tryz.ntmps104;go_wp2_with fail;refine HK.out.mono ?_;rintro e w' ⟨rfl,hb1⟩;have HB1:=zh hb1;clear hb1;go_wp2_with fail;go_ret;exact⟨zA0 HE.out,HB1.out⟩
theorem zEp (g:Nat) (lb:Array Value) (p:ByteArray→Bool) (A:Option Addr) (n c:Nat) (ss:List ByteArray) (w:World) (h:Strs w w.heap.size A n ss) (hn:n≤1048576)
 (eg:∀args w,(callFunc g args).run Tryz.prog w=.ok (.enter g args) w)
 (hg:∀s∈ss,Calls Tryz.prog g (#[.string s]++lb) w fun e w'=>e=.returned (.bool (p s))∧w=w') :
 Calls Tryz.prog 163 #[.slice A n c,.func (.func g) #[] lb] w fun e w'=>e=.returned (.int .i64 (xQ p ss 0))∧w=w':=by
 have Hh:=zh h;have Hlen:=zh h.1;have Hg:=zh hg;clear h hg;go_enter Tryz.func163,Tryz.ntmps163;go_wp2_with fail
 go_loop [8] (fun i=>∃k:Nat,k≤n∧i=.int .i64 k∧Hid (xQ p ss 0=xQ p (ss.drop k) k)) (fun i=>n-(intOf i).toNat)
 case atStart=>exact⟨0,Nat.zero_le _,rfl,rfl⟩
 case round =>
  obtain⟨k,hk,rfl,hS⟩:=hrel;by_cases hlt:k<n
  · obtain⟨b,o,rfl,hbB,hcell⟩:=Hh.out.2 (by omega);have hck:=hcell k hlt;clear hcell;have hl:k<ss.length:=by rw[Hlen.out];exact hlt
    have HS:=zh (zDC p ss k hl);have HK:=zh (Hg.out (ss.getD k ByteArray.empty) (by rw[List.getD_eq_getElem?_getD,List.getElem?_eq_getElem hl];simp));clear hl;generalize ss.getD k ByteArray.empty=s at *;generalize hx:p s=x at *;have HX:=zh hx;clear hx;go_wp2_with fail;refine HK.out.mono ?_;rintro e w' ⟨rfl,rfl⟩;cases x
    · go_wp2_with fail
      go_round
      case rel=>exact⟨k+1,by omega,by go_num,by unfold Hid;rw[hS.out,HS.out];rfl⟩
      case measure=>simp[intOf];omega
    · go_wp2_with fail;go_ret;exact⟨zC0 (by rw[hS.out,HS.out];rfl),rfl⟩
  · have HE:Hid (xQ p ss 0=-1):=by unfold Hid;rw[hS.out,List.drop_of_length_le (by rw[Hlen.out];omega)];rfl
    go_wp2_with fail;go_ret;exact⟨zC0 HE.out.symm,rfl⟩
theorem xV (g:Nat) (lb:Array Value) (p:ByteArray→Bool) (A:Option Addr) (n c:Nat) (ss:List ByteArray) (w:World) (h:Strs w w.heap.size A n ss) (hn:n≤1048576)
 (eg:∀args w,(callFunc g args).run Tryz.prog w=.ok (.enter g args) w)
 (hg:∀s∈ss,Calls Tryz.prog g (#[.string s]++lb) w fun e w'=>e=.returned (.bool (p s))∧w=w') :
 Calls Tryz.prog 104 #[.slice A n c,.func (.func g) #[] lb] w fun e w'=>e=.returned (.bool (ss.any p))∧w=w':=by
 have HK:=zh (zEp g lb p A n c ss w h hn eg hg);have hE:=zCY p ss 0;clear h hg eg;generalize ss.any p=R at *;generalize xQ p ss 0=x at *;have HE:=zh hE;clear hE;go_enter Tryz.func104,Tryz.ntmps104;go_wp2_with fail;refine HK.out.mono ?_;rintro e w' ⟨rfl,rfl⟩;go_wp2_with fail;go_ret;exact⟨zA0 HE.out,rfl⟩
theorem zNq (l:List ByteArray):(!(l.any fun s=>!zAc s))=l.all zAc:=by
 induction l with
 | nil=>rfl
 | cons a r ih=>simp only[List.any_cons,List.all_cons,Bool.not_or,Bool.not_not,ih]
theorem zKc (A:Option Addr) (n c:Nat) (ss:List ByteArray) (w:World) (h:Strs w w.heap.size A n ss) (hn:n≤1048576) (hz:∀s∈ss,s.size≤1048576) :
 Calls Tryz.prog 192 #[.slice A n c] w fun e w'=>e=.returned (.bool (wT ss))∧w=w':=by
 have eg:∀args w,(callFunc 222 args).run Tryz.prog w=.ok (.enter 222 args) w:=enters_of Tryz.func222 (by kernel_rfl) rfl;have HK:=zh (xV 222 #[] (fun s=>!zAc s) A n c ss w h hn eg (fun s hs=>zIR s w (hz s hs)));have hE:wT ss=(decide (n≤4)&&!(ss.any fun s=>!zAc s)):=by unfold wT;rw[zNq,h.1]
 clear h hz eg;generalize wT ss=R at *;generalize (ss.any fun s=>!zAc s)=x at *;by_cases h4:n≤4
 · have HE:Hid ((!x)=R):=by unfold Hid;rw[hE];simp[h4]
   clear hE;go_enter Tryz.func192,Tryz.ntmps192;go_wp2_with fail;refine HK.out.mono ?_;rintro e w' ⟨rfl,rfl⟩;go_wp2_with fail;go_ret;exact⟨zA0 HE.out,rfl⟩
 · have HE:Hid (false=R):=by unfold Hid;rw[hE];simp[h4]
   clear hE;go_enter Tryz.func192,Tryz.ntmps192;go_wp2_with fail;go_ret;exact⟨zA0 HE.out,rfl⟩
theorem zEU (nm:ByteArray) (A:Option Addr) (n c:Nat) (ss:List ByteArray) (w:World) (hs:nm.size≤1048576) (h:Strs w w.heap.size A n ss) (hn:n≤1048576) (hz:∀s∈ss,s.size≤1048576) :
 Calls Tryz.prog 151 #[.string nm,.slice A n c] w fun e w'=>e=.returned (.bool (zI0 nm ss))∧w=w':=by
 have HK1:=zh (xS nm w hs);have HK2:=zh (zKc A n c ss w h hn hz);have HR:Hid (zI0 nm ss=(xB nm&&wT ss)):=rfl;clear h hz;generalize zI0 nm ss=R at *;generalize xB nm=x at *;generalize wT ss=y at *;go_enter Tryz.func151,Tryz.ntmps151;go_wp2_with fail;refine HK1.out.mono ?_;rintro e w1 ⟨rfl,rfl⟩;cases x
 · go_wp2_with fail;go_ret;exact⟨zA0 (by rw[HR.out];rfl),rfl⟩
 · go_wp2_with fail;refine HK2.out.mono ?_;rintro e w1 ⟨rfl,rfl⟩;go_wp2_with fail;go_ret;exact⟨zA0 (by rw[HR.out];rfl),rfl⟩
end Go.Proofs.YtfpcjhajjejpdaaGreatDoor
