import Derived.Test.YtfpcjhajjejpdaaGreatDoorZ04
import Derived.Test.YtfpcjhajjejpdaaGreatDoorZ05
import Derived.Deep.RegionWith
set_option maxHeartbeats 1000000
open Go.Lib renaming hid → zh
namespace Go.Proofs.YtfpcjhajjejpdaaGreatDoor
open Go.RowKit
theorem zFK (c:UInt8) (w:World) :
 Calls Tryz.prog 176 #[.int .u8 c.toNat] w fun e w'=>e=.returned (.bool (xG c))∧w=w':=by
 unfold xG;generalize c.toNat=n;by_cases h1:97≤n
 · by_cases h2:n≤122
   all_goals
    go_enter Tryz.func176,Tryz.ntmps176
    go_wp2
    all_goals
     go_ret;exact⟨zA0 (by first | (simp;done) | (simp;omega) | (rw[Bool.eq_iff_iff];simp;omega)),rfl⟩
 · by_cases h3:65≤n
   · by_cases h4:n≤90
     all_goals
      go_enter Tryz.func176,Tryz.ntmps176
      go_wp2
      all_goals
       go_ret;exact⟨zA0 (by first | (simp;done) | (simp;omega) | (rw[Bool.eq_iff_iff];simp;omega)),rfl⟩
   · go_enter Tryz.func176,Tryz.ntmps176
     go_wp2
     all_goals
      go_ret;exact⟨zA0 (by first | (simp;done) | (simp;omega) | (rw[Bool.eq_iff_iff];simp;omega)),rfl⟩
theorem zGU (c:UInt8) (w:World) :
 Calls Tryz.prog 177 #[.int .u8 c.toNat] w fun e w'=>e=.returned (.bool (isD c))∧w=w':=by
 unfold isD;generalize c.toNat=n;by_cases h1:48≤n
 · by_cases h2:n≤57
   all_goals
    go_enter Tryz.func177,Tryz.ntmps177
    go_wp2
    go_ret;exact⟨zA0 (by first | (simp;done) | (simp;omega) | (rw[Bool.eq_iff_iff];simp;omega)),rfl⟩
 · go_enter Tryz.func177,Tryz.ntmps177
   go_wp2
   go_ret;exact⟨zA0 (by first | (simp;done) | (simp;omega) | (rw[Bool.eq_iff_iff];simp;omega)),rfl⟩
def zLZ (x:UInt8):Bool:=xG x||isD x
def xW:Nat→List UInt8→Bool
 | 0,l=>decide (l=[])||zFh l
 | _+1,l=>l.all zLZ
theorem zKB (s:ByteArray):zB0 s=(xW 0 s.data.toList&&(decide (1≤s.size)&&decide (s.size≤8))):=by
 unfold zB0 xW;rw[Lib.size_eq]
 cases hl:s.data.toList with
 | nil=>simp[zFh]
 | cons c r=>simp;rw[Bool.and_comm]
theorem zHQ (s:ByteArray) (h:0<s.size):xW 0 s.data.toList=((xG s[0]||decide (s[0]=37))&&xW 1 (s.data.toList.drop 1)):=by
 have h0:=yK s 0 h;rw[List.drop_zero]at h0;show(decide (s.data.toList=[])||zFh s.data.toList)=_;rw[zDT s h];have:decide (s.data.toList=[])=false:=by rw[h0];simp
 rw[this,Bool.false_or];rfl
theorem zHR (s:ByteArray) (k:Nat) (h:k<s.size) (hk:0<k):xW k (s.data.toList.drop k)=((xG s[k]||isD s[k])&&xW (k+1) (s.data.toList.drop (k+1))):=by
 obtain⟨j,rfl⟩:∃j,k=j+1:=⟨k-1,by omega⟩;rw[yK s _ h];rfl
theorem vO (s:ByteArray) (w:World) (hs:s.size≤1048576) :
 Calls Tryz.prog 123 #[.string s] w fun e w'=>e=.returned (.bool (zB0 s))∧w=w':=by
 have HE:=zh (zKB s);go_enter Tryz.func123,Tryz.ntmps123;go_wp2_with fail
 go_loop [3] (fun i=>∃k:Nat,k≤s.size∧i=.int .i64 k∧Hid (xW 0 s.data.toList=xW k (s.data.toList.drop k))) (fun i=>s.size-(intOf i).toNat)
 case atStart=>exact⟨0,Nat.zero_le _,rfl,rfl⟩
 case round =>
  obtain⟨k,hk,rfl,hS⟩:=hrel;by_cases hlt:k<s.size
  · have HK1:=zh (zFK s[k]);have HK2:=zh (zGU s[k]);by_cases h0:k=0
    · subst h0;have HZ:=zh (zHQ s hlt);have hbe:=zCl s[0] 37 (by omega);cases hx:xG s[0]
      · by_cases h37:s[0]=37
        · have HF:Hid (xW 0 s.data.toList=xW 1 (s.data.toList.drop 1)):=by unfold Hid;rw[HZ.out,hx,decide_eq_true h37];rfl
          have hb:((s[0].toNat:Int)==37)=true:=by rw[decide_eq_true (show s[0]=UInt8.ofNat 37 from h37)]at hbe;exact hbe
          rw[hx]at HK1;clear hx h37 hbe;go_wp2_with fail;refine(HK1.out _).mono ?_;rintro e w' ⟨rfl,rfl⟩;go_wp2_with fail
          go_round
          case rel=>exact⟨1,by omega,by go_num,HF.out⟩
          case measure=>simp[intOf];omega
        · have HF:Hid (zB0 s=false):=by unfold Hid;rw[HE.out,HZ.out,hx,decide_eq_false h37];rfl
          have hb:((s[0].toNat:Int)==37)=false:=by rw[decide_eq_false (show ¬s[0]=UInt8.ofNat 37 from h37)]at hbe;exact hbe
          rw[hx]at HK1;clear hx h37 hbe;go_wp2_with fail;refine(HK1.out _).mono ?_;rintro e w' ⟨rfl,rfl⟩;go_wp2_with fail;go_ret;exact⟨zA0 HF.out.symm,rfl⟩
      · have HF:Hid (xW 0 s.data.toList=xW 1 (s.data.toList.drop 1)):=by unfold Hid;rw[HZ.out,hx];rfl
        rw[hx]at HK1;clear hx hbe;go_wp2_with fail;refine(HK1.out _).mono ?_;rintro e w' ⟨rfl,rfl⟩;go_wp2_with fail
        go_round
        case rel=>exact⟨1,by omega,by go_num,HF.out⟩
        case measure=>simp[intOf];omega
    · have HZ:=zh (zHR s k hlt (by omega));have hb0:((k:Int)==0)=false:=by rw[beq_eq_false_iff_ne];omega
      have hb1:(k==0)=false:=by rw[beq_eq_false_iff_ne];omega
      clear h0;cases hx:xG s[k]
      · cases hy:isD s[k]
        · have HF:Hid (zB0 s=false):=by unfold Hid;rw[HE.out,hS.out,HZ.out,hx,hy];rfl
          rw[hx]at HK1;rw[hy]at HK2;clear hx hy;go_wp2_with fail;refine(HK1.out _).mono ?_;rintro e w' ⟨rfl,rfl⟩;go_wp2_with fail;refine(HK2.out _).mono ?_;rintro e w' ⟨rfl,rfl⟩;go_wp2_with fail;go_ret;exact⟨zA0 HF.out.symm,rfl⟩
        · have HF:Hid (xW 0 s.data.toList=xW (k+1) (s.data.toList.drop (k+1))):=by unfold Hid;rw[hS.out,HZ.out,hx,hy];rfl
          rw[hx]at HK1;rw[hy]at HK2;clear hx hy;go_wp2_with fail;refine(HK1.out _).mono ?_;rintro e w' ⟨rfl,rfl⟩;go_wp2_with fail;refine(HK2.out _).mono ?_;rintro e w' ⟨rfl,rfl⟩;go_wp2_with fail
          go_round
          case rel=>exact⟨k+1,by omega,by go_num,HF.out⟩
          case measure=>simp[intOf];omega
      · have HF:Hid (xW 0 s.data.toList=xW (k+1) (s.data.toList.drop (k+1))):=by unfold Hid;rw[hS.out,HZ.out,hx];rfl
        rw[hx]at HK1;clear hx;go_wp2_with fail;refine(HK1.out _).mono ?_;rintro e w' ⟨rfl,rfl⟩;go_wp2_with fail
        go_round
        case rel=>exact⟨k+1,by omega,by go_num,HF.out⟩
        case measure=>simp[intOf];omega
  · have HF:Hid (zB0 s=(decide (1≤s.size)&&decide (s.size≤8))):=by unfold Hid;rw[HE.out,hS.out,uS s k (by omega)];cases k <;> simp[xW]
    by_cases h1:1≤s.size
    · by_cases h8:s.size≤8
      all_goals
       go_wp2_with fail;go_ret;exact⟨zA0 (by rw[HF.out];first | (simp;done) | (simp;omega) | (rw[Bool.eq_iff_iff];simp;omega)),rfl⟩
    · go_wp2_with fail;go_ret;exact⟨zA0 (by rw[HF.out];first | (simp;done) | (simp;omega) | (rw[Bool.eq_iff_iff];simp;omega)),rfl⟩
theorem zKd (s:ByteArray) (w:World) (hs:s.size≤1048576) :
 Calls Tryz.prog 223 #[.string s] w fun e w'=>e=.returned (.bool (wV s))∧w=w':=by
 unfold wV;by_cases h1:1≤s.size
 · by_cases h2:s.size≤24
   all_goals
    go_enter Tryz.func223,Tryz.ntmps223
    go_wp2
    go_ret;exact⟨zA0 (by first | (simp;done) | (simp;omega) | (rw[Bool.eq_iff_iff];simp;omega)),rfl⟩
 · go_enter Tryz.func223,Tryz.ntmps223
   go_wp2
   go_ret;exact⟨zA0 (by first | (simp;done) | (simp;omega) | (rw[Bool.eq_iff_iff];simp;omega)),rfl⟩
theorem zHt (s:ByteArray) (w:World) (hs:s.size≤1048576) :
 Calls Tryz.prog 222 #[.string s] w fun e w'=>e=.returned (.bool (!wV s))∧w=w':=by
 have HK:=zh (zKd s w hs);generalize wV s=x at *;go_enter Tryz.func222,Tryz.ntmps222;go_wp2_with fail;refine HK.out.mono ?_;rintro e w' ⟨rfl,rfl⟩;go_wp2_with fail;go_ret;exact⟨rfl,rfl⟩
def yN (p:ByteArray→Bool):List ByteArray→Nat→Int
 | [],_=>-1
 | d::r,k=>if p d=true then k else yN p r (k+1)
theorem zCG (p:ByteArray→Bool) (l:List ByteArray) (k:Nat) (h:k<l.length):yN p (l.drop k) k=if p (l.getD k ByteArray.empty)=true then (k:Int) else yN p (l.drop (k+1)) (k+1):=by
 rw[List.drop_eq_getElem_cons h];simp[yN,List.getD_eq_getElem?_getD,List.getElem?_eq_getElem h]
theorem zCe (p:ByteArray→Bool):∀(l:List ByteArray) (k:Nat),decide (0≤yN p l k)=l.any p
 | [],k=>by simp[yN]
 | d::r,k=>by
   unfold yN;rw[List.any_cons,←zCe p r (k+1)];by_cases h:p d=true
   · simp[h]
   · simp[h]
theorem zEF (g:Nat) (lb:Array Value) (p:ByteArray→Bool) (A:Option Addr) (n c:Nat) (ss:List ByteArray) (w:World) (h:Strs w w.heap.size A n ss) (hn:n≤1048576)
 (eg:∀args w,(callFunc g args).run Tryz.prog w=.ok (.enter g args) w)
 (hg:∀s∈ss,∀W,Below w.heap.size w W→Calls Tryz.prog g (#[.string s]++lb) W fun e w'=>e=.returned (.bool (p s))∧Below W.heap.size W w') :
 Calls Tryz.prog 163 #[.slice A n c,.func (.func g) #[] lb] w fun e w'=>e=.returned (.int .i64 (yN p ss 0))∧Below w.heap.size w w':=by
 have Hh:=zh h;have Hlen:=zh h.1;have Hg:=zh hg;clear h hg;go_enter Tryz.func163,Tryz.ntmps163;go_wp2_with fail;go_loopw [8] (fun i wr=>∃k:Nat,k≤n∧i=.int .i64 k∧Below w.heap.size w wr∧Hid (yN p ss 0=yN p (ss.drop k) k)) (fun i _=>n-(intOf i).toNat);case atStart=>exact⟨0,Nat.zero_le _,rfl,Below.refl _ _,rfl⟩
 case round =>
  obtain⟨k,hk,rfl,hb,hS⟩:=hrel;have HB:=zh hb;clear hb;by_cases hlt:k<n
  · obtain⟨b,o,rfl,hbB,hcell⟩:=(Hh.out.later HB.out).2 (by omega);have hck:=hcell k hlt;clear hcell;have hl:k<ss.length:=by rw[Hlen.out];exact hlt
    have HS:=zh (zCG p ss k hl);have HK:=zh (Hg.out (ss.getD k ByteArray.empty) (by rw[List.getD_eq_getElem?_getD,List.getElem?_eq_getElem hl];simp) wr HB.out);clear hl;generalize ss.getD k ByteArray.empty=s at *;generalize hx:p s=x at *;have HX:=zh hx;clear hx;go_wp2_with fail;refine HK.out.mono ?_;rintro e w' ⟨rfl,hb1⟩;have HB1:=zh (HB.out.later hb1);clear hb1;cases x
    · go_wp2_with fail;go_roundw;case rel=>exact⟨k+1,by omega,by go_num,HB1.out,by unfold Hid;rw[hS.out,HS.out];rfl⟩
      case measure=>simp[intOf];omega
    · go_wp2_with fail;go_ret;exact⟨vB (by rw[hS.out,HS.out];rfl),HB1.out⟩
  · have HE:Hid (yN p ss 0=-1):=by unfold Hid;rw[hS.out,List.drop_of_length_le (by rw[Hlen.out];omega)];rfl
    go_wp2_with fail;go_ret;exact⟨vB HE.out.symm,HB.out⟩
theorem vT (g:Nat) (lb:Array Value) (p:ByteArray→Bool) (A:Option Addr) (n c:Nat) (ss:List ByteArray) (w:World) (h:Strs w w.heap.size A n ss) (hn:n≤1048576)
 (eg:∀args w,(callFunc g args).run Tryz.prog w=.ok (.enter g args) w)
 (hg:∀s∈ss,∀W,Below w.heap.size w W→Calls Tryz.prog g (#[.string s]++lb) W fun e w'=>e=.returned (.bool (p s))∧Below W.heap.size W w') :
 Calls Tryz.prog 104 #[.slice A n c,.func (.func g) #[] lb] w fun e w'=>e=.returned (.bool (ss.any p))∧Below w.heap.size w w':=by
 have HK:=zh (zEF g lb p A n c ss w h hn eg hg);have hE:=zCe p ss 0;clear h hg eg;generalize ss.any p=R at *;generalize yN p ss 0=x at *;have HE:=zh hE;clear hE;go_enter Tryz.func104,Tryz.ntmps104;go_wp2_with fail;refine HK.out.mono ?_;rintro e w' ⟨rfl,hb1⟩;have HB1:=zh hb1;clear hb1;go_wp2_with fail;go_ret;exact⟨zA0 HE.out,HB1.out⟩
theorem zDw (g:Nat) (lb:Array Value) (p:ByteArray→Bool) (A:Option Addr) (n c:Nat) (ss:List ByteArray) (w:World) (h:Strs w w.heap.size A n ss) (hn:n≤1048576)
 (eg:∀args w,(callFunc g args).run Tryz.prog w=.ok (.enter g args) w)
 (hg:∀s∈ss,Calls Tryz.prog g (#[.string s]++lb) w fun e w'=>e=.returned (.bool (p s))∧w=w') :
 Calls Tryz.prog 163 #[.slice A n c,.func (.func g) #[] lb] w fun e w'=>e=.returned (.int .i64 (yN p ss 0))∧w=w':=by
 have Hh:=zh h;have Hlen:=zh h.1;have Hg:=zh hg;clear h hg;go_enter Tryz.func163,Tryz.ntmps163;go_wp2_with fail
 go_loop [8] (fun i=>∃k:Nat,k≤n∧i=.int .i64 k∧Hid (yN p ss 0=yN p (ss.drop k) k)) (fun i=>n-(intOf i).toNat)
 case atStart=>exact⟨0,Nat.zero_le _,rfl,rfl⟩
 case round =>
  obtain⟨k,hk,rfl,hS⟩:=hrel;by_cases hlt:k<n
  · obtain⟨b,o,rfl,hbB,hcell⟩:=Hh.out.2 (by omega);have hck:=hcell k hlt;clear hcell;have hl:k<ss.length:=by rw[Hlen.out];exact hlt
    have HS:=zh (zCG p ss k hl);have HK:=zh (Hg.out (ss.getD k ByteArray.empty) (by rw[List.getD_eq_getElem?_getD,List.getElem?_eq_getElem hl];simp));clear hl;generalize ss.getD k ByteArray.empty=s at *;generalize hx:p s=x at *;have HX:=zh hx;clear hx;go_wp2_with fail;refine HK.out.mono ?_;rintro e w' ⟨rfl,rfl⟩;cases x
    · go_wp2_with fail
      go_round
      case rel=>exact⟨k+1,by omega,by go_num,by unfold Hid;rw[hS.out,HS.out];rfl⟩
      case measure=>simp[intOf];omega
    · go_wp2_with fail;go_ret;exact⟨vB (by rw[hS.out,HS.out];rfl),rfl⟩
  · have HE:Hid (yN p ss 0=-1):=by unfold Hid;rw[hS.out,List.drop_of_length_le (by rw[Hlen.out];omega)];rfl
    go_wp2_with fail;go_ret;exact⟨vB HE.out.symm,rfl⟩
theorem wR (g:Nat) (lb:Array Value) (p:ByteArray→Bool) (A:Option Addr) (n c:Nat) (ss:List ByteArray) (w:World) (h:Strs w w.heap.size A n ss) (hn:n≤1048576)
 (eg:∀args w,(callFunc g args).run Tryz.prog w=.ok (.enter g args) w)
 (hg:∀s∈ss,Calls Tryz.prog g (#[.string s]++lb) w fun e w'=>e=.returned (.bool (p s))∧w=w') :
 Calls Tryz.prog 104 #[.slice A n c,.func (.func g) #[] lb] w fun e w'=>e=.returned (.bool (ss.any p))∧w=w':=by
 have HK:=zh (zDw g lb p A n c ss w h hn eg hg);have hE:=zCe p ss 0;clear h hg eg;generalize ss.any p=R at *;generalize yN p ss 0=x at *;have HE:=zh hE;clear hE;go_enter Tryz.func104,Tryz.ntmps104;go_wp2_with fail;refine HK.out.mono ?_;rintro e w' ⟨rfl,rfl⟩;go_wp2_with fail;go_ret;exact⟨zA0 HE.out,rfl⟩
theorem zLz (l:List ByteArray):(!(l.any fun s=>!wV s))=l.all wV:=by
 induction l with
 | nil=>rfl
 | cons a r ih=>simp only[List.any_cons,List.all_cons,Bool.not_or,Bool.not_not,ih]
theorem zIx (A:Option Addr) (n c:Nat) (ss:List ByteArray) (w:World) (h:Strs w w.heap.size A n ss) (hn:n≤1048576) (hz:∀s∈ss,s.size≤1048576) :
 Calls Tryz.prog 192 #[.slice A n c] w fun e w'=>e=.returned (.bool (xQ ss))∧w=w':=by
 have eg:∀args w,(callFunc 222 args).run Tryz.prog w=.ok (.enter 222 args) w:=enters_of Tryz.func222 (by kernel_rfl) rfl;have HK:=zh (wR 222 #[] (fun s=>!wV s) A n c ss w h hn eg (fun s hs=>zHt s w (hz s hs)));have hE:xQ ss=(decide (n≤4)&&!(ss.any fun s=>!wV s)):=by unfold xQ;rw[zLz,h.1]
 clear h hz eg;generalize xQ ss=R at *;generalize (ss.any fun s=>!wV s)=x at *;by_cases h4:n≤4
 · have HE:Hid ((!x)=R):=by unfold Hid;rw[hE];simp[h4]
   clear hE;go_enter Tryz.func192,Tryz.ntmps192;go_wp2_with fail;refine HK.out.mono ?_;rintro e w' ⟨rfl,rfl⟩;go_wp2_with fail;go_ret;exact⟨zA0 HE.out,rfl⟩
 · have HE:Hid (false=R):=by unfold Hid;rw[hE];simp[h4]
   clear hE;go_enter Tryz.func192,Tryz.ntmps192;go_wp2_with fail;go_ret;exact⟨zA0 HE.out,rfl⟩
theorem zDU (nm:ByteArray) (A:Option Addr) (n c:Nat) (ss:List ByteArray) (w:World) (hs:nm.size≤1048576) (h:Strs w w.heap.size A n ss) (hn:n≤1048576) (hz:∀s∈ss,s.size≤1048576) :
 Calls Tryz.prog 151 #[.string nm,.slice A n c] w fun e w'=>e=.returned (.bool (zH0 nm ss))∧w=w':=by
 have HK1:=zh (vO nm w hs);have HK2:=zh (zIx A n c ss w h hn hz);have HR:Hid (zH0 nm ss=(zB0 nm&&xQ ss)):=rfl;clear h hz;generalize zH0 nm ss=R at *;generalize zB0 nm=x at *;generalize xQ ss=y at *;go_enter Tryz.func151,Tryz.ntmps151;go_wp2_with fail;refine HK1.out.mono ?_;rintro e w1 ⟨rfl,rfl⟩;cases x
 · go_wp2_with fail;go_ret;exact⟨zA0 (by rw[HR.out];rfl),rfl⟩
 · go_wp2_with fail;refine HK2.out.mono ?_;rintro e w1 ⟨rfl,rfl⟩;go_wp2_with fail;go_ret;exact⟨zA0 (by rw[HR.out];rfl),rfl⟩
end Go.Proofs.YtfpcjhajjejpdaaGreatDoor
namespace Go.Proofs.YtfpcjhajjejpdaaGreatDoor
open Go.RowKit
def zEp (a b:Int):Int:=if a<b then -1 else if b<a then 1 else 0
def zAS (a b:ByteArray):Int:=if Op.bytesLess a.toList b.toList=true then -1 else if a=b then 0 else 1
def uU (a b:ByteArray):Int :=
 if (uD a&&uD b)=true then zEp (yQ a.data.toList) (yQ b.data.toList) else if uD a=true then -1 else if uD b=true then 1 else zAS a b
def uX:List ByteArray→List ByteArray→Int
 | [],[]=>0
 | [],_::_=>-1
 | _::_,[]=>1
 | x::r,y::s=>if uU x y=0 then uX r s else uU x y
def orI (a b:Int):Int:=if a=0 then b else a
def zAo (n:ByteArray) (s:List ByteArray) (n':ByteArray) (s':List ByteArray):Int:=orI (zAS n n') (uX s s')
theorem zEa (x:Int) (w:World):Calls Tryz.prog 204 #[.int .i64 x] w fun e w'=>e=.returned (.bool false)∧w=w':=by
 have hb:(x != x)=false:=by simp
 go_enter Tryz.func204,Tryz.ntmps204;go_wp2_with fail;go_ret;exact⟨rfl,rfl⟩
theorem zDZ (x:ByteArray) (w:World):Calls Tryz.prog 197 #[.string x] w fun e w'=>e=.returned (.bool false)∧w=w':=by
 go_enter Tryz.func197,Tryz.ntmps197;go_wp2_with fail;go_ret;exact⟨rfl,rfl⟩
theorem zKN (a b:Int) (w:World):Calls Tryz.prog 169 #[.int .i64 a,.int .i64 b] w fun e w'=>e=.returned (.int .i64 (zEp a b))∧w=w':=by
 have H1:=zh (zEa a);have H2:=zh (zEa b);have HR:Hid (zEp a b=if a<b then -1 else if b<a then 1 else 0):=rfl;generalize zEp a b=R at *;by_cases h1:a<b
 · have HE:Hid (R=-1):=by unfold Hid;rw[HR.out,if_pos h1]
   go_enter Tryz.func169,Tryz.ntmps169;go_wp2_with fail;refine(H1.out _).mono ?_;rintro e w1 ⟨rfl,rfl⟩;go_wp2_with fail;refine(H2.out _).mono ?_;rintro e w1 ⟨rfl,rfl⟩;go_wp2_with fail;go_ret;exact⟨vB HE.out.symm,rfl⟩
 · by_cases h2:b<a
   · have HE:Hid (R=1):=by unfold Hid;rw[HR.out,if_neg h1,if_pos h2]
     go_enter Tryz.func169,Tryz.ntmps169;go_wp2_with fail;refine(H1.out _).mono ?_;rintro e w1 ⟨rfl,rfl⟩;go_wp2_with fail;refine(H2.out _).mono ?_;rintro e w1 ⟨rfl,rfl⟩;go_wp2_with fail;go_ret;exact⟨vB HE.out.symm,rfl⟩
   · have HE:Hid (R=0):=by unfold Hid;rw[HR.out,if_neg h1,if_neg h2]
     go_enter Tryz.func169,Tryz.ntmps169;go_wp2_with fail;refine(H1.out _).mono ?_;rintro e w1 ⟨rfl,rfl⟩;go_wp2_with fail;refine(H2.out _).mono ?_;rintro e w1 ⟨rfl,rfl⟩;go_wp2_with fail;go_ret;exact⟨vB HE.out.symm,rfl⟩
theorem zHj (a b:ByteArray) (w:World):Calls Tryz.prog 158 #[.string a,.string b] w fun e w'=>e=.returned (.int .i64 (zAS a b))∧w=w':=by
 have H1:=zh (zDZ a);have H2:=zh (zDZ b);have HR:Hid (zAS a b=if Op.bytesLess a.toList b.toList=true then -1 else if a=b then 0 else 1):=rfl;generalize zAS a b=R at *;cases h1:Op.bytesLess a.toList b.toList
 · by_cases h2:a=b
   · have HE:Hid (R=0):=by unfold Hid;rw[HR.out,h1,if_pos h2];rfl
     subst h2;go_enter Tryz.func158,Tryz.ntmps158;go_wp2_with fail;refine(H1.out _).mono ?_;rintro e w1 ⟨rfl,rfl⟩;go_wp2_with fail;refine(H2.out _).mono ?_;rintro e w1 ⟨rfl,rfl⟩;go_wp2_with fail;go_ret;exact⟨vB HE.out.symm,rfl⟩
   · have HE:Hid (R=1):=by unfold Hid;rw[HR.out,h1,if_neg h2];rfl
     have hb:=zP0 h2;have hb':=uC h2;clear h2;go_enter Tryz.func158,Tryz.ntmps158;go_wp2_with fail;refine(H1.out _).mono ?_;rintro e w1 ⟨rfl,rfl⟩;go_wp2_with fail;refine(H2.out _).mono ?_;rintro e w1 ⟨rfl,rfl⟩;go_wp2_with fail;go_ret;exact⟨vB HE.out.symm,rfl⟩
 · have HE:Hid (R=-1):=by unfold Hid;rw[HR.out,h1];rfl
   go_enter Tryz.func158,Tryz.ntmps158;go_wp2_with fail;refine(H1.out _).mono ?_;rintro e w1 ⟨rfl,rfl⟩;go_wp2_with fail;refine(H2.out _).mono ?_;rintro e w1 ⟨rfl,rfl⟩;go_wp2_with fail;go_ret;exact⟨vB HE.out.symm,rfl⟩
theorem zBj (a b:ByteArray) (w:World) (htab:zU0 w) (ha:a.size≤1048576) (hb:b.size≤1048576) :
 Calls Tryz.prog 114 #[.string a,.string b] w fun e w'=>e=.returned (.int .i64 (uU a b))∧Below w.heap.size w w':=by
 have HK1:=zh (fun W hW=>zDo a W hW ha);have HK2:=zh (fun W hW=>zDo b W hW hb);have HK3:=zh (fun W=>zCP a W ha);have HK4:=zh (fun W=>zCP b W hb);rw[zIT]at HK3 HK4;have HT:=zh htab;have HR:Hid (uU a b=if (uD a&&uD b)=true then zEp (yQ a.data.toList) (yQ b.data.toList) else if uD a=true then -1 else if uD b=true then 1 else zAS a b):=rfl;clear htab;generalize uU a b=R at *;generalize uD a=x at *;generalize uD b=y at *;generalize yQ a.data.toList=p at *;generalize yQ b.data.toList=q at *;go_enter Tryz.func114,Tryz.ntmps114;go_wp2_with fail;refine(HK1.out _ HT.out).mono ?_;rintro e w1 ⟨rfl,hb1⟩;have HT1:=zh (yF HT.out hb1);have HB1:=zh hb1;clear hb1;go_wp2_with fail;refine(HK2.out _ HT1.out).mono ?_;rintro e w2 ⟨rfl,hb2⟩;have HB2:=zh (HB1.out.later hb2);clear hb2;cases x
 · cases y
   · have HE:Hid (R=zAS a b):=HR.out;go_wp2_with fail;refine(zHj _ _ _).mono ?_;rintro e w3 ⟨rfl,rfl⟩;go_wp2_with fail;go_ret;exact⟨vB HE.out.symm,HB2.out⟩
   · have HE:Hid (R=1):=HR.out;go_wp2_with fail;go_ret;exact⟨vB HE.out.symm,HB2.out⟩
 · cases y
   · have HE:Hid (R=-1):=HR.out;go_wp2_with fail;go_ret;exact⟨vB HE.out.symm,HB2.out⟩
   · have HE:Hid (R=zEp p q):=HR.out;go_wp2_with fail;refine(HK3.out _).mono ?_;rintro e w3 ⟨rfl,hb3⟩;have HB3:=zh (HB2.out.later hb3);clear hb3;go_wp2_with fail;refine(HK4.out _).mono ?_;rintro e w4 ⟨rfl,hb4⟩;have HB4:=zh (HB3.out.later hb4);clear hb4;go_wp2_with fail;refine(zKN _ _ _).mono ?_;rintro e w5 ⟨rfl,rfl⟩;go_wp2_with fail;go_ret;exact⟨vB HE.out.symm,HB4.out⟩
theorem zJO (a b:List ByteArray) (k:Nat) (h:k<a.length) (h':k<b.length) :
 uX (a.drop k) (b.drop k)=if uU (a.getD k ByteArray.empty) (b.getD k ByteArray.empty)=0 then uX (a.drop (k+1)) (b.drop (k+1)) else uU (a.getD k ByteArray.empty) (b.getD k ByteArray.empty):=by
 rw[List.drop_eq_getElem_cons h,List.drop_eq_getElem_cons h'];simp[uX,List.getD_eq_getElem?_getD,List.getElem?_eq_getElem h,List.getElem?_eq_getElem h']
theorem zKM:∀(a b:List ByteArray),a=[]→uX a b=if a.length<b.length then -1 else 0
 | [],[],_=>rfl
 | [],_::_,_=>by simp[uX]
 | _::_,_,h=>by simp at h
theorem zJP:∀(a b:List ByteArray),a≠[]→b=[]→uX a b=1
 | [],_,h,_=>absurd rfl h
 | _::_,[],_,_=>rfl
 | _::_,_::_,_,h=>by simp at h
theorem zCT (A A':Option Addr) (n c n' c':Nat) (ss ts:List ByteArray) (w:World) (htab:zU0 w) (h:Strs w w.heap.size A n ss) (h':Strs w w.heap.size A' n' ts) (hn:n≤1048576) (hn':n'≤1048576)
 (hz:∀s∈ss,s.size≤1048576) (hz':∀s∈ts,s.size≤1048576) :
 Calls Tryz.prog 198 #[.slice A n c,.slice A' n' c',.func (.func 114) #[] #[]] w fun e w'=>e=.returned (.int .i64 (uX ss ts))∧Below w.heap.size w w':=by
 have eg:∀args w,(callFunc 114 args).run Tryz.prog w=.ok (.enter 114 args) w:=enters_of Tryz.func114 (by kernel_rfl) rfl;have Hh:=zh h;have Hh':=zh h';have Hlen:=zh h.1;have Hlen':=zh h'.1;have Hz:=zh hz;have Hz':=zh hz';have HT:=zh htab;clear h h' hz hz' htab;go_enter Tryz.func198,Tryz.ntmps198;go_wp2_with fail;go_loopw [13] (fun i wr=>∃(k:Nat),k≤n∧k≤n'∧i=.int .i64 k∧Below w.heap.size w wr∧Hid (uX ss ts=uX (ss.drop k) (ts.drop k))) (fun i _=>n-(intOf i).toNat);case atStart=>exact⟨0,Nat.zero_le _,Nat.zero_le _,rfl,Below.refl _ _,rfl⟩
 case round =>
  obtain⟨k,hk,hk',rfl,hb,hS⟩:=hrel;have HB:=zh hb;clear hb;by_cases hlt:k<n
  · by_cases hlt':k<n'
    · obtain⟨b,o,rfl,hbB,hcell⟩:=(Hh.out.later HB.out).2 (by omega);obtain⟨b',o',rfl,hbB',hcell'⟩:=(Hh'.out.later HB.out).2 (by omega);have hck:=hcell k hlt;have hck':=hcell' k hlt';clear hcell hcell';have HS:=zh (zJO ss ts k (by rw[Hlen.out];exact hlt) (by rw[Hlen'.out];exact hlt'));have HK:=zh (zBj (ss.getD k ByteArray.empty) (ts.getD k ByteArray.empty) wr (yF HT.out HB.out) (zAi Hz.out k (by rw[Hlen.out];exact hlt)) (zAi Hz'.out k (by rw[Hlen'.out];exact hlt')));generalize ss.getD k ByteArray.empty=s at *;generalize ts.getD k ByteArray.empty=t at *;generalize uU s t=x at *;go_wp2_with fail;refine HK.out.mono ?_;rintro e w1 ⟨rfl,hb1⟩;have HB1:=zh (HB.out.later hb1);clear hb1;by_cases hx:x=0
      · subst hx;go_wp2_with fail;go_roundw;case rel=>exact⟨k+1,by omega,by omega,by go_num,HB1.out,by unfold Hid;rw[hS.out,HS.out];simp⟩
        case measure=>simp[intOf];omega
      · have hbx:(x != 0)=true:=by rw[bne_iff_ne];exact hx
        have HE:Hid (uX ss ts=x):=by unfold Hid;rw[hS.out,HS.out,if_neg hx]
        clear hx;go_wp2_with fail;go_ret;exact⟨vB HE.out.symm,HB1.out⟩
    · have HE:Hid (uX ss ts=1):=by unfold Hid;rw[hS.out,zJP _ _ (fun he=>by have:=congrArg List.length he;rw[List.length_drop,Hlen.out]at this;simp at this;omega) (List.drop_of_length_le (by rw[Hlen'.out];omega))]
      obtain⟨b,o,rfl,hbB,hcell⟩:=(Hh.out.later HB.out).2 (by omega);have hck:=hcell k hlt;clear hcell;go_wp2_with fail;go_ret;exact⟨vB HE.out.symm,HB.out⟩
  · have HE:Hid (uX ss ts=if n<n' then -1 else 0):=by
     unfold Hid;obtain rfl:k=n:=by omega
     rw[hS.out,zKM _ _ (List.drop_of_length_le (by rw[Hlen.out];omega)),List.length_drop,List.length_drop,Hlen.out,Hlen'.out];by_cases hc:k<n'
     · rw[if_pos (by omega),if_pos hc]
     · rw[if_neg (by omega),if_neg hc]
    by_cases hc:n<n'
    all_goals
     go_wp2_with fail;go_ret;exact⟨vB (by rw[HE.out];first | rw[if_pos hc] | rw[if_neg hc]),HB.out⟩
theorem zCN (A A':Option Addr) (n c n' c':Nat) (ss ts:List ByteArray) (w:World) (htab:zU0 w) (h:Strs w w.heap.size A n ss) (h':Strs w w.heap.size A' n' ts) (hn:n≤1048576) (hn':n'≤1048576)
 (hz:∀s∈ss,s.size≤1048576) (hz':∀s∈ts,s.size≤1048576) :
 Calls Tryz.prog 159 #[.slice A n c,.slice A' n' c'] w fun e w'=>e=.returned (.int .i64 (uX ss ts))∧Below w.heap.size w w':=by
 have HK:=zh (zCT A A' n c n' c' ss ts w htab h h' hn hn' hz hz');clear htab h h' hz hz';generalize uX ss ts=x at *;go_enter Tryz.func159,Tryz.ntmps159;go_wp2_with fail;refine HK.out.mono ?_;rintro e w1 ⟨rfl,hb1⟩;have HB1:=zh hb1;clear hb1;go_wp2_with fail;go_ret;exact⟨rfl,HB1.out⟩
theorem zLB (g:Nat) (x y:Int) (w:World) (c0:w.cell? ⟨g,0,none⟩=some (.int .i64 x)) (c1:w.cell? ⟨g,1,none⟩=some (.int .i64 y)) :
 Calls Tryz.prog 157 #[.slice (some ⟨g,0,none⟩) 2 2] w fun e w'=>e=.returned (.int .i64 (orI x y))∧w=w':=by
 have HR:Hid (orI x y=if x=0 then y else x):=rfl;generalize orI x y=R at *;go_enter Tryz.func157,Tryz.ntmps157;go_wp2_with fail;refine wp_loop_rounds 3 ?_;rw[rounds_succ];by_cases hx:x=0
 · subst hx;go_wp2_with fail;rw[rounds_succ];by_cases hy:y=0
   · subst hy;go_wp2_with fail;rw[rounds_succ];go_wp2_with fail;go_ret;exact⟨vB (by rw[HR.out];rfl),rfl⟩
   · have hb:(y != 0)=true:=by rw[bne_iff_ne];exact hy
     clear hy;go_wp2_with fail;go_ret;exact⟨vB (by rw[HR.out];rfl),rfl⟩
 · have hb:(x != 0)=true:=by rw[bne_iff_ne];exact hx
   have HE:Hid (R=x):=by unfold Hid;rw[HR.out,if_neg hx]
   clear hx;go_wp2_with fail;go_ret;exact⟨vB HE.out.symm,rfl⟩
end Go.Proofs.YtfpcjhajjejpdaaGreatDoor
