import Derived.Test.YtgmaamnofhmecaaGreatDoorY07
import Derived.Test.YtgmaamnofhmecaaGreatDoorY03
set_option linter.unusedSimpArgs false
set_option maxHeartbeats 1000000
open Go.Lib renaming hid → zh
namespace Go.Proofs.YtgmaamnofhmecaaGreatDoor
open Go.RowKit
theorem zFq (c:UInt8) (w:World) :
 Calls Tryz.prog 216 #[.int .u8 c.toNat] w fun e w'=>e=.returned (.bool (yE c))∧w=w':=by
 unfold yE;generalize c.toNat=n;by_cases h1:97≤n
 · by_cases h2:n≤122
   all_goals
    go_enter Tryz.func216,Tryz.ntmps216
    go_wp2
    all_goals
     go_ret;exact⟨zA0 (by first | (simp;done) | (simp;omega) | (rw[Bool.eq_iff_iff];simp;omega)),rfl⟩
 · by_cases h3:65≤n
   · by_cases h4:n≤90
     all_goals
      go_enter Tryz.func216,Tryz.ntmps216
      go_wp2
      all_goals
       go_ret;exact⟨zA0 (by first | (simp;done) | (simp;omega) | (rw[Bool.eq_iff_iff];simp;omega)),rfl⟩
   · go_enter Tryz.func216,Tryz.ntmps216
     go_wp2
     all_goals
      go_ret;exact⟨zA0 (by first | (simp;done) | (simp;omega) | (rw[Bool.eq_iff_iff];simp;omega)),rfl⟩
theorem zGu (c:UInt8) (w:World) :
 Calls Tryz.prog 217 #[.int .u8 c.toNat] w fun e w'=>e=.returned (.bool (isD c))∧w=w':=by
 unfold isD;generalize c.toNat=n;by_cases h1:48≤n
 · by_cases h2:n≤57
   all_goals
    go_enter Tryz.func217,Tryz.ntmps217
    go_wp2
    go_ret;exact⟨zA0 (by first | (simp;done) | (simp;omega) | (rw[Bool.eq_iff_iff];simp;omega)),rfl⟩
 · go_enter Tryz.func217,Tryz.ntmps217
   go_wp2
   go_ret;exact⟨zA0 (by first | (simp;done) | (simp;omega) | (rw[Bool.eq_iff_iff];simp;omega)),rfl⟩
def zKW (x:UInt8):Bool:=yE x||isD x
def wP:Nat→List UInt8→Bool
 | 0,l=>decide (l=[])||zEy l
 | _+1,l=>l.all zKW
theorem zJz (s:ByteArray):xF s=(wP 0 s.data.toList&&(decide (1≤s.size)&&decide (s.size≤8))):=by
 unfold xF wP;rw[Lib.size_eq]
 cases hl:s.data.toList with
 | nil=>simp[zEy]
 | cons c r=>simp;rw[Bool.and_comm]
theorem zHj (s:ByteArray) (h:0<s.size):wP 0 s.data.toList=((yE s[0]||decide (s[0]=37))&&wP 1 (s.data.toList.drop 1)):=by
 have h0:=wK s 0 h;rw[List.drop_zero]at h0;show(decide (s.data.toList=[])||zEy s.data.toList)=_;rw[zDq s h];have:decide (s.data.toList=[])=false:=by rw[h0];simp
 rw[this,Bool.false_or];rfl
theorem zHk (s:ByteArray) (k:Nat) (h:k<s.size) (hk:0<k):wP k (s.data.toList.drop k)=((yE s[k]||isD s[k])&&wP (k+1) (s.data.toList.drop (k+1))):=by
 obtain⟨j,rfl⟩:∃j,k=j+1:=⟨k-1,by omega⟩;rw[wK s _ h];rfl
theorem zDX (s:ByteArray) (w:World) (hs:s.size≤1048576) :
 Calls Tryz.prog 165 #[.string s] w fun e w'=>e=.returned (.bool (xF s))∧w=w':=by
 have HE:=zh (zJz s);go_enter Tryz.func165,Tryz.ntmps165;go_wp2_with fail
 go_loop [3] (fun i=>∃k:Nat,k≤s.size∧i=.int .i64 k∧Hid (wP 0 s.data.toList=wP k (s.data.toList.drop k))) (fun i=>s.size-(intOf i).toNat)
 case atStart=>exact⟨0,Nat.zero_le _,rfl,rfl⟩
 case round =>
  obtain⟨k,hk,rfl,hS⟩:=hrel;by_cases hlt:k<s.size
  · have HK1:=zh (zFq s[k]);have HK2:=zh (zGu s[k]);by_cases h0:k=0
    · subst h0;have HZ:=zh (zHj s hlt);have hbe:=zBM s[0] 37 (by omega);cases hx:yE s[0]
      · by_cases h37:s[0]=37
        · have HF:Hid (wP 0 s.data.toList=wP 1 (s.data.toList.drop 1)):=by unfold Hid;rw[HZ.out,hx,decide_eq_true h37];rfl
          have hb:((s[0].toNat:Int)==37)=true:=by rw[decide_eq_true (show s[0]=UInt8.ofNat 37 from h37)]at hbe;exact hbe
          rw[hx]at HK1;clear hx h37 hbe;go_wp2_with fail;refine(HK1.out _).mono ?_;rintro e w' ⟨rfl,rfl⟩;go_wp2_with fail
          go_round
          case rel=>exact⟨1,by omega,by go_num,HF.out⟩
          case measure=>simp[intOf];omega
        · have HF:Hid (xF s=false):=by unfold Hid;rw[HE.out,HZ.out,hx,decide_eq_false h37];rfl
          have hb:((s[0].toNat:Int)==37)=false:=by rw[decide_eq_false (show ¬s[0]=UInt8.ofNat 37 from h37)]at hbe;exact hbe
          rw[hx]at HK1;clear hx h37 hbe;go_wp2_with fail;refine(HK1.out _).mono ?_;rintro e w' ⟨rfl,rfl⟩;go_wp2_with fail;go_ret;exact⟨zA0 HF.out.symm,rfl⟩
      · have HF:Hid (wP 0 s.data.toList=wP 1 (s.data.toList.drop 1)):=by unfold Hid;rw[HZ.out,hx];rfl
        rw[hx]at HK1;clear hx hbe;go_wp2_with fail;refine(HK1.out _).mono ?_;rintro e w' ⟨rfl,rfl⟩;go_wp2_with fail
        go_round
        case rel=>exact⟨1,by omega,by go_num,HF.out⟩
        case measure=>simp[intOf];omega
    · have HZ:=zh (zHk s k hlt (by omega));have hb0:((k:Int)==0)=false:=by rw[beq_eq_false_iff_ne];omega
      have hb1:(k==0)=false:=by rw[beq_eq_false_iff_ne];omega
      clear h0;cases hx:yE s[k]
      · cases hy:isD s[k]
        · have HF:Hid (xF s=false):=by unfold Hid;rw[HE.out,hS.out,HZ.out,hx,hy];rfl
          rw[hx]at HK1;rw[hy]at HK2;clear hx hy;go_wp2_with fail;refine(HK1.out _).mono ?_;rintro e w' ⟨rfl,rfl⟩;go_wp2_with fail;refine(HK2.out _).mono ?_;rintro e w' ⟨rfl,rfl⟩;go_wp2_with fail;go_ret;exact⟨zA0 HF.out.symm,rfl⟩
        · have HF:Hid (wP 0 s.data.toList=wP (k+1) (s.data.toList.drop (k+1))):=by unfold Hid;rw[hS.out,HZ.out,hx,hy];rfl
          rw[hx]at HK1;rw[hy]at HK2;clear hx hy;go_wp2_with fail;refine(HK1.out _).mono ?_;rintro e w' ⟨rfl,rfl⟩;go_wp2_with fail;refine(HK2.out _).mono ?_;rintro e w' ⟨rfl,rfl⟩;go_wp2_with fail
          go_round
          case rel=>exact⟨k+1,by omega,by go_num,HF.out⟩
          case measure=>simp[intOf];omega
      · have HF:Hid (wP 0 s.data.toList=wP (k+1) (s.data.toList.drop (k+1))):=by unfold Hid;rw[hS.out,HZ.out,hx];rfl
        rw[hx]at HK1;clear hx;go_wp2_with fail;refine(HK1.out _).mono ?_;rintro e w' ⟨rfl,rfl⟩;go_wp2_with fail
        go_round
        case rel=>exact⟨k+1,by omega,by go_num,HF.out⟩
        case measure=>simp[intOf];omega
  · have HF:Hid (xF s=(decide (1≤s.size)&&decide (s.size≤8))):=by unfold Hid;rw[HE.out,hS.out,wU s k (by omega)];cases k <;> simp[wP]
    by_cases h1:1≤s.size
    · by_cases h8:s.size≤8
      all_goals
       go_wp2_with fail;go_ret;exact⟨zA0 (by rw[HF.out];first | (simp;done) | (simp;omega) | (rw[Bool.eq_iff_iff];simp;omega)),rfl⟩
    · go_wp2_with fail;go_ret;exact⟨zA0 (by rw[HF.out];first | (simp;done) | (simp;omega) | (rw[Bool.eq_iff_iff];simp;omega)),rfl⟩
theorem zET (s:ByteArray) (w:World) (hs:s.size≤1048576) :
 Calls Tryz.prog 220 #[.string s] w fun e w'=>e=.returned (.bool (xG s))∧w=w':=by
 unfold xG;by_cases h1:1≤s.size
 · by_cases h2:s.size≤24
   all_goals
    go_enter Tryz.func220,Tryz.ntmps220
    go_wp2
    go_ret;exact⟨zA0 (by first | (simp;done) | (simp;omega) | (rw[Bool.eq_iff_iff];simp;omega)),rfl⟩
 · go_enter Tryz.func220,Tryz.ntmps220
   go_wp2
   go_ret;exact⟨zA0 (by first | (simp;done) | (simp;omega) | (rw[Bool.eq_iff_iff];simp;omega)),rfl⟩
theorem zGR (s:ByteArray) (w:World) (hs:s.size≤1048576) :
 Calls Tryz.prog 222 #[.string s] w fun e w'=>e=.returned (.bool (!xG s))∧w=w':=by
 have HK:=zh (zET s w hs);generalize xG s=x at *;go_enter Tryz.func222,Tryz.ntmps222;go_wp2_with fail;refine HK.out.mono ?_;rintro e w' ⟨rfl,rfl⟩;go_wp2_with fail;go_ret;exact⟨rfl,rfl⟩
def zAy (p:ByteArray→Bool):List ByteArray→Nat→Int
 | [],_=>-1
 | d::r,k=>if p d=true then k else zAy p r (k+1)
theorem zEE (p:ByteArray→Bool) (l:List ByteArray) (k:Nat) (h:k<l.length):zAy p (l.drop k) k=if p (l.getD k ByteArray.empty)=true then (k:Int) else zAy p (l.drop (k+1)) (k+1):=by
 rw[List.drop_eq_getElem_cons h];simp[zAy,List.getD_eq_getElem?_getD,List.getElem?_eq_getElem h]
theorem zDy (p:ByteArray→Bool):∀(l:List ByteArray) (k:Nat),decide (0≤zAy p l k)=l.any p
 | [],k=>by simp[zAy]
 | d::r,k=>by
   unfold zAy;rw[List.any_cons,←zDy p r (k+1)];by_cases h:p d=true
   · simp[h]
   · simp[h]
theorem zDY (g:Nat) (lb:Array Value) (p:ByteArray→Bool) (A:Option Addr) (n c:Nat) (ss:List ByteArray) (w:World) (h:Strs w w.heap.size A n ss) (hn:n≤1048576)
 (eg:∀args w,(callFunc g args).run Tryz.prog w=.ok (.enter g args) w)
 (hg:∀s∈ss,∀W,Below w.heap.size w W→Calls Tryz.prog g (#[.string s]++lb) W fun e w'=>e=.returned (.bool (p s))∧Below W.heap.size W w') :
 Calls Tryz.prog 242 #[.slice A n c,.func (.func g) #[] lb] w fun e w'=>e=.returned (.int .i64 (zAy p ss 0))∧Below w.heap.size w w':=by
 have Hh:=zh h;have Hlen:=zh h.1;have Hg:=zh hg;clear h hg;go_enter Tryz.func242,Tryz.ntmps242;go_wp2_with fail;go_loopw [8] (fun i wr=>∃k:Nat,k≤n∧i=.int .i64 k∧Below w.heap.size w wr∧Hid (zAy p ss 0=zAy p (ss.drop k) k)) (fun i _=>n-(intOf i).toNat);case atStart=>exact⟨0,Nat.zero_le _,rfl,Below.refl _ _,rfl⟩
 case round =>
  obtain⟨k,hk,rfl,hb,hS⟩:=hrel;have HB:=zh hb;clear hb;by_cases hlt:k<n
  · obtain⟨b,o,rfl,hbB,hcell⟩:=(Hh.out.later HB.out).2 (by omega);have hck:=hcell k hlt;clear hcell;have hl:k<ss.length:=by rw[Hlen.out];exact hlt
    have HS:=zh (zEE p ss k hl);have HK:=zh (Hg.out (ss.getD k ByteArray.empty) (by rw[List.getD_eq_getElem?_getD,List.getElem?_eq_getElem hl];simp) wr HB.out);clear hl;generalize ss.getD k ByteArray.empty=s at *;generalize hx:p s=x at *;have HX:=zh hx;clear hx;go_wp2_with fail;refine HK.out.mono ?_;rintro e w' ⟨rfl,hb1⟩;have HB1:=zh (HB.out.later hb1);clear hb1;cases x
    · go_wp2_with fail;go_roundw;case rel=>exact⟨k+1,by omega,by go_num,HB1.out,by unfold Hid;rw[hS.out,HS.out];rfl⟩
      case measure=>simp[intOf];omega
    · go_wp2_with fail;go_ret;exact⟨xB (by rw[hS.out,HS.out];rfl),HB1.out⟩
  · have HE:Hid (zAy p ss 0=-1):=by unfold Hid;rw[hS.out,List.drop_of_length_le (by rw[Hlen.out];omega)];rfl
    go_wp2_with fail;go_ret;exact⟨xB HE.out.symm,HB.out⟩
theorem zBS (g:Nat) (lb:Array Value) (p:ByteArray→Bool) (A:Option Addr) (n c:Nat) (ss:List ByteArray) (w:World) (h:Strs w w.heap.size A n ss) (hn:n≤1048576)
 (eg:∀args w,(callFunc g args).run Tryz.prog w=.ok (.enter g args) w)
 (hg:∀s∈ss,∀W,Below w.heap.size w W→Calls Tryz.prog g (#[.string s]++lb) W fun e w'=>e=.returned (.bool (p s))∧Below W.heap.size W w') :
 Calls Tryz.prog 195 #[.slice A n c,.func (.func g) #[] lb] w fun e w'=>e=.returned (.bool (ss.any p))∧Below w.heap.size w w':=by
 have HK:=zh (zDY g lb p A n c ss w h hn eg hg);have hE:=zDy p ss 0;clear h hg eg;generalize ss.any p=R at *;generalize zAy p ss 0=x at *;have HE:=zh hE;clear hE;go_enter Tryz.func195,Tryz.ntmps195;go_wp2_with fail;refine HK.out.mono ?_;rintro e w' ⟨rfl,hb1⟩;have HB1:=zh hb1;clear hb1;go_wp2_with fail;go_ret;exact⟨zA0 HE.out,HB1.out⟩
theorem zCQ (g:Nat) (lb:Array Value) (p:ByteArray→Bool) (A:Option Addr) (n c:Nat) (ss:List ByteArray) (w:World) (h:Strs w w.heap.size A n ss) (hn:n≤1048576)
 (eg:∀args w,(callFunc g args).run Tryz.prog w=.ok (.enter g args) w)
 (hg:∀s∈ss,Calls Tryz.prog g (#[.string s]++lb) w fun e w'=>e=.returned (.bool (p s))∧w=w') :
 Calls Tryz.prog 242 #[.slice A n c,.func (.func g) #[] lb] w fun e w'=>e=.returned (.int .i64 (zAy p ss 0))∧w=w':=by
 have Hh:=zh h;have Hlen:=zh h.1;have Hg:=zh hg;clear h hg;go_enter Tryz.func242,Tryz.ntmps242;go_wp2_with fail
 go_loop [8] (fun i=>∃k:Nat,k≤n∧i=.int .i64 k∧Hid (zAy p ss 0=zAy p (ss.drop k) k)) (fun i=>n-(intOf i).toNat)
 case atStart=>exact⟨0,Nat.zero_le _,rfl,rfl⟩
 case round =>
  obtain⟨k,hk,rfl,hS⟩:=hrel;by_cases hlt:k<n
  · obtain⟨b,o,rfl,hbB,hcell⟩:=Hh.out.2 (by omega);have hck:=hcell k hlt;clear hcell;have hl:k<ss.length:=by rw[Hlen.out];exact hlt
    have HS:=zh (zEE p ss k hl);have HK:=zh (Hg.out (ss.getD k ByteArray.empty) (by rw[List.getD_eq_getElem?_getD,List.getElem?_eq_getElem hl];simp));clear hl;generalize ss.getD k ByteArray.empty=s at *;generalize hx:p s=x at *;have HX:=zh hx;clear hx;go_wp2_with fail;refine HK.out.mono ?_;rintro e w' ⟨rfl,rfl⟩;cases x
    · go_wp2_with fail
      go_round
      case rel=>exact⟨k+1,by omega,by go_num,by unfold Hid;rw[hS.out,HS.out];rfl⟩
      case measure=>simp[intOf];omega
    · go_wp2_with fail;go_ret;exact⟨xB (by rw[hS.out,HS.out];rfl),rfl⟩
  · have HE:Hid (zAy p ss 0=-1):=by unfold Hid;rw[hS.out,List.drop_of_length_le (by rw[Hlen.out];omega)];rfl
    go_wp2_with fail;go_ret;exact⟨xB HE.out.symm,rfl⟩
theorem zBs (g:Nat) (lb:Array Value) (p:ByteArray→Bool) (A:Option Addr) (n c:Nat) (ss:List ByteArray) (w:World) (h:Strs w w.heap.size A n ss) (hn:n≤1048576)
 (eg:∀args w,(callFunc g args).run Tryz.prog w=.ok (.enter g args) w)
 (hg:∀s∈ss,Calls Tryz.prog g (#[.string s]++lb) w fun e w'=>e=.returned (.bool (p s))∧w=w') :
 Calls Tryz.prog 195 #[.slice A n c,.func (.func g) #[] lb] w fun e w'=>e=.returned (.bool (ss.any p))∧w=w':=by
 have HK:=zh (zCQ g lb p A n c ss w h hn eg hg);have hE:=zDy p ss 0;clear h hg eg;generalize ss.any p=R at *;generalize zAy p ss 0=x at *;have HE:=zh hE;clear hE;go_enter Tryz.func195,Tryz.ntmps195;go_wp2_with fail;refine HK.out.mono ?_;rintro e w' ⟨rfl,rfl⟩;go_wp2_with fail;go_ret;exact⟨zA0 HE.out,rfl⟩
theorem zKB (l:List ByteArray):(!(l.any fun s=>!xG s))=l.all xG:=by
 induction l with
 | nil=>rfl
 | cons a r ih=>simp only[List.any_cons,List.all_cons,Bool.not_or,Bool.not_not,ih]
theorem yP (A:Option Addr) (n c:Nat) (ss:List ByteArray) (w:World) (h:Strs w w.heap.size A n ss) (hn:n≤1048576) (hz:∀s∈ss,s.size≤1048576) :
 Calls Tryz.prog 168 #[.slice A n c] w fun e w'=>e=.returned (.bool (xC ss))∧w=w':=by
 have eg:∀args w,(callFunc 222 args).run Tryz.prog w=.ok (.enter 222 args) w:=enters_of Tryz.func222 (by kernel_rfl) rfl;have HK:=zh (zBs 222 #[] (fun s=>!xG s) A n c ss w h hn eg (fun s hs=>zGR s w (hz s hs)));have hE:xC ss=(decide (n≤4)&&!(ss.any fun s=>!xG s)):=by unfold xC;rw[zKB,h.1]
 clear h hz eg;generalize xC ss=R at *;generalize (ss.any fun s=>!xG s)=x at *;by_cases h4:n≤4
 · have HE:Hid ((!x)=R):=by unfold Hid;rw[hE];simp[h4]
   clear hE;go_enter Tryz.func168,Tryz.ntmps168;go_wp2_with fail;refine HK.out.mono ?_;rintro e w' ⟨rfl,rfl⟩;go_wp2_with fail;go_ret;exact⟨zA0 HE.out,rfl⟩
 · have HE:Hid (false=R):=by unfold Hid;rw[hE];simp[h4]
   clear hE;go_enter Tryz.func168,Tryz.ntmps168;go_wp2_with fail;go_ret;exact⟨zA0 HE.out,rfl⟩
theorem zAu (nm:ByteArray) (A:Option Addr) (n c:Nat) (ss:List ByteArray) (w:World) (hs:nm.size≤1048576) (h:Strs w w.heap.size A n ss) (hn:n≤1048576) (hz:∀s∈ss,s.size≤1048576) :
 Calls Tryz.prog 145 #[.string nm,.slice A n c] w fun e w'=>e=.returned (.bool (wD nm ss))∧w=w':=by
 have HK1:=zh (zDX nm w hs);have HK2:=zh (yP A n c ss w h hn hz);have HR:Hid (wD nm ss=(xF nm&&xC ss)):=rfl;clear h hz;generalize wD nm ss=R at *;generalize xF nm=x at *;generalize xC ss=y at *;go_enter Tryz.func145,Tryz.ntmps145;go_wp2_with fail;refine HK1.out.mono ?_;rintro e w1 ⟨rfl,rfl⟩;cases x
 · go_wp2_with fail;go_ret;exact⟨zA0 (by rw[HR.out];rfl),rfl⟩
 · go_wp2_with fail;refine HK2.out.mono ?_;rintro e w1 ⟨rfl,rfl⟩;go_wp2_with fail;go_ret;exact⟨zA0 (by rw[HR.out];rfl),rfl⟩
theorem zIL (n:Int) (w:World) :
 Calls Tryz.prog 212 #[.int .i64 n] w fun e w'=>e=.returned (.bool (inB n 1 4))∧w=w':=by
 have HK:=zh (zDe n 1 4 w);have HE:Hid ((decide (1≤n)&&decide (n≤4))=inB n 1 4):=rfl;generalize (decide (1≤n)&&decide (n≤4))=x at *;go_enter Tryz.func212,Tryz.ntmps212;go_wp2_with fail;refine HK.out.mono ?_;rintro e w1 ⟨rfl,rfl⟩;go_wp2_with fail;go_ret;exact⟨zA0 HE.out,rfl⟩
end Go.Proofs.YtgmaamnofhmecaaGreatDoor
