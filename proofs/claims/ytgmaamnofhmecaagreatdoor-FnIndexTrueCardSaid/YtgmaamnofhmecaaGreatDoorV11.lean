import Derived.Test.YtgmaamnofhmecaaGreatDoorV08
import Derived.Test.YtgmaamnofhmecaaGreatDoorV01
import Derived.Test.YtgmaamnofhmecaaGreatDoorV09
import Derived.Test.YtgmaamnofhmecaaGreatDoorProg
import Derived.Ground.GgwProg
import Derived.Ground.Names2Prog
import Derived.Ground.SlgnProg
import Derived.Shelf.GgClosure.StringsIndexFunc
import Derived.Shelf.GgClosure.StringsIndexFuncTop
import Derived.Shelf.LaysM
import Derived.Shelf.Slices.Cells
import Derived.Shelf.Slices.Clone
import Derived.Shelf.Slices.CompactS
import Derived.Shelf.Slices.Empties2
import Derived.Shelf.Slices.Equal
import Derived.Shelf.Slices.In.SortNone
import Derived.Shelf.Slices.Turned
import Derived.Shelf.SlicesE.Clone
import Derived.Shelf.SlicesG.SearchI
import Derived.Shelf.Small.Bits
import Derived.Shelf.Small.Strs
import Derived.Shelf.Small.Utf8
import Derived.Shelf.Small.Wraps
import Derived.Shelf.Sort.Plain
import Derived.Shelf.Strconv.Itoa0
import Derived.Shelf.Strconv.Itoa1
import Derived.Shelf.Strconv.Itoa2
import Derived.Shelf.Strconv.Itoa3
import Derived.Shelf.Strconv.Itoa4
import Derived.Shelf.Strings.AsciiSet
import Derived.Shelf.Strings.Builder1
import Derived.Shelf.Strings.Builder2
import Derived.Shelf.Strings.Count
import Derived.Shelf.Strings.Explode
import Derived.Shelf.Strings.FuncGrows
import Derived.Shelf.Strings.OnBuilder
import Derived.Shelf.Strings.Prefix
import Derived.Shelf.Strings.Replace
import Derived.Shelf.Strings.RuneCount
import Derived.Shelf.Strings.Runes
import Derived.Shelf.Strings.Search1
import Derived.Shelf.Strings.Search2
import Derived.Shelf.Strings.Search3
import Derived.Shelf.Strings.Shaped
import Derived.Shelf.Strings.Split
import Derived.Shelf.Strings.SplitShaped
import Derived.Shelf.Strings.Trim
import Derived.Shelf.Unicode.Decode
import Derived.Shelf.Unicode.DecodeAny
import Derived.Shelf.Unicode.DecodeLast
import Derived.Shelf.Unicode.DecodeSlow
import Derived.Shelf.Utf8.RuneCount
set_option maxHeartbeats 4000000
open Go.Lib renaming hid → zh
namespace Go.Proofs.YtgmaamnofhmecaaGreatDoor
open Go.RowKit
def wA (l:List ByteArray) (x:ByteArray):Int:=uR (fun y=>decide (y=x)) l 0
theorem zJc (p:ByteArray→Bool):∀(l:List ByteArray) (k:Nat),-1≤uR p l k∧uR p l k<k+l.length
 | [],k=>by simp[uR];omega
 | s::r,k=>by have:=zJc p r (k+1);unfold uR;simp only[List.length_cons];split <;> omega
theorem xJ (l:List ByteArray) (x:ByteArray):-1≤wA l x∧wA l x<l.length:=by
 have:=zJc (fun y=>decide (y=x)) l 0;unfold wA;omega
theorem zFr (l:List ByteArray) (x:ByteArray):decide (0≤wA l x)=l.any fun y=>decide (y=x):=zCC _ l 0
theorem wP (A:Option Addr) (n c:Nat) (ss:List ByteArray) (x:ByteArray) (w:World) (h:Strs w w.heap.size A n ss) (hn:n≤1048576) :
 Calls Tryz.prog 60 #[.slice A n c,.string x] w fun e w'=>e=.returned (.int .i64 (wA ss x))∧w=w':=by
 have Hh:=zh h;have Hlen:=zh h.1;clear h;go_enter Tryz.func60,Tryz.ntmps60;go_wp2_with fail
 go_loop [5] (fun i=>∃k:Nat,k≤n∧i=.int .i64 k∧Hid (wA ss x=uR (fun y=>decide (y=x)) (ss.drop k) k)) (fun i=>n-(intOf i).toNat)
 case atStart=>exact⟨0,Nat.zero_le _,rfl,rfl⟩
 case round =>
  obtain⟨k,hk,rfl,hS⟩:=hrel;by_cases hlt:k<n
  · obtain⟨b,o,rfl,hb,hcell⟩:=Hh.out.2 (by omega);have hck:=hcell k hlt;clear hcell;have HS:=zh (zDa (fun y=>decide (y=x)) ss k (by rw[Hlen.out];exact hlt));generalize ss.getD k ByteArray.empty=s at *;by_cases he:s=x
    · have HE:Hid (wA ss x=k):=by unfold Hid;rw[hS.out,HS.out,if_pos (by simp[he])]
      subst he;go_wp2_with fail;go_ret;exact⟨yB HE.out.symm,rfl⟩
    · have HE:Hid (wA ss x=uR (fun y=>decide (y=x)) (ss.drop (k+1)) (k+1)):=by unfold Hid;rw[hS.out,HS.out,if_neg (by simp[he])]
      have hbq:=vE he;clear he;go_wp2_with fail
      go_round
      case rel=>exact⟨k+1,by omega,by go_num,HE.out⟩
      case measure=>simp[intOf];omega
  · have HE:Hid (wA ss x=-1):=by unfold Hid;rw[hS.out,List.drop_of_length_le (by rw[Hlen.out];omega)];rfl
    go_wp2_with fail;go_ret;exact⟨yB HE.out.symm,rfl⟩
def yX (c:UInt8):Bool:=decide (32≤c.toNat)&&(decide (c.toNat≤126)&&decide (c.toNat≠94))
def yJ (s:ByteArray):Bool:=s.data.toList.all yX&&decide (s.size≤11)
theorem zGN (s:ByteArray) (w:World) (hs:s.size≤1048576) :
 Calls Tryz.prog 134 #[.string s] w fun e w'=>e=.returned (.bool (yJ s))∧w=w':=by
 have HR:Hid (yJ s=(s.data.toList.all yX&&decide (s.size≤11))):=rfl;generalize yJ s=R at *;go_enter Tryz.func134,Tryz.ntmps134;go_wp2_with fail
 go_loop [3] (fun i=>∃k:Nat,k≤s.size∧i=.int .i64 k∧Hid (s.data.toList.all yX=(s.data.toList.drop k).all yX)) (fun i=>s.size-(intOf i).toNat)
 case atStart=>exact⟨0,Nat.zero_le _,rfl,rfl⟩
 case round =>
  obtain⟨k,hk,rfl,hS⟩:=hrel;by_cases hlt:k<s.size
  · have HD:=zh (uL s k hlt);have HC:Hid (yX s[k]=(decide (32≤s[k].toNat)&&(decide (s[k].toNat≤126)&&decide (s[k].toNat≠94)))):=rfl;by_cases h1:s[k].toNat<32
    · have HE:Hid (R=false):=by unfold Hid;rw[HR.out,hS.out,HD.out,List.all_cons,HC.out,decide_eq_false (by omega)];simp
      go_wp2_with fail;go_ret;exact⟨zA0 HE.out.symm,rfl⟩
    · by_cases h2:126<s[k].toNat
      · have HE:Hid (R=false):=by unfold Hid;rw[HR.out,hS.out,HD.out,List.all_cons,HC.out,decide_eq_false (show ¬s[k].toNat≤126 by omega)];simp
        go_wp2_with fail;go_ret;exact⟨zA0 HE.out.symm,rfl⟩
      · by_cases h3:s[k].toNat=94
        · have HE:Hid (R=false):=by unfold Hid;rw[HR.out,hS.out,HD.out,List.all_cons,HC.out,h3];simp
          have hb3:((s[k].toNat:Int)==94)=true:=by rw[beq_iff_eq];omega
          have hb4:(s[k].toNat==94)=true:=by rw[beq_iff_eq];omega
          clear h3;go_wp2_with fail;go_ret;exact⟨zA0 HE.out.symm,rfl⟩
        · have HE:Hid (s.data.toList.all yX=(s.data.toList.drop (k+1)).all yX):=by unfold Hid;rw[hS.out,HD.out,List.all_cons,HC.out,decide_eq_true (show 32≤s[k].toNat by omega),decide_eq_true (show s[k].toNat≤126 by omega),decide_eq_true h3];rfl
          have hb3:((s[k].toNat:Int)==94)=false:=by rw[beq_eq_false_iff_ne];omega
          have hb4:(s[k].toNat==94)=false:=by rw[beq_eq_false_iff_ne];omega
          clear h3;go_wp2_with fail
          go_round
          case rel=>exact⟨k+1,by omega,by go_num,HE.out⟩
          case measure=>simp[intOf];omega
  · have HE:Hid (R=decide (s.size≤11)):=by unfold Hid;rw[HR.out,hS.out,wW s k (by omega)];rfl
    go_wp2_with fail;go_ret;exact⟨zA0 (by rw[HE.out];first | (simp;done) | (simp;omega) | (rw[Bool.eq_iff_iff];simp;omega)),rfl⟩
end Go.Proofs.YtgmaamnofhmecaaGreatDoor
namespace Go.Proofs.YtgmaamnofhmecaaGreatDoor
open Go.RowKit
theorem yZ {P:Program} {f:FuncId} {args:Array Value} {w:World} {q n:Nat} {v:Value}
 (h:Calls P f args (w.drewN (q+n)) fun e w'=>e=.returned v∧w.drewN (q+n)=w'):Calls P f args (w.drewN (q+n)) fun e w''=>e=.returned v∧∃m,w''=w.drewN (q+m) :=
 h.mono fun _ _ ⟨he,hm⟩=>⟨he,n,hm.symm⟩
def zBc (cols:List ByteArray) (k:Nat):Bool:=xC (cols.getD k ByteArray.empty)&&decide (wA (cols.take k) (cols.getD k ByteArray.empty)<0)
def zAl (cols:List ByteArray):List ByteArray→Int→Bool
 | [],_=>true
 | x::r,last=>decide (last<wA cols x)&&zAl cols r (wA cols x)
theorem zFA (cols l:List ByteArray) (k:Nat) (last:Int) (h:k<l.length):zAl cols (l.drop k) last=(decide (last<wA cols (l.getD k ByteArray.empty))&&zAl cols (l.drop (k+1)) (wA cols (l.getD k ByteArray.empty))):=by
 rw[List.drop_eq_getElem_cons h,zAl,List.getD_eq_getElem?_getD,List.getElem?_eq_getElem h];rfl
def zF0 (d:TableD):Bool:=xC d.name&&(xC d.glob&&(decide (1≤d.cols.length)&&(decide (d.cols.length≤5)&&(decide (d.idx.length<d.cols.length)&&(wG (zBc d.cols) 0 d.cols.length&&zAl d.cols d.idx 0)))))
set_option maxRecDepth 100000 in
theorem zAu (c0 c1 c2 c3:Value) (d:TableD) (w:World) (h:TableR w w.heap.size c0 c1 c2 c3 d) (hs:d.small) :
 Calls Tryz.prog 56 #[.agg #[c0,c1,c2,c3]] w fun e w'=>e=.returned (.bool (zF0 d))∧Below w.heap.size w w':=by
 obtain⟨rfl,rfl,⟨A2,n2,p2,rfl,s2,k2⟩,⟨A3,n3,p3,rfl,s3,k3⟩⟩:=h;obtain⟨f0,f1,⟨f2,f2'⟩,⟨f3,f3'⟩⟩:=hs;have hn2:n2≤1048576:=by rw[←s2.1];exact f2
 have hn3:n3≤1048576:=by rw[←s3.1];exact f3
 have hR:zF0 d=(xC d.name&&(xC d.glob&&(decide (1≤n2)&&(decide (n2≤5)&&(decide (n3<n2)&&(wG (zBc d.cols) 0 n2&&zAl d.cols d.idx 0)))))):=by unfold zF0;rw[s2.1,s3.1]
 have HR:=zh hR;clear hR;have HK0:=zh (fun W=>yT d.name W f0);have HK1:=zh (fun W=>yT d.glob W f1);have HS2:=zh s2;have HS3:=zh s3;have HZ2:=zh f2';clear s2 s3 f2' f3' f2 f3 f0 f1;have HB0:=zh (Below.new w (.cells #[.string d.name,.string d.glob,.slice A2 n2 p2,.slice A3 n3 p3] 29));have HBq:=zh (fun q=>yE (Below.new w (.cells #[.string d.name,.string d.glob,.slice A2 n2 p2,.slice A3 n3 p3] 29)) q);generalize zF0 d=R at *;generalize xC d.name=x0 at *;generalize xC d.glob=x1 at *;generalize d.name=nm at *;generalize d.glob=gl at *;generalize d.cols=cols at *;generalize d.idx=idx at *;go_enter Tryz.func56,Tryz.ntmps56;go_wp2_with fail;refine(HK0.out _).mono ?_;rintro e w1 ⟨rfl,rfl⟩;cases x0
 · have HE:Hid (R=false):=by unfold Hid;rw[HR.out];rfl
   go_wp2_with fail;go_ret;exact⟨zA0 HE.out.symm,HB0.out⟩
 go_wp2_with fail;refine(HK1.out _).mono ?_;rintro e w1 ⟨rfl,rfl⟩;cases x1
 · have HE:Hid (R=false):=by unfold Hid;rw[HR.out];rfl
   go_wp2_with fail;go_ret;exact⟨zA0 HE.out.symm,HB0.out⟩
 by_cases a1:n2<1
 · have HE:Hid (R=false):=by unfold Hid;rw[HR.out,decide_eq_false (show ¬1≤n2 by omega)];rfl
   go_wp2_with fail;go_ret;exact⟨zA0 HE.out.symm,HB0.out⟩
 by_cases a2:5<n2
 · have HE:Hid (R=false):=by unfold Hid;rw[HR.out,decide_eq_false (show ¬n2≤5 by omega)];simp
   go_wp2_with fail;go_ret;exact⟨zA0 HE.out.symm,HB0.out⟩
 by_cases a3:n2≤n3
 · have HE:Hid (R=false):=by unfold Hid;rw[HR.out,decide_eq_false (show ¬n3<n2 by omega)];simp
   go_wp2_with fail;go_ret;exact⟨zA0 HE.out.symm,HB0.out⟩
 have HE:Hid (R=(wG (zBc cols) 0 (n2-0)&&zAl cols idx 0)):=by unfold Hid;rw[HR.out,decide_eq_true (show 1≤n2 by omega),decide_eq_true (show n2≤5 by omega),decide_eq_true (show n3<n2 by omega)];rfl
 clear HR;go_wp2_with fail;go_loopw [3] (fun i wr=>∃(k q:Nat),k≤n2∧i=.int .i64 k∧wr=(w.alloc (.cells #[.string nm,.string gl,.slice A2 n2 p2,.slice A3 n3 p3] 29)).drewN q∧Hid (R=(wG (zBc cols) k (n2-k)&&zAl cols idx 0))) (fun i _=>n2-(intOf i).toNat);case atStart=>exact⟨0,0,Nat.zero_le _,rfl,rfl,HE.out⟩
 case round =>
  obtain⟨k,q,hk,rfl,rfl,hS⟩:=hrel;by_cases hlt:k<n2
  · obtain⟨b,o,rfl,hb,hcell⟩:=HS2.out.2 (by omega);have hck:=hcell k hlt;clear hcell;have hl:k<cols.length:=by rw[HS2.out.1];exact hlt
    have HSt:=zh (zAY (zBc cols) k n2 hlt);have HC:Hid (zBc cols k=(xC (cols.getD k ByteArray.empty)&&decide (wA (cols.take k) (cols.getD k ByteArray.empty)<0))):=rfl;have HKn:=zh (fun W=>yT (cols.getD k ByteArray.empty) W (zCn HZ2.out k hl));have HKp:=zh (fun W (hW:Below w.heap.size w W)=>wP (some ⟨b,o,none⟩) k p2 (cols.take k) (cols.getD k ByteArray.empty) W ((HS2.out.take k (by omega)).later hW) (by omega));have hbd:=xJ (cols.take k) (cols.getD k ByteArray.empty);have hlk:(cols.take k).length=k:=by rw[List.length_take];omega
    rw[hlk]at hbd;have i1:(k:Int)<(n2:Int):=by omega
    have i2:(k:Int)≤(n2:Int):=by omega
    have i3:(k:Int)≤(p2:Int):=by omega
    have i4:(0:Int)≤(k:Int):=by omega
    clear hl hlk;generalize cols.getD k ByteArray.empty=s at *;generalize wA (cols.take k) s=y at *;generalize xC s=x at *;cases x
    · have HE2:Hid (R=false):=by unfold Hid;rw[hS.out,HSt.out,HC.out];rfl
      go_wp2_with fail
      go_quiet (first | (go_at_call 133;refine yZ (HKn.out _)))
      go_wp2_with fail;go_ret;exact⟨zA0 HE2.out.symm,by first | exact HBq.out _ | exact yE (HBq.out _) _⟩
    · by_cases hy:0≤y
      · have HE2:Hid (R=false):=by unfold Hid;rw[hS.out,HSt.out,HC.out,decide_eq_false (show ¬y<0 by omega)];rfl
        have hd:decide (0≤y)=true:=decide_eq_true hy;go_wp2_with fail
        go_quiet (first | (go_at_call 133;refine yZ (HKn.out _)) | (go_at_call 60;refine yZ (HKp.out _ (by exact HBq.out _))))
        go_wp2_with fail;go_ret;exact⟨zA0 HE2.out.symm,by first | exact HBq.out _ | exact yE (HBq.out _) _⟩
      · have HE2:Hid (R=(wG (zBc cols) (k+1) (n2-(k+1))&&zAl cols idx 0)):=by unfold Hid;rw[hS.out,HSt.out,HC.out,decide_eq_true (show y<0 by omega)];rfl
        have hd:decide (0≤y)=false:=decide_eq_false hy;go_wp2_with fail
        go_quiet (first | (go_at_call 133;refine yZ (HKn.out _)) | (go_at_call 60;refine yZ (HKp.out _ (by exact HBq.out _))))
        go_wp2_with fail;go_roundw;case rel=>exact⟨k+1,_,by omega,by go_num,rfl,HE2.out⟩
        case measure=>simp[intOf];omega
  · have HE2:Hid (R=zAl cols (idx.drop 0) 0):=by unfold Hid;rw[hS.out,zBz _ _ _ hlt];rfl
    clear hS HE;obtain⟨q0,hq0⟩:∃q0,q0=q:=⟨_,rfl⟩;go_wp2_with fail;go_loopw [5,4] (fun i last wr=>∃(j q:Nat) (m:Int),j≤n3∧i=.int .i64 j∧last=.int .i64 m∧0≤m∧m≤5∧wr=(w.alloc (.cells #[.string nm,.string gl,.slice A2 n2 p2,.slice A3 n3 p3] 29)).drewN q∧Hid (R=zAl cols (idx.drop j) m)) (fun i _ _=>n3-(intOf i).toNat);case atStart=>exact⟨0,_,0,Nat.zero_le _,rfl,rfl,by omega,by omega,rfl,HE2.out⟩
    case round =>
     obtain⟨j,q2,m,hj,rfl,rfl,hm0,hm1,rfl,hS2⟩:=hrel;by_cases hltj:j<n3
     · obtain⟨b,o,rfl,hb,hcell⟩:=HS3.out.2 (by omega);have hck:=hcell j hltj;clear hcell;have hl:j<idx.length:=by rw[HS3.out.1];exact hltj
       have HSt:=zh (zFA cols idx j m hl);have HKp:=zh (fun W (hW:Below w.heap.size w W)=>wP A2 n2 p2 cols (idx.getD j ByteArray.empty) W (HS2.out.later hW) hn2);have hbd:=xJ cols (idx.getD j ByteArray.empty);rw[HS2.out.1]at hbd;have i1:(j:Int)<(n3:Int):=by omega
       clear hl;generalize idx.getD j ByteArray.empty=s at *;generalize wA cols s=y at *;go_wp2_with fail
       go_quiet (first | (go_at_call 60;refine yZ (HKp.out _ (by exact HBq.out _))))
       by_cases hy:y≤m
       · have HE3:Hid (R=false):=by unfold Hid;rw[hS2.out,HSt.out,decide_eq_false (show ¬m<y by omega)];rfl
         go_wp2_with fail;go_ret;exact⟨zA0 HE3.out.symm,by first | exact HBq.out _ | exact yE (HBq.out _) _⟩
       · have HE3:Hid (R=zAl cols (idx.drop (j+1)) y):=by unfold Hid;rw[hS2.out,HSt.out,decide_eq_true (show m<y by omega)];rfl
         go_wp2_with fail;go_roundw;case rel=>exact⟨j+1,_,y,by omega,by go_num,rfl,by omega,by omega,rfl,HE3.out⟩
         case measure=>simp[intOf];omega
     · have HE3:Hid (R=true):=by unfold Hid;rw[hS2.out,List.drop_of_length_le (by rw[HS3.out.1];omega)];rfl
       go_wp2_with fail;go_ret;exact⟨zA0 HE3.out.symm,HBq.out _⟩
end Go.Proofs.YtgmaamnofhmecaaGreatDoor
namespace Go.Proofs.YtgmaamnofhmecaaGreatDoor
open Go.RowKit
theorem zBp {s:ByteArray} (h:s≠⟨#[]⟩):(s.toList==[])=false:=by
 have:=vE h;simpa [yD] using this
end Go.Proofs.YtgmaamnofhmecaaGreatDoor
namespace Go.Proofs
open Go.Shelf
def Tryz.lays190_ren:Go.Shelf.Ren:=⟨fun | 190=>270 | 125=>292 | 258=>291 | 128=>319 | 129=>320 | 302=>310 | 303=>311 | 304=>312 | 305=>313 | 306=>314 | 307=>315 | 308=>316 | 309=>317 | 310=>318 | 333=>334 | 329=>335 | 330=>336 | 334=>337 | 335=>338 | 336=>236 | 344=>347 | n=>n,fun | 31=>27 | 9=>9 | 3=>3 | 46=>201 | 0=>0 | 51=>265 | 53=>139 | 4=>4 | 183=>259 | 182=>258 | 131=>137 | 5=>5 | 218=>270 | 222=>274 | 228=>288 | 229=>289 | n=>n,fun | n=>n⟩
theorem Tryz.lays190:Go.Proofs.Lays.n190 Tryz.prog Tryz.lays190_ren:={
 mixed:=by kernel_rfl
 f125:=Tryz.func292.trans (congrArg some (by kernel_rfl))
 f128:=Tryz.func319.trans (congrArg some (by kernel_rfl))
 f129:=Tryz.func320.trans (congrArg some (by kernel_rfl))
 f190:=Tryz.func270.trans (congrArg some (by kernel_rfl))
 f258:=Tryz.func291.trans (congrArg some (by kernel_rfl))
 f302:=Tryz.func310.trans (congrArg some (by kernel_rfl))
 f303:=Tryz.func311.trans (congrArg some (by kernel_rfl))
 f304:=Tryz.func312.trans (congrArg some (by kernel_rfl))
 f305:=Tryz.func313.trans (congrArg some (by kernel_rfl))
 f306:=Tryz.func314.trans (congrArg some (by kernel_rfl))
 f307:=Tryz.func315.trans (congrArg some (by kernel_rfl))
 f308:=Tryz.func316.trans (congrArg some (by kernel_rfl))
 f309:=Tryz.func317.trans (congrArg some (by kernel_rfl))
 f310:=Tryz.func318.trans (congrArg some (by kernel_rfl))
 f329:=Tryz.func335.trans (congrArg some (by kernel_rfl))
 f330:=Tryz.func336.trans (congrArg some (by kernel_rfl))
 f333:=Tryz.func334.trans (congrArg some (by kernel_rfl))
 f334:=Tryz.func337.trans (congrArg some (by kernel_rfl))
 f335:=Tryz.func338.trans (congrArg some (by kernel_rfl))
 f336:=Tryz.func236.trans (congrArg some (by kernel_rfl))
 f344:=Tryz.func347.trans (congrArg some (by kernel_rfl))
 t0:=Tryz.underlying0
 a0:=Tryz.isAgg0
 z0:=Tryz.sizeOf0
 v0:=Tryz.zeroValue0
 t3:=Tryz.underlying3
 a3:=Tryz.isAgg3
 z3:=Tryz.sizeOf3
 v3:=Tryz.zeroValue3
 t4:=Tryz.underlying4
 a4:=Tryz.isAgg4
 z4:=Tryz.sizeOf4
 v4:=Tryz.zeroValue4
 t5:=Tryz.underlying5
 a5:=Tryz.isAgg5
 z5:=Tryz.sizeOf5
 v5:=Tryz.zeroValue5
 t9:=Tryz.underlying9
 a9:=Tryz.isAgg9
 z9:=Tryz.sizeOf9
 v9:=Tryz.zeroValue9
 t31:=Tryz.underlying27
 a31:=Tryz.isAgg27
 z31:=Tryz.sizeOf27
 v31:=Tryz.zeroValue27
 t46:=Tryz.underlying201
 a46:=Tryz.isAgg201
 z46:=Tryz.sizeOf201
 v46:=Tryz.zeroValue201
 t51:=Tryz.underlying265
 a51:=Tryz.isAgg265
 z51:=Tryz.sizeOf265
 v51:=Tryz.zeroValue265
 t53:=Tryz.underlying139
 a53:=Tryz.isAgg139
 z53:=Tryz.sizeOf139
 v53:=Tryz.zeroValue139
 t131:=Tryz.underlying137
 a131:=Tryz.isAgg137
 z131:=Tryz.sizeOf137
 v131:=Tryz.zeroValue137
 t182:=Tryz.underlying258
 a182:=Tryz.isAgg258
 z182:=Tryz.sizeOf258
 v182:=Tryz.zeroValue258
 t183:=Tryz.underlying259
 a183:=Tryz.isAgg259
 z183:=Tryz.sizeOf259
 v183:=Tryz.zeroValue259
 t218:=Tryz.underlying270
 a218:=Tryz.isAgg270
 z218:=Tryz.sizeOf270
 v218:=Tryz.zeroValue270
 t222:=Tryz.underlying274
 a222:=Tryz.isAgg274
 z222:=Tryz.sizeOf274
 v222:=Tryz.zeroValue274
 t228:=Tryz.underlying288
 a228:=Tryz.isAgg288
 z228:=Tryz.sizeOf288
 v228:=Tryz.zeroValue288
 t229:=Tryz.underlying289
 a229:=Tryz.isAgg289
 z229:=Tryz.sizeOf289
 v229:=Tryz.zeroValue289 }
open Go.Sort Go.RowKit in
theorem Tryz.slices_Sort_string (blk off cap:Nat) (ss:List (List UInt8)) (w:World) (hH:Holds encStr w blk off ss.toArray) (hblk:blk<w.heap.size) (hsz:ss.length<4611686018427387904) :
 Calls Tryz.prog 270 #[.slice (some ⟨blk,off,none⟩) ss.length cap] w fun e w' =>
  e=.returned (.tuple #[])∧∃n os,w'=grow (putRow encStr (Sort.ahead w n) blk off (ss.mergeSort fun x y=>decide (x≤y)).toArray) os:=Any.slices_Sort_string Tryz.lays190 blk off cap ss w hH hblk hsz
def Tryz.laysGw17_ren:Go.Shelf.Ren:=⟨fun | 17=>243 | 15=>272 | 20=>293 | n=>n,fun | 9=>9 | 23=>210 | 4=>4 | 3=>3 | 0=>0 | 21=>21 | n=>n,fun | n=>n⟩
theorem Tryz.laysGw17:Go.Proofs.LaysGw.n17 Tryz.prog Tryz.laysGw17_ren:={
 mixed:=by kernel_rfl
 f15:=Tryz.func272.trans (congrArg some (by kernel_rfl))
 f17:=Tryz.func243.trans (congrArg some (by kernel_rfl))
 f20:=Tryz.func293.trans (congrArg some (by kernel_rfl))
 t0:=Tryz.underlying0
 a0:=Tryz.isAgg0
 z0:=Tryz.sizeOf0
 v0:=Tryz.zeroValue0
 i0:=by kernel_rfl
 t3:=Tryz.underlying3
 a3:=Tryz.isAgg3
 z3:=Tryz.sizeOf3
 v3:=Tryz.zeroValue3
 i3:=by kernel_rfl
 t4:=Tryz.underlying4
 a4:=Tryz.isAgg4
 z4:=Tryz.sizeOf4
 v4:=Tryz.zeroValue4
 i4:=by kernel_rfl
 t9:=Tryz.underlying9
 a9:=Tryz.isAgg9
 z9:=Tryz.sizeOf9
 v9:=Tryz.zeroValue9
 i9:=by kernel_rfl
 t21:=Tryz.underlying21
 a21:=Tryz.isAgg21
 z21:=Tryz.sizeOf21
 v21:=Tryz.zeroValue21
 i21:=by kernel_rfl
 t23:=Tryz.underlying210
 a23:=Tryz.isAgg210
 z23:=Tryz.sizeOf210
 v23:=Tryz.zeroValue210
 i23:=by kernel_rfl }
open Go.RowKit Go.Lib in
theorem Tryz.strings_ContainsFunc (g:Nat) (lb:Array Value) (eg:∀args w,(callFunc g args).run Tryz.prog w=.ok (.enter g args) w) (p:Nat→Bool) (s:ByteArray) (w:World) (hp:PredAt Tryz.prog g lb encR p w) :
 Calls Tryz.prog 243 #[.string s,.func (.func g) #[] lb] w fun e w'=>e=.returned (.bool (decide (0≤Lib.idxFunc p true s)))∧Below w.heap.size w w':=Any.strings_ContainsFunc Tryz.laysGw17 g lb eg p s w hp
def Tryz.lays109_ren:Go.Shelf.Ren:=⟨fun | 109=>131 | n=>n,fun | 31=>27 | 9=>9 | 3=>3 | 0=>0 | 4=>4 | n=>n,fun | n=>n⟩
theorem Tryz.lays109:Go.Proofs.Lays.n109 Tryz.prog Tryz.lays109_ren:={
 mixed:=by kernel_rfl
 f109:=Tryz.func131.trans (congrArg some (by kernel_rfl))
 t0:=Tryz.underlying0
 a0:=Tryz.isAgg0
 z0:=Tryz.sizeOf0
 v0:=Tryz.zeroValue0
 t3:=Tryz.underlying3
 a3:=Tryz.isAgg3
 z3:=Tryz.sizeOf3
 v3:=Tryz.zeroValue3
 t4:=Tryz.underlying4
 a4:=Tryz.isAgg4
 z4:=Tryz.sizeOf4
 v4:=Tryz.zeroValue4
 t9:=Tryz.underlying9
 a9:=Tryz.isAgg9
 z9:=Tryz.sizeOf9
 v9:=Tryz.zeroValue9
 t31:=Tryz.underlying27
 a31:=Tryz.isAgg27
 z31:=Tryz.sizeOf27
 v31:=Tryz.zeroValue27 }
open Go.Lib in
theorem Tryz.slices_Index_string (b off n c:Nat) (zs:List ByteArray) (x:ByteArray) (w:World) (hz:n≤zs.length) (hbig:n≤9223372036854775807) (hc:∀j,j<zs.length→w.cell? ⟨b,off+j,none⟩=some (.string (zs.getD j ByteArray.empty))) :
 Calls Tryz.prog 131 #[.slice (some ⟨b,off,none⟩) n c,.string x] w fun e w'=>e=.returned (.int .i64 (Lib.idxOfS (zs.take n) x))∧w'=w:=Any.slices_Index_string Tryz.lays109 b off n c zs x w hz hbig hc
open Go.Lib in
theorem Tryz.slices_Index_string_empty (a:Option Addr) (c:Nat) (x:ByteArray) (w:World) :
 Calls Tryz.prog 131 #[.slice a 0 c,.string x] w fun e w'=>e=.returned (.int .i64 (Lib.idxOfS [] x))∧w'=w:=Any.slices_Index_string_empty Tryz.lays109 a c x w
open Go.RowKit Go.Lib in
open Go.RowKit Go.Lib in
open Go.RowKit Go.Lib in
def Tryz.lays194_ren:Go.Shelf.Ren:=⟨fun | 194=>241 | n=>n,fun | 31=>27 | 9=>9 | 3=>3 | 4=>4 | 0=>0 | n=>n,fun | n=>n⟩
theorem Tryz.lays194:Go.Proofs.Lays.n194 Tryz.prog Tryz.lays194_ren:={
 mixed:=by kernel_rfl
 f194:=Tryz.func241.trans (congrArg some (by kernel_rfl))
 t0:=Tryz.underlying0
 a0:=Tryz.isAgg0
 z0:=Tryz.sizeOf0
 v0:=Tryz.zeroValue0
 t3:=Tryz.underlying3
 a3:=Tryz.isAgg3
 z3:=Tryz.sizeOf3
 v3:=Tryz.zeroValue3
 t4:=Tryz.underlying4
 a4:=Tryz.isAgg4
 z4:=Tryz.sizeOf4
 v4:=Tryz.zeroValue4
 t9:=Tryz.underlying9
 a9:=Tryz.isAgg9
 z9:=Tryz.sizeOf9
 v9:=Tryz.zeroValue9
 t31:=Tryz.underlying27
 a31:=Tryz.isAgg27
 z31:=Tryz.sizeOf27
 v31:=Tryz.zeroValue27 }
open Go.RowKit Go.Lib Go.Sort in
theorem Tryz.slices_Compact_string (blk off cap:Nat) (zs:List (List UInt8)) (w:World) (hH:Holds encStr w blk off zs.toArray) (hsz:zs.length≤9223372036854775807) (hcap:zs.length≤cap) :
 Calls Tryz.prog 241 #[.slice (some ⟨blk,off,none⟩) zs.length cap] w fun e w'=>e=.returned (.slice (some ⟨blk,off,none⟩) (Lib.compact zs).length cap)∧∃q,w'=putRow encStr (Sort.ahead w q) blk off (Lib.compact zs++List.replicate (zs.length-(Lib.compact zs).length) []).toArray:=Any.slices_Compact_string Tryz.lays194 blk off cap zs w hH hsz hcap
open Go.RowKit Go.Lib Go.Sort in
theorem Tryz.slices_Compact_string_empty (a:Option Addr) (cap:Nat) (w:World) :
 Calls Tryz.prog 241 #[.slice a 0 cap] w fun e w'=>e=.returned (.slice a 0 cap)∧w'=w:=Any.slices_Compact_string_empty Tryz.lays194 a cap w
open Go.RowKit Go.Sort in
theorem Tryz.slices_Sort_string_none (p:Option Addr) (cap:Nat) (w:World) :
 Calls Tryz.prog 270 #[.slice p 0 cap] w fun e w'=>e=.returned (.tuple #[])∧w'=w:=Any.slices_Sort_string_none Tryz.lays190 p cap w
end Go.Proofs
