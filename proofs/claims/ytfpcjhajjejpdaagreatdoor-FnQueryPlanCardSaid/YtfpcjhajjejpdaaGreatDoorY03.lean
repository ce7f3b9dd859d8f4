import Derived.Test.YtfpcjhajjejpdaaGreatDoorY02
import Derived.Lib.AppendIntMem
import Derived.Shelf.Unicode.PredsPay
set_option maxHeartbeats 1000000
open Go.Lib renaming hid → zh
namespace Go.Proofs.YtfpcjhajjejpdaaGreatDoor
open Go.RowKit
theorem zEy (n a b:Int) (w:World) :
 Calls Tryz.prog 124 #[.int .i64 n,.int .i64 a,.int .i64 b] w fun e w'=>e=.returned (.bool (decide (a≤n)&&decide (n≤b)))∧w=w':=by
 by_cases h1:a≤n
 · by_cases h2:n≤b
   all_goals
    go_enter Tryz.func124,Tryz.ntmps124
    go_wp2
    go_ret;exact⟨zA0 (by first | (simp;done) | (simp;omega) | (rw[Bool.eq_iff_iff];simp;omega)),rfl⟩
 · go_enter Tryz.func124,Tryz.ntmps124
   go_wp2
   go_ret;exact⟨zA0 (by first | (simp;done) | (simp;omega) | (rw[Bool.eq_iff_iff];simp;omega)),rfl⟩
def vW (n:Int):Bool:=decide (-999999999999999999≤n)&&decide (n≤999999999999999999)
theorem uY (n:Int) (w:World) :
 Calls Tryz.prog 229 #[.int .i64 n] w fun e w'=>e=.returned (.bool (vW n))∧w=w':=by
 go_enter Tryz.func229,Tryz.ntmps229;go_wp2_with fail;refine(zEy _ _ _ _).mono ?_;rintro e w' ⟨rfl,rfl⟩;go_wp2_with fail;go_ret;exact⟨zA0 rfl,rfl⟩
def uX (w : World) : Prop := Lib.TabIs Tryz.prog w "internal/strconv.uint64pow10" .u64 Lib.pow10Tab
theorem vF {w w':World} (h:uX w) (hb:Below w.heap.size w w'):uX w':=TabIs_below (g:=3) (by kernel_rfl) h hb
theorem zAi (n:Nat):Lib.itoa (n:Int)=Lib.decDigits n:=by
 unfold Lib.itoa;rw[if_neg (by omega)];rfl
theorem zAP (n:Nat) (h:n≤999999999999999999):(Lib.decDigits n).length≤20:=by
 by_cases h0:n=0
 · subst h0;rw[Lib.decDigits_one (by omega)];simp
 · have h1:=zAj 20 n (by
    have:(10:Nat) ^ 20=100000000000000000000:=by decide
    omega)
   unfold uM at h1;rw[if_neg h0]at h1;exact h1
theorem zEv (n:Nat):1≤(Lib.decDigits n).length:=by
 rw[Lib.decDigits];split <;> simp
theorem zCc (n:Nat) (h:0<n):uM n=Lib.decDigits n:=by unfold uM;rw[if_neg (by omega)]
theorem zGB:uM 0=[]:=rfl
theorem zCm {n:Nat} (l:List UInt8) (h:l.length≤n):(Lib.trimRightB l 48).length≤n:=by
 have:=zGa l;unfold yO at this;rw[Lib.trimRightS_one]at this;omega
theorem zCq (Y:ByteArray) (r:Nat) (h:Y=⟨(Lib.decDigits (1000000+r)).toArray⟩):Lib.trimRightB (Y.extract 1 Y.size).data.toList 48=yO ((uM (1000000+r)).drop 1):=by
 rw[zIz,zCc _ (by omega)];unfold yO;rw[Lib.trimRightS_one,h]
set_option maxRecDepth 100000 in
theorem zKf (m:Nat) (w:World) (htab:uX w) (h1:0<m) (h2:m≤999999999999999999) (hq:m<1000000) (hr:0<m % 1000000) :
 Calls Tryz.prog 203 #[.int .i64 (m:Int)] w fun e w'=>e=.returned (.string ⟨(xE m).toArray⟩)∧Below w.heap.size w w':=by
 have hn:vW (m:Int)=true:=by simp[vW];omega
 have HK:=zh (fun W=>uY (m:Int) W);rw[hn]at HK;clear hn;have HT:=zh htab;clear htab;obtain⟨q,hqd⟩:∃q:Nat,q=m / 1000000:=⟨_,rfl⟩;obtain⟨r,hrd⟩:∃r:Nat,r=m % 1000000:=⟨_,rfl⟩;have e1:(m:Int) / 1000000=q:=by omega
 have e2:(m:Int) % 1000000=r:=by omega
 have HQ:=zh hqd;have HRD:=zh hrd;have hr9:r<1000000:=by omega
 have hm9:(m:Int)≤999999999999999999:=by omega
 have hm0:(0:Int)<m:=by omega
 have hq9:(q:Int)≤999999999999:=by omega
 have hq':decide ((1000000:Int)≤(m:Int))=false:=by rw[decide_eq_false_iff_not];omega
 have hr':(0:Int)<r:=by omega
 have HQ0:Hid (m / 1000000=0):=by unfold Hid;omega
 have hrp:0<r:=by omega
 have HR0:Hid (m % 1000000=r):=hrd.symm;have HM0:Hid (m≠0):=by unfold Hid;omega
 clear hqd hrd h2 h1 hq hr;go_enter Tryz.func203,Tryz.ntmps203;go_wp2_with fail;refine(HK.out _).mono ?_;rintro e w' ⟨rfl,rfl⟩;go_wp2_with fail;have HT1:=zh HT.out;have HB1:=zh (Below.refl w.heap.size w);have hF2:=Tryz.strconv_FormatInt_10 (1000000+(r:Int)) (by omega) (by omega) w HT1.out;refine hF2.mono ?_;rintro e w2 ⟨rfl,k2,os2,hw2⟩;have hB2:Below w.heap.size w w2:=by rw[hw2];exact Lib.below_grow _ _ (Nat.le_refl _) _ _
 have HB2:=zh (HB1.out.later hB2);clear hB2 hw2 hF2;rw[show(1000000+(r:Int))=((1000000+r:Nat):Int) from by omega,zAi];obtain⟨Y,hY⟩:∃Y:ByteArray,Y=⟨(Lib.decDigits (1000000+r)).toArray⟩:=⟨_,rfl⟩;rw[←hY];have hYs:Y.size≤20:=by rw[Lib.size_eq,hY];exact zAP _ (by omega)
 have hY1:1≤Y.size:=by rw[Lib.size_eq,hY];exact zEv _
 have HY:=zh hY;clear hY;go_wp2_with fail;refine(Tryz.strings_TrimRight_one _ 48 (by decide) _ (by rw[ByteArray.size_extract];omega)).mono ?_;rintro e w' ⟨rfl,rfl⟩;obtain⟨Z,hZ⟩:∃Z:ByteArray,Z=⟨(Lib.trimRightB (Y.extract 1 Y.size).data.toList 48).toArray⟩:=⟨_,rfl⟩;rw[←hZ];have hZs:Z.size≤20:=by rw[Lib.size_eq,hZ];exact zCm _ (by rw[←Lib.size_eq,ByteArray.size_extract];omega)
 have HZ:Hid (Z.data.toList=yO ((uM (1000000+r)).drop 1)):=by unfold Hid;rw[hZ];exact zCq Y r HY.out
 clear hZ;go_wp2_with fail;go_ret;refine⟨zO0 ?_,HB2.out⟩;apply ByteArray.ext;apply Array.toList_inj.1;have hA:xE m=[]++46::yO ((uM (1000000+r)).drop 1):=by unfold xE zCb;rw[if_neg HM0.out,HR0.out,if_neg (by omega),HQ0.out,zGB]
 rw[hA];rw[←HZ.out];simp
set_option maxRecDepth 100000 in
theorem zKg (m:Nat) (w:World) (htab:uX w) (h1:0<m) (h2:m≤999999999999999999) (hq:1000000≤m) (hr:m % 1000000=0) :
 Calls Tryz.prog 203 #[.int .i64 (m:Int)] w fun e w'=>e=.returned (.string ⟨(xE m).toArray⟩)∧Below w.heap.size w w':=by
 have hn:vW (m:Int)=true:=by simp[vW];omega
 have HK:=zh (fun W=>uY (m:Int) W);rw[hn]at HK;clear hn;have HT:=zh htab;clear htab;obtain⟨q,hqd⟩:∃q:Nat,q=m / 1000000:=⟨_,rfl⟩;obtain⟨r,hrd⟩:∃r:Nat,r=m % 1000000:=⟨_,rfl⟩;have e1:(m:Int) / 1000000=q:=by omega
 have e2:(m:Int) % 1000000=r:=by omega
 have HQ:=zh hqd;have HRD:=zh hrd;have hr9:r<1000000:=by omega
 have hm9:(m:Int)≤999999999999999999:=by omega
 have hm0:(0:Int)<m:=by omega
 have hq9:(q:Int)≤999999999999:=by omega
 have hq':(1000000:Int)≤m:=by omega
 have hr':¬(0:Int)<r:=by omega
 have hqp:0<q:=by omega
 have HR0:Hid (m % 1000000=r):=hrd.symm;have HM0:Hid (m≠0):=by unfold Hid;omega
 clear hqd hrd h2 h1 hq hr;go_enter Tryz.func203,Tryz.ntmps203;go_wp2_with fail;refine(HK.out _).mono ?_;rintro e w' ⟨rfl,rfl⟩;go_wp2_with fail;have hF1:=Tryz.strconv_FormatInt_10 (q:Int) (by omega) (by omega) w HT.out;refine hF1.mono ?_;rintro e w1 ⟨rfl,k1,os1,hw1⟩;have hB1:Below w.heap.size w w1:=by rw[hw1];exact Lib.below_grow _ _ (Nat.le_refl _) _ _
 have HT1:=zh (vF HT.out hB1);have HB1:=zh hB1;clear hB1 hw1 HT hF1;rw[zAi];obtain⟨X,hX⟩:∃X:ByteArray,X=⟨(Lib.decDigits q).toArray⟩:=⟨_,rfl⟩;rw[←hX];have hXs:X.size≤20:=by rw[Lib.size_eq,hX];exact zAP q (by omega)
 have HX:=zh hX;clear hX;go_wp2_with fail;go_ret;refine⟨zO0 ?_,HB1.out⟩;apply ByteArray.ext;apply Array.toList_inj.1;have hA:xE m=Lib.decDigits q++[]:=by unfold xE zCb;rw[if_neg HM0.out,HR0.out,if_pos (by omega),←HQ.out,zCc q (by omega)]
 rw[hA];have hX:=HX.out;subst hX;simp
set_option maxRecDepth 100000 in
theorem zIU (m:Nat) (w:World) (htab:uX w) (h1:0<m) (h2:m≤999999999999999999) (hq:1000000≤m) (hr:0<m % 1000000) :
 Calls Tryz.prog 203 #[.int .i64 (m:Int)] w fun e w'=>e=.returned (.string ⟨(xE m).toArray⟩)∧Below w.heap.size w w':=by
 have hn:vW (m:Int)=true:=by simp[vW];omega
 have HK:=zh (fun W=>uY (m:Int) W);rw[hn]at HK;clear hn;have HT:=zh htab;clear htab;obtain⟨q,hqd⟩:∃q:Nat,q=m / 1000000:=⟨_,rfl⟩;obtain⟨r,hrd⟩:∃r:Nat,r=m % 1000000:=⟨_,rfl⟩;have e1:(m:Int) / 1000000=q:=by omega
 have e2:(m:Int) % 1000000=r:=by omega
 have HQ:=zh hqd;have HRD:=zh hrd;have hr9:r<1000000:=by omega
 have hm9:(m:Int)≤999999999999999999:=by omega
 have hm0:(0:Int)<m:=by omega
 have hq9:(q:Int)≤999999999999:=by omega
 have hq':(1000000:Int)≤m:=by omega
 have hr':(0:Int)<r:=by omega
 have hqp:0<q:=by omega
 have hrp:0<r:=by omega
 have HR0:Hid (m % 1000000=r):=hrd.symm;have HM0:Hid (m≠0):=by unfold Hid;omega
 clear hqd hrd h2 h1 hq hr;go_enter Tryz.func203,Tryz.ntmps203;go_wp2_with fail;refine(HK.out _).mono ?_;rintro e w' ⟨rfl,rfl⟩;go_wp2_with fail;have hF1:=Tryz.strconv_FormatInt_10 (q:Int) (by omega) (by omega) w HT.out;refine hF1.mono ?_;rintro e w1 ⟨rfl,k1,os1,hw1⟩;have hB1:Below w.heap.size w w1:=by rw[hw1];exact Lib.below_grow _ _ (Nat.le_refl _) _ _
 have HT1:=zh (vF HT.out hB1);have HB1:=zh hB1;clear hB1 hw1 HT hF1;rw[zAi];obtain⟨X,hX⟩:∃X:ByteArray,X=⟨(Lib.decDigits q).toArray⟩:=⟨_,rfl⟩;rw[←hX];have hXs:X.size≤20:=by rw[Lib.size_eq,hX];exact zAP q (by omega)
 have HX:=zh hX;clear hX;go_wp2_with fail;have hF2:=Tryz.strconv_FormatInt_10 (1000000+(r:Int)) (by omega) (by omega) w1 HT1.out;refine hF2.mono ?_;rintro e w2 ⟨rfl,k2,os2,hw2⟩;have hB2:Below w1.heap.size w1 w2:=by rw[hw2];exact Lib.below_grow _ _ (Nat.le_refl _) _ _
 have HB2:=zh (HB1.out.later hB2);clear hB2 hw2 hF2;rw[show(1000000+(r:Int))=((1000000+r:Nat):Int) from by omega,zAi];obtain⟨Y,hY⟩:∃Y:ByteArray,Y=⟨(Lib.decDigits (1000000+r)).toArray⟩:=⟨_,rfl⟩;rw[←hY];have hYs:Y.size≤20:=by rw[Lib.size_eq,hY];exact zAP _ (by omega)
 have hY1:1≤Y.size:=by rw[Lib.size_eq,hY];exact zEv _
 have HY:=zh hY;clear hY;go_wp2_with fail;refine(Tryz.strings_TrimRight_one _ 48 (by decide) _ (by rw[ByteArray.size_extract];omega)).mono ?_;rintro e w' ⟨rfl,rfl⟩;obtain⟨Z,hZ⟩:∃Z:ByteArray,Z=⟨(Lib.trimRightB (Y.extract 1 Y.size).data.toList 48).toArray⟩:=⟨_,rfl⟩;rw[←hZ];have hZs:Z.size≤20:=by rw[Lib.size_eq,hZ];exact zCm _ (by rw[←Lib.size_eq,ByteArray.size_extract];omega)
 have HZ:Hid (Z.data.toList=yO ((uM (1000000+r)).drop 1)):=by unfold Hid;rw[hZ];exact zCq Y r HY.out
 clear hZ;go_wp2_with fail;go_ret;refine⟨zO0 ?_,HB2.out⟩;apply ByteArray.ext;apply Array.toList_inj.1;have hA:xE m=Lib.decDigits q++46::yO ((uM (1000000+r)).drop 1):=by unfold xE zCb;rw[if_neg HM0.out,HR0.out,if_neg (by omega),←HQ.out,zCc q (by omega)]
 rw[hA];rw[←HZ.out];have hX:=HX.out;subst hX;simp
set_option maxRecDepth 100000 in
theorem zKh (m:Nat) (w:World) (htab:uX w) (h1:0<m) (h2:m≤999999999999999999) (hq:m<1000000) (hr:0<m % 1000000) :
 Calls Tryz.prog 203 #[.int .i64 (-(m:Int))] w fun e w'=>e=.returned (.string ⟨(45::xE m).toArray⟩)∧Below w.heap.size w w':=by
 have hn:vW (-(m:Int))=true:=by simp[vW];omega
 have HK:=zh (fun W=>uY (-(m:Int)) W);rw[hn]at HK;clear hn;have HT:=zh htab;clear htab;obtain⟨q,hqd⟩:∃q:Nat,q=m / 1000000:=⟨_,rfl⟩;obtain⟨r,hrd⟩:∃r:Nat,r=m % 1000000:=⟨_,rfl⟩;have e1:(m:Int) / 1000000=q:=by omega
 have e2:(m:Int) % 1000000=r:=by omega
 have HQ:=zh hqd;have HRD:=zh hrd;have hr9:r<1000000:=by omega
 have hm9:(m:Int)≤999999999999999999:=by omega
 have hm0:(0:Int)<m:=by omega
 have hq9:(q:Int)≤999999999999:=by omega
 have hq':decide ((1000000:Int)≤(m:Int))=false:=by rw[decide_eq_false_iff_not];omega
 have hr':(0:Int)<r:=by omega
 have HQ0:Hid (m / 1000000=0):=by unfold Hid;omega
 have hrp:0<r:=by omega
 have HR0:Hid (m % 1000000=r):=hrd.symm;have HM0:Hid (m≠0):=by unfold Hid;omega
 clear hqd hrd h2 h1 hq hr;go_enter Tryz.func203,Tryz.ntmps203;go_wp2_with fail;refine(HK.out _).mono ?_;rintro e w' ⟨rfl,rfl⟩;go_wp2_with fail;have HT1:=zh HT.out;have HB1:=zh (Below.refl w.heap.size w);have hF2:=Tryz.strconv_FormatInt_10 (1000000+(r:Int)) (by omega) (by omega) w HT1.out;refine hF2.mono ?_;rintro e w2 ⟨rfl,k2,os2,hw2⟩;have hB2:Below w.heap.size w w2:=by rw[hw2];exact Lib.below_grow _ _ (Nat.le_refl _) _ _
 have HB2:=zh (HB1.out.later hB2);clear hB2 hw2 hF2;rw[show(1000000+(r:Int))=((1000000+r:Nat):Int) from by omega,zAi];obtain⟨Y,hY⟩:∃Y:ByteArray,Y=⟨(Lib.decDigits (1000000+r)).toArray⟩:=⟨_,rfl⟩;rw[←hY];have hYs:Y.size≤20:=by rw[Lib.size_eq,hY];exact zAP _ (by omega)
 have hY1:1≤Y.size:=by rw[Lib.size_eq,hY];exact zEv _
 have HY:=zh hY;clear hY;go_wp2_with fail;refine(Tryz.strings_TrimRight_one _ 48 (by decide) _ (by rw[ByteArray.size_extract];omega)).mono ?_;rintro e w' ⟨rfl,rfl⟩;obtain⟨Z,hZ⟩:∃Z:ByteArray,Z=⟨(Lib.trimRightB (Y.extract 1 Y.size).data.toList 48).toArray⟩:=⟨_,rfl⟩;rw[←hZ];have hZs:Z.size≤20:=by rw[Lib.size_eq,hZ];exact zCm _ (by rw[←Lib.size_eq,ByteArray.size_extract];omega)
 have HZ:Hid (Z.data.toList=yO ((uM (1000000+r)).drop 1)):=by unfold Hid;rw[hZ];exact zCq Y r HY.out
 clear hZ;go_wp2_with fail;go_ret;refine⟨zO0 ?_,HB2.out⟩;apply ByteArray.ext;apply Array.toList_inj.1;have hA:xE m=[]++46::yO ((uM (1000000+r)).drop 1):=by unfold xE zCb;rw[if_neg HM0.out,HR0.out,if_neg (by omega),HQ0.out,zGB]
 rw[hA];rw[←HZ.out];simp
set_option maxRecDepth 100000 in
theorem zKi (m:Nat) (w:World) (htab:uX w) (h1:0<m) (h2:m≤999999999999999999) (hq:1000000≤m) (hr:m % 1000000=0) :
 Calls Tryz.prog 203 #[.int .i64 (-(m:Int))] w fun e w'=>e=.returned (.string ⟨(45::xE m).toArray⟩)∧Below w.heap.size w w':=by
 have hn:vW (-(m:Int))=true:=by simp[vW];omega
 have HK:=zh (fun W=>uY (-(m:Int)) W);rw[hn]at HK;clear hn;have HT:=zh htab;clear htab;obtain⟨q,hqd⟩:∃q:Nat,q=m / 1000000:=⟨_,rfl⟩;obtain⟨r,hrd⟩:∃r:Nat,r=m % 1000000:=⟨_,rfl⟩;have e1:(m:Int) / 1000000=q:=by omega
 have e2:(m:Int) % 1000000=r:=by omega
 have HQ:=zh hqd;have HRD:=zh hrd;have hr9:r<1000000:=by omega
 have hm9:(m:Int)≤999999999999999999:=by omega
 have hm0:(0:Int)<m:=by omega
 have hq9:(q:Int)≤999999999999:=by omega
 have hq':(1000000:Int)≤m:=by omega
 have hr':¬(0:Int)<r:=by omega
 have hqp:0<q:=by omega
 have HR0:Hid (m % 1000000=r):=hrd.symm;have HM0:Hid (m≠0):=by unfold Hid;omega
 clear hqd hrd h2 h1 hq hr;go_enter Tryz.func203,Tryz.ntmps203;go_wp2_with fail;refine(HK.out _).mono ?_;rintro e w' ⟨rfl,rfl⟩;go_wp2_with fail;have hF1:=Tryz.strconv_FormatInt_10 (q:Int) (by omega) (by omega) w HT.out;refine hF1.mono ?_;rintro e w1 ⟨rfl,k1,os1,hw1⟩;have hB1:Below w.heap.size w w1:=by rw[hw1];exact Lib.below_grow _ _ (Nat.le_refl _) _ _
 have HT1:=zh (vF HT.out hB1);have HB1:=zh hB1;clear hB1 hw1 HT hF1;rw[zAi];obtain⟨X,hX⟩:∃X:ByteArray,X=⟨(Lib.decDigits q).toArray⟩:=⟨_,rfl⟩;rw[←hX];have hXs:X.size≤20:=by rw[Lib.size_eq,hX];exact zAP q (by omega)
 have HX:=zh hX;clear hX;go_wp2_with fail;go_ret;refine⟨zO0 ?_,HB1.out⟩;apply ByteArray.ext;apply Array.toList_inj.1;have hA:xE m=Lib.decDigits q++[]:=by unfold xE zCb;rw[if_neg HM0.out,HR0.out,if_pos (by omega),←HQ.out,zCc q (by omega)]
 rw[hA];have hX:=HX.out;subst hX;simp
set_option maxRecDepth 100000 in
theorem zIV (m:Nat) (w:World) (htab:uX w) (h1:0<m) (h2:m≤999999999999999999) (hq:1000000≤m) (hr:0<m % 1000000) :
 Calls Tryz.prog 203 #[.int .i64 (-(m:Int))] w fun e w'=>e=.returned (.string ⟨(45::xE m).toArray⟩)∧Below w.heap.size w w':=by
 have hn:vW (-(m:Int))=true:=by simp[vW];omega
 have HK:=zh (fun W=>uY (-(m:Int)) W);rw[hn]at HK;clear hn;have HT:=zh htab;clear htab;obtain⟨q,hqd⟩:∃q:Nat,q=m / 1000000:=⟨_,rfl⟩;obtain⟨r,hrd⟩:∃r:Nat,r=m % 1000000:=⟨_,rfl⟩;have e1:(m:Int) / 1000000=q:=by omega
 have e2:(m:Int) % 1000000=r:=by omega
 have HQ:=zh hqd;have HRD:=zh hrd;have hr9:r<1000000:=by omega
 have hm9:(m:Int)≤999999999999999999:=by omega
 have hm0:(0:Int)<m:=by omega
 have hq9:(q:Int)≤999999999999:=by omega
 have hq':(1000000:Int)≤m:=by omega
 have hr':(0:Int)<r:=by omega
 have hqp:0<q:=by omega
 have hrp:0<r:=by omega
 have HR0:Hid (m % 1000000=r):=hrd.symm;have HM0:Hid (m≠0):=by unfold Hid;omega
 clear hqd hrd h2 h1 hq hr;go_enter Tryz.func203,Tryz.ntmps203;go_wp2_with fail;refine(HK.out _).mono ?_;rintro e w' ⟨rfl,rfl⟩;go_wp2_with fail;have hF1:=Tryz.strconv_FormatInt_10 (q:Int) (by omega) (by omega) w HT.out;refine hF1.mono ?_;rintro e w1 ⟨rfl,k1,os1,hw1⟩;have hB1:Below w.heap.size w w1:=by rw[hw1];exact Lib.below_grow _ _ (Nat.le_refl _) _ _
 have HT1:=zh (vF HT.out hB1);have HB1:=zh hB1;clear hB1 hw1 HT hF1;rw[zAi];obtain⟨X,hX⟩:∃X:ByteArray,X=⟨(Lib.decDigits q).toArray⟩:=⟨_,rfl⟩;rw[←hX];have hXs:X.size≤20:=by rw[Lib.size_eq,hX];exact zAP q (by omega)
 have HX:=zh hX;clear hX;go_wp2_with fail;have hF2:=Tryz.strconv_FormatInt_10 (1000000+(r:Int)) (by omega) (by omega) w1 HT1.out;refine hF2.mono ?_;rintro e w2 ⟨rfl,k2,os2,hw2⟩;have hB2:Below w1.heap.size w1 w2:=by rw[hw2];exact Lib.below_grow _ _ (Nat.le_refl _) _ _
 have HB2:=zh (HB1.out.later hB2);clear hB2 hw2 hF2;rw[show(1000000+(r:Int))=((1000000+r:Nat):Int) from by omega,zAi];obtain⟨Y,hY⟩:∃Y:ByteArray,Y=⟨(Lib.decDigits (1000000+r)).toArray⟩:=⟨_,rfl⟩;rw[←hY];have hYs:Y.size≤20:=by rw[Lib.size_eq,hY];exact zAP _ (by omega)
 have hY1:1≤Y.size:=by rw[Lib.size_eq,hY];exact zEv _
 have HY:=zh hY;clear hY;go_wp2_with fail;refine(Tryz.strings_TrimRight_one _ 48 (by decide) _ (by rw[ByteArray.size_extract];omega)).mono ?_;rintro e w' ⟨rfl,rfl⟩;obtain⟨Z,hZ⟩:∃Z:ByteArray,Z=⟨(Lib.trimRightB (Y.extract 1 Y.size).data.toList 48).toArray⟩:=⟨_,rfl⟩;rw[←hZ];have hZs:Z.size≤20:=by rw[Lib.size_eq,hZ];exact zCm _ (by rw[←Lib.size_eq,ByteArray.size_extract];omega)
 have HZ:Hid (Z.data.toList=yO ((uM (1000000+r)).drop 1)):=by unfold Hid;rw[hZ];exact zCq Y r HY.out
 clear hZ;go_wp2_with fail;go_ret;refine⟨zO0 ?_,HB2.out⟩;apply ByteArray.ext;apply Array.toList_inj.1;have hA:xE m=Lib.decDigits q++46::yO ((uM (1000000+r)).drop 1):=by unfold xE zCb;rw[if_neg HM0.out,HR0.out,if_neg (by omega),←HQ.out,zCc q (by omega)]
 rw[hA];rw[←HZ.out];have hX:=HX.out;subst hX;simp
theorem zIW (n:Int) (w:World) (htab:uX w) (h1:-999999999999999999≤n) (h2:n≤999999999999999999) :
 Calls Tryz.prog 203 #[.int .i64 n] w fun e w'=>e=.returned (.string ⟨(uO n).toArray⟩)∧Below w.heap.size w w':=by
 rcases Int.lt_trichotomy n 0 with h | h | h
 · have hE:uO n=45::xE n.natAbs:=if_pos h;rw[hE];obtain⟨m,rfl⟩:∃m:Nat,n=-(m:Int):=⟨n.natAbs,by omega⟩;rw[Int.natAbs_neg,Int.natAbs_natCast];by_cases hq:1000000≤m <;> by_cases hr:0<m % 1000000
   · exact zIV m w htab (by omega) (by omega) hq hr
   · exact zKi m w htab (by omega) (by omega) hq (by omega)
   · exact zKh m w htab (by omega) (by omega) (by omega) hr
   · omega
 · subst h;have HK:=zh (fun W=>uY 0 W);have HE:Hid ((⟨#[48]⟩:ByteArray)=⟨(uO 0).toArray⟩):=rfl;rw[show vW 0=true from by decide]at HK;go_enter Tryz.func203,Tryz.ntmps203;go_wp2_with fail;refine(HK.out _).mono ?_;rintro e w' ⟨rfl,rfl⟩;go_wp2_with fail;go_ret;exact⟨zO0 HE.out,Below.refl _ _⟩
 · have hE:uO n=xE n.toNat:=if_neg (by omega);rw[hE];obtain⟨m,rfl⟩:=Int.eq_ofNat_of_zero_le (show 0≤n by omega);rw[Int.toNat_natCast];by_cases hq:1000000≤m <;> by_cases hr:0<m % 1000000
   · exact zIU m w htab (by omega) (by omega) hq hr
   · exact zKg m w htab (by omega) (by omega) hq (by omega)
   · exact zKf m w htab (by omega) (by omega) (by omega) hr
   · omega
theorem zEg (s:ByteArray) (w:World) (htab:uX w) (hs:s.size≤1048576) :
 Calls Tryz.prog 168 #[.string s] w fun e w'=>e=.returned (.bool (wF s))∧Below w.heap.size w w':=by
 have hbd:=zHQ s.data.toList;have HK1:=zh (fun W=>zDG s W hs);rw[zKz]at HK1;have HK2:=zh (fun W hW=>zIW (xT s.data.toList) W hW hbd.1 hbd.2);have HE:Hid (wF s=decide (uO (xT s.data.toList)=s.data.toList)):=rfl;have HT:=zh htab;clear hbd htab;generalize xT s.data.toList=n at *;generalize uO n=l at *;go_enter Tryz.func168,Tryz.ntmps168;go_wp2_with fail;refine(HK1.out _).mono ?_;rintro e w1 ⟨rfl,hb1⟩;have HT1:=zh (vF HT.out hb1);have HB1:=zh hb1;clear hb1;go_wp2_with fail;refine(HK2.out _ HT1.out).mono ?_;rintro e w2 ⟨rfl,hb2⟩;have HB2:=zh (HB1.out.later hb2);clear hb2;go_wp2_with fail;go_ret;refine⟨zA0 ?_,HB2.out⟩;rw[HE.out,←wE,Bool.eq_iff_iff];simp
end Go.Proofs.YtfpcjhajjejpdaaGreatDoor
namespace Go.Proofs.YtfpcjhajjejpdaaGreatDoor
open Go.RowKit
def uH (c:UInt8):Bool:=(decide (97≤c.toNat)&&decide (c.toNat≤122))||(decide (65≤c.toNat)&&decide (c.toNat≤90))
def zGn:List UInt8→Bool
 | []=>false
 | c::r=>(uH c||decide (c=37))&&r.all (fun x=>uH x||isD x)
def xB (s:ByteArray):Bool:=decide (s.size≤8)&&zGn s.data.toList
def zAc (s:ByteArray):Bool:=decide (1≤s.size)&&decide (s.size≤24)
def wT (l:List ByteArray):Bool:=decide (l.length≤4)&&l.all zAc
def wB (a b:ByteArray):Bool:=if (wF a&&wF b)=true then decide (xT a.data.toList<xT b.data.toList) else if (wF a != wF b)=true then wF a else Op.bytesLess a.toList b.toList
theorem zCy (c:UInt8) (w:World) :
 Calls Tryz.prog 215 #[.int .u8 c.toNat] w fun e w'=>e=.returned (.bool (uH c))∧w=w':=by
 unfold uH;generalize c.toNat=n;by_cases h1:97≤n
 · by_cases h2:n≤122
   all_goals
    go_enter Tryz.func215,Tryz.ntmps215
    go_wp2
    all_goals
     go_ret;exact⟨zA0 (by first | (simp;done) | (simp;omega) | (rw[Bool.eq_iff_iff];simp;omega)),rfl⟩
 · by_cases h3:65≤n
   · by_cases h4:n≤90
     all_goals
      go_enter Tryz.func215,Tryz.ntmps215
      go_wp2
      all_goals
       go_ret;exact⟨zA0 (by first | (simp;done) | (simp;omega) | (rw[Bool.eq_iff_iff];simp;omega)),rfl⟩
   · go_enter Tryz.func215,Tryz.ntmps215
     go_wp2
     all_goals
      go_ret;exact⟨zA0 (by first | (simp;done) | (simp;omega) | (rw[Bool.eq_iff_iff];simp;omega)),rfl⟩
theorem zJK (s:ByteArray) (w:World) (hs:s.size≤1048576) :
 Calls Tryz.prog 242 #[.string s] w fun e w'=>e=.returned (.bool (zAc s))∧w=w':=by
 unfold zAc;by_cases h1:1≤s.size
 · by_cases h2:s.size≤24
   all_goals
    go_enter Tryz.func242,Tryz.ntmps242
    go_wp2
    go_ret;exact⟨zA0 (by first | (simp;done) | (simp;omega) | (rw[Bool.eq_iff_iff];simp;omega)),rfl⟩
 · go_enter Tryz.func242,Tryz.ntmps242
   go_wp2
   go_ret;exact⟨zA0 (by first | (simp;done) | (simp;omega) | (rw[Bool.eq_iff_iff];simp;omega)),rfl⟩
theorem zLK {α:Type} (p:α→Bool) (l:List α) (k:Nat) (h:k<l.length):(l.drop k).all p=(p l[k]&&(l.drop (k+1)).all p):=by
 rw[List.drop_eq_getElem_cons h];rfl
theorem zIl (A:Option Addr) (n c:Nat) (ss:List ByteArray) (w:World) (h:Strs w w.heap.size A n ss) (hn:n≤1048576) (hz:∀s∈ss,s.size≤1048576) :
 Calls Tryz.prog 216 #[.slice A n c] w fun e w'=>e=.returned (.bool (wT ss))∧w=w':=by
 have Hlen:=zh h.1;have HC:=zh h.2;have Hz:=zh hz;clear h hz;by_cases h4:4<n
 · have HE:Hid (wT ss=false):=by unfold Hid wT;rw[Hlen.out,decide_eq_false (by omega)];rfl
   go_enter Tryz.func216,Tryz.ntmps216;go_wp2_with fail;go_ret;exact⟨zA0 HE.out.symm,rfl⟩
 · have HE:Hid (wT ss=ss.all zAc):=by unfold Hid wT;rw[Hlen.out,decide_eq_true (by omega)];rfl
   go_enter Tryz.func216,Tryz.ntmps216;go_wp2_with fail
   go_loop [3] (fun i=>∃k:Nat,k≤n∧i=.int .i64 k∧Hid (ss.all zAc=(ss.drop k).all zAc)) (fun i=>n-(intOf i).toNat)
   case atStart=>exact⟨0,Nat.zero_le _,rfl,rfl⟩
   case round =>
    obtain⟨k,hk,rfl,hS⟩:=hrel;by_cases hlt:k<n
    · obtain⟨b,o,rfl,hb,hcell⟩:=HC.out (by omega);have hck:=hcell k hlt;have hl:k<ss.length:=by rw[Hlen.out];exact hlt
      have HS:Hid ((ss.drop k).all zAc=(zAc (ss.getD k ByteArray.empty)&&(ss.drop (k+1)).all zAc)):=by unfold Hid;rw[zLK _ _ _ hl,List.getD_eq_getElem?_getD,List.getElem?_eq_getElem hl];rfl
      have hsz:=Hz.out (ss.getD k ByteArray.empty) (by rw[List.getD_eq_getElem?_getD,List.getElem?_eq_getElem hl];simp);clear hcell hl;generalize ss.getD k ByteArray.empty=s at *;have HK:=zh (zJK s w hsz);go_wp2_with fail;refine HK.out.mono ?_;rintro e w' ⟨rfl,rfl⟩;cases hx:zAc s
      · have HX:=zh hx;clear hx;go_wp2_with fail;go_ret;exact⟨zA0 (by rw[HE.out,hS.out,HS.out,HX.out];rfl),rfl⟩
      · have HX:=zh hx;clear hx;go_wp2_with fail
        go_round
        case rel=>exact⟨k+1,by omega,by go_num,by unfold Hid;rw[hS.out,HS.out,HX.out];rfl⟩
        case measure=>simp[intOf];omega
    · go_wp2_with fail;go_ret;exact⟨zA0 (by rw[HE.out,hS.out,List.drop_of_length_le (by rw[Hlen.out];omega)];rfl),rfl⟩
theorem zET (s:ByteArray) (h:0<s.size):zGn s.data.toList=((uH s[0]||decide (s[0]=37))&&(s.data.toList.drop 1).all (fun x=>uH x||isD x)):=by
 have:=yN s 0 h;rw[List.drop_zero]at this;rw[this];rfl
theorem zIn (s:ByteArray) (w:World) (hs:s.size≤1048576) :
 Calls Tryz.prog 184 #[.string s] w fun e w'=>e=.returned (.bool (xB s))∧w=w':=by
 by_cases h1:s.size<1
 · have HE:Hid (xB s=false):=by unfold Hid xB;rw[List.eq_nil_of_length_eq_zero (show s.data.toList.length=0 by rw[←Lib.size_eq];omega)];simp[zGn]
   go_enter Tryz.func184,Tryz.ntmps184;go_wp2_with fail;go_ret;exact⟨zA0 HE.out.symm,rfl⟩
 · by_cases h8:8<s.size
   · have HE:Hid (xB s=false):=by unfold Hid xB;rw[decide_eq_false (by omega)];rfl
     go_enter Tryz.func184,Tryz.ntmps184;go_wp2_with fail;go_ret;exact⟨zA0 HE.out.symm,rfl⟩
   · have h0:0<s.size:=by omega
     have HE:Hid (xB s=((uH s[0]||decide (s[0]=37))&&(s.data.toList.drop 1).all (fun x=>uH x||isD x))):=by unfold Hid xB;rw[decide_eq_true (by omega),zET s h0];rfl
     have HK0:=zh (zCy s[0]);have hbe:=zDk s[0] 37 (by omega);by_cases hf:(uH s[0]||decide (s[0]=37))=true
     · have HF:=zh hf;have HE2:Hid (xB s=(s.data.toList.drop 1).all (fun x=>uH x||isD x)):=by unfold Hid;rw[HE.out,hf];rfl
       have hbn:uH s[0]=false→((s[0].toNat:Int) != 37)=false:=fun h=>by
        rw[h]at hf;have:s[0]=37:=by simpa using hf
        rw[this];rfl
       have HBN:=zh hbn;clear hbn hf hbe HE;go_enter Tryz.func184,Tryz.ntmps184;go_wp2_with fail;refine(HK0.out _).mono ?_;rintro e w' ⟨rfl,rfl⟩;cases hl:uH s[0]
       all_goals
        have hq:=HBN.out
        first
          | (have hq2:=hq hl;clear hq)
          | clear hq
        clear hl HBN HF HK0;go_wp2_with fail
        go_loop [3] (fun i=>∃k:Nat,1≤k∧k≤s.size∧i=.int .i64 k∧Hid ((s.data.toList.drop 1).all (fun x=>uH x||isD x)=(s.data.toList.drop k).all (fun x=>uH x||isD x))) (fun i=>s.size-(intOf i).toNat)
        case atStart=>exact⟨1,by omega,by omega,rfl,rfl⟩
        case round =>
         obtain⟨k,hk1,hk,rfl,hS⟩:=hrel;by_cases hlt:k<s.size
         · have HD:=zh (yN s k hlt);have HK1:=zh (zCy s[k]);have HK2:=zh (zBv s[k]);go_wp2_with fail;refine(HK1.out _).mono ?_;rintro e w' ⟨rfl,rfl⟩;cases hl1:uH s[k]
           · have HL:=zh hl1;clear hl1;go_wp2_with fail;refine(HK2.out _).mono ?_;rintro e w' ⟨rfl,rfl⟩;cases hd1:isD s[k]
             · have HD1:=zh hd1;clear hd1;go_wp2_with fail;go_ret;exact⟨zA0 (by rw[HE2.out,hS.out,HD.out,List.all_cons,HL.out,HD1.out];rfl),rfl⟩
             · have HD1:=zh hd1;clear hd1;go_wp2_with fail
               go_round
               case rel=>exact⟨k+1,by omega,by omega,by go_num,by unfold Hid;rw[hS.out,HD.out,List.all_cons,HD1.out];simp⟩
               case measure=>simp[intOf];omega
           · have HL:=zh hl1;clear hl1;go_wp2_with fail
             go_round
             case rel=>exact⟨k+1,by omega,by omega,by go_num,by unfold Hid;rw[hS.out,HD.out,List.all_cons,HL.out];simp⟩
             case measure=>simp[intOf];omega
         · go_wp2_with fail;go_ret;exact⟨zA0 (by rw[HE2.out,hS.out,yX s k (by omega)];rfl),rfl⟩
     · have HE2:Hid (xB s=false):=by unfold Hid;rw[HE.out,Bool.not_eq_true _ |>.mp hf];rfl
       have hl0:uH s[0]=false:=by
        cases hx:uH s[0]
        · rfl
        · rw[hx]at hf;simp at hf
       have hb2:((s[0].toNat:Int) != 37)=true:=by
        rw[hl0]at hf;have h37:s[0]≠37:=by simpa using hf
        have hx:((s[0].toNat:Int)==37)=false:=by rw[decide_eq_false (by exact h37)]at hbe;exact hbe
        simp only[bne,hx];rfl
       rw[hl0]at HK0;clear hbe hf HE hl0;go_enter Tryz.func184,Tryz.ntmps184;go_wp2_with fail;refine(HK0.out _).mono ?_;rintro e w' ⟨rfl,rfl⟩;go_wp2_with fail;go_ret;exact⟨zA0 HE2.out.symm,rfl⟩
theorem zCz (a b:ByteArray) (w:World) (ha:a.size≤1048576) (hb:b.size≤1048576) :
 Calls Tryz.prog 55 #[.string a,.string b] w fun e w'=>e=.returned (.bool (wB a b))∧Below w.heap.size w w':=by
 have HK1:=zh (fun W=>zCX a W ha);have HK2:=zh (fun W=>zCX b W hb);have HK3:=zh (fun W=>zDB a W ha);have HK4:=zh (fun W=>zDB b W hb);have hR:wB a b=wB a b:=rfl
 conv at hR=>rhs;unfold wB
 generalize wB a b=R at *;generalize wF a=x at *;generalize wF b=y at *;generalize xT a.data.toList=p at *;generalize xT b.data.toList=q at *;have HR:=zh hR;clear hR;go_enter Tryz.func55,Tryz.ntmps55;go_wp2_with fail;refine(HK1.out _).mono ?_;rintro e w1 ⟨rfl,hb1⟩;have HB1:=zh hb1;clear hb1;go_wp2_with fail;refine(HK2.out _).mono ?_;rintro e w2 ⟨rfl,hb2⟩;have HB2:=zh (HB1.out.later hb2);clear hb2;cases x
 · cases y
   · have HE:Hid (R=Op.bytesLess a.toList b.toList):=HR.out;go_wp2_with fail;go_ret;exact⟨zA0 HE.out.symm,HB2.out⟩
   · have HE:Hid (R=false):=HR.out;go_wp2_with fail;go_ret;exact⟨zA0 HE.out.symm,HB2.out⟩
 · cases y
   · have HE:Hid (R=true):=HR.out;go_wp2_with fail;go_ret;exact⟨zA0 HE.out.symm,HB2.out⟩
   · have HE:Hid (R=decide (p<q)):=HR.out;go_wp2_with fail;refine(HK3.out _).mono ?_;rintro e w3 ⟨rfl,rfl⟩;go_wp2_with fail;refine(HK4.out _).mono ?_;rintro e w4 ⟨rfl,rfl⟩;go_wp2_with fail;go_ret;exact⟨zA0 HE.out.symm,HB2.out⟩
end Go.Proofs.YtfpcjhajjejpdaaGreatDoor
