import Derived.Test.YtgmaamnofhmecaaGreatDoorZ00
import Derived.Test.YtgmaamnofhmecaaGreatDoorProg
import Derived.Test.YtgmaamnofhmecaaGreatDoorZ01
import Derived.Deep.CutBlock
import Derived.Deep.DeepCutAuto
import Derived.Deep.RegionWith
import Derived.IntWalk
import Derived.Lib.ItoaNum
import Derived.Lib.SlTrimSet
set_option maxHeartbeats 2000000
open Go.Lib renaming hid → zh
namespace Go.Proofs.YtgmaamnofhmecaaGreatDoor
open Go.RowKit
theorem zAb (c:UInt8) (w:World) :
 Calls Tryz.prog 250 #[.int .u8 c.toNat] w fun e w'=>e=.returned (.bool (isD c))∧w=w':=by
 unfold isD;generalize c.toNat=n;by_cases h1:48≤n
 · by_cases h2:n≤57
   all_goals
    go_enter Tryz.func250,Tryz.ntmps250
    go_wp2
    go_ret;exact⟨zA0 (by first | (simp;done) | (simp;omega) | (rw[Bool.eq_iff_iff];simp;omega)),rfl⟩
 · go_enter Tryz.func250,Tryz.ntmps250
   go_wp2
   go_ret;exact⟨zA0 (by first | (simp;done) | (simp;omega) | (rw[Bool.eq_iff_iff];simp;omega)),rfl⟩
theorem wO (a b:Int) (w:World) :
 Calls Tryz.prog 309 #[.int .i64 a,.int .i64 b] w fun e w'=>e=.returned (.int .i64 (min a b))∧w=w':=by
 by_cases h:a<b
 · go_enter Tryz.func309,Tryz.ntmps309
   go_wp2
   go_ret;exact⟨yB (by omega),rfl⟩
 · go_enter Tryz.func309,Tryz.ntmps309
   go_wp2
   go_ret;exact⟨yB (by omega),rfl⟩
theorem zBJ (c:UInt8) (n:Nat) (hn:n<256):((c.toNat:Int)==(n:Int))=decide (c=UInt8.ofNat n):=by
 rw[Bool.eq_iff_iff,beq_iff_eq,decide_eq_true_iff];constructor
 · intro h;apply UInt8.toNat_inj.1;rw[UInt8.toNat_ofNat',Nat.mod_eq_of_lt hn];omega
 · rintro rfl;rw[UInt8.toNat_ofNat',Nat.mod_eq_of_lt hn]
theorem zL0 (s:ByteArray) (k:Nat) (hk:k<s.size):s.data.toList.drop k=s[k]::s.data.toList.drop (k+1) :=
 List.drop_eq_getElem_cons (by rw[←Lib.size_eq];exact hk)
theorem uU (s:ByteArray) (k:Nat) (hk:s.size≤k):s.data.toList.drop k=[]:=List.drop_of_length_le (by rw[←Lib.size_eq];exact hk)
set_option maxRecDepth 100000 in
theorem zAT (s:ByteArray) (w:World) (hs:s.size≤1048576) :
 Calls Tryz.prog 288 #[.string s] w fun e w'=>e=.returned (.int .i64 (xH s.data.toList))∧w=w':=by
 go_enter Tryz.func288,Tryz.ntmps288
 go_upto_block 0 with (fail)
 go_cut [3,4] (fun i m wx=>w=wx∧∃(k:Nat) (b:Bool),k≤s.size∧i=.int .i64 k∧m=.bool b∧Hid (zW0 s.data.toList false=(b,s.data.toList.drop k)))
 case first =>
  go_wp2_with fail
  go_loop [3,4] (fun i m=>∃(k:Nat) (b:Bool),k≤s.size∧i=.int .i64 k∧m=.bool b∧Hid (zW0 s.data.toList false=zW0 (s.data.toList.drop k) b)) (fun i _=>s.size-(intOf i).toNat)
  case atStart=>exact⟨0,false,Nat.zero_le _,rfl,rfl,rfl⟩
  case round =>
   obtain⟨k,b,hk,rfl,rfl,hS⟩:=hrel;by_cases hlt:k<s.size
   · have HD:=zh (zL0 s k hlt);by_cases c1:s[k]=43
     · have hb1:((s[k].toNat:Int)==43)=true:=by rw[c1];rfl
       have hb2:((s[k].toNat:Int)==45)=false:=by rw[c1];rfl
       have HC:=zh c1;clear c1;go_wp2_with fail
       go_round
       case rel=>exact⟨k+1,b,by omega,by go_num,by cases b <;> rfl,by unfold Hid;rw[hS.out,HD.out,HC.out];cases b <;> rfl⟩
       case measure=>simp[intOf];omega
     · by_cases c2:s[k]=45
       · have hb1:((s[k].toNat:Int)==43)=false:=by rw[c2];rfl
         have hb2:((s[k].toNat:Int)==45)=true:=by rw[c2];rfl
         have HC:=zh c2;clear c1 c2;go_wp2_with fail
         go_round
         case rel=>exact⟨k+1,!b,by omega,by go_num,by cases b <;> rfl,by unfold Hid;rw[hS.out,HD.out,HC.out];cases b <;> rfl⟩
         case measure=>simp[intOf];omega
       · have hb1:((s[k].toNat:Int)==43)=false:=by have:=zBJ s[k] 43 (by omega);rw[decide_eq_false (by exact c1)]at this;exact this
         have hb2:((s[k].toNat:Int)==45)=false:=by have:=zBJ s[k] 45 (by omega);rw[decide_eq_false (by exact c2)]at this;exact this
         have HE:Hid (zW0 s.data.toList false=(b,s.data.toList.drop k)):=by unfold Hid;rw[hS.out,HD.out];unfold zW0;rw[if_neg (by simp[zAd,c1,c2])]
         clear c1 c2;go_wp2_with fail
         go_meet
         exact⟨rfl,k,b,hk,rfl,rfl,HE.out⟩
   · have HE:Hid (zW0 s.data.toList false=(b,s.data.toList.drop k)):=by unfold Hid;rw[hS.out,uU s k (by omega)];rfl
     go_wp2_with fail
     go_meet
     exact⟨rfl,k,b,hk,rfl,rfl,HE.out⟩
 case rest =>
  obtain⟨rfl,k,b,hk,rfl,rfl,hK⟩:=hcut;have HN:Hid (xH s.data.toList=if b=true then -(vR (s.data.toList.drop k):Int) else vR (s.data.toList.drop k)):=by unfold Hid xH;rw[hK.out]
  clear hK
  go_upto_block 2 with (fail)
  go_cut [3,5] (fun i n wx=>w=wx∧∃(j m:Nat),j≤s.size∧m≤1000000000000∧i=.int .i64 j∧n=.int .i64 m∧Hid (zBn (s.data.toList.drop k) 0=(m,s.data.toList.drop j)))
  case first =>
   go_wp2_with fail
   go_loop [3,5] (fun i n=>∃(j m:Nat),j≤s.size∧m≤1000000000000∧i=.int .i64 j∧n=.int .i64 m∧Hid (zBn (s.data.toList.drop k) 0=zBn (s.data.toList.drop j) m)) (fun i _=>s.size-(intOf i).toNat)
   case atStart=>exact⟨k,0,hk,by omega,rfl,rfl,rfl⟩
   case round =>
    obtain⟨j,m,hj,hm,rfl,rfl,hS⟩:=hrel;by_cases hlt:j<s.size
    · have HD:=zh (zL0 s j hlt);have HK:=zh (zAb s[j]);cases hd:isD s[j]
      · have HE:Hid (zBn (s.data.toList.drop k) 0=(m,s.data.toList.drop j)):=by unfold Hid;rw[hS.out,HD.out];unfold zBn;rw[if_neg (by rw[hd];simp)]
        rw[hd]at HK;clear hd;go_wp2_with fail;refine(HK.out _).mono ?_;rintro e w' ⟨rfl,rfl⟩;go_wp2_with fail
        go_meet
        exact⟨rfl,j,m,hj,hm,rfl,rfl,HE.out⟩
      · have hd9:=zGp s[j] hd;have hge:48≤s[j].toNat:=by simp[isD]at hd;exact hd.1
        have hle:s[j].toNat≤57:=by simp[isD]at hd;exact hd.2
        have HE:Hid (zBn (s.data.toList.drop k) 0=zBn (s.data.toList.drop (j+1)) (min (10*m+dV s[j]) 1000000000000)):=by
         unfold Hid;rw[hS.out,HD.out]
         conv=>lhs;unfold zBn
         rw[if_pos hd]
        have hdv:(dV s[j]:Int)=(s[j].toNat:Int)-48:=by unfold dV;omega
        rw[hd]at HK;have HV:=zh hdv;clear hd hdv;go_wp2_with fail;refine(HK.out _).mono ?_;rintro e w' ⟨rfl,rfl⟩;go_wp2_with fail;refine(wO _ _ _).mono ?_;rintro e w' ⟨rfl,rfl⟩;go_wp2_with fail
        go_round
        case rel=>exact⟨j+1,min (10*m+dV s[j]) 1000000000000,by omega,by omega,by go_num,by have:=HV.out;congr 1;omega,HE.out⟩
        case measure=>simp[intOf];omega
    · have HE:Hid (zBn (s.data.toList.drop k) 0=(m,s.data.toList.drop j)):=by unfold Hid;rw[hS.out,uU s j (by omega)];rfl
      go_wp2_with fail
      go_meet
      exact⟨rfl,j,m,hj,hm,rfl,rfl,HE.out⟩
  case rest =>
   obtain⟨rfl,j,m,hj,hm,rfl,rfl,hD⟩:=hcut;have HA:Hid (vR (s.data.toList.drop k)=min (zAp (zO0 (s.data.toList.drop j)) (min (m*1000000) 1000000000000000000)) vE):=by unfold Hid vR;rw[hD.out]
   clear hD;go_wp2_with fail;refine(wO _ _ _).mono ?_;rintro e w' ⟨rfl,rfl⟩;obtain⟨N,hN⟩:∃N:Nat,N=min (m*1000000) 1000000000000000000:=⟨_,rfl⟩;have hN2:min ((m:Int)*1000000) 1000000000000000000=(N:Int):=by omega
   have hN3:N≤1000000000000000000:=by omega
   rw[hN2];rw[←hN]at HA;clear hN hN2;by_cases hlt:j<s.size
   · have HD:=zh (zL0 s j hlt);by_cases c1:s[j]=46
     · have hb1:((s[j].toNat:Int)==46)=true:=by rw[c1];rfl
       have HF:Hid (vR (s.data.toList.drop k)=min (zBD (s.data.toList.drop (j+1)) 100000 N) vE):=by unfold Hid;rw[HA.out,HD.out,c1];rfl
       clear c1;go_wp2_with fail
       go_loop [3,5,6] (fun i n u=>∃(p q v:Nat),p≤s.size∧i=.int .i64 p∧n=.int .i64 q∧u=.int .i64 v∧v≤100000∧q+10*v≤1000000000001000000∧Hid (vR (s.data.toList.drop k)=min (zBD (s.data.toList.drop p) v q) vE)) (fun i _ _=>s.size-(intOf i).toNat)
       case atStart=>exact⟨j+1,N,100000,by omega,by go_num,rfl,rfl,by omega,by omega,HF.out⟩
       case round =>
        obtain⟨p,q,v,hp,rfl,rfl,rfl,hv,hq,hS⟩:=hrel;by_cases hlt2:p<s.size
        · have HD2:=zh (zL0 s p hlt2);have HK:=zh (zAb s[p]);cases hd:isD s[p]
          · have HE:Hid (vR (s.data.toList.drop k)=min q vE):=by unfold Hid;rw[hS.out,HD2.out];unfold zBD;rw[if_neg (by rw[hd];simp)]
            rw[hd]at HK;clear hd;go_wp2_with fail;refine(HK.out _).mono ?_;rintro e w' ⟨rfl,rfl⟩;go_wp2_with fail;have HM:Hid (min (q:Int) 999999999999999999=(vR (s.data.toList.drop k):Int)):=by unfold Hid;rw[HE.out];unfold vE;omega
            refine(wO _ _ _).mono ?_;rintro e w' ⟨rfl,rfl⟩;rw[HM.out];have hle:=zAg (s.data.toList.drop k);unfold vE at hle;generalize vR (s.data.toList.drop k)=R at *;cases b
            all_goals
             go_wp2_with fail;go_ret;exact⟨yB (by rw[HN.out];simp),rfl⟩
          · have hd9:=zGp s[p] hd;have hge:48≤s[p].toNat:=by simp[isD]at hd;exact hd.1
            have hle:s[p].toNat≤57:=by simp[isD]at hd;exact hd.2
            have HE:Hid (vR (s.data.toList.drop k)=min (zBD (s.data.toList.drop (p+1)) (v / 10) (q+dV s[p]*v)) vE):=by
             unfold Hid;rw[hS.out,HD2.out]
             conv=>lhs;unfold zBD
             rw[if_pos hd]
            have hdv:(dV s[p]:Int)=(s[p].toNat:Int)-48:=by unfold dV;omega
            have hmul:dV s[p]*v≤9*v:=Nat.mul_le_mul_right _ hd9;obtain⟨dd,hdd⟩:∃dd:Nat,(s[p].toNat:Int)-48=dd:=⟨dV s[p],hdv.symm⟩;have hdd2:dV s[p]=dd:=by omega
            rw[hd]at HK;rw[hdd2]at HE hmul hd9;have HX:=zh hdd;obtain⟨x,hx⟩:∃x:Nat,dd*v=x:=⟨_,rfl⟩;rw[hx]at HE hmul;have HX2:=zh hx;clear hd hdv hdd hdd2 hx;go_wp2_with fail;refine(HK.out _).mono ?_;rintro e w' ⟨rfl,rfl⟩;go_wp2_with fail
            go_round
            case rel =>
             refine⟨p+1,q+x,v / 10,by omega,by go_num,?_,by go_num,by omega,by omega,HE.out⟩;have e1:(dd:Int)*(v:Int)=(x:Int):=by rw[←HX2.out];simp
             rw[HX.out,e1,IntWalk.wrap64_in (x:Int) ⟨by omega,by omega⟩,IntWalk.wrap64_in ((q:Int)+(x:Int)) ⟨by omega,by omega⟩]
             congr 1
            case measure=>simp[intOf];omega
        · have HE:Hid (vR (s.data.toList.drop k)=min q vE):=by unfold Hid;rw[hS.out,uU s p (by omega)];rfl
          go_wp2_with fail;have HM:Hid (min (q:Int) 999999999999999999=(vR (s.data.toList.drop k):Int)):=by unfold Hid;rw[HE.out];unfold vE;omega
          refine(wO _ _ _).mono ?_;rintro e w' ⟨rfl,rfl⟩;rw[HM.out];have hle:=zAg (s.data.toList.drop k);unfold vE at hle;generalize vR (s.data.toList.drop k)=R at *;cases b
          all_goals
           go_wp2_with fail;go_ret;exact⟨yB (by rw[HN.out];simp),rfl⟩
     · have hb1:((s[j].toNat:Int)==46)=false:=by have:=zBJ s[j] 46 (by omega);rw[decide_eq_false (by exact c1)]at this;exact this
       have HE:Hid (vR (s.data.toList.drop k)=min N vE):=by unfold Hid;rw[HA.out,HD.out];simp only[zO0,if_neg c1,zAp]
       clear c1;go_wp2_with fail;have HM:Hid (min (N:Int) 999999999999999999=(vR (s.data.toList.drop k):Int)):=by unfold Hid;rw[HE.out];unfold vE;omega
       refine(wO _ _ _).mono ?_;rintro e w' ⟨rfl,rfl⟩;rw[HM.out];have hle:=zAg (s.data.toList.drop k);unfold vE at hle;generalize vR (s.data.toList.drop k)=R at *;cases b
       all_goals
        go_wp2_with fail;go_ret;exact⟨yB (by rw[HN.out];simp),rfl⟩
   · have HE:Hid (vR (s.data.toList.drop k)=min N vE):=by unfold Hid;rw[HA.out,uU s j (by omega)];rfl
     go_wp2_with fail;have HM:Hid (min (N:Int) 999999999999999999=(vR (s.data.toList.drop k):Int)):=by unfold Hid;rw[HE.out];unfold vE;omega
     refine(wO _ _ _).mono ?_;rintro e w' ⟨rfl,rfl⟩;rw[HM.out];have hle:=zAg (s.data.toList.drop k);unfold vE at hle;generalize vR (s.data.toList.drop k)=R at *;cases b
     all_goals
      go_wp2_with fail;go_ret;exact⟨yB (by rw[HN.out];simp),rfl⟩
end Go.Proofs.YtgmaamnofhmecaaGreatDoor
namespace Go.Proofs.YtgmaamnofhmecaaGreatDoor
open Go.RowKit
def vH (n:Nat):List UInt8:=if n=0 then [] else Lib.decDigits n
theorem zAW (n:Nat) (h:n≠0):vH n=vH (n / 10)++[UInt8.ofNat (48+n % 10)]:=by
 unfold vH;rw[if_neg h];by_cases h10:n<10
 · rw[Lib.decDigits_one h10,if_pos (by omega)];simp[Nat.mod_eq_of_lt h10]
 · rw[Lib.decDigits,dif_neg h10,if_neg (by omega)]
theorem vQ:∀(f n:Nat),n<10 ^ f→(vH n).length≤f
 | 0,n,h=>by
   obtain rfl:n=0:=by simpa using h
   simp[vH]
 | f+1,n,h=>by
   by_cases h0:n=0
   · subst h0;simp[vH]
   · rw[zAW n h0,List.length_append];have:=vQ f (n / 10) (by rw[Nat.pow_succ]at h;omega);simp;omega
theorem zIx {P:Program} (src dst e:TypeId) (hs:P.underlying src=some (.slice e)) (he:P.underlying e=some (.int .u8)) (hd:P.underlying dst=some .string) (W:World) (b n:Nat) (hn:n<256)
 (hc:W.cell? ⟨b,0,none⟩=some (.int .u8 (n:Int))):(convert src dst (.slice (some ⟨b,0,none⟩) 1 1)).run P W=.ok (.string ⟨#[UInt8.ofNat n]⟩) W:=by
 have:=run_convert_bytes_back (P:=P) W src dst e ⟨b,0,none⟩ 1 [UInt8.ofNat n] hs he hd (fun j hj=>by
  obtain rfl:j=0:=by simpa using hj
  simp only[Addr.add,if_pos];rw[hc]
  simp[Nat.mod_eq_of_lt hn])
 simpa using this
theorem zKJ (w:World) (v:Value) (t:TypeId):((w.alloc (.cells #[v] t)).drew).cell? ⟨w.heap.size,0,none⟩=some v:=by
 have h:=cell_of_row (w.alloc (.cells #[v] t)) w.heap.size 0 #[v] t (0,0) (heap_alloc_new w _);exact h
theorem zKG:(10:Nat) ^ 18=1000000000000000000:=by decide +kernel
theorem zJ0 {a b:ByteArray} (h:a=b):Ending.returned (.string a)=.returned (.string b):=by rw[h]
theorem zAa:∀(f n:Nat) (w:World),n<10 ^ f→f≤18 →
 Calls Tryz.prog 286 #[.int .i64 n] w fun e w'=>e=.returned (.string ⟨(vH n).toArray⟩)∧Below w.heap.size w w'
 | 0,n,w,h,_=>by
   obtain rfl:n=0:=by simpa using h
   have HE:Hid ((⟨#[]⟩:ByteArray)=⟨(vH 0).toArray⟩):=rfl;go_enter Tryz.func286,Tryz.ntmps286;go_wp2_with fail;go_ret;exact⟨zJ0 HE.out,Below.refl _ _⟩
 | f+1,n,w,h,hf=>by
   by_cases h0:n=0
   · subst h0;have HE:Hid ((⟨#[]⟩:ByteArray)=⟨(vH 0).toArray⟩):=rfl;go_enter Tryz.func286,Tryz.ntmps286;go_wp2_with fail;go_ret;exact⟨zJ0 HE.out,Below.refl _ _⟩
   · have hlt:n / 10<10 ^ f:=by rw[Nat.pow_succ]at h;omega
     have HIH:=zh (fun W=>zAa f (n / 10) W hlt (by omega));have hb18:n<10 ^ 18:=Nat.lt_of_lt_of_le h (Nat.pow_le_pow_right (by omega) (by omega));have hb:((n:Int)==0)=false:=by rw[beq_eq_false_iff_ne];omega
     have hl:=vQ f (n / 10) hlt;have HE:Hid ((⟨(vH (n / 10)).toArray⟩:ByteArray)++⟨#[UInt8.ofNat (48+n % 10)]⟩=⟨(vH n).toArray⟩):=by unfold Hid;rw[zAW n h0];apply ByteArray.ext;simp
     have hcv:=fun W b hc=>zIx (P:=Tryz.prog) 22 9 5 Tryz.underlying22 Tryz.underlying5 Tryz.underlying9 W b (48+n % 10) (by omega) hc;rw[show((48+n % 10:Nat):Int)=48+(n:Int) % 10 from by omega]at hcv;rw[zKG]at hb18;have hn18:=hb18;clear h hlt hb18 h0;have hc10:((n / 10:Nat):Int)=(n:Int) / 10:=by omega
     rw[hc10]at HIH;clear hc10;generalize vH (n / 10)=l at *;generalize UInt8.ofNat (48+n % 10)=dg at *;go_enter Tryz.func286,Tryz.ntmps286;go_wp2_with fail;have hw1:IntKind.i64.wrap ((n:Int) / 10)=(n:Int) / 10:=IntWalk.i64_in _ (by omega);have hw2:((n:Int)).tmod 10=(n:Int) % 10:=Int.tmod_eq_emod_of_nonneg (by omega);have hw3:IntKind.i64.wrap (48+(n:Int) % 10)=48+(n:Int) % 10:=IntWalk.i64_in _ (by omega);have hw4:IntKind.u8.wrap (48+(n:Int) % 10)=48+(n:Int) % 10:=by simp[IntKind.wrap,IntKind.signed,IntKind.bits];omega
     go_region_with (go_at_call 286;refine(HIH.out _).mono ?_;rintro e w1 ⟨rfl,hb1⟩;(first | (with_reducible have hk1:=cell_later hb1 (zKJ w _ _)) | skip))
     all_goals
      have HB:=zh hb1;clear hb1;go_wp2_with fail;go_ret
      first
        | exact⟨zJ0 HE.out,vC HB.out⟩
        | exact⟨zJ0 HE.out,(vC HB.out).later (Below.new _ _)⟩
        | exact⟨zJ0 HE.out,(Below.new _ _).later (vC HB.out)⟩
end Go.Proofs.YtgmaamnofhmecaaGreatDoor
namespace Go.Proofs.YtgmaamnofhmecaaGreatDoor
open Go.RowKit
def yJ (l:List UInt8):List UInt8:=Lib.trimRightS l [48]
def zAC (rest:Nat):List UInt8:=if rest=0 then [] else 46::yJ ((vH (1000000+rest)).drop 1)
def uB (n:Nat):List UInt8:=if n=0 then [48] else vH (n / 1000000)++zAC (n % 1000000)
def uG (n:Int):List UInt8:=if n<0 then 45::uB n.natAbs else uB n.toNat
theorem zGM (l:List UInt8):yJ (l++[48])=yJ l:=by
 unfold yJ Lib.trimRightS;rw[List.reverse_append];simp
theorem zGN (l:List UInt8) (c:UInt8) (h:c≠48):yJ (l++[c])=l++[c]:=by
 unfold yJ Lib.trimRightS;rw[List.reverse_append];have:([48]:List UInt8).contains c=false:=by simpa using h
 simp[h]
theorem zBh {p:UInt8→Bool}:∀(l:List UInt8),l.dropWhile p=[]→∀c∈l,p c=true
 | [],_,c,h=>by cases h
 | x::r,h,c,hc=>by
   by_cases hx:p x=true
   · rw[List.dropWhile_cons_of_pos hx]at h;rcases List.mem_cons.1 hc with rfl | hc
     · exact hx
     · exact zBh r h c hc
   · rw[List.dropWhile_cons_of_neg hx]at h;cases h
theorem zHW (l:List UInt8) (h:yJ l=[]):∀c∈l,c=48:=by
 intro c hc;have h1:l.reverse.dropWhile (([48]:List UInt8).contains ·)=[]:=by have:=congrArg List.reverse h;simpa [yJ,Lib.trimRightS] using this
 have:=zBh _ h1 c (by simpa using hc);simpa using this
theorem zEb (l:List UInt8):(yJ l).length≤l.length:=by
 unfold yJ Lib.trimRightS;rw[List.length_reverse];have:=(List.dropWhile_sublist (p:=(([48]:List UInt8).contains ·)) (l:=l.reverse)).length_le;simpa using this
theorem zKr (n:Nat) (h:n<10):dV (UInt8.ofNat (48+n))=n:=by
 unfold dV;rw[UInt8.toNat_ofNat',Nat.mod_eq_of_lt (by omega)];omega
theorem zCf (a b:List UInt8) (n:Nat):yL (a++b) n=yL b (yL a n):=by
 unfold yL;rw[List.foldl_append]
theorem zAO:∀(f n:Nat),n<10 ^ f→yL (vH n) 0=n
 | 0,n,h=>by
   obtain rfl:n=0:=by simpa using h
   rfl
 | f+1,n,h=>by
   by_cases h0:n=0
   · subst h0;rfl
   · rw[zAW n h0,zCf,zAO f (n / 10) (by rw[Nat.pow_succ]at h;omega)];show 10*(n / 10)+dV (UInt8.ofNat (48+n % 10))=n;rw[zKr _ (by omega)];omega
theorem zKs:∀(l:List UInt8),(∀c∈l,c=48)→l=List.replicate l.length 48
 | [],_=>rfl
 | x::r,h=>by rw[h x List.mem_cons_self,List.length_cons,List.replicate_succ,←zKs r (fun c hc=>h c (List.mem_cons_of_mem _ hc))]
theorem zDv:∀(f n:Nat),n<10 ^ f→∀c∈vH n,dV c≤9
 | 0,n,h,c,hc=>by
   obtain rfl:n=0:=by simpa using h
   simp[vH]at hc
 | f+1,n,h,c,hc=>by
   by_cases h0:n=0
   · subst h0;simp[vH]at hc
   · rw[zAW n h0]at hc;rcases List.mem_append.1 hc with h1 | h1
     · exact zDv f (n / 10) (by rw[Nat.pow_succ]at h;omega) c h1
     · rw[List.mem_singleton.1 h1,zKr _ (by omega)];omega
theorem zKw:(10:Nat) ^ 7=10000000:=by decide
theorem zJV (rest:Nat) (h0:0<rest) (h1:rest<1000000):yJ ((vH (1000000+rest)).drop 1)≠[]:=by
 intro h;have hall:=zHW _ h;have hlt:1000000+rest<10 ^ 7:=by rw[zKw];omega
 have hl:=vQ 7 _ hlt;have hv:=zAO 7 _ hlt;have hd:=zDv 7 _ hlt
 cases hL:vH (1000000+rest) with
 | nil=>rw[hL]at hv;simp[yL]at hv;omega
 | cons d r =>
   rw[hL]at hall hv hl hd;have hr:=zKs r hall;have hd9:=hd d List.mem_cons_self;rw[show d::r=[d]++r from rfl,zCf,hr,xZ]at hv;have hv1:yL [d] 0=dV d:=by simp[yL]
   rw[hv1]at hv;simp only[List.length_cons]at hl;have hk:r.length≤6:=by omega
   by_cases h6:r.length=6
   · rw[h6]at hv;have:(10:Nat) ^ 6=1000000:=by decide
     rw[this]at hv;omega
   · have h5:(10:Nat) ^ r.length≤10 ^ 5:=Nat.pow_le_pow_right (by omega) (by omega);have h6:(10:Nat) ^ 5=100000:=by decide
     have:dV d*10 ^ r.length≤9*100000:=Nat.le_trans (Nat.mul_le_mul_left _ h5) (by rw[h6];exact Nat.mul_le_mul_right _ hd9);omega
end Go.Proofs.YtgmaamnofhmecaaGreatDoor
