import Derived.Test.YtgmaamnofhmecaaGreatDoorV00
import Derived.Test.YtgmaamnofhmecaaGreatDoorProg
import Derived.Test.YtgmaamnofhmecaaGreatDoorV01
import Derived.Deep.CutBlock
import Derived.Deep.DeepCutAuto
set_option maxHeartbeats 2000000
open Go.Lib renaming hid → zh
namespace Go.Proofs.YtgmaamnofhmecaaGreatDoor
open Go.RowKit
theorem zAP (c:UInt8) (w:World) :
 Calls Tryz.prog 250 #[.int .u8 c.toNat] w fun e w'=>e=.returned (.bool (isD c))∧w=w':=by
 unfold isD;generalize c.toNat=n;by_cases h1:48≤n
 · by_cases h2:n≤57
   all_goals
    go_enter Tryz.func250,Tryz.ntmps250
    go_wp2
    go_ret;exact⟨zA0 (by first | (simp;done) | (simp;omega) | (rw[Bool.eq_iff_iff];simp;omega)),rfl⟩
 · go_enter Tryz.func250,Tryz.ntmps250
   go_wp2
   go_ret;exact⟨zA0 (by first | (simp;done) | (simp;omega) | (rw[Bool.eq_iff_iff];simp;omega)),rfl⟩
theorem wU (a b:Int) (w:World) :
 Calls Tryz.prog 309 #[.int .i64 a,.int .i64 b] w fun e w'=>e=.returned (.int .i64 (min a b))∧w=w':=by
 by_cases h:a<b
 · go_enter Tryz.func309,Tryz.ntmps309
   go_wp2
   go_ret;exact⟨yB (by omega),rfl⟩
 · go_enter Tryz.func309,Tryz.ntmps309
   go_wp2
   go_ret;exact⟨yB (by omega),rfl⟩
theorem zCK (c:UInt8) (n:Nat) (hn:n<256):((c.toNat:Int)==(n:Int))=decide (c=UInt8.ofNat n):=by
 rw[Bool.eq_iff_iff,beq_iff_eq,decide_eq_true_iff];constructor
 · intro h;apply UInt8.toNat_inj.1;rw[UInt8.toNat_ofNat',Nat.mod_eq_of_lt hn];omega
 · rintro rfl;rw[UInt8.toNat_ofNat',Nat.mod_eq_of_lt hn]
theorem uL (s:ByteArray) (k:Nat) (hk:k<s.size):s.data.toList.drop k=s[k]::s.data.toList.drop (k+1) :=
 List.drop_eq_getElem_cons (by rw[←Lib.size_eq];exact hk)
theorem wW (s:ByteArray) (k:Nat) (hk:s.size≤k):s.data.toList.drop k=[]:=List.drop_of_length_le (by rw[←Lib.size_eq];exact hk)
set_option maxRecDepth 100000 in
theorem zCZ (s:ByteArray) (w:World) (hs:s.size≤1048576) :
 Calls Tryz.prog 288 #[.string s] w fun e w'=>e=.returned (.int .i64 (yN s.data.toList))∧w=w':=by
 go_enter Tryz.func288,Tryz.ntmps288
 go_upto_block 0 with (fail)
 go_cut [3,4] (fun i m wx=>w=wx∧∃(k:Nat) (b:Bool),k≤s.size∧i=.int .i64 k∧m=.bool b∧Hid (zAm s.data.toList false=(b,s.data.toList.drop k)))
 case first =>
  go_wp2_with fail
  go_loop [3,4] (fun i m=>∃(k:Nat) (b:Bool),k≤s.size∧i=.int .i64 k∧m=.bool b∧Hid (zAm s.data.toList false=zAm (s.data.toList.drop k) b)) (fun i _=>s.size-(intOf i).toNat)
  case atStart=>exact⟨0,false,Nat.zero_le _,rfl,rfl,rfl⟩
  case round =>
   obtain⟨k,b,hk,rfl,rfl,hS⟩:=hrel;by_cases hlt:k<s.size
   · have HD:=zh (uL s k hlt);by_cases c1:s[k]=43
     · have hb1:((s[k].toNat:Int)==43)=true:=by rw[c1];rfl
       have hb2:((s[k].toNat:Int)==45)=false:=by rw[c1];rfl
       have HC:=zh c1;clear c1;go_wp2_with fail
       go_round
       case rel=>exact⟨k+1,b,by omega,by go_num,by cases b <;> rfl,by unfold Hid;rw[hS.out,HD.out,HC.out];cases b <;> rfl⟩
       case measure=>simp[intOf];omega
     · by_cases c2:s[k]=45
       · have hb1:((s[k].toNat:Int)==43)=false:=by rw[c2];rfl
         have hb2:((s[k].toNat:Int)==45)=true:=by rw[c2];rfl
         have HC:=zh c2;clear c1 c2;go_wp2_with fail
         go_round
         case rel=>exact⟨k+1,!b,by omega,by go_num,by cases b <;> rfl,by unfold Hid;rw[hS.out,HD.out,HC.out];cases b <;> rfl⟩
         case measure=>simp[intOf];omega
       · have hb1:((s[k].toNat:Int)==43)=false:=by have:=zCK s[k] 43 (by omega);rw[decide_eq_false (by exact c1)]at this;exact this
         have hb2:((s[k].toNat:Int)==45)=false:=by have:=zCK s[k] 45 (by omega);rw[decide_eq_false (by exact c2)]at this;exact this
         have HE:Hid (zAm s.data.toList false=(b,s.data.toList.drop k)):=by unfold Hid;rw[hS.out,HD.out];unfold zAm;rw[if_neg (by simp[zAT,c1,c2])]
         clear c1 c2;go_wp2_with fail
         go_meet
         exact⟨rfl,k,b,hk,rfl,rfl,HE.out⟩
   · have HE:Hid (zAm s.data.toList false=(b,s.data.toList.drop k)):=by unfold Hid;rw[hS.out,wW s k (by omega)];rfl
     go_wp2_with fail
     go_meet
     exact⟨rfl,k,b,hk,rfl,rfl,HE.out⟩
 case rest =>
  obtain⟨rfl,k,b,hk,rfl,rfl,hK⟩:=hcut;have HN:Hid (yN s.data.toList=if b=true then -(zY0 (s.data.toList.drop k):Int) else zY0 (s.data.toList.drop k)):=by unfold Hid yN;rw[hK.out]
  clear hK
  go_upto_block 2 with (fail)
  go_cut [3,5] (fun i n wx=>w=wx∧∃(j m:Nat),j≤s.size∧m≤1000000000000∧i=.int .i64 j∧n=.int .i64 m∧Hid (zCg (s.data.toList.drop k) 0=(m,s.data.toList.drop j)))
  case first =>
   go_wp2_with fail
   go_loop [3,5] (fun i n=>∃(j m:Nat),j≤s.size∧m≤1000000000000∧i=.int .i64 j∧n=.int .i64 m∧Hid (zCg (s.data.toList.drop k) 0=zCg (s.data.toList.drop j) m)) (fun i _=>s.size-(intOf i).toNat)
   case atStart=>exact⟨k,0,hk,by omega,rfl,rfl,rfl⟩
   case round =>
    obtain⟨j,m,hj,hm,rfl,rfl,hS⟩:=hrel;by_cases hlt:j<s.size
    · have HD:=zh (uL s j hlt);have HK:=zh (zAP s[j]);cases hd:isD s[j]
      · have HE:Hid (zCg (s.data.toList.drop k) 0=(m,s.data.toList.drop j)):=by unfold Hid;rw[hS.out,HD.out];unfold zCg;rw[if_neg (by rw[hd];simp)]
        rw[hd]at HK;clear hd;go_wp2_with fail;refine(HK.out _).mono ?_;rintro e w' ⟨rfl,rfl⟩;go_wp2_with fail
        go_meet
        exact⟨rfl,j,m,hj,hm,rfl,rfl,HE.out⟩
      · have hd9:=zHl s[j] hd;have hge:48≤s[j].toNat:=by simp[isD]at hd;exact hd.1
        have hle:s[j].toNat≤57:=by simp[isD]at hd;exact hd.2
        have HE:Hid (zCg (s.data.toList.drop k) 0=zCg (s.data.toList.drop (j+1)) (min (10*m+dV s[j]) 1000000000000)):=by
         unfold Hid;rw[hS.out,HD.out]
         conv=>lhs;unfold zCg
         rw[if_pos hd]
        have hdv:(dV s[j]:Int)=(s[j].toNat:Int)-48:=by unfold dV;omega
        rw[hd]at HK;have HV:=zh hdv;clear hd hdv;go_wp2_with fail;refine(HK.out _).mono ?_;rintro e w' ⟨rfl,rfl⟩;go_wp2_with fail;refine(wU _ _ _).mono ?_;rintro e w' ⟨rfl,rfl⟩;go_wp2_with fail
        go_round
        case rel=>exact⟨j+1,min (10*m+dV s[j]) 1000000000000,by omega,by omega,by go_num,by have:=HV.out;congr 1;omega,HE.out⟩
        case measure=>simp[intOf];omega
    · have HE:Hid (zCg (s.data.toList.drop k) 0=(m,s.data.toList.drop j)):=by unfold Hid;rw[hS.out,wW s j (by omega)];rfl
      go_wp2_with fail
      go_meet
      exact⟨rfl,j,m,hj,hm,rfl,rfl,HE.out⟩
  case rest =>
   obtain⟨rfl,j,m,hj,hm,rfl,rfl,hD⟩:=hcut;have HA:Hid (zY0 (s.data.toList.drop k)=min (zBd (zU0 (s.data.toList.drop j)) (min (m*1000000) 1000000000000000000)) vG):=by unfold Hid zY0;rw[hD.out]
   clear hD;go_wp2_with fail;refine(wU _ _ _).mono ?_;rintro e w' ⟨rfl,rfl⟩;obtain⟨N,hN⟩:∃N:Nat,N=min (m*1000000) 1000000000000000000:=⟨_,rfl⟩;have hN2:min ((m:Int)*1000000) 1000000000000000000=(N:Int):=by omega
   have hN3:N≤1000000000000000000:=by omega
   rw[hN2];rw[←hN]at HA;clear hN hN2;by_cases hlt:j<s.size
   · have HD:=zh (uL s j hlt);by_cases c1:s[j]=46
     · have hb1:((s[j].toNat:Int)==46)=true:=by rw[c1];rfl
       have HF:Hid (zY0 (s.data.toList.drop k)=min (zCD (s.data.toList.drop (j+1)) 100000 N) vG):=by unfold Hid;rw[HA.out,HD.out,c1];rfl
       clear c1;go_wp2_with fail
       go_loop [3,5,6] (fun i n u=>∃(p q v:Nat),p≤s.size∧i=.int .i64 p∧n=.int .i64 q∧u=.int .i64 v∧v≤100000∧q+10*v≤1000000000001000000∧Hid (zY0 (s.data.toList.drop k)=min (zCD (s.data.toList.drop p) v q) vG)) (fun i _ _=>s.size-(intOf i).toNat)
       case atStart=>exact⟨j+1,N,100000,by omega,by go_num,rfl,rfl,by omega,by omega,HF.out⟩
       case round =>
        obtain⟨p,q,v,hp,rfl,rfl,rfl,hv,hq,hS⟩:=hrel;by_cases hlt2:p<s.size
        · have HD2:=zh (uL s p hlt2);have HK:=zh (zAP s[p]);cases hd:isD s[p]
          · have HE:Hid (zY0 (s.data.toList.drop k)=min q vG):=by unfold Hid;rw[hS.out,HD2.out];unfold zCD;rw[if_neg (by rw[hd];simp)]
            rw[hd]at HK;clear hd;go_wp2_with fail;refine(HK.out _).mono ?_;rintro e w' ⟨rfl,rfl⟩;go_wp2_with fail;have HM:Hid (min (q:Int) 999999999999999999=(zY0 (s.data.toList.drop k):Int)):=by unfold Hid;rw[HE.out];unfold vG;omega
            refine(wU _ _ _).mono ?_;rintro e w' ⟨rfl,rfl⟩;rw[HM.out];have hle:=zAZ (s.data.toList.drop k);unfold vG at hle;generalize zY0 (s.data.toList.drop k)=R at *;cases b
            all_goals
             go_wp2_with fail;go_ret;exact⟨yB (by rw[HN.out];simp),rfl⟩
          · have hd9:=zHl s[p] hd;have hge:48≤s[p].toNat:=by simp[isD]at hd;exact hd.1
            have hle:s[p].toNat≤57:=by simp[isD]at hd;exact hd.2
            have HE:Hid (zY0 (s.data.toList.drop k)=min (zCD (s.data.toList.drop (p+1)) (v / 10) (q+dV s[p]*v)) vG):=by
             unfold Hid;rw[hS.out,HD2.out]
             conv=>lhs;unfold zCD
             rw[if_pos hd]
            have hdv:(dV s[p]:Int)=(s[p].toNat:Int)-48:=by unfold dV;omega
            have hmul:dV s[p]*v≤9*v:=Nat.mul_le_mul_right _ hd9;obtain⟨dd,hdd⟩:∃dd:Nat,(s[p].toNat:Int)-48=dd:=⟨dV s[p],hdv.symm⟩;have hdd2:dV s[p]=dd:=by omega
            rw[hd]at HK;rw[hdd2]at HE hmul hd9;have HX:=zh hdd;obtain⟨x,hx⟩:∃x:Nat,dd*v=x:=⟨_,rfl⟩;rw[hx]at HE hmul;have HX2:=zh hx;clear hd hdv hdd hdd2 hx;go_wp2_with fail;refine(HK.out _).mono ?_;rintro e w' ⟨rfl,rfl⟩;go_wp2_with fail
            go_round
            case rel =>
             refine⟨p+1,q+x,v / 10,by omega,by go_num,?_,by go_num,by omega,by omega,HE.out⟩;have e1:(dd:Int)*(v:Int)=(x:Int):=by rw[←HX2.out];simp
             rw[HX.out,e1,IntWalk.wrap64_in (x:Int) ⟨by omega,by omega⟩,IntWalk.wrap64_in ((q:Int)+(x:Int)) ⟨by omega,by omega⟩]
             congr 1
            case measure=>simp[intOf];omega
        · have HE:Hid (zY0 (s.data.toList.drop k)=min q vG):=by unfold Hid;rw[hS.out,wW s p (by omega)];rfl
          go_wp2_with fail;have HM:Hid (min (q:Int) 999999999999999999=(zY0 (s.data.toList.drop k):Int)):=by unfold Hid;rw[HE.out];unfold vG;omega
          refine(wU _ _ _).mono ?_;rintro e w' ⟨rfl,rfl⟩;rw[HM.out];have hle:=zAZ (s.data.toList.drop k);unfold vG at hle;generalize zY0 (s.data.toList.drop k)=R at *;cases b
          all_goals
           go_wp2_with fail;go_ret;exact⟨yB (by rw[HN.out];simp),rfl⟩
     · have hb1:((s[j].toNat:Int)==46)=false:=by have:=zCK s[j] 46 (by omega);rw[decide_eq_false (by exact c1)]at this;exact this
       have HE:Hid (zY0 (s.data.toList.drop k)=min N vG):=by unfold Hid;rw[HA.out,HD.out];simp only[zU0,if_neg c1,zBd]
       clear c1;go_wp2_with fail;have HM:Hid (min (N:Int) 999999999999999999=(zY0 (s.data.toList.drop k):Int)):=by unfold Hid;rw[HE.out];unfold vG;omega
       refine(wU _ _ _).mono ?_;rintro e w' ⟨rfl,rfl⟩;rw[HM.out];have hle:=zAZ (s.data.toList.drop k);unfold vG at hle;generalize zY0 (s.data.toList.drop k)=R at *;cases b
       all_goals
        go_wp2_with fail;go_ret;exact⟨yB (by rw[HN.out];simp),rfl⟩
   · have HE:Hid (zY0 (s.data.toList.drop k)=min N vG):=by unfold Hid;rw[HA.out,wW s j (by omega)];rfl
     go_wp2_with fail;have HM:Hid (min (N:Int) 999999999999999999=(zY0 (s.data.toList.drop k):Int)):=by unfold Hid;rw[HE.out];unfold vG;omega
     refine(wU _ _ _).mono ?_;rintro e w' ⟨rfl,rfl⟩;rw[HM.out];have hle:=zAZ (s.data.toList.drop k);unfold vG at hle;generalize zY0 (s.data.toList.drop k)=R at *;cases b
     all_goals
      go_wp2_with fail;go_ret;exact⟨yB (by rw[HN.out];simp),rfl⟩
end Go.Proofs.YtgmaamnofhmecaaGreatDoor
namespace Go.Proofs.YtgmaamnofhmecaaGreatDoor
open Go.RowKit
set_option maxRecDepth 100000 in
theorem zLN (l:List UInt8):Lib.trimLeftS l [48,49,50,51,52,53,54,55,56,57]=l.dropWhile isD:=by
 unfold Lib.trimLeftS
 congr 1
 funext c
 have h:∀n:Fin 256,([48,49,50,51,52,53,54,55,56,57]:List UInt8).contains (UInt8.ofNat n.val)=isD (UInt8.ofNat n.val):=by decide
 have:=h ⟨c.toNat,c.toNat_lt⟩
 rwa [UInt8.ofNat_toNat]at this
set_option maxRecDepth 100000 in
theorem zLD (l:List UInt8):Lib.trimLeftS l [43,45]=l.dropWhile zAT:=by
 unfold Lib.trimLeftS
 congr 1
 funext c
 have h:∀n:Fin 256,([43,45]:List UInt8).contains (UInt8.ofNat n.val)=zAT (UInt8.ofNat n.val):=by decide
 have:=h ⟨c.toNat,c.toNat_lt⟩
 rwa [UInt8.ofNat_toNat]at this
theorem uK (p:UInt8→Bool) (l:List UInt8):(l.takeWhile p).length+(l.dropWhile p).length=l.length:=by
 rw[←List.length_append,List.takeWhile_append_dropWhile]
theorem zCH (s:ByteArray) (w:World) (hs:s.size≤1048576) :
 Calls Tryz.prog 280 #[.string s] w fun e w'=>e=.returned (.int .i64 (s.data.toList.takeWhile isD).length)∧Below w.heap.size w w':=by
 have HL:=zh (uK isD s.data.toList);have HS:=zh (Lib.size_eq s);have HK:=zh (fun W=>Tryz.strings_TrimLeft_set s ⟨#[48,49,50,51,52,53,54,55,56,57]⟩ W (by decide) (ascii_of_all (by decide)));go_enter Tryz.func280,Tryz.ntmps280;go_wp2_with fail;refine(HK.out _).mono ?_;rintro e w' ⟨rfl,hB⟩;rw[zLN];have hz:(ByteArray.mk (s.data.toList.dropWhile isD).toArray).size=(s.data.toList.dropWhile isD).length:=by simp[ByteArray.size]
 generalize s.data.toList.dropWhile isD=D at *;go_wp2_with fail;go_ret;refine⟨yB ?_,hB⟩;have h1:=HL.out;have h2:=HS.out;rw[IntWalk.wrap64_in _ ⟨by omega,by omega⟩];omega
set_option maxRecDepth 100000 in
theorem zEe (s:ByteArray) (n0:Nat) (w:World) (hs:s.size≤2097152) (hn0:n0≤999999999999999999) (hd:∀c∈s.data.toList,isD c=true) :
 Calls Tryz.prog 282 #[.int .i64 n0,.string s] w fun e w'=>e=.returned (.int .i64 (uH s.data.toList n0))∧Below w.heap.size w w':=by
 have hconv:=run_bytes_of_string (P:=Tryz.prog) w 9 22 5 s Tryz.underlying9 Tryz.underlying22 Tryz.underlying5;have HC:Hid (∀j (h:j<s.size),(bytesRow s (grownCap w s.size 0 5))[j]?=some (.int .u8 (s[j].toNat:Int))):=fun j h=>bytesRow_at s _ j h;generalize grownCap w s.size 0 5=cap at *;generalize bytesRow s cap=C at *;have HD:=zh hd;have HB:Hid (Below w.heap.size w (w.alloc (.cells C 5 (C.size,C.size+1))).drew):=by unfold Hid;exact(Below.new w _).drew
 clear hd;go_enter Tryz.func282,Tryz.ntmps282;go_wp2_with fail
 go_loop [0,10] (fun n i=>∃(k m:Nat),k≤s.size∧m≤999999999999999999∧n=.int .i64 m∧i=.int .i64 k∧Hid (uH s.data.toList n0=uH (s.data.toList.drop k) m)) (fun _ i=>s.size-(intOf i).toNat)
 case atStart=>exact⟨0,n0,Nat.zero_le _,hn0,rfl,rfl,rfl⟩
 case round =>
  obtain⟨k,m,hk,hm,rfl,rfl,hS⟩:=hrel;clear hconv;by_cases hlt:k<s.size
  · have HR:=zh (uL s k hlt);have hcell:(w.alloc (.cells C 5 (C.size,C.size+1))).cell? ⟨w.heap.size,k,none⟩=some (.int .u8 (s[k].toNat:Int)):=by rw[World.cell?_alloc_mark];exact HC.out k hlt
    have hdk:isD s[k]=true:=HD.out _ (by have:s.data.toList[k]'(by rw[←Lib.size_eq];exact hlt)=s[k]:=rfl;rw[←this];exact List.getElem_mem _);have hge:48≤s[k].toNat:=by simp[isD]at hdk;exact hdk.1
    have hle:s[k].toNat≤57:=by simp[isD]at hdk;exact hdk.2
    have hdv:dV s[k]+48=s[k].toNat:=by unfold dV;omega
    obtain⟨d,hdd⟩:∃d:Nat,d=dV s[k]:=⟨_,rfl⟩;rw[←hdd]at hdv;have HE:Hid (uH s.data.toList n0=if (999999999999999999-d) / 10<m then 999999999999999999 else uH (s.data.toList.drop (k+1)) (10*m+d)):=by unfold Hid;rw[hS.out,HR.out,hdd];rfl
    rw[←hdv]at hcell;have hd9:d≤9:=by omega
    clear hdk hge hle hdd hdv hS;go_wp2_with fail
    · go_ret;have hc:(999999999999999999-(d:Int)) / 10<m:=by assumption
      exact⟨yB (by rw[HE.out,if_pos (by omega)];rfl),HB.out⟩
    · have hc:(m:Int)≤(999999999999999999-d) / 10:=by assumption
      refine⟨⟨k+1,10*m+d,by omega,by omega,by go_num,by go_num,?_⟩,by simp[intOf];omega⟩;unfold Hid;rw[HE.out,if_neg (by omega)]
  · have HE:Hid (uH s.data.toList n0=m):=by unfold Hid;rw[hS.out,wW s k (by omega)];rfl
    go_wp2_with fail;go_ret;exact⟨yB (by rw[HE.out]),HB.out⟩
end Go.Proofs.YtgmaamnofhmecaaGreatDoor
