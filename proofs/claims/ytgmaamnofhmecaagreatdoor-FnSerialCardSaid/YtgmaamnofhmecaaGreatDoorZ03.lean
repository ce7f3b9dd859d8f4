import Derived.Test.YtgmaamnofhmecaaGreatDoorZ02
set_option maxHeartbeats 2000000
open Go.Lib renaming hid → zh
namespace Go.Proofs.YtgmaamnofhmecaaGreatDoor
open Go.RowKit
theorem zHo (t:ByteArray) (h:0<t.size):t.data.toList=(t.extract 0 (t.size-1)).data.toList++[t[t.size-1]]:=by
 rw[Lib.extract_data];simp only[List.drop_zero,Nat.sub_zero];have hl:t.size-1<t.data.toList.length:=by rw[←Lib.size_eq];omega
 have:=List.take_succ_eq_append_getElem hl;rw[show t.size-1+1=t.data.toList.length from by rw[←Lib.size_eq];omega,List.take_length]at this;exact this
theorem zFB (t:ByteArray):(t.extract 0 (t.size-1)).size=t.size-1:=by rw[ByteArray.size_extract];omega
theorem byte48 {b:UInt8}:((b.toNat:Int)==48)=true↔b=48:=by
 rw[beq_iff_eq];constructor
 · intro h;apply UInt8.toNat_inj.1;show b.toNat=48;omega
 · rintro rfl;rfl
def zIT (v:Value):Nat:=match v with | .string t=>t.size | _=>0
theorem zHL:(10:Nat) ^ 12=1000000000000:=by decide +kernel
theorem zAL (n:Nat) (h:n≤999999999999999999):(uB n).length≤20:=by
 unfold uB;split
 · simp
 · have h1:=vQ 12 (n / 1000000) (by rw[zHL];omega);rw[List.length_append];unfold zAC;split
   · simp;omega
   · have h2:=vQ 7 (1000000+n % 1000000) (by rw[zKw];omega);have h3:=zEb ((vH (1000000+n % 1000000)).drop 1);rw[List.length_drop]at h3;simp only[List.length_cons];omega
theorem zCp (n:Nat) (w:World) (hn:n≤999999999999999999) :
 Calls Tryz.prog 261 #[.int .i64 n] w fun e w'=>e=.returned (.string ⟨(uB n).toArray⟩)∧Below w.heap.size w w':=by
 have hW:n / 1000000<10 ^ 12:=by rw[zHL];omega
 have HK1:Hid (∀W,Calls Tryz.prog 286 #[.int .i64 ((n:Int) / 1000000)] W fun e w'=>e=.returned (.string ⟨(vH (n / 1000000)).toArray⟩)∧Below W.heap.size W w'):=fun W=>by
  have:=zAa 12 (n / 1000000) W hW (by omega)
  rwa [show((n / 1000000:Nat):Int)=(n:Int) / 1000000 from by omega]at this
 have hl1:=vQ 12 _ hW;clear hW;by_cases hr:n % 1000000=0
 · have HE:Hid (uB n=if n=0 then [48] else vH (n / 1000000)):=by unfold Hid uB zAC;rw[if_pos hr];simp
   have HZ:Hid (vH (n / 1000000)=[]↔n=0):=by
    unfold Hid;constructor
    · intro h;have:=zAO 12 (n / 1000000) (by rw[zHL];omega);rw[h]at this;simp[yL]at this;omega
    · rintro rfl;rfl
   have hr':¬(0:Int)<(n:Int) % 1000000:=by omega
   generalize vH (n / 1000000)=l at *;clear hr;go_enter Tryz.func261,Tryz.ntmps261;go_wp2_with fail;refine(HK1.out _).mono ?_;rintro e w1 ⟨rfl,hb1⟩;have HB1:=zh hb1;clear hb1;go_wp2_with fail
   · go_ret;have hl:l=[]:=by simpa using (show l.isEmpty=true by assumption)
     exact⟨zJ0 (by rw[HE.out,if_pos (HZ.out.1 hl)]),HB1.out⟩
   · go_ret;have hl:l≠[]:=by simpa using (show l.isEmpty=false by assumption)
     exact⟨zJ0 (by rw[HE.out,if_neg (fun h=>hl (HZ.out.2 h))]),HB1.out⟩
 · have hW:1000000+n % 1000000<10 ^ 7:=by rw[zKw];omega
   have HK2:Hid (∀W,Calls Tryz.prog 286 #[.int .i64 (1000000+(n:Int) % 1000000)] W fun e w'=>e=.returned (.string ⟨(vH (1000000+n % 1000000)).toArray⟩)∧Below W.heap.size W w'):=fun W=>by
    have:=zAa 7 (1000000+n % 1000000) W hW (by omega)
    rwa [show((1000000+n % 1000000:Nat):Int)=1000000+(n:Int) % 1000000 from by omega]at this
   have hl2:=vQ 7 _ hW;have hpos:(0:Int)<(n:Int) % 1000000:=by omega
   have hne:=zJV (n % 1000000) (by omega) (by omega);have HE:Hid (uB n=vH (n / 1000000)++46::yJ ((vH (1000000+n % 1000000)).drop 1)):=by unfold Hid uB zAC;rw[if_neg (by omega),if_neg hr]
   have hl3:0<(vH (1000000+n % 1000000)).length:=by
    rcases Nat.eq_zero_or_pos (vH (1000000+n % 1000000)).length with h | h
    · exfalso;apply hne;rw[List.eq_nil_of_length_eq_zero h];rfl
    · exact h
   have HNE:=zh hne;clear hW hr hne;generalize vH (n / 1000000)=l at *;generalize vH (1000000+n % 1000000)=F at *;go_enter Tryz.func261,Tryz.ntmps261;go_wp2_with fail;refine(HK1.out _).mono ?_;rintro e w1 ⟨rfl,hb1⟩;have HB1:=zh hb1;clear hb1;go_wp2_with fail;refine(HK2.out _).mono ?_;rintro e w2 ⟨rfl,hb2⟩;have HB2:=zh (HB1.out.later hb2);clear hb2;go_wp2_with fail
   go_loop [5] (fun v=>∃t:ByteArray,v=.string t∧t.size≤7∧Hid (yJ t.data.toList=yJ (F.drop 1))) (fun v=>zIT v)
   case atStart =>
    refine⟨_,rfl,?_,?_⟩
    · rw[ByteArray.size_extract];simp[ByteArray.size];omega
    · unfold Hid;rw[Lib.extract_data];show yJ ((F.drop 1).take (F.length-1))=_;rw[List.take_of_length_le (by simp)]
   case round =>
    obtain⟨t,rfl,ht,hT⟩:=hrel
    have h0:0<t.size:=by
     rcases Nat.eq_zero_or_pos t.size with h | h
     · exfalso;apply HNE.out;rw[←hT.out,List.eq_nil_of_length_eq_zero (show t.data.toList.length=0 by rw[←Lib.size_eq];exact h)];rfl
     · exact h
    have HS:=zh (zHo t h0);have hem:(({ data:=l.toArray }:ByteArray)++(({ data:=#[46] }:ByteArray)++t)).toList.isEmpty=false:=by rw[yA,ByteArray.data_append,ByteArray.data_append,Array.toList_append,Array.toList_append];simp
    go_wp2_with fail
    · have hb:t[t.size-1]=48:=byte48.1 (by assumption)
      go_round
      case rel=>exact⟨_,rfl,by rw[zFB];omega,by unfold Hid;rw[←hT.out,HS.out,hb,zGM]⟩
      case measure=>simp only[zIT];have:=zFB t;show(t.extract 0 (t.size-1)).size<t.size;omega
    · have hb:t[t.size-1]≠48:=fun h=>by
       have h1:=byte48.2 h;have h2:((t[t.size-1].toNat:Int)==48)=false:=by assumption
       rw[h1]at h2;cases h2
      have HT:Hid (yJ (F.drop 1)=t.data.toList):=by
       unfold Hid;rw[←hT.out]
       conv=>lhs;rw[HS.out]
       rw[zGN _ _ hb,←HS.out]
      clear hb;go_ret;refine⟨zJ0 ?_,HB2.out⟩;rw[HE.out,HT.out];apply ByteArray.ext;rw[ByteArray.data_append,ByteArray.data_append];apply Array.toList_inj.1;simp
theorem zCq (n:Int) (w:World) (h1:-999999999999999999≤n) (h2:n≤999999999999999999) :
 Calls Tryz.prog 261 #[.int .i64 n] w fun e w'=>e=.returned (.string ⟨(uG n).toArray⟩)∧Below w.heap.size w w':=by
 by_cases hneg:n<0
 · have HK:Hid (∀W,Calls Tryz.prog 261 #[.int .i64 (-n)] W fun e w'=>e=.returned (.string ⟨(uB n.natAbs).toArray⟩)∧Below W.heap.size W w'):=fun W=>by
    have:=zCp n.natAbs W (by omega)
    rwa [show(n.natAbs:Int)=-n from by omega]at this
   have HE:Hid (uG n=45::uB n.natAbs):=if_pos hneg;have hlen:=zAL n.natAbs (by omega);generalize uB n.natAbs=l at *;go_enter Tryz.func261,Tryz.ntmps261;go_wp2_with fail;refine(HK.out _).mono ?_;rintro e w1 ⟨rfl,hb1⟩;have HB1:=zh hb1;clear hb1;go_wp2_with fail;go_ret;refine⟨zJ0 ?_,HB1.out⟩;rw[HE.out];apply ByteArray.ext;simp
 · have HE:uG n=uB n.toNat:=if_neg hneg;rw[HE];have:=zCp n.toNat w (by omega)
   rwa [show(n.toNat:Int)=n from by omega]at this
def vB (s:ByteArray):Bool:=decide (uG (xH s.data.toList)=s.data.toList)
theorem zHx (n:Nat) (_h:n≤999999999999999999):uB n≠[]:=by
 unfold uB;split
 · simp
 · rename_i h0;intro he;obtain⟨h1,h2⟩:=List.append_eq_nil_iff.1 he;unfold zAC at h2;split at h2
   · rename_i hr;have:=zAO 12 (n / 1000000) (by rw[zHL];omega);rw[h1]at this;simp[yL]at this;omega
   · cases h2
theorem zFK (n:Int) (h1:-999999999999999999≤n) (h2:n≤999999999999999999):0<(uG n).length∧(uG n).length≤21:=by
 unfold uG;split
 · have:=zAL n.natAbs (by omega);simp only[List.length_cons];omega
 · have a:=zAL n.toNat (by omega);have b:=List.length_pos_iff.2 (zHx n.toNat (by omega));omega
theorem zBx (l:List UInt8):-999999999999999999≤xH l∧xH l≤999999999999999999:=by
 have:=zJR l;unfold vE at this;omega
theorem zAc (s:ByteArray) (w:World) (hs:s.size≤1048576) :
 Calls Tryz.prog 287 #[.string s] w fun e w'=>e=.returned (.bool (vB s))∧Below w.heap.size w w':=by
 have hbd:=zBx s.data.toList;have hlen:=zFK _ hbd.1 hbd.2;by_cases h0:s.size=0
 · have HE:Hid (vB s=false):=by unfold Hid vB;rw[decide_eq_false_iff_not];intro h;rw[h,←Lib.size_eq]at hlen;omega
   have hem:s.toList.isEmpty=true:=by rw[yA,List.eq_nil_of_length_eq_zero (show s.data.toList.length=0 by rw[←Lib.size_eq];exact h0)];rfl
   clear hbd hlen h0;go_enter Tryz.func287,Tryz.ntmps287;go_wp2_with fail;go_ret;exact⟨zA0 HE.out.symm,Below.refl _ _⟩
 · have hem:s.toList.isEmpty=false:=by
    rw[yA]
    cases hx:s.data.toList with
    | nil=>exfalso;apply h0;rw[Lib.size_eq,hx];rfl
    | cons a l=>rfl
   by_cases h21:s.size≤21
   · have HK1:=zh (fun W=>zAT s W hs);have HK2:=zh (fun W=>zCq (xH s.data.toList) W hbd.1 hbd.2);have HE:Hid (vB s=decide (uG (xH s.data.toList)=s.data.toList)):=rfl;clear hbd hlen h0;generalize xH s.data.toList=n at *;generalize uG n=l at *;go_enter Tryz.func287,Tryz.ntmps287;go_wp2_with fail;refine(HK1.out _).mono ?_;rintro e w1 ⟨rfl,rfl⟩;go_wp2_with fail;refine(HK2.out _).mono ?_;rintro e w2 ⟨rfl,hb2⟩;have HB2:=zh hb2;clear hb2;go_wp2_with fail;go_ret;refine⟨zA0 ?_,HB2.out⟩;rw[HE.out,←yA,Bool.eq_iff_iff];simp
   · have HE:Hid (vB s=false):=by unfold Hid vB;rw[decide_eq_false_iff_not];intro h;rw[h,←Lib.size_eq]at hlen;omega
     clear hbd hlen h0;go_enter Tryz.func287,Tryz.ntmps287;go_wp2_with fail;go_ret;exact⟨zA0 HE.out.symm,Below.refl _ _⟩
end Go.Proofs.YtgmaamnofhmecaaGreatDoor
namespace Go.Proofs.YtgmaamnofhmecaaGreatDoor
open Go.RowKit
def wE (c:UInt8):Bool:=(decide (97≤c.toNat)&&decide (c.toNat≤122))||(decide (65≤c.toNat)&&decide (c.toNat≤90))
def zEh:List UInt8→Bool
 | []=>false
 | c::r=>(wE c||decide (c=37))&&r.all (fun x=>wE x||isD x)
def xF (s:ByteArray):Bool:=decide (s.size≤8)&&zEh s.data.toList
def vG (s:ByteArray):Bool:=decide (1≤s.size)&&decide (s.size≤24)
def yC (l:List ByteArray):Bool:=decide (l.length≤4)&&l.all vG
def uA (a b:ByteArray):Bool:=if (vB a&&vB b)=true then decide (xH a.data.toList<xH b.data.toList) else if (vB a != vB b)=true then vB a else Op.bytesLess a.toList b.toList
theorem zBf (c:UInt8) (w:World) :
 Calls Tryz.prog 249 #[.int .u8 c.toNat] w fun e w'=>e=.returned (.bool (wE c))∧w=w':=by
 unfold wE;generalize c.toNat=n;by_cases h1:97≤n
 · by_cases h2:n≤122
   all_goals
    go_enter Tryz.func249,Tryz.ntmps249
    go_wp2
    all_goals
     go_ret;exact⟨zA0 (by first | (simp;done) | (simp;omega) | (rw[Bool.eq_iff_iff];simp;omega)),rfl⟩
 · by_cases h3:65≤n
   · by_cases h4:n≤90
     all_goals
      go_enter Tryz.func249,Tryz.ntmps249
      go_wp2
      all_goals
       go_ret;exact⟨zA0 (by first | (simp;done) | (simp;omega) | (rw[Bool.eq_iff_iff];simp;omega)),rfl⟩
   · go_enter Tryz.func249,Tryz.ntmps249
     go_wp2
     all_goals
      go_ret;exact⟨zA0 (by first | (simp;done) | (simp;omega) | (rw[Bool.eq_iff_iff];simp;omega)),rfl⟩
theorem zDj (s:ByteArray) (w:World) (hs:s.size≤1048576) :
 Calls Tryz.prog 223 #[.string s] w fun e w'=>e=.returned (.bool (vG s))∧w=w':=by
 unfold vG;by_cases h1:1≤s.size
 · by_cases h2:s.size≤24
   all_goals
    go_enter Tryz.func223,Tryz.ntmps223
    go_wp2
    go_ret;exact⟨zA0 (by first | (simp;done) | (simp;omega) | (rw[Bool.eq_iff_iff];simp;omega)),rfl⟩
 · go_enter Tryz.func223,Tryz.ntmps223
   go_wp2
   go_ret;exact⟨zA0 (by first | (simp;done) | (simp;omega) | (rw[Bool.eq_iff_iff];simp;omega)),rfl⟩
theorem zIJ {α:Type} (p:α→Bool) (l:List α) (k:Nat) (h:k<l.length):(l.drop k).all p=(p l[k]&&(l.drop (k+1)).all p):=by
 rw[List.drop_eq_getElem_cons h];rfl
theorem zAy (A:Option Addr) (n c:Nat) (ss:List ByteArray) (w:World) (h:Strs w w.heap.size A n ss) (hn:n≤1048576) (hz:∀s∈ss,s.size≤1048576) :
 Calls Tryz.prog 225 #[.slice A n c] w fun e w'=>e=.returned (.bool (yC ss))∧w=w':=by
 have Hlen:=zh h.1;have HC:=zh h.2;have Hz:=zh hz;clear h hz;by_cases h4:4<n
 · have HE:Hid (yC ss=false):=by unfold Hid yC;rw[Hlen.out,decide_eq_false (by omega)];rfl
   go_enter Tryz.func225,Tryz.ntmps225;go_wp2_with fail;go_ret;exact⟨zA0 HE.out.symm,rfl⟩
 · have HE:Hid (yC ss=ss.all vG):=by unfold Hid yC;rw[Hlen.out,decide_eq_true (by omega)];rfl
   go_enter Tryz.func225,Tryz.ntmps225;go_wp2_with fail
   go_loop [3] (fun i=>∃k:Nat,k≤n∧i=.int .i64 k∧Hid (ss.all vG=(ss.drop k).all vG)) (fun i=>n-(intOf i).toNat)
   case atStart=>exact⟨0,Nat.zero_le _,rfl,rfl⟩
   case round =>
    obtain⟨k,hk,rfl,hS⟩:=hrel;by_cases hlt:k<n
    · obtain⟨b,o,rfl,hb,hcell⟩:=HC.out (by omega);have hck:=hcell k hlt;have hl:k<ss.length:=by rw[Hlen.out];exact hlt
      have HS:Hid ((ss.drop k).all vG=(vG (ss.getD k ByteArray.empty)&&(ss.drop (k+1)).all vG)):=by unfold Hid;rw[zIJ _ _ _ hl,List.getD_eq_getElem?_getD,List.getElem?_eq_getElem hl];rfl
      have hsz:=Hz.out (ss.getD k ByteArray.empty) (by rw[List.getD_eq_getElem?_getD,List.getElem?_eq_getElem hl];simp);clear hcell hl;generalize ss.getD k ByteArray.empty=s at *;have HK:=zh (zDj s w hsz);go_wp2_with fail;refine HK.out.mono ?_;rintro e w' ⟨rfl,rfl⟩;cases hx:vG s
      · have HX:=zh hx;clear hx;go_wp2_with fail;go_ret;exact⟨zA0 (by rw[HE.out,hS.out,HS.out,HX.out];rfl),rfl⟩
      · have HX:=zh hx;clear hx;go_wp2_with fail
        go_round
        case rel=>exact⟨k+1,by omega,by go_num,by unfold Hid;rw[hS.out,HS.out,HX.out];rfl⟩
        case measure=>simp[intOf];omega
    · go_wp2_with fail;go_ret;exact⟨zA0 (by rw[HE.out,hS.out,List.drop_of_length_le (by rw[Hlen.out];omega)];rfl),rfl⟩
theorem zDg (s:ByteArray) (h:0<s.size):zEh s.data.toList=((wE s[0]||decide (s[0]=37))&&(s.data.toList.drop 1).all (fun x=>wE x||isD x)):=by
 have:=zL0 s 0 h;rw[List.drop_zero]at this;rw[this];rfl
theorem zGa (s:ByteArray) (w:World) (hs:s.size≤1048576) :
 Calls Tryz.prog 205 #[.string s] w fun e w'=>e=.returned (.bool (xF s))∧w=w':=by
 by_cases h1:s.size<1
 · have HE:Hid (xF s=false):=by unfold Hid xF;rw[List.eq_nil_of_length_eq_zero (show s.data.toList.length=0 by rw[←Lib.size_eq];omega)];simp[zEh]
   go_enter Tryz.func205,Tryz.ntmps205;go_wp2_with fail;go_ret;exact⟨zA0 HE.out.symm,rfl⟩
 · by_cases h8:8<s.size
   · have HE:Hid (xF s=false):=by unfold Hid xF;rw[decide_eq_false (by omega)];rfl
     go_enter Tryz.func205,Tryz.ntmps205;go_wp2_with fail;go_ret;exact⟨zA0 HE.out.symm,rfl⟩
   · have h0:0<s.size:=by omega
     have HE:Hid (xF s=((wE s[0]||decide (s[0]=37))&&(s.data.toList.drop 1).all (fun x=>wE x||isD x))):=by unfold Hid xF;rw[decide_eq_true (by omega),zDg s h0];rfl
     have HK0:=zh (zBf s[0]);have hbe:=zBJ s[0] 37 (by omega);by_cases hf:(wE s[0]||decide (s[0]=37))=true
     · have HF:=zh hf;have HE2:Hid (xF s=(s.data.toList.drop 1).all (fun x=>wE x||isD x)):=by unfold Hid;rw[HE.out,hf];rfl
       have hbn:wE s[0]=false→((s[0].toNat:Int) != 37)=false:=fun h=>by
        rw[h]at hf;have:s[0]=37:=by simpa using hf
        rw[this];rfl
       have HBN:=zh hbn;clear hbn hf hbe HE;go_enter Tryz.func205,Tryz.ntmps205;go_wp2_with fail;refine(HK0.out _).mono ?_;rintro e w' ⟨rfl,rfl⟩;cases hl:wE s[0]
       all_goals
        have hq:=HBN.out
        first
          | (have hq2:=hq hl;clear hq)
          | clear hq
        clear hl HBN HF HK0;go_wp2_with fail
        go_loop [3] (fun i=>∃k:Nat,1≤k∧k≤s.size∧i=.int .i64 k∧Hid ((s.data.toList.drop 1).all (fun x=>wE x||isD x)=(s.data.toList.drop k).all (fun x=>wE x||isD x))) (fun i=>s.size-(intOf i).toNat)
        case atStart=>exact⟨1,by omega,by omega,rfl,rfl⟩
        case round =>
         obtain⟨k,hk1,hk,rfl,hS⟩:=hrel;by_cases hlt:k<s.size
         · have HD:=zh (zL0 s k hlt);have HK1:=zh (zBf s[k]);have HK2:=zh (zAb s[k]);go_wp2_with fail;refine(HK1.out _).mono ?_;rintro e w' ⟨rfl,rfl⟩;cases hl1:wE s[k]
           · have HL:=zh hl1;clear hl1;go_wp2_with fail;refine(HK2.out _).mono ?_;rintro e w' ⟨rfl,rfl⟩;cases hd1:isD s[k]
             · have HD1:=zh hd1;clear hd1;go_wp2_with fail;go_ret;exact⟨zA0 (by rw[HE2.out,hS.out,HD.out,List.all_cons,HL.out,HD1.out];rfl),rfl⟩
             · have HD1:=zh hd1;clear hd1;go_wp2_with fail
               go_round
               case rel=>exact⟨k+1,by omega,by omega,by go_num,by unfold Hid;rw[hS.out,HD.out,List.all_cons,HD1.out];simp⟩
               case measure=>simp[intOf];omega
           · have HL:=zh hl1;clear hl1;go_wp2_with fail
             go_round
             case rel=>exact⟨k+1,by omega,by omega,by go_num,by unfold Hid;rw[hS.out,HD.out,List.all_cons,HL.out];simp⟩
             case measure=>simp[intOf];omega
         · go_wp2_with fail;go_ret;exact⟨zA0 (by rw[HE2.out,hS.out,uU s k (by omega)];rfl),rfl⟩
     · have HE2:Hid (xF s=false):=by unfold Hid;rw[HE.out,Bool.not_eq_true _ |>.mp hf];rfl
       have hl0:wE s[0]=false:=by
        cases hx:wE s[0]
        · rfl
        · rw[hx]at hf;simp at hf
       have hb2:((s[0].toNat:Int) != 37)=true:=by
        rw[hl0]at hf;have h37:s[0]≠37:=by simpa using hf
        have hx:((s[0].toNat:Int)==37)=false:=by rw[decide_eq_false (by exact h37)]at hbe;exact hbe
        simp only[bne,hx];rfl
       rw[hl0]at HK0;clear hbe hf HE hl0;go_enter Tryz.func205,Tryz.ntmps205;go_wp2_with fail;refine(HK0.out _).mono ?_;rintro e w' ⟨rfl,rfl⟩;go_wp2_with fail;go_ret;exact⟨zA0 HE2.out.symm,rfl⟩
theorem zBg (a b:ByteArray) (w:World) (ha:a.size≤1048576) (hb:b.size≤1048576) :
 Calls Tryz.prog 264 #[.string a,.string b] w fun e w'=>e=.returned (.bool (uA a b))∧Below w.heap.size w w':=by
 have HK1:=zh (fun W=>zAc a W ha);have HK2:=zh (fun W=>zAc b W hb);have HK3:=zh (fun W=>zAT a W ha);have HK4:=zh (fun W=>zAT b W hb);have hR:uA a b=uA a b:=rfl
 conv at hR=>rhs;unfold uA
 generalize uA a b=R at *;generalize vB a=x at *;generalize vB b=y at *;generalize xH a.data.toList=p at *;generalize xH b.data.toList=q at *;have HR:=zh hR;clear hR;go_enter Tryz.func264,Tryz.ntmps264;go_wp2_with fail;refine(HK1.out _).mono ?_;rintro e w1 ⟨rfl,hb1⟩;have HB1:=zh hb1;clear hb1;go_wp2_with fail;refine(HK2.out _).mono ?_;rintro e w2 ⟨rfl,hb2⟩;have HB2:=zh (HB1.out.later hb2);clear hb2;cases x
 · cases y
   · have HE:Hid (R=Op.bytesLess a.toList b.toList):=HR.out;go_wp2_with fail;go_ret;exact⟨zA0 HE.out.symm,HB2.out⟩
   · have HE:Hid (R=false):=HR.out;go_wp2_with fail;go_ret;exact⟨zA0 HE.out.symm,HB2.out⟩
 · cases y
   · have HE:Hid (R=true):=HR.out;go_wp2_with fail;go_ret;exact⟨zA0 HE.out.symm,HB2.out⟩
   · have HE:Hid (R=decide (p<q)):=HR.out;go_wp2_with fail;refine(HK3.out _).mono ?_;rintro e w3 ⟨rfl,rfl⟩;go_wp2_with fail;refine(HK4.out _).mono ?_;rintro e w4 ⟨rfl,rfl⟩;go_wp2_with fail;go_ret;exact⟨zA0 HE.out.symm,HB2.out⟩
end Go.Proofs.YtgmaamnofhmecaaGreatDoor
