import Derived.Test.YtgmaamnofhmecaaGreatDoorV03
set_option maxHeartbeats 2000000
namespace Go.Proofs.YtgmaamnofhmecaaGreatDoor
open Go.RowKit
theorem zIv (t:ByteArray) (h:0<t.size):t.data.toList=(t.extract 0 (t.size-1)).data.toList++[t[t.size-1]]:=by
 rw[Lib.extract_data];simp only[List.drop_zero,Nat.sub_zero];have hl:t.size-1<t.data.toList.length:=by rw[←Lib.size_eq];omega
 have:=List.take_succ_eq_append_getElem hl;rw[show t.size-1+1=t.data.toList.length from by rw[←Lib.size_eq];omega,List.take_length]at this;exact this
theorem zGB (t:ByteArray):(t.extract 0 (t.size-1)).size=t.size-1:=by rw[ByteArray.size_extract];omega
theorem byte48 {b:UInt8}:((b.toNat:Int)==48)=true↔b=48:=by
 rw[beq_iff_eq];constructor
 · intro h;apply UInt8.toNat_inj.1;show b.toNat=48;omega
 · rintro rfl;rfl
def zKr (v:Value):Nat:=match v with | .string t=>t.size | _=>0
theorem zIW:(10:Nat) ^ 12=1000000000000:=by decide +kernel
theorem zBA (n:Nat) (h:n≤999999999999999999):(yC n).length≤20:=by
 unfold yC;split
 · simp
 · have h1:=vW 12 (n / 1000000) (by rw[zIW];omega);rw[List.length_append];unfold zBt;split
   · simp;omega
   · have h2:=vW 7 (1000000+n % 1000000) (by rw[zLG];omega);have h3:=zFh ((xK (1000000+n % 1000000)).drop 1);rw[List.length_drop]at h3;simp only[List.length_cons];omega
theorem zDB (n:Nat) (w:World) (hn:n≤999999999999999999) :
 Calls Tryz.prog 261 #[.int .i64 n] w fun e w'=>e=.returned (.string ⟨(yC n).toArray⟩)∧Below w.heap.size w w':=by
 have hW:n / 1000000<10 ^ 12:=by rw[zIW];omega
 have HK1:Hid (∀W,Calls Tryz.prog 286 #[.int .i64 ((n:Int) / 1000000)] W fun e w'=>e=.returned (.string ⟨(xK (n / 1000000)).toArray⟩)∧Below W.heap.size W w'):=fun W=>by
  have:=zAO 12 (n / 1000000) W hW (by omega)
  rwa [show((n / 1000000:Nat):Int)=(n:Int) / 1000000 from by omega]at this
 have hl1:=vW 12 _ hW;clear hW;by_cases hr:n % 1000000=0
 · have HE:Hid (yC n=if n=0 then [48] else xK (n / 1000000)):=by unfold Hid yC zBt;rw[if_pos hr];simp
   have HZ:Hid (xK (n / 1000000)=[]↔n=0):=by
    unfold Hid;constructor
    · intro h;have:=zBF 12 (n / 1000000) (by rw[zIW];omega);rw[h]at this;simp[xQ]at this;omega
    · rintro rfl;rfl
   have hr':¬(0:Int)<(n:Int) % 1000000:=by omega
   generalize xK (n / 1000000)=l at *;clear hr;go_enter Tryz.func261,Tryz.ntmps261;go_wp2_with fail;refine(HK1.out _).mono ?_;rintro e w1 ⟨rfl,hb1⟩;have HB1:=Lib.hid hb1;clear hb1;go_wp2_with fail
   · go_ret;have hl:l=[]:=by simpa using (show l.isEmpty=true by assumption)
     exact⟨yL (by rw[HE.out,if_pos (HZ.out.1 hl)]),HB1.out⟩
   · go_ret;have hl:l≠[]:=by simpa using (show l.isEmpty=false by assumption)
     exact⟨yL (by rw[HE.out,if_neg (fun h=>hl (HZ.out.2 h))]),HB1.out⟩
 · have hW:1000000+n % 1000000<10 ^ 7:=by rw[zLG];omega
   have HK2:Hid (∀W,Calls Tryz.prog 286 #[.int .i64 (1000000+(n:Int) % 1000000)] W fun e w'=>e=.returned (.string ⟨(xK (1000000+n % 1000000)).toArray⟩)∧Below W.heap.size W w'):=fun W=>by
    have:=zAO 7 (1000000+n % 1000000) W hW (by omega)
    rwa [show((1000000+n % 1000000:Nat):Int)=1000000+(n:Int) % 1000000 from by omega]at this
   have hl2:=vW 7 _ hW;have hpos:(0:Int)<(n:Int) % 1000000:=by omega
   have hne:=zLh (n % 1000000) (by omega) (by omega);have HE:Hid (yC n=xK (n / 1000000)++46::xL ((xK (1000000+n % 1000000)).drop 1)):=by unfold Hid yC zBt;rw[if_neg (by omega),if_neg hr]
   have hl3:0<(xK (1000000+n % 1000000)).length:=by
    rcases Nat.eq_zero_or_pos (xK (1000000+n % 1000000)).length with h | h
    · exfalso;apply hne;rw[List.eq_nil_of_length_eq_zero h];rfl
    · exact h
   have HNE:=Lib.hid hne;clear hW hr hne;generalize xK (n / 1000000)=l at *;generalize xK (1000000+n % 1000000)=F at *;go_enter Tryz.func261,Tryz.ntmps261;go_wp2_with fail;refine(HK1.out _).mono ?_;rintro e w1 ⟨rfl,hb1⟩;have HB1:=Lib.hid hb1;clear hb1;go_wp2_with fail;refine(HK2.out _).mono ?_;rintro e w2 ⟨rfl,hb2⟩;have HB2:=Lib.hid (HB1.out.later hb2);clear hb2;go_wp2_with fail
   go_loop [5] (fun v=>∃t:ByteArray,v=.string t∧t.size≤7∧Hid (xL t.data.toList=xL (F.drop 1))) (fun v=>zKr v)
   case atStart =>
    refine⟨_,rfl,?_,?_⟩
    · rw[ByteArray.size_extract];simp[ByteArray.size];omega
    · unfold Hid;rw[Lib.extract_data];show xL ((F.drop 1).take (F.length-1))=_;rw[List.take_of_length_le (by simp)]
   case round =>
    obtain⟨t,rfl,ht,hT⟩:=hrel
    have h0:0<t.size:=by
     rcases Nat.eq_zero_or_pos t.size with h | h
     · exfalso;apply HNE.out;rw[←hT.out,List.eq_nil_of_length_eq_zero (show t.data.toList.length=0 by rw[←Lib.size_eq];exact h)];rfl
     · exact h
    have HS:=Lib.hid (zIv t h0);have hem:(({ data:=l.toArray }:ByteArray)++(({ data:=#[46] }:ByteArray)++t)).toList.isEmpty=false:=by rw[yD,ByteArray.data_append,ByteArray.data_append,Array.toList_append,Array.toList_append];simp
    go_wp2_with fail
    · have hb:t[t.size-1]=48:=byte48.1 (by assumption)
      go_round
      case rel=>exact⟨_,rfl,by rw[zGB];omega,by unfold Hid;rw[←hT.out,HS.out,hb,zHI]⟩
      case measure=>simp only[zKr];have:=zGB t;show(t.extract 0 (t.size-1)).size<t.size;omega
    · have hb:t[t.size-1]≠48:=fun h=>by
       have h1:=byte48.2 h;have h2:((t[t.size-1].toNat:Int)==48)=false:=by assumption
       rw[h1]at h2;cases h2
      have HT:Hid (xL (F.drop 1)=t.data.toList):=by
       unfold Hid;rw[←hT.out]
       conv=>lhs;rw[HS.out]
       rw[zHJ _ _ hb,←HS.out]
      clear hb;go_ret;refine⟨yL ?_,HB2.out⟩;rw[HE.out,HT.out];apply ByteArray.ext;rw[ByteArray.data_append,ByteArray.data_append];apply Array.toList_inj.1;simp
theorem zGW (n:Int) (w:World) (h1:-999999999999999999≤n) (h2:n≤999999999999999999) :
 Calls Tryz.prog 261 #[.int .i64 n] w fun e w'=>e=.returned (.string ⟨(wM n).toArray⟩)∧Below w.heap.size w w':=by
 by_cases hneg:n<0
 · have HK:Hid (∀W,Calls Tryz.prog 261 #[.int .i64 (-n)] W fun e w'=>e=.returned (.string ⟨(yC n.natAbs).toArray⟩)∧Below W.heap.size W w'):=fun W=>by
    have:=zDB n.natAbs W (by omega)
    rwa [show(n.natAbs:Int)=-n from by omega]at this
   have HE:Hid (wM n=45::yC n.natAbs):=if_pos hneg;have hlen:=zBA n.natAbs (by omega);generalize yC n.natAbs=l at *;go_enter Tryz.func261,Tryz.ntmps261;go_wp2_with fail;refine(HK.out _).mono ?_;rintro e w1 ⟨rfl,hb1⟩;have HB1:=Lib.hid hb1;clear hb1;go_wp2_with fail;go_ret;refine⟨yL ?_,HB1.out⟩;rw[HE.out];apply ByteArray.ext;simp
 · have HE:wM n=yC n.toNat:=if_neg hneg;rw[HE];have:=zDB n.toNat w (by omega)
   rwa [show(n.toNat:Int)=n from by omega]at this
def zC0 (s:ByteArray):Bool:=decide (wM (yN s.data.toList)=s.data.toList)
theorem zIB (n:Nat) (_h:n≤999999999999999999):yC n≠[]:=by
 unfold yC;split
 · simp
 · rename_i h0;intro he;obtain⟨h1,h2⟩:=List.append_eq_nil_iff.1 he;unfold zBt at h2;split at h2
   · rename_i hr;have:=zBF 12 (n / 1000000) (by rw[zIW];omega);rw[h1]at this;simp[xQ]at this;omega
   · cases h2
theorem zGF (n:Int) (h1:-999999999999999999≤n) (h2:n≤999999999999999999):0<(wM n).length∧(wM n).length≤21:=by
 unfold wM;split
 · have:=zBA n.natAbs (by omega);simp only[List.length_cons];omega
 · have a:=zBA n.toNat (by omega);have b:=List.length_pos_iff.2 (zIB n.toNat (by omega));omega
theorem zBo (l:List UInt8):-999999999999999999≤yN l∧yN l≤999999999999999999:=by
 have:=zLd l;unfold vG at this;omega
theorem zCx (s:ByteArray) (w:World) (hs:s.size≤1048576) :
 Calls Tryz.prog 287 #[.string s] w fun e w'=>e=.returned (.bool (zC0 s))∧Below w.heap.size w w':=by
 have hbd:=zBo s.data.toList;have hlen:=zGF _ hbd.1 hbd.2;by_cases h0:s.size=0
 · have HE:Hid (zC0 s=false):=by unfold Hid zC0;rw[decide_eq_false_iff_not];intro h;rw[h,←Lib.size_eq]at hlen;omega
   have hem:s.toList.isEmpty=true:=by rw[yD,List.eq_nil_of_length_eq_zero (show s.data.toList.length=0 by rw[←Lib.size_eq];exact h0)];rfl
   clear hbd hlen h0;go_enter Tryz.func287,Tryz.ntmps287;go_wp2_with fail;go_ret;exact⟨zA0 HE.out.symm,Below.refl _ _⟩
 · have hem:s.toList.isEmpty=false:=by
    rw[yD]
    cases hx:s.data.toList with
    | nil=>exfalso;apply h0;rw[Lib.size_eq,hx];rfl
    | cons a l=>rfl
   by_cases h21:s.size≤21
   · have HK1:=Lib.hid (fun W=>zCZ s W hs);have HK2:=Lib.hid (fun W=>zGW (yN s.data.toList) W hbd.1 hbd.2);have HE:Hid (zC0 s=decide (wM (yN s.data.toList)=s.data.toList)):=rfl;clear hbd hlen h0;generalize yN s.data.toList=n at *;generalize wM n=l at *;go_enter Tryz.func287,Tryz.ntmps287;go_wp2_with fail;refine(HK1.out _).mono ?_;rintro e w1 ⟨rfl,rfl⟩;go_wp2_with fail;refine(HK2.out _).mono ?_;rintro e w2 ⟨rfl,hb2⟩;have HB2:=Lib.hid hb2;clear hb2;go_wp2_with fail;go_ret;refine⟨zA0 ?_,HB2.out⟩;rw[HE.out,←yD,Bool.eq_iff_iff];simp
   · have HE:Hid (zC0 s=false):=by unfold Hid zC0;rw[decide_eq_false_iff_not];intro h;rw[h,←Lib.size_eq]at hlen;omega
     clear hbd hlen h0;go_enter Tryz.func287,Tryz.ntmps287;go_wp2_with fail;go_ret;exact⟨zA0 HE.out.symm,Below.refl _ _⟩
end Go.Proofs.YtgmaamnofhmecaaGreatDoor
