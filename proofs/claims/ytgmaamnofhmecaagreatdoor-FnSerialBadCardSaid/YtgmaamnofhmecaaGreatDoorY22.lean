import Derived.Test.YtgmaamnofhmecaaGreatDoorY21
set_option linter.unusedSimpArgs false
set_option maxHeartbeats 8000000
namespace Go.Proofs.YtgmaamnofhmecaaGreatDoor
open Go.RowKit
set_option linter.unusedVariables false
set_option maxRecDepth 100000 in
theorem zEk (s:ByteArray) (N:Nat) (r:List UInt8) (w:World) (htab:uG w) (hs:s.data.toList=be8 N++r) (hN0:0<N) (hN:N<2000000000000000000) (hz:s.size≤1048576) :
 Calls Tryz.prog 258 #[.string s] w (zDU s ⟨(wG ((N:Int)-1000000000000000000)).toArray⟩ r w):=by
 have hsz:s.size=8+r.length:=by have:=congrArg List.length hs;rw[List.length_append,wL,Array.length_toList]at this;exact this
 have h8:8≤s.size:=by omega
 have h8b:∀k,k<8→k<s.size:=fun k h=>by omega
 have HBY:Hid (∀k (h:k<8),(s[k]'(h8b k h)).toNat=(N / 2 ^ (56-8*k)) % 256):=fun k h=>by rw[uM hs (h8b k h) (by rw[List.getElem?_append_left (by rw[wL];exact h)];exact zJT N k h),UInt8.toNat_ofNat'];have:=Nat.mod_lt (N / 2 ^ (56-8*k)) (show 0<256 by decide);rw[Nat.mod_eq_of_lt (a:=N / 2 ^ (56-8*k) % 256) (by simpa using this)]
 have HX2:Hid ((s.extract 8 s.size).data.toList=r):=by unfold Hid;rw[yU,hs,List.drop_left' (wL N),List.take_of_length_le (by omega)]
 have HKT:=Lib.hid (fun W (hW:Below w.heap.size w W)=>zCH ((N:Int)-1000000000000000000) W (wA htab hW) (by omega) (by omega));clear hs hsz htab;go_enter Tryz.func258,Tryz.ntmps258;go_wp2_with fail;go_loopw [5,10] (fun v i wr=>∃k:Nat,k≤8∧i=.int .i64 k∧v=.int .u64 ((N / 2 ^ (64-8*k):Nat):Int)∧Hid (Below w.heap.size w wr)) (fun _ i _=>8-(intOf i).toNat);case atStart=>exact⟨0,by omega,rfl,by rw[show N / 2 ^ (64-8*0)=0 from by simp only[Nat.mul_zero,Nat.sub_zero,Nat.reducePow];omega];rfl,Below.refl _ _⟩
 case round =>
  obtain⟨k,hk,rfl,rfl,HB⟩:=hrel;by_cases hlt:k<8
  · have hcs:k=0∨k=1∨k=2∨k=3∨k=4∨k=5∨k=6∨k=7:=by omega
    rcases hcs with rfl | rfl | rfl | rfl | rfl | rfl | rfl | rfl
    · have hb:(s[0]'(by omega)).toNat=(N / 72057594037927936) % 256:=HBY.out 0 (by omega);have hst:(N:Int) / 18446744073709551616*256+(N:Int) / 72057594037927936 % 256=(N:Int) / 72057594037927936:=by omega
      have hbI:((s[0]'(by omega)).toNat:Int)=(N:Int) / 72057594037927936 % 256:=by rw[hb];omega
      simp only[Nat.reduceMul,Nat.reduceSub,Nat.reducePow]at *;generalize hbb:((s[0]'(by omega)).toNat:Int)=b at *;have hb0:0≤b:=by omega
      have hb2:b<256:=by omega
      have hw1:IntKind.u64.wrap ((N:Int) / 18446744073709551616*256)=(N:Int) / 18446744073709551616*256:=by rw[IntKind.wrap_u64];omega
      have hw2:IntKind.u64.wrap ((N:Int) / 18446744073709551616*256+b)=(N:Int) / 72057594037927936:=by rw[IntKind.wrap_u64];omega
      have hw3:IntKind.u64.wrap b=b:=by rw[IntKind.wrap_u64];omega
      clear hb hst;go_wp2_with fail;go_roundw;case rel=>exact⟨1,by omega,by go_num,by simp;omega,HB.out⟩
      case measure=>simp[intOf]
    · have hb:(s[1]'(by omega)).toNat=(N / 281474976710656) % 256:=HBY.out 1 (by omega);have hst:(N:Int) / 72057594037927936*256+(N:Int) / 281474976710656 % 256=(N:Int) / 281474976710656:=by omega
      have hbI:((s[1]'(by omega)).toNat:Int)=(N:Int) / 281474976710656 % 256:=by rw[hb];omega
      simp only[Nat.reduceMul,Nat.reduceSub,Nat.reducePow]at *;generalize hbb:((s[1]'(by omega)).toNat:Int)=b at *;have hb0:0≤b:=by omega
      have hb2:b<256:=by omega
      have hw1:IntKind.u64.wrap ((N:Int) / 72057594037927936*256)=(N:Int) / 72057594037927936*256:=by rw[IntKind.wrap_u64];omega
      have hw2:IntKind.u64.wrap ((N:Int) / 72057594037927936*256+b)=(N:Int) / 281474976710656:=by rw[IntKind.wrap_u64];omega
      have hw3:IntKind.u64.wrap b=b:=by rw[IntKind.wrap_u64];omega
      clear hb hst;go_wp2_with fail;go_roundw;case rel=>exact⟨2,by omega,by go_num,by simp;omega,HB.out⟩
      case measure=>simp[intOf]
    · have hb:(s[2]'(by omega)).toNat=(N / 1099511627776) % 256:=HBY.out 2 (by omega);have hst:(N:Int) / 281474976710656*256+(N:Int) / 1099511627776 % 256=(N:Int) / 1099511627776:=by omega
      have hbI:((s[2]'(by omega)).toNat:Int)=(N:Int) / 1099511627776 % 256:=by rw[hb];omega
      simp only[Nat.reduceMul,Nat.reduceSub,Nat.reducePow]at *;generalize hbb:((s[2]'(by omega)).toNat:Int)=b at *;have hb0:0≤b:=by omega
      have hb2:b<256:=by omega
      have hw1:IntKind.u64.wrap ((N:Int) / 281474976710656*256)=(N:Int) / 281474976710656*256:=by rw[IntKind.wrap_u64];omega
      have hw2:IntKind.u64.wrap ((N:Int) / 281474976710656*256+b)=(N:Int) / 1099511627776:=by rw[IntKind.wrap_u64];omega
      have hw3:IntKind.u64.wrap b=b:=by rw[IntKind.wrap_u64];omega
      clear hb hst;go_wp2_with fail;go_roundw;case rel=>exact⟨3,by omega,by go_num,by simp;omega,HB.out⟩
      case measure=>simp[intOf]
    · have hb:(s[3]'(by omega)).toNat=(N / 4294967296) % 256:=HBY.out 3 (by omega);have hst:(N:Int) / 1099511627776*256+(N:Int) / 4294967296 % 256=(N:Int) / 4294967296:=by omega
      have hbI:((s[3]'(by omega)).toNat:Int)=(N:Int) / 4294967296 % 256:=by rw[hb];omega
      simp only[Nat.reduceMul,Nat.reduceSub,Nat.reducePow]at *;generalize hbb:((s[3]'(by omega)).toNat:Int)=b at *;have hb0:0≤b:=by omega
      have hb2:b<256:=by omega
      have hw1:IntKind.u64.wrap ((N:Int) / 1099511627776*256)=(N:Int) / 1099511627776*256:=by rw[IntKind.wrap_u64];omega
      have hw2:IntKind.u64.wrap ((N:Int) / 1099511627776*256+b)=(N:Int) / 4294967296:=by rw[IntKind.wrap_u64];omega
      have hw3:IntKind.u64.wrap b=b:=by rw[IntKind.wrap_u64];omega
      clear hb hst;go_wp2_with fail;go_roundw;case rel=>exact⟨4,by omega,by go_num,by simp;omega,HB.out⟩
      case measure=>simp[intOf]
    · have hb:(s[4]'(by omega)).toNat=(N / 16777216) % 256:=HBY.out 4 (by omega);have hst:(N:Int) / 4294967296*256+(N:Int) / 16777216 % 256=(N:Int) / 16777216:=by omega
      have hbI:((s[4]'(by omega)).toNat:Int)=(N:Int) / 16777216 % 256:=by rw[hb];omega
      simp only[Nat.reduceMul,Nat.reduceSub,Nat.reducePow]at *;generalize hbb:((s[4]'(by omega)).toNat:Int)=b at *;have hb0:0≤b:=by omega
      have hb2:b<256:=by omega
      have hw1:IntKind.u64.wrap ((N:Int) / 4294967296*256)=(N:Int) / 4294967296*256:=by rw[IntKind.wrap_u64];omega
      have hw2:IntKind.u64.wrap ((N:Int) / 4294967296*256+b)=(N:Int) / 16777216:=by rw[IntKind.wrap_u64];omega
      have hw3:IntKind.u64.wrap b=b:=by rw[IntKind.wrap_u64];omega
      clear hb hst;go_wp2_with fail;go_roundw;case rel=>exact⟨5,by omega,by go_num,by simp;omega,HB.out⟩
      case measure=>simp[intOf]
    · have hb:(s[5]'(by omega)).toNat=(N / 65536) % 256:=HBY.out 5 (by omega);have hst:(N:Int) / 16777216*256+(N:Int) / 65536 % 256=(N:Int) / 65536:=by omega
      have hbI:((s[5]'(by omega)).toNat:Int)=(N:Int) / 65536 % 256:=by rw[hb];omega
      simp only[Nat.reduceMul,Nat.reduceSub,Nat.reducePow]at *;generalize hbb:((s[5]'(by omega)).toNat:Int)=b at *;have hb0:0≤b:=by omega
      have hb2:b<256:=by omega
      have hw1:IntKind.u64.wrap ((N:Int) / 16777216*256)=(N:Int) / 16777216*256:=by rw[IntKind.wrap_u64];omega
      have hw2:IntKind.u64.wrap ((N:Int) / 16777216*256+b)=(N:Int) / 65536:=by rw[IntKind.wrap_u64];omega
      have hw3:IntKind.u64.wrap b=b:=by rw[IntKind.wrap_u64];omega
      clear hb hst;go_wp2_with fail;go_roundw;case rel=>exact⟨6,by omega,by go_num,by simp;omega,HB.out⟩
      case measure=>simp[intOf]
    · have hb:(s[6]'(by omega)).toNat=(N / 256) % 256:=HBY.out 6 (by omega);have hst:(N:Int) / 65536*256+(N:Int) / 256 % 256=(N:Int) / 256:=by omega
      have hbI:((s[6]'(by omega)).toNat:Int)=(N:Int) / 256 % 256:=by rw[hb];omega
      simp only[Nat.reduceMul,Nat.reduceSub,Nat.reducePow]at *;generalize hbb:((s[6]'(by omega)).toNat:Int)=b at *;have hb0:0≤b:=by omega
      have hb2:b<256:=by omega
      have hw1:IntKind.u64.wrap ((N:Int) / 65536*256)=(N:Int) / 65536*256:=by rw[IntKind.wrap_u64];omega
      have hw2:IntKind.u64.wrap ((N:Int) / 65536*256+b)=(N:Int) / 256:=by rw[IntKind.wrap_u64];omega
      have hw3:IntKind.u64.wrap b=b:=by rw[IntKind.wrap_u64];omega
      clear hb hst;go_wp2_with fail;go_roundw;case rel=>exact⟨7,by omega,by go_num,by simp;omega,HB.out⟩
      case measure=>simp[intOf]
    · have hb:(s[7]'(by omega)).toNat=(N / 1) % 256:=HBY.out 7 (by omega);have hst:(N:Int) / 256*256+(N:Int) / 1 % 256=(N:Int) / 1:=by omega
      have hbI:((s[7]'(by omega)).toNat:Int)=(N:Int) / 1 % 256:=by rw[hb];omega
      simp only[Nat.reduceMul,Nat.reduceSub,Nat.reducePow]at *;generalize hbb:((s[7]'(by omega)).toNat:Int)=b at *;have hb0:0≤b:=by omega
      have hb2:b<256:=by omega
      have hw1:IntKind.u64.wrap ((N:Int) / 256*256)=(N:Int) / 256*256:=by rw[IntKind.wrap_u64];omega
      have hw2:IntKind.u64.wrap ((N:Int) / 256*256+b)=(N:Int) / 1:=by rw[IntKind.wrap_u64];omega
      have hw3:IntKind.u64.wrap b=b:=by rw[IntKind.wrap_u64];omega
      clear hb hst;go_wp2_with fail;go_roundw;case rel=>exact⟨8,by omega,by go_num,by simp;omega,HB.out⟩
      case measure=>simp[intOf]
  · obtain rfl:k=8:=by omega
    have hc1:IntKind.i64.wrap (N:Int)=(N:Int):=by rw[IntKind.wrap_i64];omega
    have hc2:IntKind.i64.wrap ((N:Int)-1000000000000000000)=(N:Int)-1000000000000000000:=by rw[IntKind.wrap_i64];omega
    have hc3:¬(2000000000000000000:Int)<(N:Int):=by omega
    simp only[Nat.reduceMul,Nat.reduceSub,Nat.pow_zero,Nat.div_one];go_wp2_with fail
    go_region_held3 (fun w'=>True) (trivial)
     (first | (go_at_call 278;refine(HKT.out _ (by exact HB.out.drew)).mono ?_;rintro e w3 ⟨rfl,hb3'⟩;have hb3:=zD0 hb3';clear hb3'))
    have HB3:=Lib.hid (HB.out.later hb3);clear hb3;go_wp2_with fail
    go_ret3
    exact⟨_,rfl,HX2.out,HB3.out⟩
theorem zDL (s:ByteArray) (k:Nat) (h:k<s.size):Go.Lib.byteCells (s.data.toList.take (k+1))=Go.Lib.byteCells (s.data.toList.take k)++[.int .u8 s[k].toNat]:=by
 rw[zFy s k h,Go.Lib.byteCells_append];rfl
set_option maxRecDepth 100000 in
theorem zEj (v s:ByteArray) (r:List UInt8) (w:World) (hv:v.data.toList=s.data.toList++0::0::r) (hp:uP s) (hz:v.size≤1048576) :
 Calls Tryz.prog 259 #[.string v] w (zDU v s r w):=by
 have hl:s.data.toList.length=s.size:=by rw[Array.length_toList];rfl
 have hsz:v.size=s.size+2+r.length:=by have:=congrArg List.length hv;rw[List.length_append,hl,Array.length_toList,List.length_cons,List.length_cons]at this;have h3:v.data.size=v.size:=rfl;omega
 have hvk1:∀k,k<s.size→k<v.size:=fun k h=>by omega
 have hv1:s.size<v.size:=by omega
 have hv2:s.size+1<v.size:=by omega
 have HAT:Hid (∀k (h:k<s.size),v[k]'(hvk1 k h)=s[k]):=fun k h=>uM hv (hvk1 k h) (by
  rw[List.getElem?_append_left (by rw[hl];exact h),Array.getElem?_toList]
  exact Array.getElem?_eq_getElem h)
 have HZ1:Hid (v[s.size]'hv1=0):=uM hv hv1 (by
  rw[List.getElem?_append_right (by rw[hl];exact Nat.le_refl _),hl,Nat.sub_self]
  rfl)
 have HZ2:Hid (v[s.size+1]'hv2=0):=uM hv hv2 (by
  rw[List.getElem?_append_right (by rw[hl];omega),hl,show s.size+1-s.size=1 by omega]
  rfl)
 have HX2:Hid ((v.extract (s.size+2) v.size).data.toList=r):=by
  unfold Hid;have hv3:v.data.toList=(s.data.toList++[0,0])++r:=by rw[hv,List.append_assoc];rfl
  rw[yU,hv3,List.drop_left' (by rw[List.length_append,hl];rfl),List.take_of_length_le (by omega)]
 have HP:Hid (∀k (h:k<s.size),s[k]≠0):=fun k h e=>hp (by rw[←e];exact Array.getElem_mem_toList h);have HSL:Hid (s.data.toList.length=s.size):=hl;have hs2:s.size+2≤v.size:=by omega
 clear hv hp hl hsz;have HBL0:Hid (Go.Lib.IsBuilder 188 5 w.heap.size w.heap.size (Go.Lib.byteCells []) (w.alloc (.cells #[.pointer none,.slice none 0 0] 188))):=.inl ⟨Nat.le_refl _,.slice none 0 0,heap_alloc_new _ _,World.ownsRow_nil _ _ _ _,by simp[Value.ownBlock]⟩;go_enter Tryz.func259,Tryz.ntmps259;go_wp2_with fail;go_loopw [6] (fun i wr=>∃k:Nat,k≤s.size∧i=.int .i64 k∧Hid (Go.Lib.IsBuilder 188 5 w.heap.size w.heap.size (Go.Lib.byteCells (s.data.toList.take k)) wr)∧Hid (Below w.heap.size w wr)) (fun i _=>s.size+1-(intOf i).toNat);case atStart=>exact⟨0,Nat.zero_le _,rfl,HBL0.out,Below.new _ _⟩
 case round =>
  obtain⟨k,hk,rfl,HBL,HB⟩:=hrel;have hszr:=HB.out.size;have hc1:(k:Int)+1<(v.size:Int):=by omega
  have hvi:((k:Int)+1).toNat=k+1:=by omega
  by_cases hlt:k<s.size
  · have hvk:k<v.size:=hvk1 k hlt;have hbb:=HAT.out k hlt;have hne:=HP.out k hlt;have HT:=Lib.hid (zDL s k hlt);rw[←hbb]at hne HT;have hb3:(((v[k]'hvk).toNat:Int) != (0:Int))=true:=by have:=zFx hne;simpa [bne] using this
    have hlen:(Go.Lib.byteCells (s.data.toList.take k)).length+1≤140737488355328:=by rw[Go.Lib.byteCells_length,List.length_take,HSL.out];omega
    clear hbb hne HX2 HZ1 HZ2;go_wp2_with fail;refine(Tryz.B_WriteByte _ w.heap.size _ _ wr HBL.out hlen hszr).mono ?_;rintro e w2 ⟨rfl,hbl2,hb2⟩;have HB2:=Lib.hid (HB.out.trans hb2);have HBL2:Hid (Go.Lib.IsBuilder 188 5 w.heap.size w.heap.size (Go.Lib.byteCells (s.data.toList.take (k+1))) w2):=by unfold Hid;rw[HT.out];exact .inr hbl2
    clear hb2 hbl2;go_wp2_with fail;go_roundw;case rel=>exact⟨k+1,by omega,by go_num,HBL2.out,HB2.out⟩
    case measure=>simp[intOf];omega
  · obtain rfl:k=s.size:=by omega
    have hb3:(((v[s.size]'hv1).toNat:Int) != (0:Int))=false:=by rw[HZ1.out];rfl
    have hb4:(((v[s.size+1]'hv2).toNat:Int)==(0:Int))=true:=by rw[HZ2.out];rfl
    have HE:Hid (s.data.toList.take s.size=s.data.toList):=List.take_of_length_le (by rw[HSL.out];exact Nat.le_refl _);rw[HE.out]at HBL;have HKS:=Lib.hid (fun W (hW:Below w.heap.size wr W) (hbl:Go.Lib.IsBuilder 188 5 w.heap.size w.heap.size (Go.Lib.byteCells s.data.toList) W)=>Tryz.B_String w.heap.size w.heap.size s.data.toList W hbl (Nat.le_trans hszr hW.size));have hvi2:((s.size:Int)+2).toNat=s.size+2:=by omega
    have hs2I:(s.size:Int)+2≤(v.size:Int):=by omega
    have hs0I:(0:Int)≤(s.size:Int)+2:=by omega
    have hwI:IntKind.i64.wrap ((s.size:Int)+2)=(s.size:Int)+2:=by rw[IntKind.wrap_i64];omega
    clear HAT HP;go_wp2_with fail
    go_region_held3 (fun w'=>True) (trivial)
     (first | (go_at_call 208;refine(HKS.out _ (by exact(Below.refl _ _).drew) (by exact zCe HBL.out (Below.refl _ _).drew)).mono ?_;rintro e w3 ⟨rfl,hb3⟩;have hb4:=HB.out.drew.trans hb3;clear hb3))
    have HB4:=Lib.hid hb4;clear hb4;go_wp2_with fail
    go_ret3
    refine⟨v.extract (s.size+2) v.size,?_,HX2.out,HB4.out⟩;rw[show Value.string s=.string ⟨s.data.toList.toArray⟩ from congrArg Value.string (zFN s).symm];rfl
end Go.Proofs.YtgmaamnofhmecaaGreatDoor
