import Derived.Test.YtgmaamnofhmecaaGreatDoorV36
import Derived.Test.YtgmaamnofhmecaaGreatDoorV14
import Derived.Test.YtgmaamnofhmecaaGreatDoorV26
namespace Go.Proofs.YtgmaamnofhmecaaGreatDoor
open Go.RowKit
set_option linter.unusedVariables false
theorem zGZ (g:ByteArray) (cols r:List ByteArray) (c:ByteArray):zI0 2 g cols r c=zAb g (r.getD 0 ByteArray.empty) c (cellAt cols r c):=rfl
theorem zIT (g:ByteArray) (cols r:List ByteArray) (c:ByteArray):zI0 1 g cols r c=zBP g (r.getD 0 ByteArray.empty) c (cellAt cols r c):=rfl
theorem zLL {ns:List NodeD} {key:ByteArray} (h:0≤atI ns key):∃j,j<ns.length∧atI ns key=(j:Int)∧(ns.getD j default).subs.getD 1 ByteArray.empty=key:=by
 obtain⟨j,h1,h2,h3⟩:=zHf _ ns 0 h;exact⟨j,h1,by rw[show atI ns key=wQ (zAR key) ns 0 from rfl,h2];simp,of_decide_eq_true h3⟩
theorem zLc {cols:List ByteArray} {ns:List NodeD} {key:ByteArray} (h:(uF cols ns key).1=0):∃d∈ns,d.subs.getD 1 ByteArray.empty=key∧zAQ cols d=some (uF cols ns key).2:=by
 unfold uF at h ⊢;split at h
 · cases h
 · next hn =>
   rw[if_neg hn];obtain⟨j,h1,h2,h3⟩:=zLL (by omega:0≤atI ns key);rw[h2,Int.toNat_natCast]at h ⊢;refine⟨ns.getD j default,xD _ _ h1,h3,?_⟩;unfold zAQ;rw[h3]
   cases hu:yF cols key (ns.getD j default).val with
   | none=>rw[hu]at h;exact absurd h (by decide)
   | some r=>rfl
theorem zGt {b:TableD} {old r:List ByteArray} (hb:zF0 b=true) (ho:vC b.cols old=true) (hr:vC b.cols r=true) (c:ByteArray) (hc:c∈b.idx):∀x∈zI0 2 b.glob b.cols old c++zI0 1 b.glob b.cols r c,vF x=true∧x.name=b.glob∧x.subs.getD 0 ByteArray.empty=iS∧x.subs.length=4:=fun x hx=>by
 rcases List.mem_append.1 hx with hx | hx
 · have:=zCA (b:=b) (r:=old) 2 (.inr rfl) hb ho x (List.mem_flatMap.2 ⟨c,hc,hx⟩);exact⟨this.1,this.2.2⟩
 · have:=zCA (b:=b) (r:=r) 1 (.inl rfl) hb hr x (List.mem_flatMap.2 ⟨c,hc,hx⟩);exact⟨this.1,this.2.2⟩
theorem zIL {b:TableD} {old r:List ByteArray} (hb:zF0 b=true) (ho:vC b.cols old=true) (hr:vC b.cols r=true):∀x∈zQ0 b old r,vF x=true∧x.name=b.glob∧x.subs.getD 0 ByteArray.empty=iS∧x.subs.length=4:=fun x hx=>by
 unfold zQ0 at hx;obtain⟨c,hc,hx⟩:=List.mem_flatMap.1 hx;unfold zCj at hx;split at hx
 · simp at hx
 · exact zGt hb ho hr c hc x hx
theorem zJq {fs:List NodeD} {b:TableD} {r:List ByteArray} (h:(zAH fs b r).1=0):xA fs=true∧zF0 b=true∧vC b.cols r=true∧(uF b.cols (yA b.glob fs) (r.getD 0 ByteArray.empty)).1=0∧(zAH fs b r).2=xT b.glob r::zQ0 b (uF b.cols (yA b.glob fs) (r.getD 0 ByteArray.empty)).2 r:=by
 unfold zAH at h ⊢;split at h
 · next hh =>
   rw[if_pos hh];split at h
   · next ha=>rw[if_pos ha];simp only[Bool.and_eq_true]at hh;exact⟨hh.1,hh.2.1,hh.2.2,ha,rfl⟩
   · next ha=>exact absurd h ha
 · cases h
theorem zFN {d:NodeD} {g key:ByteArray} (h:yI g d=true) (hk:d.subs.getD 1 ByteArray.empty=key):d.name=g∧d.subs=[rS,key]:=by
 unfold yI at h;simp only[Bool.and_eq_true,decide_eq_true_eq]at h;refine⟨h.1,?_⟩;rw[zKj h.2.1,h.2.2,hk];rfl
theorem zKw (g:ByteArray) (r:List ByteArray) (v:ByteArray):yI g ⟨g,[rS,r.getD 0 ByteArray.empty],v⟩=true:=by unfold yI;simp[rS]
theorem zFS {fs:List NodeD} {g key v:ByteArray} (hh:yU fs g [rS,key]=true):(yA g (zBQ fs g [rS,key] v)).length=(yA g fs).length:=by
 have h2:=hh;unfold yU zDC at h2;simp only[Bool.and_eq_true,decide_eq_true_eq]at h2;obtain⟨hl,e1,e2⟩:=h2;rw[List.getD_eq_getElem?_getD,List.getElem?_eq_getElem hl,Option.getD_some]at e1 e2;unfold yA zBQ;rw[if_pos hh]
 conv=>rhs;rw[←List.take_append_drop (atN fs g [rS,key]) fs,List.drop_eq_getElem_cons hl]
 have h3:yI g fs[atN fs g [rS,key]]=true:=by unfold yI;rw[e1,e2];simp[rS]
 have h4:yI g ⟨g,[rS,key],v⟩=true:=by unfold yI;simp[rS]
 rw[List.filter_append,List.filter_append,List.filter_cons,List.filter_cons,if_pos h3,if_pos h4,List.length_append,List.length_append,List.length_cons,List.length_cons]
theorem zKh {fs:List NodeD} {b:TableD} {r:List ByteArray} (hi:xH fs b=true) (h1:(zAH fs b r).1=0) (h2:(uA fs (zAH fs b r).2).1=0):xH (uA fs (zAH fs b r).2).2 b=true:=by
 obtain⟨ht,hb,hr,hat,hl⟩:=zJq h1;rw[hl]at h2 ⊢;have h0:(uB b.cols (yA b.glob fs)).1=0:=by unfold xH at hi;simp only[Bool.and_eq_true,decide_eq_true_eq]at hi;exact hi.2.1
 have HR:=(zDP ht hb h0).1 hi;obtain⟨d0,hd0,hk0,hu0⟩:=zLc hat
 generalize (uF b.cols (yA b.glob fs) (r.getD 0 ByteArray.empty)).2=old at *;obtain⟨ho1,ho2⟩:=zAv hu0;rw[hk0]at ho1
 have e0:uA fs (xT b.glob r::zQ0 b old r)=zB0 fs (xT b.glob r::zQ0 b old r):=by
  unfold uA at h2 ⊢;rw[if_pos ht]at h2 ⊢;split at h2
  · cases h2
  · next hn=>rw[if_neg hn]
 rw[e0]at h2 ⊢;have hset:=zFR hb hr;rw[show xT b.glob r::zQ0 b old r=[xT b.glob r]++zQ0 b old r from rfl,vP]at h2 ⊢;by_cases hp:(zB0 fs [xT b.glob r]).1=0;case neg=>rw[if_neg hp]at h2;exact absurd h2 hp
 rw[if_pos hp]at h2 ⊢;obtain⟨p1,p2⟩:=zDi (ss:=[rS,r.getD 0 ByteArray.empty]) ht hset hp;have t1:=wS _ _ ht hp;rw[show zB0 fs [xT b.glob r]=zB0 fs [⟨1,b.glob,[rS,r.getD 0 ByteArray.empty],uE r⟩] from rfl]at h2 t1 ⊢;rw[p2]at h2 t1 ⊢;generalize hkey:r.getD 0 ByteArray.empty=key at *;obtain⟨g1,g2⟩:=List.mem_filter.1 hd0;obtain⟨n1,n2⟩:=zFN g2 hk0;have hhas:yU fs b.glob [rS,key]=true:=by rw[←n1,←n2];exact zIo ht g1
 have hmp:=fun d=>zIY (v:=uE r) ht p1 (d:=d);have hlen:=zFS (v:=uE r) hhas;rw[←zIV p1]at hlen;generalize (yR fs b.glob [rS,key] (uE r)).2=X0 at *
 have HX:zDK X0 b.glob b.idx (zHB b.cols (uB b.cols (yA b.glob fs)).2):=fun d hid=>by
  rw[←HR d hid,hmp];have hno:¬(d.name=b.glob∧d.subs=[rS,key]):=fun ⟨_,e⟩=>by unfold xE at hid;rw[e]at hid;simp[rS,iS]at hid
  constructor
  · rintro(rfl | ⟨h,_⟩)
    · exact absurd ⟨rfl,rfl⟩ hno
    · exact h
  · exact fun h=>.inr ⟨h,hno⟩
 have hR:∀c v,zHB b.cols (uB b.cols (yA b.glob fs)).2 key c v↔v=cellAt b.cols old c:=fun c v=>by
  constructor
  · rintro⟨r1,hr1,k1,rfl⟩;obtain⟨d1,hd1,hu1⟩:=(xP h0 r1).1 hr1;obtain⟨f1,f2⟩:=List.mem_filter.1 hd1;obtain⟨m1,m2⟩:=zFN f2 ((zAv hu1).1.symm.trans k1);have:=zJs ht f1 g1 (m1.trans n1.symm) (m2.trans n2.symm);rw[this,hu0]at hu1;cases hu1;rfl
  · rintro rfl;exact⟨old,(xP h0 old).2 ⟨d0,hd0,hu0⟩,ho1,rfl⟩
 have hups:zQ0 b old r=b.idx.flatMap fun c=>if cellAt b.cols old c=cellAt b.cols r c then [] else zAb b.glob key c (cellAt b.cols old c)++zBP b.glob key c (cellAt b.cols r c):=by
  unfold zQ0
  congr 1
  funext c
  unfold zCj;rw[zGZ,zIT,hkey,ho1]
 have hkeep:=zAX b.glob (yI b.glob) zFl (zQ0 b old r) X0 t1 (zIL hb ho2 hr);have hX2:zDK (zB0 X0 (zQ0 b old r)).2 b.glob b.idx (upR (zHB b.cols (uB b.cols (yA b.glob fs)).2) key (fun c=>c∈([]:List ByteArray)∨c∈b.idx) (cellAt b.cols r)):=by rw[hups]at h2 ⊢;refine zIM hR b.idx X0 [] t1 (fun c hc=>hc) (fun c hc x hx=>?_) (zAd HX fun k c v _=>(wV (fun h=>by simp at h)).symm) h2;refine(zGt hb ho2 hr c hc x ?_).1;rw[zGZ,zIT,hkey,ho1];exact hx
 have tX:=wS _ _ t1 h2
 have hrows:yA b.glob (zB0 X0 (zQ0 b old r)).2=yA b.glob X0:=by
  rcases hkeep with h | h
  · exact h.2
  · rw[h]at h2;exact absurd h2 (by decide)
 generalize (zB0 X0 (zQ0 b old r)).2=X2 at *;obtain⟨c1,c2⟩:=rowsT_ok.1 h0;have t3:=(vA hb).2.1
 have hmr:∀d,d∈yA b.glob X0↔d=⟨b.glob,[rS,key],uE r⟩∨(d∈yA b.glob fs∧¬d.subs.getD 1 ByteArray.empty=key):=fun d=>by
  unfold yA;rw[List.mem_filter,List.mem_filter,hmp];constructor
  · rintro⟨rfl | ⟨h,hn⟩,hd⟩
    · exact .inl rfl
    · exact .inr ⟨⟨h,hd⟩,fun e=>hn (zFN hd e)⟩
  · rintro(rfl | ⟨⟨h,hd⟩,hn⟩)
    · refine⟨.inl rfl,?_⟩;rw[←hkey];exact zKw _ _ _
    · exact⟨.inr ⟨h,fun e=>hn (by rw[e.2];rfl)⟩,hd⟩
 have hkv:zAQ b.cols ⟨b.glob,[rS,key],uE r⟩=some r:=by have:=zGu hr (by omega);rw[hkey]at this;exact this
 have h0':(uB b.cols (yA b.glob X2)).1=0:=by
  rw[hrows];refine rowsT_ok.2 ⟨by omega,fun d hd=>?_⟩;rcases (hmr d).1 hd with rfl | h
  · exact⟨r,hkv⟩
  · exact c2 d h.1
 refine(zDP tX hb h0').2 (zAd hX2 fun k c v hc=>?_);rw[hrows]at h0' ⊢;by_cases hk:k=key
 · subst hk;rw[xX (.inr hc)];constructor
   · rintro rfl;exact⟨r,(xP h0' r).2 ⟨_,(hmr _).2 (.inl rfl),hkv⟩,hkey,rfl⟩
   · rintro⟨r1,hr1,k1,rfl⟩;obtain⟨d1,hd1,hu1⟩:=(xP h0' r1).1 hr1;rcases (hmr d1).1 hd1 with rfl | h
     · rw[hkv]at hu1;cases hu1;rfl
     · exact absurd ((zAv hu1).1.symm.trans k1) h.2
 · rw[wV (fun x=>hk x.1)];constructor
   · rintro⟨r1,hr1,k1,rfl⟩;obtain⟨d1,hd1,hu1⟩:=(xP h0 r1).1 hr1;exact⟨r1,(xP h0' r1).2 ⟨d1,(hmr d1).2 (.inr ⟨hd1,fun e=>hk (k1.symm.trans ((zAv hu1).1.trans e))⟩),hu1⟩,k1,rfl⟩
   · rintro⟨r1,hr1,k1,rfl⟩;obtain⟨d1,hd1,hu1⟩:=(xP h0' r1).1 hr1;rcases (hmr d1).1 hd1 with rfl | h
     · exact absurd (k1.symm.trans (zAv hu1).1) hk
     · exact⟨r1,(xP h0 r1).2 ⟨d1,h.1,hu1⟩,k1,rfl⟩
theorem zEE:∀(cs:List ChgD) (fs:List NodeD),xA fs=true→(∀x∈cs,vF x=true)→(zB0 fs cs).1=0∨(zB0 fs cs).1=4
 | [],_,_,_=>.inl rfl
 | x::cs,fs,ht,hC=>by
   have hch:=hC x (by simp);have e:vI fs x=doB fs x:=by unfold vI;rw[ht,hch];rfl
   have htr:=fun h0=>zAW (fs:=fs) (c:=x) h0;rw[zB0];by_cases h:(vI fs x).1=0
   · rw[if_pos h];exact zEE cs _ (htr h) (fun y hy=>hC y (List.mem_cons_of_mem _ hy))
   · rw[if_neg h];rw[e]at h ⊢;unfold doB at h ⊢;split at h
     · next hk =>
       rw[if_pos hk];rcases zFo fs x.name x.subs x.val with h0 | h0
       · exact absurd h0 h
       · rw[h0];exact .inr rfl
     · exact absurd rfl h
theorem zGY {b:TableD} (hb:zF0 b=true):vF (zAx b.glob)=true:=by
 show(xC b.glob&&yK [iS]&&((decide ((2:Int)=1)&&decide ((⟨#[]⟩:ByteArray).size≤64))||(decide ((2:Int)=2)&&decide ((⟨#[]⟩:ByteArray)=⟨#[]⟩))))=true;rw[(vA hb).1];decide
theorem zFn {fs:List NodeD} {b:TableD} (h:(vX fs b).1=0):xA fs=true∧zF0 b=true∧(uB b.cols (yA b.glob fs)).1=0∧(vX fs b).2=zKY b (uB b.cols (yA b.glob fs)).2:=by
 unfold vX at h ⊢;split at h
 · next hh =>
   rw[if_pos hh];unfold wD at hh ⊢;split at hh
   · next h2=>rw[if_pos h2];simp only[Bool.and_eq_true]at h2;exact⟨h2.1,h2.2,hh,rfl⟩
   · cases hh
 · next hh=>exact absurd h hh
theorem zKy {b:TableD} {rs:List (List ByteArray)} (hb:zF0 b=true) (hrs:∀r∈rs,vC b.cols r=true):∀x∈rs.flatMap (yG 1 b),vF x=true∧x.name=b.glob∧x.subs.getD 0 ByteArray.empty=iS∧x.subs.length=4:=fun x hx=>by
 obtain⟨r,hr,hx⟩:=List.mem_flatMap.1 hx;have:=zCA (b:=b) (r:=r) 1 (.inl rfl) hb (hrs r hr) x hx;exact⟨this.1,this.2.2⟩
theorem zKx {fs:List NodeD} {b:TableD} (h1:(vX fs b).1=0):((uA fs (vX fs b).2).1=0∨(uA fs (vX fs b).2).1=4)∧((uA fs (vX fs b).2).1=0→xH (uA fs (vX fs b).2).2 b=true):=by
 obtain⟨ht,hb,h0,hl⟩:=zFn h1;rw[hl];have hrs:∀r∈(uB b.cols (yA b.glob fs)).2,vC b.cols r=true:=fun r hr=>by obtain⟨d,_,hu⟩:=(xP h0 r).1 hr;exact(zAv hu).2
 have hok:=zKy hb hrs;have hkl:=zGY hb;unfold uA zKY;rw[if_pos ht];by_cases hn:120<(zAx b.glob::(uB b.cols (yA b.glob fs)).2.flatMap (yG 1 b)).length
 · rw[if_pos hn];exact⟨.inr rfl,fun h=>absurd h (by decide)⟩
 rw[if_neg hn];refine⟨zEE _ _ ht (fun x hx=>?_),?_⟩
 · rcases List.mem_cons.1 hx with rfl | hx
   · exact hkl
   · exact(hok x hx).1
 rw[show zAx b.glob::(uB b.cols (yA b.glob fs)).2.flatMap (yG 1 b)=[zAx b.glob]++(uB b.cols (yA b.glob fs)).2.flatMap (yG 1 b) from rfl,vP,show zB0 fs [zAx b.glob]=(0,yM fs b.glob [iS]) from zED ht hkl,if_pos rfl];simp only[];intro h2;have t1:=zBJ (fs:=fs) b.glob [iS] ht
 have hnone:∀d,xE b.glob d=true→¬d∈yM fs b.glob [iS]:=fun d hi hd=>by
  have hin:=(mem_kill.1 hd).2;unfold xE at hi;simp only[Bool.and_eq_true,decide_eq_true_eq]at hi;obtain⟨e1,e2,e3⟩:=hi;unfold inN at hin;rw[e1]at hin
  match hs:d.subs with
  | []=>rw[hs]at e2;simp at e2
  | y::u=>rw[hs]at e3 hin;simp only[List.getD_cons_zero]at e3;rw[e3]at hin;simp[zG0]at hin
 have hrows:yA b.glob (yM fs b.glob [iS])=yA b.glob fs:=by
  unfold yA yM;rw[List.filter_filter];apply List.filter_congr;intro d _
  cases hp:yI b.glob d with
  | false=>rfl
  | true=>have:=zFN hp rfl;unfold inN;rw[this.2];simp[zG0,rS,iS]
 have hkeep:=zAX b.glob (yI b.glob) zFl _ _ t1 hok
 have hset:=zIS ((uB b.cols (yA b.glob fs)).2.flatMap (yG 1 b)) _ t1 (fun d hd hi=>absurd hd (hnone d hi)) (fun x hx=>by
  refine⟨(hok x hx).1,?_⟩;obtain⟨r,hr,hx⟩:=List.mem_flatMap.1 hx;unfold yG at hx;obtain⟨c,hc,hx⟩:=List.mem_flatMap.1 hx;unfold zI0 at hx;split at hx
  · simp at hx
  · rw[List.mem_singleton]at hx
    exact⟨_,_,_,hx⟩) h2
 have tX:=wS _ _ t1 h2
 have hrX:yA b.glob (zB0 (yM fs b.glob [iS]) ((uB b.cols (yA b.glob fs)).2.flatMap (yG 1 b))).2=yA b.glob fs:=by
  rcases hkeep with h | h
  · exact h.2.trans hrows
  · rw[h]at h2;exact absurd h2 (by decide)
 generalize (zB0 (yM fs b.glob [iS]) ((uB b.cols (yA b.glob fs)).2.flatMap (yG 1 b))).2=X2 at *;refine(zDP tX hb (by rw[hrX];exact h0)).2 fun d hi=>?_;rw[hrX,hset d hi];constructor
 · rintro(h | ⟨k,c,v,hm,rfl⟩)
   · exact absurd h (hnone d hi)
   · obtain⟨r,hr,hx⟩:=List.mem_flatMap.1 hm;unfold yG at hx;obtain⟨c',hc',hx⟩:=List.mem_flatMap.1 hx;unfold zI0 at hx;split at hx
     · simp at hx
     · next hv=>rw[List.mem_singleton]at hx;simp only[ChgD.mk.injEq,List.cons.injEq,and_true,true_and]at hx;obtain⟨rfl,rfl,rfl⟩:=hx;exact⟨_,_,_,⟨r,hr,rfl,rfl⟩,hc',hv,rfl⟩
 · rintro⟨k,c,v,⟨r,hr,rfl,rfl⟩,hc,hv,rfl⟩;refine .inr ⟨_,_,_,List.mem_flatMap.2 ⟨r,hr,List.mem_flatMap.2 ⟨c,hc,?_⟩⟩,rfl⟩;unfold zI0;rw[if_neg hv];simp
end Go.Proofs.YtgmaamnofhmecaaGreatDoor
namespace Go.Proofs.YtgmaamnofhmecaaGreatDoor
open Go.RowKit
set_option linter.unusedVariables false
def be8 (n:Nat):List UInt8:=[56,48,40,32,24,16,8,0].map fun s=>UInt8.ofNat ((n / 2 ^ s) % 256)
def zDh (s:ByteArray):Nat:=(yN s.data.toList+1000000000000000000).toNat
def uQ (s:ByteArray):List UInt8:=if zC0 s=true then 1::be8 (zDh s) else 2::(s.data.toList++[0,0])
def zLI (nm:ByteArray) (ss:List ByteArray):List UInt8:=nm.data.toList++1::ss.flatMap uQ
def zAS (nm:ByteArray) (ss:List ByteArray):ByteArray:=⟨(zLI nm ss).toArray⟩
def xR (s:ByteArray):Prop:=(0:UInt8) ∉ s.data.toList
theorem zDR (n:Nat):(be8 n).length=8:=by unfold be8;rw[List.length_map];rfl
theorem zBf {a b:Nat} (ha:a<256) (hb:b<256) (h:UInt8.ofNat a=UInt8.ofNat b):a=b:=by
 have:=congrArg UInt8.toNat h;simp only[UInt8.toNat_ofNat']at this;omega
theorem zLu {n m:Nat} (hn:n<18446744073709551616) (hm:m<18446744073709551616) (h:be8 n=be8 m):n=m:=by
 unfold be8 at h;simp only[List.map_cons,List.map_nil,List.cons.injEq,and_true]at h;obtain⟨h1,h2,h3,h4,h5,h6,h7,h8⟩:=h;have g:=fun k=>Nat.mod_lt (n / 2 ^ k) (show 0<256 by decide);have g':=fun k=>Nat.mod_lt (m / 2 ^ k) (show 0<256 by decide);have e1:=zBf (g 56) (g' 56) h1;have e2:=zBf (g 48) (g' 48) h2;have e3:=zBf (g 40) (g' 40) h3;have e4:=zBf (g 32) (g' 32) h4;have e5:=zBf (g 24) (g' 24) h5;have e6:=zBf (g 16) (g' 16) h6;have e7:=zBf (g 8) (g' 8) h7;have e8:=zBf (g 0) (g' 0) h8;clear g g' h1 h2 h3 h4 h5 h6 h7 h8;simp only[Nat.reducePow,Nat.pow_zero,Nat.div_one]at e1 e2 e3 e4 e5 e6 e7 e8;omega
theorem zGq:∀(l m:List UInt8) (x y:List UInt8),(0:UInt8) ∉ l→(0:UInt8) ∉ m→l++0::x=m++0::y→l=m∧x=y
 | [],[],x,y,_,_,h=>by simp only[List.nil_append,List.cons.injEq,true_and]at h;exact⟨rfl,h⟩
 | [],b::m,x,y,_,hm,h=>by simp only[List.nil_append,List.cons_append,List.cons.injEq]at h;exact absurd (by rw[←h.1];simp) hm
 | a::l,[],x,y,hl,_,h=>by simp only[List.nil_append,List.cons_append,List.cons.injEq]at h;exact absurd (by rw[h.1];simp) hl
 | a::l,b::m,x,y,hl,hm,h=>by simp only[List.cons_append,List.cons.injEq]at h;obtain⟨i1,i2⟩:=zGq l m x y (fun hc=>hl (List.mem_cons_of_mem _ hc)) (fun hc=>hm (List.mem_cons_of_mem _ hc)) h.2;exact⟨by rw[h.1,i1],i2⟩
theorem zKo {a b:ByteArray} {x y:List UInt8} (ha:xR a) (hb:xR b) (h:uQ a++x=uQ b++y):a=b∧x=y:=by
 unfold uQ at h;by_cases ca:zC0 a=true
 · by_cases cb:zC0 b=true
   · rw[if_pos ca,if_pos cb]at h;simp only[List.cons_append,List.cons.injEq,true_and]at h;obtain⟨h1,h2⟩:=List.append_inj h (by rw[zDR,zDR]);have hA:=zBo a.data.toList;have hB:=zBo b.data.toList;have h3:zDh a=zDh b:=zLu (by unfold zDh;omega) (by unfold zDh;omega) h1;refine⟨zFI ca cb ?_,h2⟩;unfold zDh at h3;omega
   · rw[if_pos ca,if_neg cb]at h;simp at h
 · by_cases cb:zC0 b=true
   · rw[if_neg ca,if_pos cb]at h;simp at h
   · rw[if_neg ca,if_neg cb]at h;simp only[List.cons_append,List.cons.injEq,true_and,List.append_assoc,List.nil_append]at h;obtain⟨h1,h2⟩:=zGq _ _ _ _ ha hb h;simp only[List.cons.injEq,true_and]at h2;refine⟨?_,h2⟩;have h3:a.data=b.data:=by have:=congrArg List.toArray h1;simpa using this
     cases a;cases b;exact congrArg ByteArray.mk h3
theorem zGx:∀(ls ms:List ByteArray),ls.length=ms.length→(∀s∈ls,xR s)→(∀s∈ms,xR s)→ls.flatMap uQ=ms.flatMap uQ→ls=ms
 | [],[],_,_,_,_=>rfl
 | [],_::_,h,_,_,_=>by simp at h
 | _::_,[],h,_,_,_=>by simp at h
 | a::ls,b::ms,h,ha,hb,he=>by rw[List.flatMap_cons,List.flatMap_cons]at he;obtain⟨h1,h2⟩:=zKo (ha a (by simp)) (hb b (by simp)) he;rw[h1,zGx ls ms (by simpa using h) (fun s hs=>ha s (List.mem_cons_of_mem _ hs)) (fun s hs=>hb s (List.mem_cons_of_mem _ hs)) h2]
theorem zLg {nm:ByteArray} {ls ms:List ByteArray} (hl:ls.length=ms.length) (ha:∀s∈ls,xR s) (hb:∀s∈ms,xR s) (h:zAS nm ls=zAS nm ms):ls=ms:=by
 unfold zAS zLI at h;have h1:(nm.data.toList++1::ls.flatMap uQ).toArray=(nm.data.toList++1::ms.flatMap uQ).toArray:=by injection h
 have h2:=congrArg Array.toList h1;simp only[List.append_cancel_left_eq,List.cons.injEq,true_and]at h2;exact zGx ls ms hl ha hb h2
theorem zLj (s:ByteArray):0<zDh s∧zDh s<2000000000000000000∧(zDh s:Int)=yN s.data.toList+1000000000000000000:=by
 have h:=zBo s.data.toList;unfold zDh;omega
theorem zLt (N:Nat):∀k,k<8→(be8 N).take (k+1)=(be8 N).take k++[UInt8.ofNat ((N / 2 ^ (56-8*k)) % 256)]:=by
 intro k hk;have hcs:k=0∨k=1∨k=2∨k=3∨k=4∨k=5∨k=6∨k=7:=by omega
 rcases hcs with rfl | rfl | rfl | rfl | rfl | rfl | rfl | rfl;all_goals rfl
end Go.Proofs.YtgmaamnofhmecaaGreatDoor
namespace Go.Proofs.YtgmaamnofhmecaaGreatDoor
open Go.RowKit
set_option linter.unusedVariables false
theorem zFp {s:ByteArray} (h:yJ s=true):xR s:=fun hc=>by
 unfold yJ at h;rw[Bool.and_eq_true,List.all_eq_true]at h;exact absurd (h.1 _ hc) (by decide)
theorem zJB {s:ByteArray} (h:xC s=true):xR s:=fun hc=>by
 unfold xC at h;rw[Bool.and_eq_true]at h;have h2:=h.2;unfold zEm at h2;split at h2
 · cases h2
 · next c r e =>
   rw[e]at hc;rw[Bool.and_eq_true,List.all_eq_true]at h2;rcases List.mem_cons.1 hc with h3 | h3
   · rw[←h3]at h2;exact absurd h2.1 (by decide)
   · exact absurd (h2.2 _ h3) (by decide)
def zCy (l:List ByteArray) (x:ByteArray):Bool:=l.any fun y=>decide (y=x)
theorem isIn_iff {l:List ByteArray} {x:ByteArray}:zCy l x=true↔x∈l:=by
 unfold zCy;rw[List.any_eq_true];exact⟨fun ⟨y,h1,h2⟩=>by rw[←of_decide_eq_true h2];exact h1,fun h=>⟨x,h,by simp⟩⟩
def dc:List ByteArray→Nat
 | []=>0
 | x::l=>dc l+if zCy l x=true then 0 else 1
theorem zIq:∀(l m:List ByteArray),m.Nodup→(∀x,x∈l↔x∈m)→dc l=m.length
 | [],m,_,h=>by
   cases m with
   | nil=>rfl
   | cons y t=>have:=(h y).2 (by simp);simp at this
 | x::l,m,hm,h=>by
   unfold dc;by_cases hx:x∈l
   · rw[if_pos (isIn_iff.2 hx),Nat.add_zero];exact zIq l m hm fun y=>by rw[←h y,List.mem_cons];exact⟨fun hy=>.inr hy,fun hy=>hy.elim (fun e=>e ▸ hx) id⟩
   · rw[if_neg (fun e=>hx (isIn_iff.1 e))];have hxm:x∈m:=(h x).1 (by simp);obtain⟨m1,m2,rfl⟩:=List.append_of_mem hxm;have hn:(m1++m2).Nodup:=hm.sublist (List.Sublist.append (List.Sublist.refl m1) (List.sublist_cons_self x m2))
     have hd:x ∉ m1++m2:=by
      rw[List.nodup_append]at hm;obtain⟨_,h2,h3⟩:=hm;rw[List.nodup_cons]at h2;rw[List.mem_append];rintro(h4 | h4)
      · exact h3 x h4 x (by simp) rfl
      · exact h2.1 h4
     have e:=zIq l (m1++m2) hn fun y=>by
      have hy:=h y;rw[List.mem_cons,List.mem_append,List.mem_cons]at hy;rw[List.mem_append];constructor
      · intro h1;have hne:y≠x:=fun e=>hx (e ▸ h1);rcases hy.1 (.inr h1) with h2 | h2 | h2
        · exact .inl h2
        · exact absurd h2 hne
        · exact .inr h2
      · intro h1;have hne:y≠x:=fun e=>hd (by rw[←e,List.mem_append];exact h1);rcases hy.2 (h1.elim .inl (fun h2=>.inr (.inr h2))) with h2 | h2
        · exact absurd h2 hne
        · exact h2
     rw[e,List.length_append,List.length_append,List.length_cons];omega
end Go.Proofs.YtgmaamnofhmecaaGreatDoor
