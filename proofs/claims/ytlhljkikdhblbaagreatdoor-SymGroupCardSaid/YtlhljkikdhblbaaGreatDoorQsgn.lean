/- Parts. -/
import Derived.Test.YtlhljkikdhblbaaGreatDoorQsgm
import Derived.Laws.Bits64b
import Derived.Lib.AppendZerosOnto
set_option linter.all false
set_option maxRecDepth 4000
set_option maxHeartbeats 16000000
namespace o
open Go
def upto(n:Nat):C_ Int:=(List.range n).map λ(a:Nat)=>(a:Int)
theorem sT(n:Nat):(upto n).length=n:=by simp[upto]
def V1{n:Nat}{x:Int}:x∈upto n↔0<=x/\x<n:=by
 unfold upto;rw[List.mem_map];constructor
 .rintro⟨b,a,rfl⟩
  have:=List.mem_range.1 a
  omega
 .exact λc=>⟨x.toNat,List.mem_range.2 AW,AW⟩
def aio(n:Nat):(upto n).Nodup:=by
 unfold upto;refine List.Pairwise.map _ (λa b c=>?_) AL4;omega
structure ku(n:Nat)(p:List Int):Prop where
 len:p.length=n
 all:∀i:Nat,i<n->(i:Int)∈p
def ku.perm{n:Nat}{p:C_ Int}(h:ku n p):p.Perm (upto n):=N7 _ _ (aio n) (by rw[sT];exact h.len) λa b=>by
 have:=V1.1 b
 have:=h.all a.toNat AW
 rwa[show((a.toNat:Nat):Int)=a from AW] at this
def ku.mem{n:Nat}{p:C_ Int}(h:ku n p){x:Int}:x∈p↔0<=x/\x<n:=h.perm.mem_iff.trans V1
def ku.nodup{n:Nat}{p:C_ Int}(h:ku n p):p.Nodup:=h.perm.nodup_iff.2 (aio n)
def ku.get{n:Nat}{p:C_ Int}(h:ku n p){i:Nat}(b:i<n):∃a:Nat,p[i]? = some (a:Int)/\a<n:=by
 have c:=h.len
 have:=h.mem.1 (ID (show i<p.length by omega))
 exact⟨(p[i]' AW).toNat,by rw[List.getElem?_eq_getElem AW,Int.toNat_of_nonneg this.1],AW⟩
def pY(p:C_ Int):C_ Int:=(List.range p.length).map λ(a:Nat)=>((p.idxOf (a:Int):Nat):Int)
def L8{n:Nat}{p:C_ Int}(h:ku n p){i j:Nat}(b:p[i]? = some (j:Int)):(pY p)[j]? = some (i:Int):=by
 obtain⟨c,a⟩:=List.getElem?_eq_some_iff.1 b;have d:=h.mem.1 (ID c);rw[a] at d;unfold pY;rw[List.getElem?_map,List.getElem?_range (by rw[h.len];omega)];simp only[Option.map_some,Option.some.injEq];rw[<-a,h.nodup.idxOf_getElem]
def HB{n:Nat}{p:C_ Int}(h:ku n p):ku n (pY p):=⟨by simp[pY,h.len],λc a=>by
 obtain⟨d,b,e⟩:=h.get a;exact List.mem_of_getElem? (L8 h b)⟩
def asn{n:Nat}{p:C_ Int}(h:ku n p){i j:Nat}(a:(pY p)[i]? = some (j:Int)):p[j]? = some (i:Int):=by
 have c:i<n:=by
  have:=(List.getElem?_eq_some_iff.1 a).1
  rw[(HB h).len] at this;exact this
 obtain⟨d,b⟩:=List.mem_iff_getElem?.1 (h.all i c)
 have:=L8 h b
 rw[this] at a;injection a with a
 have:d=j:=AW
 rw[<-this];exact b
def BX(a b:C_ Int):C_ Int:=a.map λc=>b.getD c.toNat 0
def afr{n:Nat}{a b:C_ Int}{i j k:Nat}(c:a[i]? = some (j:Int))(d:b[j]? = some (k:Int)):(BX a b)[i]? = some (k:Int):=by
 unfold BX;rw[List.getElem?_map,c];simp[List.getD,d]
def afs{n:Nat}{a b:C_ Int}(c:ku n a)(d:ku n b):ku n (BX a b):=⟨by simp[BX,c.len],λg h=>by
 obtain⟨e,f⟩:=List.mem_iff_getElem?.1 (d.all g h);have i:e<n:=by
  have:=(List.getElem?_eq_some_iff.1 f).1
  rw[d.len] at this;exact this
 obtain⟨k,j⟩:=List.mem_iff_getElem?.1 (c.all e i);exact List.mem_of_getElem? (afr (n:=n) j f)⟩
def nU(p:C_ Int)(e:Int):Int:=if e<1 then e else match p[(e - 1).toNat]? with | none=>e | some a=>a+1
def gI(g:C_ (C_ Int))(k e:Int):Int:=if k<1 then e else match g[(k - 1).toNat]? with | none=>e | some a=>nU a e
def zf{n:Nat}{p:C_ Int}(h:ku n p){e:Int}(a:e<1\/(n:Int)<e):nU p e=e:=by
 unfold nU;split
 .rfl
 .rw[List.getElem?_eq_none (by rw[h.len];omega)]
def J4{n:Nat}{p:C_ Int}(h:ku n p){e:Int}(d:1<=e)(f:e<=n):∃a:Nat,p[(e - 1).toNat]? = some (a:Int)/\nU p e=a+1/\a<n:=by
 obtain⟨a,b,c⟩:=h.get (i:=(e - 1).toNat) AW;exact⟨a,b,by unfold nU;rw[if_neg AW,b],c⟩
def aml{n:Nat}{p:C_ Int}(h:ku n p)(e:Int):nU (pY p) (nU p e)=e/\nU p (nU (pY p) e)=e:=by
 by_cases he:1<=e/\e<=n
 .obtain⟨a,c,d,k⟩:=J4 h he.1 he.2;obtain⟨b,f,g,l⟩:=J4 (HB h) he.1 he.2;have i:=L8 h c;have j:=asn h f;refine⟨?_,?_⟩
  .rw[d];unfold nU;rw[if_neg AW,show((a:Int)+1 - 1).toNat=a from AW,i];simp only;omega
  .rw[g];unfold nU;rw[if_neg AW,show((b:Int)+1 - 1).toNat=b from AW,j];simp only;omega
 .rw[zf h AW,zf (HB h) AW,zf h AW];exact⟨rfl,rfl⟩
def amm{n:Nat}{a b:C_ Int}(c:ku n a)(d:ku n b)(e:Int):nU (BX a b) e=nU b (nU a e):=by
 by_cases he:1<=e/\e<=n
 .obtain⟨f,h,i,j⟩:=J4 c he.1 he.2;obtain⟨k,g,l⟩:=d.get j
  have:=afr (n:=n) h g
  rw[i];unfold nU;rw[if_neg AW,if_neg AW,this,show((f:Int)+1 - 1).toNat=f from AW,g]
 .rw[zf (afs c d) AW,zf c AW,zf d AW]
structure hi(s:List Scalar)(g:List (List Int)):Prop where
 len:g.length=s.length
 perm:∀i (h:i<g.length) (bn:i<s.length),ku s[i].size.toNat g[i]
def l3(g:C_ (C_ Int)):C_ (C_ Int):=g.map pY
def x6(g h:C_ (C_ Int)):C_ (C_ Int):=List.zipWith BX g h
def pD(s:C_ Scalar):Prop:=s.length<=2/\∀a∈s,1<=a.size/\a.size<=4
def ko{m:Model}(h:(check m).bN=0):pD m.scalars:=by
 have a:(data m).bN=0:=by
  unfold check at h;by_cases a:(data m).bN≠0
  .rw[if_pos a] at h;exact absurd h a
  .simpa using a
 refine⟨(FY a).1,λe c=>?_⟩;obtain⟨d,b,rfl⟩:=List.mem_iff_getElem.1 c
 have:=Ka (vF (QK a).1 d b)
 unfold u7 at this;rw[List.getElem?_eq_getElem b] at this;simp only at this;split at this
 .assumption
 .cases this
def Ox{s:C_ Scalar}(b:pD s){i:Nat}(a:i<s.length):size ((i:Int)+1) s=s[i].size:=by
 unfold size;rw[show((i:Int)+1 - 1).toNat=i from AW,List.getElem?_eq_getElem a];simp only
 have:=b.2 _ (ID a)
 rw[if_pos AW]
def vB{g:C_ (C_ Int)}{i:Nat}(a:i<g.length)(e:Int):gI g ((i:Int)+1) e=nU g[i] e:=by
 unfold gI;rw[if_neg AW,show((i:Int)+1 - 1).toNat=i from AW,List.getElem?_eq_getElem a]
def AX{g:C_ (C_ Int)}{k:Int}(h:k<1\/(g.length:Int)<k)(e:Int):gI g k e=e:=by
 unfold gI;split
 .rfl
 .rw[List.getElem?_eq_none AW]
def Cf{s:C_ Scalar}{k:Int}(h:k<1\/(s.length:Int)<k):size k s=0:=by
 unfold size;split
 .rename_i b a
  have:=(List.getElem?_eq_some_iff.1 a).1
  rw[if_neg AW]
 .rfl
def xX{s:C_ Scalar}{g:C_ (C_ Int)}(h:hi s g):hi s (l3 g):=⟨by simp[l3,h.len],λa d b=>by
 have c:a<g.length:=by rw[h.len];exact b
 simp only[l3,List.getElem_map];exact HB (h.perm a c b)⟩
def Ef{s:C_ Scalar}{g h:C_ (C_ Int)}(b:hi s g)(c:hi s h):hi s (x6 g h):=⟨by simp[x6,b.len,c.len],λd e a=>by
 simp only[x6,List.getElem_zipWith];exact afs (b.perm d (by rw[b.len];exact a) a) (c.perm d (by rw[c.len];exact a) a)⟩
def hi.qS{s:C_ Scalar}(j:pD s){g:C_ (C_ Int)}(h:hi s g):eN s (gI g) (gI (l3 g)):=by
 have d:=xX h;have l:∀(g:C_ (C_ Int)),hi s g->∀a b,1<=b->b<=size a s->1<=gI g a b/\gI g a b<=size a s:=λg h a b f i=>by
  by_cases e:a<1\/(s.length:Int)<a
  .rw[Cf e] at i;omega
  .obtain⟨c,rfl⟩:∃c:Nat,a=(c:Int)+1:=⟨(a - 1).toNat,AW⟩;have d:c<s.length:=AW
   have r:=h.perm c (by rw[h.len];exact d) d
   have:=j.2 _ (ID d)
   rw[Ox j d] at i ⊢;rw[vB (by rw[h.len];exact d)];obtain⟨u,_,m,v⟩:=J4 r f AW;omega
 have n:∀(g:C_ (C_ Int)),hi s g->∀a b,b<1\/size a s<b->gI g a b=b:=λg h a b t=>by
  by_cases e:a<1\/(s.length:Int)<a
  .exact AX (by rw[h.len];exact e) b
  .obtain⟨c,rfl⟩:∃c:Nat,a=(c:Int)+1:=⟨(a - 1).toNat,AW⟩;have d:c<s.length:=AW
   rw[Ox j d] at t;rw[vB (by rw[h.len];exact d)];exact zf (h.perm c (by rw[h.len];exact d) d) AW
 have p:∀a b,gI (l3 g) a (gI g a b)=b/\gI g a (gI (l3 g) a b)=b:=λa b=>by
  by_cases e:a<1\/(s.length:Int)<a
  .have q:∀b,gI g a b=b:=AX (by rw[h.len];exact e);have m:∀b,gI (l3 g) a b=b:=AX (by rw[d.len];exact e);rw[q,m,q];exact⟨rfl,rfl⟩
  .obtain⟨c,rfl⟩:∃c:Nat,a=(c:Int)+1:=⟨(a - 1).toNat,AW⟩;have k:c<s.length:=AW
   have f:c<g.length:=by rw[h.len];exact k
   have i:c<(l3 g).length:=by rw[d.len];exact k
   rw[vB f,vB i,vB i,vB f];simp only[l3,List.getElem_map];exact aml (h.perm c f k) b
 exact⟨l g h,n g h,l _ d,n _ d,λa b=>(p a b).1,λa b=>(p a b).2⟩
def ami{s:C_ Scalar}{g h:C_ (C_ Int)}(c:hi s g)(d:hi s h):gI (x6 g h)=λa f=>gI h a (gI g a f):=by
 funext a f;by_cases i:a<1\/(s.length:Int)<a
 .rw[AX (by rw[(Ef c d).len];exact i),AX (by rw[d.len];exact i),AX (by rw[c.len];exact i)]
 .obtain⟨e,rfl⟩:∃e:Nat,a=(e:Int)+1:=⟨(a - 1).toNat,AW⟩;have b:e<s.length:=AW
  rw[vB (by rw[(Ef c d).len];exact b),vB (by rw[d.len];exact b),vB (by rw[c.len];exact b)];simp only[x6,List.getElem_zipWith];exact amm (c.perm e (by rw[c.len];exact b) b) (d.perm e (by rw[d.len];exact b) b) f
def dA:Nat->Nat
 | 0=>1
 | a+1=>(a+1)*dA a
def wF:Nat->C_ Int->Nat->C_ Int
 | 0,_,_=>[]
 | a+1,left,b=>left.getD (b / dA a) 0 :: wF a (left.eraseIdx (b / dA a)) (b % dA a)
def m6(n k:Nat):C_ Int:=wF n (upto n) k
def hF(n:Nat):C_ (C_ Int):=(List.range (dA n)).map (m6 n)
def kI:C_ Nat->C_ (C_ (C_ Int))
 | []=>[[]]
 | a :: b=>(hF a).flatMap λc=>(kI b).map λd=>c :: d
def j3(s:C_ Scalar):C_ Nat:=s.map (·.size.toNat)
def dE(s:C_ Scalar):C_ (C_ (C_ Int)):=kI (j3 s)
def af5:∀a,a<=4->∀b∈hF a,b.length=a/\∀c:Nat,c<a->(c:Int)∈b:=by decide +kernel
def avg:∀a b c d:Fin 4,(∀e:Fin 4,((e.val:Nat):Int)∈[(a.val:Int),(b.val:Int),(c.val:Int),(d.val:Int)])->[(a.val:Int),(b.val:Int),(c.val:Int),(d.val:Int)]∈hF 4:=by decide +kernel
def avf:∀a b c:Fin 3,(∀d:Fin 3,((d.val:Nat):Int)∈[(a.val:Int),(b.val:Int),(c.val:Int)])->[(a.val:Int),(b.val:Int),(c.val:Int)]∈hF 3:=by decide +kernel
def ave:∀a b:Fin 2,(∀c:Fin 2,((c.val:Nat):Int)∈[(a.val:Int),(b.val:Int)])->[(a.val:Int),(b.val:Int)]∈hF 2:=by decide +kernel
def afp{n:Nat}(m:n<=4){p:C_ Int}:p∈hF n↔ku n p:=by
 constructor
 .intro e;obtain⟨q,r⟩:=af5 n m p e;exact⟨q,r⟩
 .intro e;have b:∀a∈p,∃c:Nat,c<n/\a=(c:Int):=λa s=>by
   have:=e.mem.1 s
   exact⟨a.toNat,AW,AW⟩
  have g:=e.len
  match n,m with
  | 0,_ =>
   rw[AG1 g];decide
  | 1,_ =>
   match p,g with
   | [a],_ =>
    obtain⟨c,f,rfl⟩:=b a Ah
    have:c=0:=AW
    subst this;decide
  | 2,_ =>
   match p,g with
   | [a,h],_ =>
    obtain⟨c,f,rfl⟩:=b a Ah;obtain⟨i,j,rfl⟩:=b h Ah;exact ave ⟨c,f⟩ ⟨i,j⟩ λd=>e.all d.val d.isLt
  | 3,_ =>
   match p,g with
   | [a,h,k],_ =>
    obtain⟨c,f,rfl⟩:=b a Ah;obtain⟨i,j,rfl⟩:=b h Ah;obtain⟨l,bg,rfl⟩:=b k Ah;exact avf ⟨c,f⟩ ⟨i,j⟩ ⟨l,bg⟩ λd=>e.all d.val d.isLt
  | 4,_ =>
   match p,g with
   | [a,h,k,t],_ =>
    obtain⟨c,f,rfl⟩:=b a Ah;obtain⟨i,j,rfl⟩:=b h Ah;obtain⟨l,bg,rfl⟩:=b k Ah;obtain⟨u,v,rfl⟩:=b t Ah;exact avg ⟨c,f⟩ ⟨i,j⟩ ⟨l,bg⟩ ⟨u,v⟩ λd=>e.all d.val d.isLt
theorem NT:∀(d:C_ Nat) (c:C_ (C_ Int)),(∀e∈d,e<=4)->(c∈kI d↔c.length=d.length/\∀a (b:a<c.length) (f:a<d.length),ku d[a] c[a])
 | [],c,_=>by
  simp only[kI,List.mem_singleton];constructor
  .rintro rfl;exact⟨rfl,λa b=>by simp at b⟩
  .exact λb=>AG1 b.1
 | e :: m,c,g=>by
  simp only[kI,List.mem_flatMap,List.mem_map];constructor
  .rintro⟨n,p,h,q,rfl⟩;obtain⟨i,j⟩:=(NT m h λk l=>g k (AG6 _ l)).1 q;refine⟨by simp[i],λa b f=>?_⟩;cases a with
   | zero=>exact(afp (g e (AG3 ..))).1 p
   | succ a=>exact j a (by simpa using b) (by simpa using f)
  .rintro⟨i,j⟩;cases c with
   | nil=>simp at i
   | cons n h =>
    refine⟨n,(afp (g e (AG3 ..))).2 (j 0 Ah Ah),h,?_,rfl⟩;refine(NT m h λk l=>g k (AG6 _ l)).2 ⟨by simpa using i,λa b f=>?_⟩;exact j (a+1) (by simpa using b) (by simpa using f)
def uV{s:C_ Scalar}(b:pD s){g:C_ (C_ Int)}:g∈dE s↔hi s g:=by
 unfold dE j3;rw[NT _ _ (λf c=>by obtain⟨d,e,rfl⟩:=List.mem_map.1 c;have:=b.2 d e;omega)];simp only[List.length_map,List.getElem_map];exact⟨λa=>⟨a.1,a.2⟩,λa=>⟨a.len,a.perm⟩⟩
def BJ(s:C_ Scalar):C_ (C_ Int):=(j3 s).map upto
def aip(n:Nat):ku n (upto n):=⟨sT n,λa b=>V1.2 AW⟩
def Hz(s:C_ Scalar):hi s (BJ s):=⟨by simp[BJ,j3],λa b c=>by
 simp only[BJ,j3,List.getElem_map];exact aip _⟩
def amk(n:Nat)(e:Int):nU (upto n) e=e:=by
 by_cases he:1<=e/\e<=n
 .unfold nU;rw[if_neg AW];unfold upto;rw[List.getElem?_map,List.getElem?_range AW];simp only[Option.map_some];omega
 .exact zf (aip n) AW
def amh(s:C_ Scalar):gI (BJ s)=λ_ a=>a:=by
 funext b a;unfold gI;split
 .rfl
 .unfold BJ;rw[List.getElem?_map];cases (j3 s)[(b - 1).toNat]? with
  | none=>rfl
  | some c=>exact amk c a
end o
namespace a8
open Go Go.RowKit
def vC(d:Nat):C_ B_:=[.int .u8 d]
def amq(d:Nat):∀a∈vC d,a.oneCell'=true:=by simp[vC,Value.oneCell']
def Qm(l:C_ Nat):C_ B_:=l.map λ(a:Nat)=>Value.int .u8 (a:Int)
theorem Qn:∀a:C_ Nat,Qm a=a.flatMap vC
 | []=>rfl
 | c :: b=>by
  have:=Qn b
  simp only[Qm,List.map_cons,List.flatMap_cons] at this ⊢;rw[this];rfl
section
variable{P:Program}{a9:Value->Prop}{ty:TypeId}{dx dL:Operand}
def AD9{x b:Nat}{k:IntKind}{t}(d:1<=b)(a:k.wrap ((x / b:Nat):Int)=((x / b:Nat):Int))(c:a9 (.int k ((x / b:Nat):Int))):h4 P .quo ty dx dL (.int k x) (.int k b) a9 t:=by
 refine _P AW (_n ?_);rw[Int.tdiv_eq_ediv_of_nonneg AW,<-Int.natCast_ediv,a];exact c
def AE0{x b:Nat}{k:IntKind}{t}(c:1<=b)(a:a9 (.int k ((x % b:Nat):Int))):h4 P .rem ty dx dL (.int k x) (.int k b) a9 t:=by
 refine _o AW ?_;rw[Int.tmod_eq_emod_of_nonneg AW,<-Int.natCast_emod];exact a
end
def AB0{P:D_}{c:B_->Prop}{d:F_}{e f:G_}{k:IntKind}{a b:Int}{t}(x y:Nat)(g:a=x)(h:b=y)(i:1<=y)(j:c (.int k ((x % y:Nat):Int))):h4 P .rem d e f (.int k a) (.int k b) c t:=by
 subst g h;exact AE0 i j
def _0{P:D_}{c:B_->Prop}{d:F_}{e f:G_}{a b:Int}{t}(x y:Nat)(g:a=x)(h:b=y)(i:1<=y)(l:x<9223372036854775808)(j:c (.I ((x / y:Nat):Int))):h4 P .quo d e f (.I a) (.I b) c t:=by
 subst g h;have k:x / y<=x:=Nat.div_le_self x y;refine AD9 i ?_ j;generalize x / y=m at k;exact IntWalk.i64_in _ AW
end a8
namespace a8
open Go Go.RowKit
def ann(l:C_ Nat)(k x:Nat):(l.flatMap vC).set k (.int .u8 x)=(l.set k x).flatMap vC:=by
 rw[<-Qn,<-Qn];simp[Qm,List.map_set]
def AF7{e:F_}{base:Nat}{w:A_}{l:C_ Nat}{a:Addr}{n c k x:Nat}{g:A_->Prop}{t}(h:aR vC e 1 base w (.slice (some a) n c) l)(A:k<l.length)
  (q:∀d,dY a.block w d->aR vC e 1 base d (.slice (some a) n c) (l.set k x)->g d):vr (.pointer (some (a.add (k*1)))) (.int .u8 (x:Nat)) w g t:=by
 rcases h.2 with ⟨r,B⟩ | ⟨b,cap,cur,s,C,i,G,H,I,J⟩
 .cases r
 .injection s with f j u
  injection f with f
  subst f u;have v:k<cur.size:=AW
  have y:Addr.add ⟨b,0,none⟩ (k*1)=⟨b,k,none⟩:=by rw[add_eq,AH5,ZB]
  have m:w.cell? (Addr.add ⟨b,0,none⟩ (k*1))=some cur[k]:=gD i (by rw[AH5];exact Array.getElem?_eq_getElem v);rw[y] at m ⊢;have z:w.ownsRow base e 1 (.slice (some ⟨b,0,none⟩) l.length c) l.length (l.flatMap vC):=by unfold aR at h;rw[j] at h;exact h
  have p:=World.ownsRow.stored z k (.int .u8 (x:Nat));rw[ann] at p;refine _1 m (by simp[World.frozen?,i]) (by simp[Value.oneCell']) (q _ (dY.setCell w ⟨b,k,none⟩ _) ?_);unfold aR;rw[ZA,j];exact p.1
theorem _D{α:Type}{P:D_}{f:B_->A_->Prop}{enc:α->C_ B_}{e:F_}{sz base:Nat}{w:A_}{s x:B_}{xs ys:C_ α}{R:A_->Addr->α->Prop}[nM R enc]{g:F_}{b:Nat}{t}(a:aR enc e sz base w s xs)(m:a4 sz R w x ys)(n:∀x,(enc x).length=sz)(p:∀q,∀r∈enc q,r.oneCell'=true)
  (u:(xs.length+ys.length)*b<=140737488355328)(v:xs.length+ys.length<=maxLen)(y:base<=w.heap.size)(c:∀h d,aR enc e sz base d h (xs++ys)->w.grownBy d s.ownBlock->f h d):lQ P g e sz b s x w f t:=by
 obtain⟨z,i,rfl,A,B,j,C⟩:=m.ex;cases z with
 | some G=>exact AC0 a ⟨some G,i,rfl,A,B,j,C⟩ n p u v y c
 | none =>
  have:ys=[]:=Classical.byContradiction λH=>by have:=j H;cases this
  subst this;rw[AG8] at c;refine _i λ⟨k,J,K,l,L,M,N,O,Q⟩=>?_;refine⟨g,s,w,?_,c s w a ⟨rfl,rfl,rfl,Fy _,λ_ _ _=>rfl⟩⟩;rcases a.2 with ⟨rfl,S⟩ | ⟨U,i,cur,rfl,_,_,I,_⟩
  .simp[Builtin.append_,run_underlying k,Go.sizeOf,typeInfo,l,Builtin.lenOf,Builtin.firstCells]
  .simp[Builtin.append_,run_underlying k,Go.sizeOf,typeInfo,l,Builtin.lenOf,Builtin.firstCells,I,storeCells]
theorem Rk:∀(a:C_ Int) (c:Nat) (b:Int),(a.flatMap da).set c (.I b)=(a.set c b).flatMap da
 | [],_,_=>rfl
 | d :: a,0,b=>rfl
 | d :: a,c+1,b=>by
  have:=Rk a c b
  simp only[List.flatMap_cons,List.set_cons_succ];rw[<-this];rfl
def _a{e:F_}{base:Nat}{w:A_}{l:C_ Int}{a:Addr}{n c k:Nat}{x:Int}{g:A_->Prop}{t}(h:aR da e 1 base w (.slice (some a) n c) l)(A:k<l.length)
  (q:∀d,dY a.block w d->aR da e 1 base d (.slice (some a) n c) (l.set k x)->g d):vr (.pointer (some (a.add (k*1)))) (.I x) w g t:=by
 rcases h.2 with ⟨r,B⟩ | ⟨b,cap,cur,s,C,i,G,H,I,J⟩
 .cases r
 .injection s with f j u
  injection f with f
  subst f u;have v:k<cur.size:=AW
  have y:Addr.add ⟨b,0,none⟩ (k*1)=⟨b,k,none⟩:=by rw[add_eq,AH5,ZB]
  have m:w.cell? (Addr.add ⟨b,0,none⟩ (k*1))=some cur[k]:=gD i (by rw[AH5];exact Array.getElem?_eq_getElem v);rw[y] at m ⊢;have z:w.ownsRow base e 1 (.slice (some ⟨b,0,none⟩) l.length c) l.length (l.flatMap da):=by unfold aR at h;rw[j] at h;exact h
  have p:=World.ownsRow.stored z k (.I x);rw[Rk] at p;refine _1 m (by simp[World.frozen?,i]) (by simp[Value.oneCell']) (q _ (dY.setCell w ⟨b,k,none⟩ _) ?_);unfold aR;rw[ZA,j];exact p.1
end a8
namespace o
open Go
theorem zU{l:C_ Int}:iV l=true↔∃i:0<l.length,0<=l[0]/\l[0]<=(l.length:Int) - 1/\∀a (b:a<l.length),l[0]+1<=a->l[a]=0:=by
 cases l with
 | nil=>simp[iV]
 | cons e j =>
  simp only[iV,Bool.and_eq_true,decide_eq_true_eq,List.all_eq_true];constructor
  .rintro⟨⟨c,f⟩,d⟩;refine⟨Ah,c,by simp;omega,λa b g=>?_⟩;cases a with
   | zero=>simp at g;omega
   | succ a =>
    simp only[List.getElem_cons_zero,List.getElem_cons_succ] at g ⊢;refine d _ (List.mem_iff_getElem.2 ⟨a - e.toNat,by simp at b ⊢;omega,?_⟩);rw[AK3];congr 1;omega
  .rintro⟨_,c,f,d⟩;simp only[List.getElem_cons_zero,List.length_cons] at c f d;refine⟨⟨c,AW⟩,λk h=>?_⟩;obtain⟨a,b,rfl⟩:=List.mem_iff_getElem.1 h;rw[AK3]
   have:=d (e.toNat+a+1) (by simp at b;omega) AW
   simpa using this
theorem TT{l:C_ Int}(h:iV l=true)(a:0<l.length):iG l=(l.drop 1).take l[0].toNat:=by
 unfold iG;rw[if_pos h];cases l with
 | nil=>simp at a
 | cons b c=>rfl
def asr{l:C_ Int}(h:iV l=true)(a:0<l.length):(iG l).length=l[0].toNat:=by
 obtain⟨_,b,c,_⟩:=zU.1 h;rw[TT h a,NU,AG5];omega
def Ma(l:C_ Int):(iG l).length<=l.length:=by
 unfold iG;split
 .rw[NU,AG5];omega
 .simp
def aeF{l:C_ Int}(h:¬iV l=true):iG l=[]:=by unfold iG;rw[if_neg h]
def af0(l:C_ Int)(k:Nat):((l.length:Int) :: (List.range (k+1)).map λa=>l.getD a 0)=((l.length:Int) :: (List.range k).map λa=>l.getD a 0)++[l.getD k 0]:=by
 rw[AI5,AF8];rfl
end o
namespace Go.Proofs.R
open Go Go.RowKit a8 o
abbrev fe(base:Nat)(w:A_)(v:B_)(l:C_ Int):Prop:=aR da T.a 1 base w v l
def gT{base:Nat}{w:A_}{v:B_}{l:C_ Int}(h:fe base w v l):cH w v l:=aR.kF (enc:=da) (λ_=>rfl) h
def agT(v:B_)(l:C_ Int)(w:A_)(h:cH w v l) :
  EG F.Nx #[v] w λj k=>j = .bool (iV l)/\Ext w k:=by
 obtain⟨t,u,rfl,x⟩:=h.form;have e:(¬∃h:0<l.length,0<=l[0]/\l[0]<=(l.length:Int) - 1/\∀a (c:a<l.length),l[0]+1<=a->l[a]=0)->iV l=false:=λm=>by
  cases n:iV l with
  | false=>rfl
  | true=>exact absurd (zU.1 n) m
 refine bm E.Nx ?_;refine aa ?_;apply I_<;>intro y
 .refine aa ?_;exact⟨by rw[e];rintro⟨f,_⟩;omega,Ext.refl _⟩
 have f:0<l.length:=AW
 obtain⟨d,rfl⟩:=h.addr f;refine aa ?_;apply I_<;>intro z
 .refine aa ?_;exact⟨by rw[e];rintro⟨_,p,_⟩;omega,Ext.refl _⟩
 refine aa ?_;apply I_<;>intro A
 .refine aa ?_;exact⟨by rw[e];rintro⟨_,p,B,_⟩;omega,Ext.refl _⟩
 refine aa ?_;refine _V [0] (λb:Int=>[(3,.I b)]) (l[0]+1) (λb q=>q=w/\l[0]+1<=b/\b<=l.length/\∀a (c:a<l.length),l[0]+1<=a->(a:Int)<b->l[a]=0) (λb=>((l.length:Int) - b).toNat) aV ⟨rfl,AW,AW,λa c d r=>AW⟩ ?_;rintro b C G ⟨rfl,H,I,g⟩;refine aa ?_;apply I_<;>intro J
 .refine aa ?_;refine M_ b.toNat AW AW ?_;refine aa ?_;apply I_<;>intro i
  .refine aa ?_;refine⟨b+1,aV,⟨aZ,AW,AW,λa c d r=>?_⟩,AW⟩;by_cases K:(a:Int)=b
   .have:a=b.toNat:=AW
    subst this;exact i
   .exact g a c d AW
  .refine aa ?_;exact⟨by rw[e];rintro⟨_,_,_,s⟩;exact i (s _ AW AW),Ext.refl _⟩
 .refine aa ?_;exact⟨by rw[zU.2 ⟨f,AW,AW,λa c d=>g a c d AW⟩],Ext.refl _⟩
def agA{w:A_}(v:B_)(l:C_ Int)(c:Nat)(n x:Int)(h:cH w v l)(f:x=c)(g:c<l.length)(C:l.length<=100000) :
  EG F.NK #[v,.I x,.I n] w λi d=>fe w.heap.size d i (l.set c n)/\Ext w d:=by
 subst f;obtain⟨G,H,rfl,I⟩:=h.form;refine bm E.NK ?_;refine aa ?_;intro j k m b p;have e:fe w.heap.size j (.slice (some ⟨k,0,none⟩) 0 0) []:=aR.empty m p;refine aa ?_;refine _D e (h.ext Flat.ext b) (λ_=>rfl) je (by simp only[List.length_nil];omega) (by simp only[List.length_nil];unfold maxLen;omega) b.size λJ q a r=>?_;rw[AH2] at a;have s:Ext w q:=b.grown r λt u=>(e.lt t u).1;obtain⟨K,L,rfl,_⟩:=a.form;obtain⟨y,rfl⟩:=(gT a).addr;refine aa ?_;refine _a a g λM z A=>?_;have B:=a.lt y.block rfl;refine aa ?_;exact⟨A,z.ext s B.1⟩
end Go.Proofs.R
namespace a8
open Go Go.RowKit
section
variable{S:Fr}{w:World}{a9:Value->Prop}
def _e{α:Type}{sz n cap:Nat}{R:A_->Addr->α->Prop}{b:H_ Addr}{x:G_}{k:IntKind}{xs:C_ α}{t}(l:Nat)(c:a4 sz R w (.slice b n cap) xs)(f:bq S x = .int k (l:Int))(i:l<=xs.length)
  (g:∀d e,a4 sz R w (.slice d (xs.length - l) e) (xs.drop l)->a9 (.slice d (xs.length - l) e)):s0 S sz (.slice b n cap) (some x) none none a9 t:=by
 obtain⟨h,j,m⟩:=c.len;refine _K l n cap (by simp[fb,f]) (by simp[fb]) (by simp[fb]) ⟨AW,AW,Fy _⟩ Ah ?_;have a:=c.sub l n AW AW;rw[Im (by rw[AG5];omega)] at a;rw[h] at a ⊢;exact g _ _ a
def _5{α:Type}{sz n cap:Nat}{R:A_->Addr->α->Prop}{b:H_ Addr}{y:G_}{k:IntKind}{xs:C_ α}{t}(a:Nat)(c:a4 sz R w (.slice b n cap) xs)(f:bq S y = .int k (a:Int))(g:a<=xs.length)
  (h:∀d e,a4 sz R w (.slice d a e) (xs.take a)->a9 (.slice d a e)):s0 S sz (.slice b n cap) none (some y) none a9 t:=by
 obtain⟨j,l,m⟩:=c.len;refine _K 0 a cap (by simp[fb]) (by simp[fb,f]) (by simp[fb]) ⟨AW,AW,Fy _⟩ Ah ?_;have i:=c.sub 0 a AW g;exact h _ _ i
end
end a8
namespace Go.Proofs.R
open Go Go.RowKit a8 o
def agU(v:B_)(l:C_ Int)(w:A_)(h:cH w v l)(C:l.length<=100000) :
  EG F.Nt #[v] w λm g=>fe w.heap.size g m (iG l)/\Ext w g:=by
 obtain⟨G,H,rfl,I⟩:=h.form;refine bm E.Nt ?_;refine aa ?_;refine J_ (agT _ l w h) ?_;rintro _ i ⟨rfl,b⟩;by_cases c:iV l=true
 .rw[c];obtain⟨j,J,K,L⟩:=zU.1 c;obtain⟨M,rfl⟩:=h.addr j;have n:=h.ext Flat.ext b;refine aa ?_;refine K_ 4 l[0].toNat [0] (λv:ef=>[(3,.slice v.1 v.2.1 v.2.2)]) (none,0,0) (λa v k=>Ext i k/\fe i.heap.size k (.slice v.1 v.2.1 v.2.2) ((l.drop 1).take a)) aV aV ⟨Ext.refl _,aR.nil _ _ _ _ _⟩ ?_;clear n;rintro a N O P Q ⟨d,e⟩;have S:=h.ext Flat.ext (b.trans d);refine aa ?_;apply I_<;>intro U
  .have p:1+a<l.length:=AW
   refine aa ?_;intro V W X f q;have Y:((l.drop 1).take a).length<=100000:=by rw[NU,AG5];omega
   refine aa ?_;refine T_ (y:=l[1+a]) (e.ext f) q rfl (λ_=>rfl) je AW (by unfold maxLen;omega) (by have:=d.size;have:=f.size;omega) λr s t Z u x=>?_;refine aa ?_;refine⟨AW,aZ,(r,s,t),⟨rfl,trivial⟩,(d.trans f).grown x λy z=>(e.lt y z).1,?_⟩;rw[AJ8,List.getElem?_drop,List.getElem?_eq_getElem p];exact u
  .have A:a=l[0].toNat:=AW
   subst A;refine aa ?_;exact⟨by rw[TT c j];exact aR.low b.size e,b.trans d⟩
 .have B:iV l=false:=by simpa using c
  rw[B];refine aa ?_;exact⟨by rw[aeF c];exact aR.nil _ _ _ _ _,b⟩
def ag4(n:Nat)(v:B_)(l:C_ Int)(w:A_)(h:cH w v l)(K:1<=n/\n<=100000) :
  EG F.Nw #[.I n,v] w λx q=>fe w.heap.size q x (p5 n l)/\Ext w q:=by
 obtain⟨L,M,rfl,N⟩:=h.form;refine bm E.Nw ?_;refine aa ?_;intro y r z A s;have t:fe w.heap.size y (.slice (some ⟨r,0,none⟩) 1 1) ((l.length:Int) :: (List.range 0).map λb=>l.getD b 0):=aR.y0 _ s z rfl (λ_=>rfl) rfl (by show 1<=maxLen;unfold maxLen;decide);clear s;refine aa ?_;refine K_ 6 (n - 1) [0,1] (λv:ef=>[(5,.slice v.1 v.2.1 v.2.2)]) (some ⟨r,0,none⟩,1,1) (λa v u=>Ext w u/\fe w.heap.size u (.slice v.1 v.2.1 v.2.2) ((l.length:Int) :: (List.range a).map λb=>l.getD b 0)) aV aV ⟨A,t⟩ ?_;clear t;rintro a O P Q S ⟨d,e⟩;have U:=h.ext Flat.ext d;have V:((l.length:Int) :: (List.range a).map λb=>l.getD b 0).length=a+1:=Ah
 refine aa ?_;apply I_<;>intro W
 .refine aa ?_;apply I_<;>intro X
  .have B:a<l.length:=AW
   obtain⟨Y,rfl⟩:=h.addr;refine aa ?_;intro C G H c f;refine aa ?_;refine T_ (y:=l[a]) (e.ext c) f rfl (λ_=>rfl) je AW (by unfold maxLen;omega) (by have:=d.size;have:=c.size;omega) λg i j I k m=>?_;refine aa ?_;refine⟨AW,aZ,(g,i,j),⟨rfl,trivial⟩,(d.trans c).grown m λb p=>(e.lt b p).1,?_⟩;rw[af0,show l.getD a 0=l[a] from by simp[B]];exact k
  .refine aa ?_;intro C G H c f;refine aa ?_;refine T_ (y:=0) (e.ext c) f rfl (λ_=>rfl) je AW (by unfold maxLen;omega) (by have:=d.size;have:=c.size;omega) λg i j I k m=>?_;refine aa ?_;refine⟨AW,aZ,(g,i,j),⟨rfl,trivial⟩,(d.trans c).grown m λb p=>(e.lt b p).1,?_⟩;rw[af0,show l.getD a 0=0 from by simp[List.getD,List.getElem?_eq_none (show l.length<=a by omega)]];exact k
 .have J:a=n - 1:=AW
  subst J;refine aa ?_;exact⟨e,d⟩
def aw4(v:B_)(l:C_ Int)(w:A_)(h:cH w v l)(p:l.length<=100000) :
  EG F.Nv #[v] w λc j=>((od l=none/\c = .tuple #[.slice none 0 0,.I 0,.bool false])\/(∃a b k,od l=some (a,b)/\c = .tuple #[k,.I b,.bool true]/\fe w.heap.size j k a))/\Ext w j:=by
 obtain⟨z,A,rfl,B⟩:=h.form;refine bm E.Nv ?_;refine aa ?_;refine J_ (agU _ l w h p) ?_;rintro c C ⟨q,e⟩;have g:=gT q;obtain⟨G,H,rfl,_⟩:=g.form;refine aa ?_;apply I_<;>intro m
 .have d:iG l=[]:=AG1 AW;refine aa ?_;exact⟨.inl ⟨by unfold od;rw[d],aZ⟩,e⟩
 have I:=Ma l;obtain⟨b,a,d⟩:∃b a,iG l=b :: a:=by
  cases r:iG l with
  | nil=>rw[r] at m;simp at m
  | cons b a=>exact⟨b,a,rfl⟩
 obtain⟨J,rfl⟩:=g.addr;refine aa ?_;intro s f;have t:=g.ext Flat.ext f;have K:=h.ext Flat.ext (e.trans f);refine aa ?_;refine _e (k:=.i64) 1 t rfl AW λL M i=>?_;have u:(iG l).drop 1=a:=by rw[d];rfl
 have x:(iG l)[0]' AW=b:=by simp[d]
 rw[u] at i;refine aa ?_;refine M_ 0 rfl AW ?_;refine aa ?_;refine J_ (ag4 l.length _ a s (by have:=i.len.1;exact i) AW) ?_;rintro c N ⟨y,n⟩;refine⟨n,?_⟩;refine aa ?_;refine⟨.inr ⟨p5 l.length a,b,c,by unfold od;rw[d],by rw[x],aR.low (e.trans f).size y⟩,(e.trans f).trans n⟩
def aw3(v:B_)(l:C_ Int)(x:Int)(w:A_)(h:cH w v l)(s:l.length<=100000) :
  EG F.Nu #[v,.I x] w λc i=>((l8 l x=none/\c = .tuple #[.slice none 0 0,.bool false])\/(∃d j,l8 l x=some d/\c = .tuple #[j,.bool true]/\fe w.heap.size i j d))/\Ext w i:=by
 obtain⟨I,J,rfl,K⟩:=h.form;refine bm E.Nu ?_;refine aa ?_;refine J_ (agT _ l w h) ?_;rintro _ k ⟨rfl,a⟩;by_cases b:iV l=true;rotate_left
 .have t:iV l=false:=by simpa using b
  rw[t];refine aa ?_;exact⟨.inl ⟨by unfold l8;rw[if_neg (λe=>b e.1)],aZ⟩,a⟩
 rw[b];obtain⟨m,L,M,N⟩:=zU.1 b;obtain⟨O,rfl⟩:=h.addr m;have u:=h.ext Flat.ext a;have n:l.headD 0=l[0]:=by cases l with | nil=>simp at m | cons P d=>rfl
 refine aa ?_;apply I_<;>intro Q
 .refine aa ?_;exact⟨.inl ⟨by unfold l8;rw[if_neg (λe=>e.2 (by rw[n];omega))],aZ⟩,a⟩
 refine aa ?_;refine J_ (agU _ l k u s) ?_;rintro c S ⟨f,p⟩;obtain⟨U,V,rfl,_⟩:=(gT f).form;have W:=Ma l;refine aa ?_;intro X Y Z g y;refine aa ?_;refine T_ (y:=x) (f.ext g) y rfl (λ_=>rfl) je AW (by unfold maxLen;omega) (by have:=p.size;have:=g.size;omega) λab ae af q z A=>?_;have r:Ext k q:=(p.trans g).grown A λB C=>(f.lt B C).1;refine aa ?_;refine J_ (ag4 l.length _ _ q (gT z) AW) ?_;rintro c ag ⟨G,H⟩;refine aa ?_;exact⟨.inr ⟨_,_,by unfold l8;rw[if_pos ⟨b,by rw[n];omega⟩],rfl,aR.low (a.trans r).size G⟩,(a.trans r).trans H⟩
end Go.Proofs.R
namespace a8
open Go Go.RowKit
def aR.full{e:F_}{base b n:Nat}{w:A_}{l:C_ Int}(h:aR da e 1 base w (.slice (some ⟨b,0,none⟩) n n) l):w.heap[b]? = some (.cells (fB l).toArray e)/\base<=b/\n=l.length:=by
 rcases h.2 with ⟨f,_⟩ | ⟨p,cap,cur,g,i,j,q,r,k,c⟩
 .cases f
 .injection g with a d m
  injection a with a
  injection a with a
  subst a m;refine⟨?_,i,d⟩;rw[j]
  have:cur=(fB l).toArray:=by
   apply Array.ext';rw[Im (by simp[k,d])] at c;rw[c,zS]
  rw[this]
def TP{w:A_}{b i:Nat}{l:C_ Int}{e:F_}(h:w.heap[b]? = some (.cells (fB l).toArray e))(a:i<l.length):w.cell? ⟨b,i,none⟩=some (.I l[i]):=by
 simp[World.cell?,h,fB,a]
section
variable{P:Program}{S:Fr}{w:World}
def _6{b m n l h:Nat}{c:H_ Addr}{x y d:H_ G_}{e:B_->Prop}{t}(f:c=some ⟨b,0,none⟩)(g:fb S x 0=some l)(i:fb S y m=some h)(j:d=none)(k:l<=h)(p:h<=n)
  (q:∀a,(0<h - l->a=some ⟨b,l,none⟩)->(l=0->a=some ⟨b,0,none⟩)->e (.slice a (h - l) (n - l))):s0 S 1 (.slice c m n) x y d e t:=by
 subst f j;refine _K l h n g i (by simp[fb]) ⟨k,p,Fy _⟩ Ah (q _ (λs=>?_) λr=>?_)
 .rw[if_neg AW];simp[add_eq]
 .subst r;split
  .rfl
  .simp[add_eq]
def AE1{m:F_}{s b i j k n c:Nat}{e:F_}{cur:C_ Int}{p f:H_ Addr}{q:B_->A_->Prop}{t}(h:w.heap[b]? = some (.cells (fB cur).toArray e))(u:p=some ⟨b,0,none⟩)(v:0<k->f=some ⟨b,j,none⟩)(O:j+k<=cur.length)(x:i+k<=n)(Q:n<=cur.length)
  (y:∀l,dY b w l->l.heap[b]? = some (.cells (fB (cur.take i++(cur.drop j).take k++cur.drop (i+k))).toArray e)->q (.slice (some ⟨b,0,none⟩) (i+k) n) l):lQ P m e 1 s (.slice p i n) (.slice f k c) w q t:=by
 subst u;refine _i λz=>?_;obtain⟨A,S,U,B,V,C,W,X,_⟩:=z;have g:((cur.drop j).take k).length=k:=by simp;omega
 have G:(Builtin.firstCells 1 k (.slice f k c)).run P w = .ok (fB ((cur.drop j).take k)).toArray w:=by
  by_cases H:k=0
  .subst H;cases f with
   | none=>simp[Builtin.firstCells,fB]
   | some I =>
    have:=run_loadCells_list (P:=P) w I [] Ah
    simpa[Builtin.firstCells,fB] using this
  .obtain rfl:=v AW
   have:=run_loadCells_list (P:=P) w ⟨b,j,none⟩ (fB ((cur.drop j).take k)) (λa J d=>by
    have K:a<k:=by
     have:=(List.getElem?_eq_some_iff.1 d).1
     rw[xW,g] at this;exact this
    have L:=TP h (i:=j+a) AW;rw[add_eq,L];have M:(fB ((cur.drop j).take k))[a]? = some (.I cur[j+a]):=by
     simp[fB,K,List.getElem?_take,List.getElem?_drop,show j+a<cur.length by omega]
    rw[M] at d;exact d)
   rw[xW,g] at this;simpa[Builtin.firstCells] using this
 have r:=run_storeCells_at P b i e (fB ((cur.drop j).take k)) 0 (fB cur).toArray w h (by simp only[xW,g,List.size_toArray];omega) (λJ N=>by
  obtain⟨Y,_,rfl⟩:=List.mem_map.1 N;rfl)
 simp only[Nat.add_zero,xW,g] at r;refine⟨m,.slice (some ⟨b,0,none⟩) (i+k) n,w.setRow b (((fB cur).take i++fB ((cur.drop j).take k)++(fB cur).drop (i+k)).toArray),?_,y _ ⟨rfl,rfl,rfl,by simp[World.setRow],λa d=>setRow_other w b a _ d⟩ ?_⟩
 .simp[Builtin.append_,run_underlying A,Go.sizeOf,typeInfo,B,C,Builtin.lenOf,x,G,add_eq,r]
 .rw[setRow_heap w b _ _ e _ h];congr 3;simp[fB,List.map_take,List.map_drop]
end
end a8
namespace Go.Proofs.R
open Go Go.RowKit a8 o
def Um(n:Nat)(w:A_)(k:n<=8):EG F.fn #[.I n] w λf c=>f = .I ((dA n:Nat):Int)/\Ext w c:=by
 have g:∀a,a<=8->dA a<=40320:=Ae
 refine bm E.fn ?_;refine aa ?_;refine K_ 6 n [5] (λb:Int=>[(3,.I b)]) 1 (λa b c=>b=((dA a:Nat):Int)/\Ext w c) aV aV ⟨rfl,Ext.refl _⟩ ?_;rintro a b l m p ⟨d,e⟩;refine aa ?_;refine I_ (λh=>?_) (λh=>?_)
 .have i:a<n:=AW
  have q:=g (a+1) AW;have j:((dA (a+1):Nat):Int)=b*((a:Int)+1):=by
   rw[d];show(((a+1)*dA a:Nat):Int)=_;rw[Int.natCast_mul,Int.mul_comm];rfl
  have r:0<=b*((a:Int)+1)/\b*((a:Int)+1)<=40320:=AW
  refine aa ?_;exact⟨i,aZ,b*((a:Int)+1),aV,j.symm,e⟩
 .have:a=n:=AW
  subst this;refine aa ?_;exact⟨by rw[d],e⟩
def aeo(n:Nat)(w:A_)(r:n<=8):EG F.Kq #[.I n] w λe b=>(∃c,e = .slice (some ⟨c,0,none⟩) n n/\fe w.heap.size b e (o.upto n))/\Ext w b:=by
 refine bm E.Kq ?_;refine aa ?_;refine _Z n AW AW λs c f j g=>?_;have k:=aR.Js (n:=n) g f Ah (by simp[maxLen];omega);clear g;refine aa ?_;refine K_ 15 n [3,13,14] (λ_:Unit=>[]) () (λa _ b=>fe w.heap.size b (.slice (some ⟨c,0,none⟩) n n) (o.upto a++List.replicate (n - a) 0)/\Ext w b) aV aV ⟨by simpa[o.upto] using k,j⟩ ?_;rintro a - t u v ⟨d,h⟩;refine aa ?_;refine I_ (λl=>?_) (λl=>?_)
 .have m:a<n:=AW
  refine aa ?_;refine _a (k:=a) d (by simp[sT];omega) λx p i=>?_;refine aa ?_;have q:(o.upto a++List.replicate (n - a) 0).set a (a:Int)=o.upto (a+1)++List.replicate (n - (a+1)) 0:=by
   rw[List.set_append_right _ _ (by rw[sT];exact Fy _),sT,AK0,show n - a=(n - (a+1))+1 from AW,List.replicate_succ];simp[o.upto,List.range_succ]
  rw[q] at i;exact⟨m,aZ,(),trivial,i,p.ext h f⟩
 .have:a=n:=AW
  subst this;refine aa ?_;rw[AK0,List.replicate_zero,AG8] at d;exact⟨⟨c,aZ,d⟩,h⟩
end Go.Proofs.R
namespace a8
open Go Go.RowKit
def y1(l:C_ Bool):C_ B_:=l.map Value.bool
def ZS{w:A_}{b i:Nat}{l:C_ Bool}{e:F_}(h:w.heap[b]? = some (.cells (y1 l).toArray e))(a:i<l.length):w.cell? ⟨b,i,none⟩=some (.bool l[i]):=by
 simp[World.cell?,h,y1,a]
section
variable{P:Program}{S:Fr}{w:World}
def AE2{b i:Nat}{l:C_ Bool}{e:F_}{c:B_->Prop}{a:Addr}{t}(h:w.heap[b]? = some (.cells (y1 l).toArray e))(d:i<l.length)(f:a=⟨b,i,none⟩)(g:c (.bool l[i])):tR (.pointer (some a)) w c t:=by
 subst f;exact L_ (ZS h d) g
def AE3{b i:Nat}{l:C_ Bool}{e:F_}{v:Bool}{d:A_->Prop}{a:Addr}{t}(h:w.heap[b]? = some (.cells (y1 l).toArray e))(f:i<l.length)(g:a=⟨b,i,none⟩)(j:∀c,dY b w c->c.heap[b]? = some (.cells (y1 (l.set i v)).toArray e)->d c):vr (.pointer (some a)) (.bool v) w d t:=by
 subst g;refine _1 (ZS h f) (by simp[World.frozen?,h]) rfl (j _ (dY.setCell w ⟨b,i,none⟩ _) ?_);have k:=ca h;have m:=(Array.getElem?_eq_some_iff.1 h).2;simp[World.setCell,Array.getElem_modify,k,m,y1,List.map_set]
end
end a8
namespace Go.Proofs.R
open Go Go.RowKit a8 o
def aga(v:B_)(n:Nat)(p:C_ Int)(w:A_)(h:cH w v p)(g:ku n p)(P:n<=8):EG F.Kw #[v] w λv e=>v = .bool true/\Ext w e:=by
 obtain⟨Q,S,rfl,U⟩:=h.form;have V:=g.len;refine bm E.Kw ?_;refine aa ?_;intro x m y z f;have f:x.heap[m]? = some (.cells (y1 (List.replicate 8 false)).toArray T.pF):=f;refine aa ?_;refine K_ 11 p.length [0,3,9,10] (λ_:Unit=>[]) () (λc _ e=>(∃b:C_ Bool,b.length=8/\e.heap[m]? = some (.cells (y1 b).toArray T.pF)/\∀a (i:a<b.length),b[a]=true->(a:Int)∈p.take c)/\Ext w e) aV aV ⟨⟨List.replicate 8 false,Ah,f,λa i d=>by rw[List.getElem_replicate] at d;cases d⟩,z⟩ ?_;rintro c - W X Y ⟨⟨b,A,q,r⟩,j⟩;clear f;have B:=h.ext Flat.ext j;refine aa ?_;refine I_ (λC=>?_) (λC=>?_)
 .have k:c<p.length:=AW
  obtain⟨a,i,Z⟩:=g.get (i:=c) AW;have l:p[c]=(a:Int):=(List.getElem?_eq_some_iff.1 i).2;obtain⟨ab,rfl⟩:=B.addr;have G:b[a]' AW=false:=by
   cases H:b[a]' AW with
   | false=>rfl
   | true =>
    have I:=r a AW H;obtain⟨J,K,s⟩:=List.mem_iff_getElem.1 I;rw[NU] at K;rw[AL2] at s;have t:=g.nodup;rw[List.Nodup,AJ9] at t;exact absurd (s.trans l.symm) (t J c AW k AW)
  refine aa ?_;rw[l];refine aa ?_;refine _p AW ?_;refine aa ?_;refine AE2 (i:=a) q AW (by rw[add_eq];simp) ?_;rw[G];refine aa ?_;refine _p AW ?_;refine aa ?_;refine AE3 (i:=a) q AW (by rw[add_eq];simp) λae L M=>?_;refine aa ?_;refine⟨k,aZ,(),trivial,⟨_,by rw[ZA];exact A,M,λN u d=>?_⟩,L.ext j y⟩;rw[NZ k,List.mem_append,l];rw[List.getElem_set] at d;split at d
  .rename_i O;subst O;exact .inr Ah
  .exact .inl (r N (by rw[ZA] at u;exact u) d)
 .refine aa ?_;exact⟨aZ,j⟩
def avn(v r:B_)(n:Nat)(p:C_ Int)(w:A_)(h:cH w v p)(m:cH w r (o.upto n))(d:ku n p)(C:n<=8):EG F.Kx #[v,r] w λv f=>fe w.heap.size f v (pY p)/\Ext w f:=by
 obtain⟨Y,Z,rfl,ab⟩:=h.form;obtain⟨ae,af,rfl,ag⟩:=m.form;have ah:=d.len;have G:=sT n;refine bm E.Kx ?_;refine aa ?_;refine J_ (aga _ n p w h d C) ?_;rintro _ ai ⟨rfl,j⟩;have aj:=h.ext Flat.ext j;have ak:=m.ext Flat.ext j;refine aa ?_;refine _Z n AW AW λal s an H t=>?_;have I:=j.trans H;have u:w.heap.size<=s:=by have:=j.size;omega
 have J:=aR.Js (n:=n) (base:=w.heap.size) t u Ah (by simp[maxLen];omega);clear t;rw[G];refine aa ?_;refine K_ 23 p.length [0,1,5,21,22] (λ_:Unit=>[]) () (λc _ f=>(∃g,fe w.heap.size f (.slice (some ⟨s,0,none⟩) n n) g/\g.length=n/\∀b a:Nat,b<c->p[b]? = some (a:Int)->g[a]? = some (b:Int))/\Ext w f) aV aV ⟨⟨_,J,Ah,λb a e=>absurd e (Og _)⟩,I⟩ ?_;rintro c - ao aq ar ⟨⟨g,x,K,y⟩,k⟩;have L:=h.ext Flat.ext k;have M:=m.ext Flat.ext k;refine aa ?_;refine I_ (λN=>?_) (λN=>?_)
 .have z:c<p.length:=AW
  obtain⟨a,l,au⟩:=d.get (i:=c) AW;have A:p[c]=(a:Int):=(List.getElem?_eq_some_iff.1 l).2;obtain⟨av,rfl⟩:=L.addr;obtain⟨aw,rfl⟩:=M.addr;have O:(o.upto n)[c]' AW=(c:Int):=by simp[o.upto]
  refine aa ?_;rw[A];refine aa ?_;rw[O];refine _a (k:=a) x AW λax P Q=>?_;refine aa ?_;refine⟨z,aZ,(),trivial,⟨_,Q,by rw[ZA];exact K,λb q e i=>?_⟩,P.ext k u⟩;rw[List.getElem?_set];by_cases S:b=c
  .subst S;rw[l] at i;injection i with i
   have:a=q:=AW
   subst this;rw[if_pos rfl,if_pos AW]
  .have U:a≠q:=by
    rintro rfl;have B:=d.nodup;rw[List.Nodup,AJ9] at B;obtain⟨V,W⟩:=List.getElem?_eq_some_iff.1 i;exact absurd (W.trans A.symm) (B b c V z AW)
   rw[if_neg U];exact y b q AW i
 .refine aa ?_;have X:g=pY p:=by
   apply List.ext_getElem?;intro a;by_cases l:a<n
   .obtain⟨b,e⟩:=List.mem_iff_getElem?.1 (d.all a l)
    have:=(List.getElem?_eq_some_iff.1 e).1
    rw[y b a AW e,L8 d e]
   .rw[List.getElem?_eq_none AW,List.getElem?_eq_none (by rw[(HB d).len];omega)]
  subst X;exact⟨x,k⟩
def avm(v:B_)(n:Nat)(p:C_ Int)(w:A_)(h:cH w v p)(a:ku n p)(b:n<=8):EG F.az #[v] w λv e=>fe w.heap.size e v (pY p)/\Ext w e:=by
 obtain⟨q,r,rfl,s⟩:=h.form;have c:=a.len;refine bm E.az ?_;refine aa ?_;refine J_ (aga _ n p w h a b) ?_;rintro _ f ⟨rfl,g⟩;refine aa ?_;rw[c];refine J_ (aeo n f b) ?_;rintro _ i ⟨⟨t,rfl,j⟩,k⟩;have d:=g.trans k;rw[<-c];refine aa ?_;refine J_ (avn _ _ n p i (h.ext Flat.ext d) (by rw[c];exact gT j) a b) ?_;rintro v u ⟨l,m⟩;refine aa ?_;exact⟨l.low (by have:=d.size;omega),d.trans m⟩
end Go.Proofs.R
namespace o
open Go
theorem Q8:∀a,0<dA a
 | 0=>Ae
 | a+1=>Nat.mul_pos (Nat.succ_pos a) (Q8 a)
def abj{n k:Nat}(h:k<dA (n+1)):k / dA n<n+1:=Nat.div_lt_of_lt_mul (by rw[AK1];exact h)
end o
namespace Go.Proofs.R
open Go Go.RowKit a8 o
def AE4{S:Fr}{w:A_}{b n k:Nat}{cur:C_ Int}{x:G_}{e:H_ Addr}{f:B_->A_->Prop}{i:F_}{t}(h:w.heap[b]? = some (.cells (fB cur).toArray T.a))(j:bq S x = .slice e 1 n)(l:e=some ⟨b,k,none⟩)(m:k<cur.length)
  (p:∀q a,dY b w a->a.heap[b]? = some (.cells (fB (cur.set k 0)).toArray T.a)->f q a):wS Tryz.prog (.call ⟨.builtin .clear,#[x],#[T.b]⟩) i S w f t:=by
 have r:∀w:A_,(zeroValue T.a).run Tryz.prog w = .ok (.I 0) w:=λw=>by
  have s:(Tryz.prog.info? T.a).bind (·.zero)=some (.I 0):=Cg
  obtain⟨c,d,u⟩:=Option.bind_eq_some_iff.1 s;simp[zeroValue,wy d,u]
 have v:Tryz.prog.underlying T.b=some (.slice T.a):=Cg
 subst l;refine _X (v:=.tuple #[]) (w':=k0 w ⟨b,k,none⟩ (Builtin.zeroCells #[.I 0] 1).toList 0) ?_ (p _ _ (dY.k0 _ w ⟨b,k,none⟩ 0) ?_)
 .have y:=Ou Tryz.prog ⟨b,k,none⟩ (Builtin.zeroCells #[.I 0] 1).toList 0 w (λz A=>?_) ?_
  .simp[execOp,resolve,invoke,builtin,j,Builtin.clear_,run_underlying v,r,Value.cells,y]
  .have B:z=0:=by simp[Builtin.zeroCells] at A;omega
   subst B;rw[add_eq];exact⟨⟨_,TP h m⟩,by simp[World.frozen?,h]⟩
  .intro H g;simp only[Builtin.zeroCells,Array.toList_map,List.mem_map] at g;obtain⟨c,_,rfl⟩:=g;show((#[Value.int .i64 0]:Array B_)[c % 1]!).oneCell'=true;rw[show c % 1=0 from AW];rfl
 .have C:=ca h;have d:=(Array.getElem?_eq_some_iff.1 h).2;have G:(Builtin.zeroCells #[.I 0] 1).toList=[Value.int .i64 0]:=by simp[Builtin.zeroCells,Array.range]
  rw[G];simp only[k0,add_eq];simp[World.setCell,Array.getElem_modify,C,d,fB,List.map_set]
def alX(b m n i:Nat)(cur:C_ Int)(w:A_)(h:w.heap[b]? = some (.cells (fB cur).toArray T.a))(u:cur.length=n)(v:m<=n)(x:i<m)(y:n<=8) :
  EG F.Kr #[.slice (some ⟨b,0,none⟩) m n,.I i,.I ((i:Int)+1)] w λc d=>c = .slice (some ⟨b,0,none⟩) (m - 1) n/\Mod (λa=>a=b) w d/\∃bj,bj.length=n/\d.heap[b]? = some (.cells (fB bj).toArray T.a)/\bj.take (m - 1)=(cur.take m).eraseIdx i:=by
 refine vl E.Kr ?_;refine ow ?_;refine aa ?_;refine _K i (i+1) m (by simp[fb,dy,bS]) (by simp[fb,dy,bS];omega) (by simp[fb,dy,bS]) ⟨AW,AW,AW⟩ Ah ?_;refine aa ?_;intro z e;have k:=e.obj h;refine aa ?_;refine _6 (b:=b) (l:=0) (h:=i) rfl (by simp[fb]) (by simp[fb,dy,bS]) rfl AW AW λA _ l=>?_;obtain rfl:=l rfl;refine aa ?_;refine _6 (b:=b) (l:=i+1) (h:=m) rfl (by simp[fb,dy,bS];omega) (by simp[fb]) rfl AW AW λB p _=>?_;refine aa ?_;refine AE1 (b:=b) (j:=i+1) (k:=m - (i+1)) (cur:=cur) k rfl p AW AW AW λC q f=>?_;have g:i - 0+(m - (i+1))=m - 1:=AW
 rw[g,Nat.sub_zero] at f;rw[g,Nat.sub_zero];refine aa ?_;refine _6 (b:=b) (l:=m - 1) (h:=m) rfl (by simp[fb,dy,bS]) (by simp[fb,dy,bS]) rfl AW AW λG j _=>?_;rw[show m - (m - 1)=1 from AW] at j ⊢;refine aa ?_;have r:(cur.take i++(cur.drop (i+1)).take (m - (i+1))++cur.drop (m - 1)).length=n:=by simp;omega
 refine AE4 (b:=b) (k:=m - 1) (n:=n - (m - 1)) f (by simp[dy,bS]) (j AW) AW λc H s t=>?_;refine aa ?_;refine⟨aZ,?_,_,by rw[ZA];exact r,t,?_⟩
 .exact((e.mod (A:=λa=>a=b)).trans (q.mod rfl)).trans (s.mod rfl)
 .rw[List.take_set_of_le AW,List.take_append_of_le_length (by simp;omega)];rw[Im (by simp;omega)];rw[AL5,AI9,Nat.min_eq_left AW,List.drop_take,show m - (i+1)=m - (i+1) from rfl]
def ahJ{x m:Nat}(h:x<m)(a:m<=5) : -9223372036854775808<=(x:Int)+1/\(x:Int)+1<=9223372036854775807:=AW
def ayq(n k:Nat)(w:A_)(Q:n<=4)(S:k<dA n):EG F.cP #[.I n,.I k] w λU f=>fe w.heap.size f U (m6 n k)/\Ext w f:=by
 have r:∀C,C<=4->dA C<=24:=Ae
 have av:=r n Q;refine bm E.cP ?_;refine aa ?_;refine J_ (Um n w AW) ?_;rintro _ V ⟨rfl,G⟩;refine aa ?_;refine J_ (aeo n V AW) ?_;rintro _ H ⟨⟨e,rfl,I⟩,W⟩;obtain⟨s,aw,_⟩:=I.full;have g:=G.trans W;have ax:w.heap.size<=e:=by have:=G.size;omega
 have az:=ca s;clear I;refine aa ?_;refine _V [0] (λb:(ef×Nat×Nat)=>[(5,.slice (some ⟨e,0,none⟩) b.2.1 n),(6,.slice b.1.1 b.1.2.1 b.1.2.2),(1,.I (b.2.2:Nat))]) ((none,0,0),n,k) (λb f=>Ext w f/\b.2.1<=n/\b.2.2<dA b.2.1/\∃d h,d.length=n/\f.heap[e]? = some (.cells (fB d).toArray T.a)/\fe H.heap.size f (.slice b.1.1 b.1.2.1 b.1.2.2) h/\H.heap.size<=f.heap.size/\h.length+b.2.1=n/\h++wF b.2.1 (d.take b.2.1) b.2.2=m6 n k) (λb=>b.2.1) aV
  ⟨g,Fy _,S,o.upto n,[],sT n,s,aR.nil _ _ _ _ _,Fy _,Ah,by rw[Im (by rw[sT];exact Fy _)];rfl⟩ ?_
 rintro⟨⟨aA,aB,aC⟩,a,c⟩ aD X ⟨J,hm,K,d,h,Y,L,t,aE,hlen,i⟩;dsimp only at hm K hlen i t ⊢;clear s;have aF:=r a AW;refine aa ?_;refine I_ (λZ=>?_) (λZ=>?_)
 .obtain⟨a,rfl⟩:∃l,a=l+1:=⟨a - 1,AW⟩;have j:=Q8 a;have u:=abj K;have aG:=r a AW;refine aa ?_;rw[show((a+1:Nat):Int) - 1=(a:Int) from AW];refine J_ (Um a X AW) ?_;rintro _ ab ⟨rfl,m⟩;have v:=m.obj L;have ae:=t.ext m;clear L;refine aa ?_;refine _0 c (dA a) rfl rfl j AW ?_;refine aa ?_;have af:ab.cell? (Addr.add ⟨e,0,none⟩ (c / dA a*1))=some (.I (d[c / dA a]' AW)):=by
   rw[add_eq,AH5,ZB];exact TP v AW
  refine L_ af ?_;refine aa ?_;intro aH aI aJ p M;have x:=p.obj v;have y:=ae.ext p;have aK:=m.size;have aM:=p.size;refine aa ?_;refine T_ (y:=d[c / dA a]' AW) y M rfl (λ_=>rfl) je AW (by unfold maxLen;omega) AW λag ah ai aj N z=>?_;have ak:=y.hN ((J.trans m).trans p) z (by have:=g.size;omega);have al:aj.heap[e]? = some (.cells (fB d).toArray T.a):=by
   rw[z.block e (ca x) λA=>by have:=(y.lt e A.symm).1;omega];exact x
  have aP:=z.size;clear v M x;refine aa ?_;intro an q;have ao:=q.obj al;refine aa ?_;refine _0 c (dA a) rfl rfl j AW ?_;refine aa ?_;refine _0 c (dA a) rfl rfl j AW ?_;refine aa ?_;refine Q_ (ahJ u AW) ?_;refine aa ?_;refine J_ (alX e (a+1) n (c / dA a) d an ao Y hm u AW) ?_;rintro _ aQ ⟨rfl,B,bj,aq,ar,O⟩;have aS:=q.size;have aT:=B.size;rw[show a+1 - 1=a from rfl] at O;rw[show a+1 - 1=a from rfl];refine aa ?_;refine AB0 c (dA a) rfl rfl j ?_;refine aa ?_;refine⟨((ag,ah,ai),a,c % dA a),aV,⟨?_,by show a<=n;omega,Nat.mod_lt _ j,bj,h++[d[c / dA a]' AW],aq,ar,(N.ext q).mod B λl P A=>?_,AW,?_,?_⟩,Nat.lt_succ_self a⟩
  .exact B.ext (ak.trans q) λl P A=>AW
  .have:=(N.lt l P).1
   omega
  .simp only[List.length_append,List.length_singleton];omega
  .rw[O];have au:wF (a+1) (d.take (a+1)) c=(d.take (a+1)).getD (c / dA a) 0 :: wF a ((d.take (a+1)).eraseIdx (c / dA a)) (c % dA a):=rfl;rw[au] at i;rw[<-i,VA];congr 1;have g:(d.take (a+1)).getD (c / dA a) 0=d[c / dA a]' AW:=by
    rw[List.getD,List.getElem?_take_of_lt u,List.getElem?_eq_getElem AW];rfl
   rw[g];rfl
 .have:a=0:=AW
  subst this;refine aa ?_;simp only[wF,List.append_nil] at i;rw[<-i];exact⟨t.low (by have:=g.size;omega),J⟩
end Go.Proofs.R
namespace o
open Go
def af4(p:C_ Int):Bool:=decide (p.length<=8/\∀a:Nat,a<p.length->(a:Int)∈p)
end o
namespace Go.Proofs.R
open Go Go.RowKit a8 o
def ar5(n:Nat)(w:A_)(t:n<=8):EG F.Mz #[.I n] w λh c=>fe w.heap.size c h (o.upto n)/\Ext w c:=by
 refine bm E.Mz ?_;refine aa ?_;refine K_ 4 n [0] (λb:ef=>[(3,.slice b.1 b.2.1 b.2.2)]) (none,0,0) (λa b c=>fe w.heap.size c (.slice b.1 b.2.1 b.2.2) (o.upto a)/\Ext w c) aV aV ⟨aR.nil _ _ _ _ _,Ext.refl _⟩ ?_;rintro a ⟨u,v,x⟩ y z A ⟨d,e⟩;dsimp only at d;refine aa ?_;refine I_ (λi=>?_) (λi=>?_)
 .have j:a<n:=AW
  refine aa ?_;intro B C G f k;have g:=d.ext f;refine aa ?_;refine T_ (y:=(a:Int)) g k rfl (λ_=>rfl) je (by rw[sT];omega) (by rw[sT];unfold maxLen;omega) (by have:=e.size;have:=f.size;omega) λl m p H q r=>?_;refine aa ?_;refine⟨j,aZ,(l,m,p),aV,?_,g.hN (e.trans f) r (Fy _)⟩;have s:o.upto (a+1)=o.upto a++[(a:Int)]:=by simp[o.upto,List.range_succ]
  rw[s];exact q
 .have:a=n:=AW
  subst this;refine aa ?_;exact⟨d,e⟩
def Q7(n:Nat)(w:A_)(q:n<=8):EG F.MA #[.I n] w λi c=>i = .I ((dA n:Nat):Int)/\Ext w c:=by
 have j:∀e,e<=8->dA e<=40320:=Ae
 refine bm E.MA ?_;refine aa ?_;refine _V [0] (λa:Nat=>[(3,.I ((dA (a+1):Nat):Int)),(4,.I ((a:Int)+2))]) 0 (λa c=>a+1<=n/\Ext w c\/a=0/\n=0/\Ext w c) (λa=>n - a) aV ?_ ?_
 .rcases Nat.eq_zero_or_pos n with b | b
  .exact .inr ⟨rfl,b,Ext.refl _⟩
  .exact .inl ⟨b,Ext.refl _⟩
 rintro a r k d;have f:Ext w k:=d.elim (·.2) (·.2.2);have l:a+1<=n\/a=0/\n=0:=d.elim (λb=>.inl b.1) (λb=>.inr ⟨b.1,b.2.1⟩);clear d;refine aa ?_;refine I_ (λm=>?_) (λm=>?_)
 .have g:=j (a+2) AW;have p:((dA (a+2):Nat):Int)=((dA (a+1):Nat):Int)*((a:Int)+2):=by
   show(((a+1+1)*dA (a+1):Nat):Int)=_;rw[Int.natCast_mul,Int.mul_comm];rfl
  have h:0<=((dA (a+1):Nat):Int)*((a:Int)+2)/\((dA (a+1):Nat):Int)*((a:Int)+2)<=40320:=AW
  refine aa ?_;exact⟨a+1,⟨by rw[<-p],by show(_:B_)=_;congr 1,trivial⟩,.inl ⟨AW,f⟩,AW⟩
 .refine aa ?_;refine⟨?_,f⟩;rcases l with b | ⟨g,h⟩
  .have:n=a+1:=AW
   rw[this]
  .rw[g,h];rfl
end Go.Proofs.R
namespace o
open Go
structure gi(m:Model)(ref:Int)(q p k:Nat):Prop where
 ok:(check m).bN=0
 aQ:0<=ref
 ab:ref.toNat<(refs m).length
 at_:YG m ((refs m)[ref.toNat]) q p k
def Told(m:Model)(ref:Int):Prop:=(check m).bN=0/\0<=ref/\ref<(refs m).length
def FX{m:Model}{ref:Int}(h:Told m ref):∃a b c,gi m ref a b c:=by
 obtain⟨d,e,g⟩:=h;obtain⟨a,b,c,f⟩:=awD (ID (show ref.toNat<(refs m).length by omega));exact⟨a,b,c,d,e,AW,f⟩
def gi.told{m:Model}{ref:Int}{q p k:Nat}(h:gi m ref q p k):Told m ref:=⟨h.ok,h.aQ,by have:=h.ab;have:=h.aQ;omega⟩
def gi.inst{m:Model}{ref:Int}{q p k:Nat}(h:gi m ref q p k):hI m q p:=by
 obtain⟨b,a⟩:=wh h.at_.ab;have c:b=p:=by
  have d:=a.eq;rw[h.at_.ip] at d;omega
 subst c;exact a
theorem gi.one{m:Model}{ref:Int}{q p k q' b k':Nat}(h:gi m ref q p k)(a:gi m ref q' b k'):q=q'/\p=b/\k=k':=by
 have c:q=q':=by have d:=h.at_.rS;have e:=a.at_.rS;omega
 subst c;have d:=h.at_.ip;have e:=a.at_.ip;have f:=h.at_.sO;have g:=a.at_.sO;exact⟨rfl,AW,AW⟩
def cR(m:Model)(p k:Nat):et:=((m.procs[p]?.map (·.cL[k]?)).join).getD ⟨⟨#[]⟩,0,0,[],[],false⟩
def C9{m:Model}{p k:Nat}(a:p<m.procs.length)(b:k<m.procs[p].cL.length):cR m p k=m.procs[p].cL[k]:=by
 unfold cR;rw[List.getElem?_eq_getElem a];simp[b]
def gi.cin{m:Model}{ref:Int}{q p k:Nat}(h:gi m ref q p k):E6 (inner (m.procs[p]'(h.at_.aC)) (fw m)) (cR m p k):=by
 rw[C9 h.at_.aC h.at_.J];exact alC h.ok h.at_.aC h.at_.J
structure azn(m:Model)(ref:Int)(a b:List Int):Prop where
 there:∀q p k,gi m ref q p k->PQ (awi m q (cR m p k) (cR m p k).b6.length) a/\PQ (Wa m q (cR m p k) (cR m p k).b6.length) b
 none:¬Told m ref->a=[]/\b=[]
structure azk(m:Model)(ref:Int)(a:List Int):Prop where
 there:∀q p k,gi m ref q p k->PQ (abO m q (cR m p k)) a
 none:¬Told m ref->a=[]
def gm.HG{m:Model}(h:gm m):Av m:=⟨by have:=h.procs;omega,λa b=>by have:=(h.proc a b).g2;omega⟩
end o
namespace Go.Proofs.R
open Go Go.RowKit a8 o
def agz(c:et)(p l:B_)(w:A_)(f:oq w l c.b6) :
  EG F.MZ #[.agg (c.enc p l).toArray] w λq g=>q = .tuple #[.I (o.comm c.b6).1,.I (o.comm c.b6).2]/\Ext w g:=by
 obtain⟨v,x,rfl,y⟩:=f.form;refine bm E.MZ ?_;refine aa ?_;intro r z A s b;unfold et.enc at b;refine aa ?_;refine K_ 4 c.b6.length [1] (λ_=>[]) () (λd _ g=>Ext r g/\o.comm c.b6=o.comm (c.b6.drop d)) aV aV ⟨Ext.refl _,Ah⟩ ?_;have t:=b;clear b;rintro d _ B C G ⟨h,a⟩;have b:=h.obj t;have e:=s.trans h;refine aa ?_;apply I_<;>intro H
 .have i:d<c.b6.length:=AW
  obtain⟨I,rfl⟩:=f.addr;obtain⟨J,K,j,L,M⟩:=f.at d i;rw[aap i] at a;replace j:=j.ext e;unfold o.Act.enc at j;refine aa ?_;apply I_<;>intro m
  .refine aa ?_;intro u k;refine aa ?_;rw[a,if_pos (by simp[h2,m])];exact⟨aZ,e.trans k⟩
  refine aa ?_;apply I_<;>intro n
  .refine aa ?_;intro u k;refine aa ?_;rw[a,if_pos (by simp[h2,n])];exact⟨aZ,e.trans k⟩
  refine aa ?_;rw[if_neg (by simp[h2,m,n])] at a;exact⟨i,aZ,(),by trivial,h,a⟩
 .refine aa ?_;rw[a,VB AW];exact⟨aZ,e⟩
def axd(c:et)(e f dI:B_)(l:C_ ed)(w:A_)(g:oq w f c.b6)(b:ot w dI l) :
  EG F.M0 #[.agg (c.enc e f).toArray,dI] w λk m=>k = .I (o.ways c l)/\Ext w m:=by
 obtain⟨q,r,rfl,s⟩:=b.form;obtain⟨t,u,rfl,v⟩:=g.form;refine bm E.M0 ?_;refine aa ?_;intro n x y h z;refine aa ?_;refine J_ (agz c e _ n (g.ext h)) ?_;rintro _ A ⟨rfl,p⟩;have a:=h.trans p;rw[o.ways];refine aa ?_;apply I_<;>intro i;rotate_left
 .refine aa ?_;rw[if_neg i];exact⟨aZ,a⟩
 rw[if_pos i];refine aa ?_;apply I_<;>intro B;rotate_left
 .refine aa ?_;rw[hz (.inl AW)];exact⟨aZ,a⟩
 refine aa ?_;apply I_<;>intro C;rotate_left
 .refine aa ?_;rw[hz (.inr AW)];exact⟨aZ,a⟩
 rw[ir AW AW];obtain⟨G,rfl⟩:=b.addr;have j:(o.comm c.b6).2.toNat<l.length:=AW
 have H:=((b.at _ j).cells).ext a;refine aa ?_;refine M_ (o.comm c.b6).2.toNat AW j ?_;refine aa ?_;refine N_ (λd=>?_) (λd=>?_)
 .refine aa ?_;rw[if_pos d];exact⟨aZ,a⟩
 .refine aa ?_;rw[if_neg (by simp[d])];exact⟨aZ,a⟩
structure nR(w:World)(cs:List Value)(m:o.Model):Prop where
 ex:∃ms ys b5 mf,cs=ms++ys++[b5,mf]/\eu w ms m/\nf w ys (o.layout m)/\q6 w b5 (o.insts m)/\Fp w mf (o.refs m)
theorem nR.ext{w w':A_}{cs:C_ B_}{m:o.Model}(a:Ext w w')(h:nR w cs m):nR w' cs m :=
 let ⟨ms,ys,b,c,d,e,f,g,i⟩:=h.ex; ⟨ms,ys,b,c,d,e.ext a,f.ext a,g.ext Flat.ext a,i.ext Flat.ext a⟩
def nR.form{w:A_}{cs:C_ B_}{m:o.Model}(h:nR w cs m):∃a b c d e f g i t u j k l bg n bj p q r s v x y z,
  cs=[.slice a m.scalars.length b,.slice c m.vars.length d,.slice e m.ay.length f,.slice g m.procs.length i,.slice t m.props.length u,
   .slice j (o.layout m).vars.length k,.slice l (o.layout m).ay.length bg,.slice n (o.layout m).insts.length bj,.I (o.layout m).cells,.slice p (o.layout m).aQ.length q,.slice r (o.layout m).ab.length s,.slice v (o.insts m).length x,.slice y (o.refs m).length z] /\
  eu w [.slice a m.scalars.length b,.slice c m.vars.length d,.slice e m.ay.length f,.slice g m.procs.length i,.slice t m.props.length u] m /\
  nf w [.slice j (o.layout m).vars.length k,.slice l (o.layout m).ay.length bg,.slice n (o.layout m).insts.length bj,.I (o.layout m).cells,.slice p (o.layout m).aQ.length q,.slice r (o.layout m).ab.length s] (o.layout m) /\
  a4 1 (Flat da) w (.slice j (o.layout m).vars.length k) (o.layout m).vars/\a4 1 (Flat da) w (.slice l (o.layout m).ay.length bg) (o.layout m).ay/\a4 1 (Flat da) w (.slice n (o.layout m).insts.length bj) (o.layout m).insts /\
  a4 1 (Flat da) w (.slice p (o.layout m).aQ.length q) (o.layout m).aQ/\a4 1 (Flat da) w (.slice r (o.layout m).ab.length s) (o.layout m).ab /\
  hC w (.slice a m.scalars.length b) m.scalars/\jO w (.slice c m.vars.length d) m.vars/\ot w (.slice e m.ay.length f) m.ay/\r4 w (.slice g m.procs.length i) m.procs /\
  q6 w (.slice v (o.insts m).length x) (o.insts m)/\Fp w (.slice y (o.refs m).length z) (o.refs m):=by
 obtain⟨U,ys,V,W,rfl,A,B,C,G⟩:=h.ex;have H:=A;have I:=B;obtain⟨j,k,l,bg,n,bj,p,q,r,s,rfl,J,K,L,M,N⟩:=B.form;obtain⟨a,b,c,d,e,f,g,i,t,u,rfl,O,P,Q,S,X,_⟩:=A.form;obtain⟨v,x,rfl,_⟩:=C.form;obtain⟨y,z,rfl,_⟩:=G.form;exact⟨a,b,c,d,e,f,g,i,t,u,j,k,l,bg,n,bj,p,q,r,s,v,x,y,z,rfl,H,I,J,K,L,M,N,O,P,Q,S,C,G⟩
def agv(cs ys:C_ B_)(m:o.Model)(w:A_)(h:eu w cs m)(r:m.cS)(y:gm m)(s:nf w ys (o.layout m)) :
  EG F.Ny #[.agg cs.toArray,.agg ys.toArray] w λz i=>(∃j k,z = .agg (cs++ys++[j,k]).toArray/\aR c7.enc T.c 2 w.heap.size i j (o.insts m)/\aR o.Ref.enc T.f 2 w.heap.size i k (o.refs m))/\Ext w i:=by
 have t:=h;have J:=s;obtain⟨K,L,M,bg,N,bj,O,P,Q,S,rfl,_⟩:=h.form;obtain⟨U,V,W,X,Y,Z,ab,ae,af,ag,rfl,_⟩:=s.form;refine bm E.Ny ?_;refine aa ?_;intro ah ai aj u a;refine aa ?_;intro ak al an l e;replace a:=l.obj a;refine aa ?_;intro ao aq ar f b;have au:=ca b;replace a:=f.obj a;replace e:=f.obj e;have A:=(u.trans l).trans f;have av:=u.size;have aw:=l.size;refine aa ?_;intro B c;have n:=A.trans c;replace a:=c.obj a;replace e:=c.obj e;replace b:=c.obj b;refine aa ?_;refine J_ (Ev _ m B (t.ext n) r) ?_;rintro j C ⟨v,d⟩;obtain⟨ax,az,rfl,_⟩:=v.form;have p:=n.trans d;refine⟨d,?_⟩;refine aa ?_;refine J_ (awu _ m C (t.ext p) r y.HG) ?_;rintro k aA ⟨x,g⟩;obtain⟨aB,aC,rfl,_⟩:=x.form;have G:=p.trans g;refine⟨d.trans g,?_⟩;replace b:=(d.trans g).obj b;refine aa ?_;intro H q aD;have I:Ext w H:=q.ext G AW;have aE:=f.size;have aF:=c.size;have aG:=d.size;refine aa ?_;exact⟨⟨_,_,rfl,aR.low n.size (aR.wr q AW (v.ext g)),aR.low p.size (aR.wr q AW x)⟩,I⟩
end Go.Proofs.R
namespace o
open Go
def ZM{m:Model}{c:Nat}(h:c<cG m):∃a:c<(bD m).length,AK m c=((bD m)[c].aQ,(bD m)[c].ab):=by
 have a:c<(bD m).length:=h;exact⟨a,by unfold AK;rw[List.getElem?_eq_getElem a]⟩
end o
namespace Go.Proofs.R
open Go Go.RowKit a8 o
def Wb:C_ B_:=[.slice none 0 0,.slice none 0 0,.slice none 0 0,.slice none 0 0,.slice none 0 0,.slice none 0 0,.slice none 0 0,.slice none 0 0,.int .i64 0,.slice none 0 0,.slice none 0 0,.slice none 0 0,.slice none 0 0]
def av3(cs:C_ B_)(m:o.Model)(w:A_)(h:eu w cs m)(j:m.cS) :
  EG F.Ea #[.agg cs.toArray] w λl n=>((¬(o.check m).bN=0/\l = .tuple #[.agg Wb.toArray,.bool false])\/((o.check m).bN=0/\∃p,l = .tuple #[.agg p.toArray,.bool true]/\nR n p m))/\Ext w n:=by
 have c:=h;obtain⟨O,P,Q,bg,S,bj,U,V,W,X,rfl,_⟩:=h.form;refine bm E.Ea ?_;refine aa ?_;intro Y Z ab q b;refine aa ?_;intro H ae af r a;have ag:=ca a;have ah:=q.size;replace b:=r.obj b;have s:=q.trans r;refine aa ?_;refine J_ (Vc _ m H (c.ext s) j) ?_;rintro _ ai ⟨rfl,d⟩;replace b:=d.obj b;replace a:=d.obj a;have t:=s.trans d;unfold zh;refine aa ?_;refine _d (v:=.I (o.check m).bN) rfl ?_;refine aa ?_;refine I_ (λe=>?_) (λe=>?_);rotate_left
 .refine aa ?_;intro u I aj;refine aa ?_;exact⟨.inl ⟨e,aZ⟩,I.ext t AW⟩
 have v:=g6 e;refine aa ?_;intro u f;replace b:=f.obj b;replace a:=f.obj a;have x:=t.trans f;refine aa ?_;refine J_ (agE _ m u (c.ext x) j v) ?_;rintro _ J ⟨⟨ys,rfl,y⟩,g⟩;have z:=y.here;have A:=x.trans g;refine⟨g,?_⟩;refine aa ?_;refine J_ (agv _ ys m J (c.ext A) j v z) ?_;rintro _ ak ⟨⟨al,an,rfl,B,C⟩,k⟩;have K:=A.trans k;replace a:=(g.trans k).obj a;obtain⟨ao,aq,ar,au,av,aw,ax,az,aA,aB,rfl,_⟩:=z.form;obtain⟨aC,aD,rfl,_⟩:=B.form;obtain⟨aE,aF,rfl,_⟩:=C.form;have aG:=f.size;have aH:=d.size;have L:=g.size;have aI:=ca a;refine aa ?_;intro M i aJ;have G:Ext w M:=i.ext K AW;have N:=((y.ext k L).wr i AW).here;refine aa ?_;exact⟨.inr ⟨e,_,rfl,_,_,_,_,rfl,c.ext G,N,aR.kF (enc:=c7.enc) (λ_=>rfl) (aR.wr i AW B),aR.kF (enc:=o.Ref.enc) (λ_=>rfl) (aR.wr i AW C)⟩,G⟩
def U7(cs:C_ B_)(m:o.Model)(ref:Int)(q p k:Nat)(w:A_)(h:nR w cs m)(a:gi m ref q p k) :
  EG F.NA #[.agg cs.toArray,.I ref] w λL M=>(∃g i,L = .agg ((cR m p k).enc g i).toArray/\fH w g (cR m p k).guard/\oq w i (cR m p k).b6)/\Ext w M:=by
 obtain⟨Z,ab,ae,af,ag,ah,ai,aj,ak,al,an,ao,aq,bg,ar,bj,au,av,aw,ax,az,aA,aB,aC,rfl,_,_,_,_,_,_,_,_,_,_,t,u,v⟩:=h.form;have aD:=a.at_.ab;have j:=a.at_.aC;have x:=a.at_.J;have N:=a.at_.ip;obtain⟨e,rfl⟩:=T7 a.aQ;have aE:e<(o.refs m).length:=a.ab;have O:(o.refs m)[e].inst=(q:Int):=a.at_.rS;have P:(o.refs m)[e].cmd=(k:Int):=a.at_.sO;obtain⟨aF,rfl⟩:=v.addr;obtain⟨aG,rfl⟩:=u.addr;obtain⟨aH,rfl⟩:=t.addr;obtain⟨aI,aJ,dI,y,aK,l⟩:=t.at p j;obtain⟨aM,aP,rfl,aQ⟩:=l.form;obtain⟨aS,rfl⟩:=l.addr;obtain⟨aT,g,i,z,A,B⟩:=l.at k x;obtain⟨Q,S,rfl,_⟩:=A.form;obtain⟨U,V,rfl,_⟩:=B.form;unfold ee.enc at y;unfold et.enc at z;refine bm E.NA ?_;refine aa ?_;intro aU aW aX C c;refine aa ?_;intro aY a0 a2 G d;have a5:=ca d;have a6:=C.size;replace c:=G.obj c;have H:=C.trans G;have W:=v.ext Flat.ext H;refine aa ?_;intro a7 a9 ba n r;have X:(o.refs m)[e].enc=[.I q,.I k]:=by unfold o.Ref.enc;rw[O,P]
 rw[X] at r;replace c:=n.obj c;replace d:=n.obj d;have f:=H.trans n;have I:=u.ext Flat.ext f;have J:=y.ext f;have K:=z.ext f;clear W;refine aa ?_;intro bb b;replace c:=b.obj c;replace d:=b.obj d;replace r:=b.obj r;replace I:=I.ext Flat.ext b;replace J:=J.ext b;replace K:=K.ext b;refine aa ?_;refine M_ p (by rw[N]) j ?_;refine aa ?_;intro bf Y bk;refine aa ?_;have s:=C9 j x;exact⟨⟨.slice Q (cR m p k).guard.length S,.slice U (cR m p k).b6.length V,by rw[s];rfl,by rw[s];exact A,by rw[s];exact B⟩,Y.ext (f.trans b) AW⟩
def U8(cs:C_ B_)(v:B_)(m:o.Model)(s:C_ Int)(c:Nat)(w:A_)(h:nR w cs m)(d:gm m)(e:cH w v s)(q:s.length=cG m)(a:c<m.ay.length) :
  EG F.NG #[.agg cs.toArray,v,.I c] w λn f=>cH f n (o.chanOf m s c)/\Ext w f:=by
 obtain⟨r,t,u,x,y,z,A,B,C,G,H,I,J,bg,K,bj,L,M,N,O,P,Q,S,U,rfl,_,_,V,g,W,X,Y,Z,ab,i,ae,af,ag⟩:=h.form;obtain⟨ah,ai,rfl,aj⟩:=e.form;obtain⟨ak,j⟩:=AP a;have al:=(d.chan _ (ID a)).cap;have an:=mn a;have ao:=o4 a;have aq:cG m<=64:=iq d;obtain⟨ar,rfl⟩:=g.addr;obtain⟨au,rfl⟩:=i.addr;have k:=(i.at c a).cells;refine bm E.NG ?_;refine aa ?_;intro av aw ax b az;have aA:=g.ext Flat.ext b;replace k:=k.ext b;have p:=e.ext Flat.ext b;refine aa ?_;refine _Y (k:=.i64) (k':=.i64) (bT m c) (bT m c+(1+gq m c)) p (by simp[dy,bS,j]) (by simp[dy,bS,j];omega) AW AW λaB aC l=>?_;refine aa ?_;refine⟨?_,b⟩;rw[show bT m c+(1+gq m c) - bT m c=1+gq m c from AW] at l ⊢;exact l
def Oq(cs:C_ B_)(v:B_)(m:o.Model)(s:C_ Int)(c:Nat)(x n:Int)(w:A_)(h:nR w cs m)(p:gm m)(e:cH w v s)(y:s.length=cG m)(q:x=c)(r:c<cG m) :
  EG F.NI #[.agg cs.toArray,v,.I x,.I n] w λb f=>((o.putAt m s c n=none/\b = .tuple #[.slice none 0 0,.bool false])\/(∃g i,o.putAt m s c n=some g/\b = .tuple #[i,.bool true]/\fe w.heap.size f i g))/\Ext w f:=by
 subst q;obtain⟨z,A,B,C,G,H,I,J,K,L,M,N,O,bg,P,bj,Q,S,U,V,W,X,Y,Z,rfl,_,_,ab,ae,af,j,k,ag,ah,ai,aj,ak,al⟩:=h.form;obtain⟨an,ao,rfl,aq⟩:=e.form;obtain⟨l,d⟩:=ZM r;have ar:=Ms m;have au:=Mq m;have av:(bD m).length=cG m:=rfl;have aw:(o.layout m).aQ[c]' AW=(bD m)[c].aQ:=Mr _ l;have ax:(o.layout m).ab[c]' AW=(bD m)[c].ab:=Mp _ l;have az:cG m<=64:=iq p;obtain⟨aA,rfl⟩:=j.addr;obtain⟨aB,rfl⟩:=k.addr;refine bm E.NI ?_;refine aa ?_;intro aC aD aE a aF;have aG:=j.ext Flat.ext a;have aH:=k.ext Flat.ext a;refine aa ?_;apply I_<;>intro aI
 .refine aa ?_;exact⟨.inl ⟨by unfold o.putAt;rw[d,if_pos (.inl (by simp only;omega))],aZ⟩,a⟩
 refine aa ?_;apply I_<;>intro aJ
 .refine aa ?_;exact⟨.inl ⟨by unfold o.putAt;rw[d,if_pos (.inr (by simp only;omega))],aZ⟩,a⟩
 refine aa ?_;refine J_ (agA _ s c n _ (e.ext Flat.ext a) rfl AW AW) ?_;rintro b aK ⟨t,u⟩;refine aa ?_;exact⟨.inr ⟨_,_,by unfold o.putAt;rw[d,if_neg (by simp only;omega)],rfl,aR.low a.size t⟩,a.trans u⟩
def Vk(cs:C_ B_)(v k:B_)(m:o.Model)(s l:C_ Int)(c:Nat)(w:A_)(h:nR w cs m)(B:gm m)(n:cH w v s)(p:cH w k l)(X:s.length=cG m)(q:c<m.ay.length)(Y:l.length=1+gq m c) :
  EG F.NH #[.agg cs.toArray,v,.I c,k] w λC r=>fe w.heap.size r C (hY s (bT m c) l)/\Ext w r:=by
 obtain⟨Z,ab,ae,af,ag,ah,ai,aj,ak,al,an,ao,aq,bg,ar,bj,au,av,aw,ax,az,aA,aB,aC,rfl,_,_,aD,t,aE,aF,aG,aH,aI,aJ,aK,aM,aP⟩:=h.form;obtain⟨aQ,aS,rfl,aT⟩:=n.form;obtain⟨aU,aW,rfl,aX⟩:=p.form;obtain⟨aY,u⟩:=AP q;have a0:=mn q;have a2:cG m<=64:=iq B;obtain⟨a5,rfl⟩:=t.addr;refine bm E.NH ?_;refine aa ?_;intro a6 a7 a9 d ba;have bb:=t.ext Flat.ext d;have G:=n.ext Flat.ext d;have H:=p.ext Flat.ext d;refine aa ?_;intro e g;have x:=G.ext Flat.ext g;have I:=H.ext Flat.ext g;have y:=d.trans g;refine aa ?_;refine _5 (k:=.i64) (bT m c) x (by simp[dy,bS,u]) AW λbf bk J=>?_;refine aa ?_;refine _e (k:=.i64) (bT m c+l.length) x (by simp[dy,bS,u]) AW λbn gP K=>?_;refine aa ?_;intro L M N i O;have z:fe e.heap.size L (.slice (some ⟨M,0,none⟩) 0 0) []:=aR.empty N O;have bo:(s.take (bT m c)).length<=64:=by rw[NU];omega
 have bp:(s.drop (bT m c+l.length)).length<=64:=by rw[AG5];omega
 refine aa ?_;refine _D z (J.ext Flat.ext i) (λ_=>rfl) je (by simp only[List.length_nil];omega) (by simp only[List.length_nil];unfold maxLen;omega) i.size λbr P f Q=>?_;have dO:Ext e P:=i.grown Q λa b=>(z.lt a b).1;rw[AH2] at f;obtain⟨bt,bu,rfl,_⟩:=f.form;refine aa ?_;refine _D f (I.ext Flat.ext dO) (λ_=>rfl) je AW (by unfold maxLen;omega) dO.size λbw S j U=>?_;have hg:Ext e S:=dO.grown U λa b=>(f.lt a b).1;obtain⟨bx,bz,rfl,_⟩:=j.form;refine aa ?_;refine _D j (K.ext Flat.ext hg) (λ_=>rfl) je (by rw[Jv];omega) (by rw[Jv];unfold maxLen;omega) hg.size λbA V A W=>?_;have ks:Ext e V:=hg.grown W λa b=>(j.lt a b).1;obtain⟨bB,bC,rfl,_⟩:=A.form;refine aa ?_;exact⟨aR.low y.size A,y.trans ks⟩
end Go.Proofs.R
namespace a8
open Go Go.RowKit
def AB1{P:D_}{b:B_->Prop}{d f:G_}{t e:F_}{a:H_ Addr}{l c:Nat}{g}(h:P.underlying t=some (.slice e))(i:b (.bool a.isSome)):h4 P .neq t d f (.slice a l c) (.slice none 0 0) b g :=
 _Q (v:=.bool a.isSome) (λj=>by cases a<;>simp[eqGuard_at_slice,binOp,run_equal_slice_nil j t e _ l c h]) i
end a8
namespace Go.Proofs.R
open Go Go.RowKit a8 o
def ayp(n k:Nat)(w:A_)(d:n<=4)(e:dA n<=k)(h:k<=1000):EG F.D8 #[.I n,.I k] w λa b=>a = .slice none 0 0/\Ext w b:=by
 refine bm E.D8 ?_;refine aa ?_;refine J_ (Q7 n w AW) ?_;rintro _ f ⟨rfl,c⟩;refine aa ?_;exact⟨aZ,c⟩
def aim(n k:Nat)(w:A_)(ae:n<=4)(af:k<dA n):EG F.D8 #[.I n,.I k] w λag g=>fe w.heap.size g ag (m6 n k)/\Ext w g:=by
 have x:∀c,c<=4->dA c<=24:=Ae
 have a7:=x n ae;refine bm E.D8 ?_;refine aa ?_;refine J_ (Q7 n w AW) ?_;rintro _ M ⟨rfl,N⟩;refine aa ?_;refine J_ (ar5 n M AW) ?_;rintro a9 ba ⟨y,O⟩;obtain⟨ah,ai,rfl,_⟩:=y.form;have aj:=N.trans O;rw[sT];refine aa ?_;refine K_ 7 n [0] (λb:(H_ Addr×Nat)×ef×Nat×Nat=>[(5,.slice b.1.1 b.2.2.2 b.1.2),(6,.slice b.2.1.1 b.2.1.2.1 b.2.1.2.2),(1,.I (b.2.2.1:Nat))]) ((ah,ai),(none,0,0),k,n) (λc b g=>Ext w g/\b.2.2.1<dA (n - c)/\b.2.2.2=n - c/\∃i d m,w.heap.size<=i/\i<=g.heap.size/\d.length=n - c/\m.length=c/\fe i g (.slice b.1.1 b.2.2.2 b.1.2) d/\fe w.heap.size g (.slice b.2.1.1 b.2.1.2.1 b.2.1.2.2) m/\(∀f,(Value.slice b.2.1.1 b.2.1.2.1 b.2.1.2.2).ownBlock=some f->f<i)/\m++wF (n - c) d b.2.2.1=m6 n k) aV aV
  ⟨aj,by simpa using af,Ah,M.heap.size,o.upto n,[],N.size,O.size,by rw[sT];rfl,rfl,by rw[sT] at y;exact y,aR.nil _ _ _ _ _,(λf h=>(by cases h)),by simp[m6]⟩ ?_
 rintro c ⟨⟨ak,z⟩,⟨al,an,ao⟩,e,bb⟩ bf P q ⟨A,B,Q,i,d,m,S,bk,aq,ar,r,C,U,j⟩;dsimp only at B Q r C U j ⊢;subst Q;refine aa ?_;refine I_ (λau=>?_) (λau=>?_)
 .obtain⟨a,hm⟩:∃a,n - c=a+1:=⟨n - c - 1,AW⟩;rw[hm] at B aq r j ⊢;have G:=Q8 a;have av:=abj B;have bn:=x a AW;have bo:=x (a+1) AW;have aw:cH P (.slice ak (a+1) z) d:=gT r;refine aa ?_;rw[show((n:Int) - 1 - c)=(a:Int) from AW];refine J_ (Q7 a P AW) ?_;rintro _ bp ⟨rfl,p⟩;have ax:=r.ext p;have az:=C.ext p;have aA:=aw.ext Flat.ext p;obtain⟨V,rfl⟩:=aA.addr;refine aa ?_;refine _0 e (dA a) rfl rfl G AW ?_;refine aa ?_;refine AB0 e (dA a) rfl rfl G ?_;refine aa ?_;intro br bt bu s aB;have W:=az.ext s;have X:=ax.ext s;have bw:=A.size;have bx:=p.size;have bz:=s.size;refine aa ?_;refine T_ (y:=d[e / dA a]' AW) W aB rfl (λ_=>rfl) je AW (by unfold maxLen;omega) AW λaC aD aE Y H I=>?_;have aF:=W.hN ((A.trans p).trans s) I (Fy _);have bA:=I.size;have aG:fe i Y (.slice (some V) (a+1) z) d:=X.mod (Mod.grown (A:=λf=>(Value.slice al an ao).ownBlock=some f) I λf h=>h) λf h aH=>by
   have:=U f aH
   have:=(X.lt f h).1
   omega
  have aI:cH Y (.slice (some V) (a+1) z) d:=gT aG;refine aa ?_;intro t l;have Z:=aI.ext Flat.ext l;have bB:=H.ext l;refine aa ?_;refine _5 (k:=.i64) (e / dA a) Z (by simp[dy,bS]) AW λbC bE aJ=>?_;refine aa ?_;refine Q_ (ahJ av AW) ?_;refine aa ?_;refine _e (k:=.i64) (e / dA a+1) Z (by simp[dy,bS]) AW λbF gP S=>?_;refine aa ?_;intro aK aM aP J aQ;have ab:fe t.heap.size aK (.slice (some ⟨aM,0,none⟩) 0 0) []:=aR.empty aP aQ;have bG:(d.take (e / dA a)).length<=4:=by rw[NU];omega
  have bH:(d.drop (e / dA a+1)).length<=4:=by rw[AG5];exact T6 (Nat.sub_le _ _) AW
  refine aa ?_;refine _D ab (aJ.ext Flat.ext J) (λ_=>rfl) je (by simp only[List.length_nil];omega) (by simp only[List.length_nil];unfold maxLen;omega) J.size λbI aS u aT=>?_;have fT:Ext t aS:=J.grown aT λc q=>(ab.lt c q).1;rw[AH2] at u;obtain⟨bJ,bK,rfl,_⟩:=u.form;refine aa ?_;refine _D u (S.ext Flat.ext fT) (λ_=>rfl) je AW (by unfold maxLen;omega) fT.size λbL aU v aW=>?_;have K:Ext t aU:=fT.grown aW λc q=>(u.lt c q).1;obtain⟨aX,aY,rfl,_⟩:=v.form;rw[<-AL5] at v;have L:(d.eraseIdx (e / dA a)).length=a:=by rw[List.length_eraseIdx_of_lt AW];omega
  have bM:=l.size;rw[L] at v;have a0:=K.size;have a2:=(H.ext l).ext K;have a5:(List.take (e / dA a) d++List.drop (e / dA a+1) d).length=a:=by rw[<-AL5];exact L
  rw[a5];refine aa ?_;refine⟨AW,aZ,((aX,aY),(aC,aD,aE),e % dA a,a),aV,(aF.trans l).trans K,by rw[show n - (c+1)=a from AW];exact Nat.mod_lt _ G,by show a=_;omega,t.heap.size,d.eraseIdx (e / dA a),m++[d[e / dA a]' AW],AW,a0,by rw[L];omega,by simp[ar],v,a2,λf h=>((H.ext l).lt f h).2,?_⟩;rw[show n - (c+1)=a from AW,<-j,VA];congr 1;have a6:wF (a+1) d e=d.getD (e / dA a) 0 :: wF a (d.eraseIdx (e / dA a)) (e % dA a):=rfl;rw[a6,List.getD,List.getElem?_eq_getElem AW];rfl
 .have:c=n:=AW
  subst this;refine aa ?_;rw[AK0] at j;simp only[wF,List.append_nil] at j;rw[<-j];exact⟨C,A⟩
end Go.Proofs.R
namespace a8
open Go Go.RowKit
def AE5{P:D_}{b:B_->Prop}{d f:G_}{t e:F_}{a:Addr}{l c:Nat}{g}(h:P.underlying t=some (.slice e))(i:b (.bool true)):h4 P .neq t d f (.slice (some a) l c) (.slice none 0 0) b g:=AB1 h i
def AE6{P:D_}{a:B_->Prop}{b c:G_}{t e:F_}{d}(h:P.underlying t=some (.slice e))(f:a (.bool false)):h4 P .neq t b c (.slice none 0 0) (.slice none 0 0) a d:=AB1 h f
end a8
namespace Go.Proofs.R
open Go Go.RowKit a8 o
def vk(w:A_)(a:Addr)(g:C_ (C_ Int)):Prop := ∃b,w.cell? a=some b/\hB w b g
def ai4(w:A_)(cs:C_ B_)(g:C_ (C_ Int)):Prop := ∃a,cs=[a]/\hB w a g
def aue(w w':A_)(a:Addr)(l:C_ Int)(e:Ext w w')(h:oY w a l):oY w' a l:=let ⟨b,c,d⟩:=h; ⟨b,e.cell c,d.ext Flat.ext e⟩
def kW{w w':A_}{v:B_}{g:C_ (C_ Int)}(e:Ext w w')(h:hB w v g):hB w' v g:=a4.ext aue e h
instance aBo:Rel vk ai4 1 where
 out h:=by
  obtain⟨v,I,U⟩:=h;exact⟨[v],λj u au=>by cases j with | zero=>simp at au;subst au;rw[add_zero];exact I | succ j=>simp at au,v,rfl,U⟩
 kC h k:=by
  obtain⟨v,rfl,k⟩:=k
  have:=h 0 v rfl
  rw[add_zero] at this;exact⟨v,this,k⟩
 len h:=by obtain⟨v,rfl,_⟩:=h;rfl
 one h:=by obtain⟨v,rfl,h⟩:=h;simpa using h.one
 ext e h:=let ⟨v,I,U⟩:=h; ⟨v,I,kW e U⟩
def uq(w w':A_)(a:Addr)(g:C_ (C_ Int))(e:Ext w w')(h:vk w a g):vk w' a g:=let ⟨b,c,d⟩:=h; ⟨b,e.cell c,kW e d⟩
abbrev q5(w:A_)(v:B_)(Q:C_ (C_ (C_ Int))):Prop:=a4 1 vk w v Q
structure np(A:Nat->Prop)(w:World)(v:Value)(g:List (List Int)):Prop where
 ex:∃bL:List (hp 1),bL.length=g.length/\gF A (λW=>a4 1 (Flat iO) W v bL) w/\∀i (I:i<bL.length) (U:i<g.length),∃u,bL[i].1=[u]/\gF A (λW=>cH W u g[i]) w
structure r8(A:Nat->Prop)(w:World)(v:Value)(Q:List (List (List Int))):Prop where
 ex:∃bL:List (hp 1),bL.length=Q.length/\gF A (λW=>a4 1 (Flat iO) W v bL) w/\∀i (I:i<bL.length) (U:i<Q.length),∃u,bL[i].1=[u]/\np A w u Q[i]
def np.move{A A' B:Nat->Prop}{w w':A_}{v:B_}{g:C_ (C_ Int)}(h:np B w v g)(m:Mod A w w')(b:∀a,a<w.heap.size->A a->B a)(c:∀a,a<w.heap.size->A' a->B a):np A' w' v g :=
 let ⟨d,e,f,i⟩:=h.ex
 ⟨d,e,f.move m b c,λa j k=>let ⟨l,n,p⟩:=i a j k; ⟨l,n,p.move m b c⟩⟩
def r8.move{A A' B:Nat->Prop}{w w':A_}{v:B_}{Q:C_ (C_ (C_ Int))}(h:r8 B w v Q)(m:Mod A w w')(b:∀a,a<w.heap.size->A a->B a)(c:∀a,a<w.heap.size->A' a->B a):r8 A' w' v Q :=
 let ⟨d,e,f,g⟩:=h.ex
 ⟨d,e,f.move m b c,λa i j=>let ⟨k,l,n⟩:=g a i j; ⟨k,l,n.move m b c⟩⟩
def np.N2{A:Nat->Prop}{w:A_}{v:B_}{g:C_ (C_ Int)}(h:np A w v g):hB w v g :=
 let ⟨_,a,b,c⟩:=h.ex
 a4.B4 a b.here λd e f=>let ⟨i,j,k⟩:=c d e f; ⟨i,j,k.here⟩
def r8.A2{A:Nat->Prop}{w:A_}{v:B_}{Q:C_ (C_ (C_ Int))}(h:r8 A w v Q):q5 w v Q :=
 let ⟨_,a,b,c⟩:=h.ex
 a4.B4 a b.here λd e f=>let ⟨g,i,j⟩:=c d e f; ⟨g,i,j.N2⟩
def eo.ahZ{e:F_}{base c:Nat}{w:A_}{v:B_}{g:C_ (C_ Int)}(h:eo ql e 1 base w v g)(z:c<=base):np (λb=>b<c) w v g:=by
 obtain⟨n,p,d,f⟩:=h.ex;refine⟨n,p,λi a=>(d.mod a λb q r=>?_).iw hs,λj k l=>?_⟩
 .have:=d.lt b q
  omega
 .obtain⟨s,hu,_⟩:=(f j k l).here;refine⟨s,hu,λi a=>?_⟩;obtain⟨A,m,t⟩:=(f j k l) i ⟨a.os,a.tape,a.output,a.size,λu x y=>a.block u x λr=>y (.inr AW)⟩;rw[hu] at m;cases m;exact t
structure mP(e:TypeId)(g8 base:Nat)(w:World)(v:Value)(Q:List (List (List Int))):Prop where
 ex:∃bL:List (hp 1),bL.length=Q.length/\ng e 1 base w v bL/\∀i (I:i<bL.length) (U:i<Q.length),∃u,bL[i].1=[u]/\np (qm v g8) w u Q[i]
def mP.nil(e:F_)(a base:Nat)(w:A_):mP e a base w (.slice none 0 0) []:=⟨[],rfl,aR.nil _ _ _ _ _,λc b=>by cases b⟩
def mP.form{e:F_}{c base:Nat}{w:A_}{v:B_}{Q:C_ (C_ (C_ Int))}(h:mP e c base w v Q):∃b a,v = .slice b Q.length a/\Q.length<=a/\a<=maxLen:=by
 obtain⟨j,d,f,_⟩:=h.ex;obtain⟨b,a,g,k,i⟩:=f.form;exact⟨b,a,by rw[g,d],AW,i⟩
def mP.lt{e:F_}{b base:Nat}{w:A_}{v:B_}{Q:C_ (C_ (C_ Int))}(h:mP e b base w v Q):∀a,v.ownBlock=some a->base<=a/\a<w.heap.size:=by
 obtain⟨d,f,c,_⟩:=h.ex;exact c.lt
theorem mP.ext{e:F_}{b base:Nat}{w w':A_}{v:B_}{Q:C_ (C_ (C_ Int))}(h:mP e b base w v Q)(m:Ext w w'):mP e b base w' v Q:=by
 obtain⟨c,d,f,g⟩:=h.ex;exact⟨c,d,f.ext m,λi j k=>let ⟨l,e,n⟩:=g i j k; ⟨l,e,n.move (A:=λ_=>False) m.mod (λ_ _ a=>a.elim) λ_ _ a=>a⟩⟩
def mP.OM{e:F_}{c base:Nat}{w:A_}{v:B_}{Q:C_ (C_ (C_ Int))}(h:mP e c base w v Q)(q:c<=base):r8 (λa=>a<c) w v Q:=by
 obtain⟨f,g,d,i⟩:=h.ex;refine⟨f,g,λr j=>(d.mod j λa k b=>?_).iw hs,λl m n=>let ⟨p,e,a⟩:=i l m n; ⟨p,e,a.move (A:=λ_=>False) (Mod.refl _ _) (λ_ _ b=>b.elim) λ_ _ b=>.inr b⟩⟩
 have:=d.lt a k
 omega
def mP.hN{e:F_}{a base:Nat}{w0 w w':A_}{v:B_}{Q:C_ (C_ (C_ Int))}(b:mP e a base w v Q)(c:Ext w0 w)(d:w.grownBy w' v.ownBlock)(f:w0.heap.size<=base):Ext w0 w':=c.grown d λg h=>T6 f (b.lt g h).1
def _root_.a8.K.Zz{P:D_}{u:B_->A_->Prop}{e:F_}{c base:Nat}{w:A_}{v:B_}{Q:C_ (C_ (C_ Int))}{B:F_}{b x:Nat}{a:B_}{g:C_ (C_ Int)}{t}(C:mP e c base w v Q)(G:w.heap[x]? = some (.cells #[a] e))(H:np (qm v c) w a g)(k:a.oneCell'=true)
  (I:(Q.length+1)*b<=140737488355328)(J:Q.length+1<=maxLen)(K:base<=w.heap.size)(Y:c<=base)
  (l:∀j d,mP e c base d j (Q++[g])->w.grownBy d v.ownBlock->u j d):lQ P B e 1 b v (.slice (some ⟨x,0,none⟩) 1 1) w u t:=by
 obtain⟨m,q,L,M⟩:=C.ex;refine _J (enc:=iO) (ys:=[(⟨[a],rfl,by simpa using k⟩:hp 1)]) L hs (by simpa[iO] using gP G) rfl rp (by rw[q];exact I) (by rw[q];exact J) K λj d N y O=>l j d ⟨m++[⟨[a],rfl,by simpa using k⟩],by simp[q],N,λf k S=>?_⟩ y;have U:Mod (λh=>v.ownBlock=some h) w d:=Mod.grown y λh l=>l;have V:∀h,h<w.heap.size->j.ownBlock=some h->qm v c h:=λh l n=>by
  rcases O with e | e
  .exact .inl (e ▸ n)
  .rw[e] at n;injection n with n;omega
 have z:∀{a g},np (qm v c) w a g->np (qm j c) d a g:=λW=>W.move U (λf _ i=>.inl i) λf p i=>by
  rcases i with i | i
  .exact V f p i
  .exact .inr i
 rw[Jv] at k S;by_cases p:f<m.length
 .have A:f<Q.length:=AW
  obtain⟨X,r,s⟩:=M f p A;exact⟨X,by simpa[List.getElem_append,p] using r,by simpa[List.getElem_append,A] using z s⟩
 .have r:f=m.length:=by simp at k;omega
  subst r;have s:¬m.length<Q.length:=AW
  exact⟨a,Ah,by simpa[List.getElem_append,s] using z H⟩
def aw2(n:Nat)(w:A_)(L:1<=n)(d:n<=4):EG F.NO #[.I n] w λk e=>eo ql T.b 1 w.heap.size e k (hF n)/\Ext w e:=by
 have z:∀g,g<=4->dA g<=24:=Ae
 have M:=z n d;have N:(hF n).length=dA n:=by simp[hF]
 have A:∀a,a<dA n->(m6 n a).length=n:=λa h=>(af5 n d _ (by unfold hF;exact List.mem_map.2 ⟨a,List.mem_range.2 h,rfl⟩)).1;refine bm E.NO ?_;refine aa ?_;refine K_ 4 (dA n) [0] (λb:ef=>[(3,.slice b.1 b.2.1 b.2.2)]) (none,0,0) (λa b e=>eo ql T.b 1 w.heap.size e (.slice b.1 b.2.1 b.2.2) ((hF n).take a)/\Ext w e) aV aV ⟨eo.nil _ _ _ _ _,Ext.refl _⟩ ?_;rintro a ⟨O,P,Q⟩ S r h ⟨i,l⟩;dsimp only at i;refine aa ?_;rcases AI6 a (dA n) with j | U
 .have V:=A a j;refine J_ (aim n a r d j) ?_;rintro k m ⟨s,c⟩;obtain⟨W,bj,rfl,_⟩:=s.form;obtain⟨X,rfl⟩:=(gT s).addr;refine aa ?_;refine AE5 (e:=T.a) Cg ?_;have t:=i.ext c;refine aa ?_;refine J_ (aim n a m d j) ?_;rintro k B ⟨u,p⟩;obtain⟨v,x,rfl,_⟩:=u.form;have q:=t.ext p;have Y:=l.size;have Z:=c.size;have ab:=p.size;have C:ei m (λw=>cH w (.slice v (m6 n a).length x) (m6 n a)) B:=aR.new (enc:=da) (λ_=>rfl) u;refine aa ?_;intro ae af ag f G;have ah:=f.size;refine _A (x:=m6 n a) (cs:=[.slice v (m6 n a).length x]) (q.ext f) (gP G) (((ei.own C t AW).imp λw H=>⟨_,rfl,H⟩).ext f λg ai h=>by have:=q.under AW g h;omega) rfl (by simp[Value.oneCell']) (by rw[NU];omega) (by rw[NU];unfold maxLen;omega) AW λaj ak y I=>?_;have hg:=(q.ext f).hN (((l.trans c).trans p).trans f) I (Fy _);obtain⟨J,K,rfl,_⟩:=y.form;refine aa ?_;refine⟨j,aZ,(J,_,K),aV,?_,hg⟩;rw[NZ AW,show(hF n)[a]' AW=m6 n a from by simp[hF]];exact y
 .obtain rfl:a=dA n:=AW
  refine J_ (ayp n _ r d (Fy _) AW) ?_;rintro _ m ⟨rfl,c⟩;refine aa ?_;refine AE6 (e:=T.a) Cg ?_;refine aa ?_;rw[Im AW] at i;exact⟨i.ext c,l.trans c⟩
end Go.Proofs.R