/- Parts. -/
import Derived.Test.YtlhljkikdhblbaaGreatDoorQsmm
import Derived.Laws.Bits64b
import Derived.Lib.AppendZerosOnto
set_option linter.all false
set_option maxRecDepth 4000
set_option maxHeartbeats 16000000
namespace o
open Go
def upto(n:Nat):C_ Int:=(List.range n).map λ(a:Nat)=>(a:Int)
theorem Al(n:Nat):(upto n).length=n:=by simp[upto]
def Wi{n:Nat}{x:Int}:x∈upto n↔0<=x/\x<n:=by
 unfold upto;rw[List.mem_map];constructor
 .rintro⟨b,a,rfl⟩
  have:=List.mem_range.1 a
  omega
 .exact λc=>⟨x.toNat,List.mem_range.2 AY,AY⟩
def aiT(n:Nat):(upto n).Nodup:=by
 unfold upto;refine List.Pairwise.map _ (λa b c=>?_) AL1;omega
structure j0(n:Nat)(p:List Int):Prop where
 len:p.length=n
 all:∀i:Nat,i<n->(i:Int)∈p
def j0.perm{n:Nat}{p:C_ Int}(h:j0 n p):p.Perm (upto n):=Ov _ _ (aiT n) (by rw[Al];exact h.len) λa b=>by
 have:=Wi.1 b
 have:=h.all a.toNat AY
 rwa[show((a.toNat:Nat):Int)=a from AY] at this
def j0.mem{n:Nat}{p:C_ Int}(h:j0 n p){x:Int}:x∈p↔0<=x/\x<n:=h.perm.mem_iff.trans Wi
def j0.nodup{n:Nat}{p:C_ Int}(h:j0 n p):p.Nodup:=h.perm.nodup_iff.2 (aiT n)
def j0.get{n:Nat}{p:C_ Int}(h:j0 n p){i:Nat}(b:i<n):∃a:Nat,p[i]? = some (a:Int)/\a<n:=by
 have c:=h.len
 have:=h.mem.1 (FA (show i<p.length by omega))
 exact⟨(p[i]' AY).toNat,by rw[List.getElem?_eq_getElem AY,Int.toNat_of_nonneg this.1],AY⟩
def pX(p:C_ Int):C_ Int:=(List.range p.length).map λ(a:Nat)=>((p.idxOf (a:Int):Nat):Int)
def Mo{n:Nat}{p:C_ Int}(h:j0 n p){i j:Nat}(b:p[i]? = some (j:Int)):(pX p)[j]? = some (i:Int):=by
 obtain⟨c,a⟩:=List.getElem?_eq_some_iff.1 b;have d:=h.mem.1 (FA c);rw[a] at d;unfold pX;rw[List.getElem?_map,List.getElem?_range (by rw[h.len];omega)];simp only[Option.map_some,Option.some.injEq];rw[<-a,h.nodup.idxOf_getElem]
def HH{n:Nat}{p:C_ Int}(h:j0 n p):j0 n (pX p):=⟨by simp[pX,h.len],λc a=>by
 obtain⟨d,b,e⟩:=h.get a;exact List.mem_of_getElem? (Mo h b)⟩
def asN{n:Nat}{p:C_ Int}(h:j0 n p){i j:Nat}(a:(pX p)[i]? = some (j:Int)):p[j]? = some (i:Int):=by
 have c:i<n:=by
  have:=(List.getElem?_eq_some_iff.1 a).1
  rw[(HH h).len] at this;exact this
 obtain⟨d,b⟩:=List.mem_iff_getElem?.1 (h.all i c)
 have:=Mo h b
 rw[this] at a;injection a with a
 have:d=j:=AY
 rw[<-this];exact b
def qM(a b:C_ Int):C_ Int:=a.map λc=>b.getD c.toNat 0
def afW{n:Nat}{a b:C_ Int}{i j k:Nat}(c:a[i]? = some (j:Int))(d:b[j]? = some (k:Int)):(qM a b)[i]? = some (k:Int):=by
 unfold qM;rw[List.getElem?_map,c];simp[List.getD,d]
def afX{n:Nat}{a b:C_ Int}(c:j0 n a)(d:j0 n b):j0 n (qM a b):=⟨by simp[qM,c.len],λg h=>by
 obtain⟨e,f⟩:=List.mem_iff_getElem?.1 (d.all g h);have i:e<n:=by
  have:=(List.getElem?_eq_some_iff.1 f).1
  rw[d.len] at this;exact this
 obtain⟨k,j⟩:=List.mem_iff_getElem?.1 (c.all e i);exact List.mem_of_getElem? (afW (n:=n) j f)⟩
def nM(p:C_ Int)(e:Int):Int:=if e<1 then e else match p[(e - 1).toNat]? with | none=>e | some a=>a+1
def gK(g:C_ (C_ Int))(k e:Int):Int:=if k<1 then e else match g[(k - 1).toNat]? with | none=>e | some a=>nM a e
def zl{n:Nat}{p:C_ Int}(h:j0 n p){e:Int}(a:e<1\/(n:Int)<e):nM p e=e:=by
 unfold nM;split
 .rfl
 .rw[List.getElem?_eq_none (by rw[h.len];omega)]
def Ko{n:Nat}{p:C_ Int}(h:j0 n p){e:Int}(d:1<=e)(f:e<=n):∃a:Nat,p[(e - 1).toNat]? = some (a:Int)/\nM p e=a+1/\a<n:=by
 obtain⟨a,b,c⟩:=h.get (i:=(e - 1).toNat) AY;exact⟨a,b,by unfold nM;rw[if_neg AY,b],c⟩
def amV{n:Nat}{p:C_ Int}(h:j0 n p)(e:Int):nM (pX p) (nM p e)=e/\nM p (nM (pX p) e)=e:=by
 by_cases he:1<=e/\e<=n
 .obtain⟨a,c,d,k⟩:=Ko h he.1 he.2;obtain⟨b,f,g,l⟩:=Ko (HH h) he.1 he.2;have i:=Mo h c;have j:=asN h f;refine⟨?_,?_⟩
  .rw[d];unfold nM;rw[if_neg AY,show((a:Int)+1 - 1).toNat=a from AY,i];simp only;omega
  .rw[g];unfold nM;rw[if_neg AY,show((b:Int)+1 - 1).toNat=b from AY,j];simp only;omega
 .rw[zl h AY,zl (HH h) AY,zl h AY];exact⟨rfl,rfl⟩
def amW{n:Nat}{a b:C_ Int}(c:j0 n a)(d:j0 n b)(e:Int):nM (qM a b) e=nM b (nM a e):=by
 by_cases he:1<=e/\e<=n
 .obtain⟨f,h,i,j⟩:=Ko c he.1 he.2;obtain⟨k,g,l⟩:=d.get j
  have:=afW (n:=n) h g
  rw[i];unfold nM;rw[if_neg AY,if_neg AY,this,show((f:Int)+1 - 1).toNat=f from AY,g]
 .rw[zl (afX c d) AY,zl c AY,zl d AY]
structure fU(s:List Scalar)(g:List (List Int)):Prop where
 len:g.length=s.length
 perm:∀i (h:i<g.length) (bo:i<s.length),j0 s[i].size.toNat g[i]
def l1(g:C_ (C_ Int)):C_ (C_ Int):=g.map pX
def uV(g h:C_ (C_ Int)):C_ (C_ Int):=List.zipWith qM g h
def qk(s:C_ Scalar):Prop:=s.length<=2/\∀a∈s,1<=a.size/\a.size<=4
def jX{m:Model}(h:(check m).bK=0):qk m.scalars:=by
 have a:(data m).bK=0:=by
  unfold check at h;by_cases a:(data m).bK≠0
  .rw[if_pos a] at h;exact absurd h a
  .simpa using a
 refine⟨(F2 a).1,λe c=>?_⟩;obtain⟨d,b,rfl⟩:=List.mem_iff_getElem.1 c
 have:=Kw (vF (Q1 a).1 d b)
 unfold u6 at this;rw[List.getElem?_eq_getElem b] at this;simp only at this;split at this
 .assumption
 .cases this
def OS{s:C_ Scalar}(b:qk s){i:Nat}(a:i<s.length):size ((i:Int)+1) s=s[i].size:=by
 unfold size;rw[show((i:Int)+1 - 1).toNat=i from AY,List.getElem?_eq_getElem a];simp only
 have:=b.2 _ (FA a)
 rw[if_pos AY]
def vB{g:C_ (C_ Int)}{i:Nat}(a:i<g.length)(e:Int):gK g ((i:Int)+1) e=nM g[i] e:=by
 unfold gK;rw[if_neg AY,show((i:Int)+1 - 1).toNat=i from AY,List.getElem?_eq_getElem a]
def A0{g:C_ (C_ Int)}{k:Int}(h:k<1\/(g.length:Int)<k)(e:Int):gK g k e=e:=by
 unfold gK;split
 .rfl
 .rw[List.getElem?_eq_none AY]
def Cj{s:C_ Scalar}{k:Int}(h:k<1\/(s.length:Int)<k):size k s=0:=by
 unfold size;split
 .rename_i b a
  have:=(List.getElem?_eq_some_iff.1 a).1
  rw[if_neg AY]
 .rfl
def x5{s:C_ Scalar}{g:C_ (C_ Int)}(h:fU s g):fU s (l1 g):=⟨by simp[l1,h.len],λa d b=>by
 have c:a<g.length:=by rw[h.len];exact b
 simp only[l1,List.getElem_map];exact HH (h.perm a c b)⟩
def B2{s:C_ Scalar}{g h:C_ (C_ Int)}(b:fU s g)(c:fU s h):fU s (uV g h):=⟨by simp[uV,b.len,c.len],λd e a=>by
 simp only[uV,List.getElem_zipWith];exact afX (b.perm d (by rw[b.len];exact a) a) (c.perm d (by rw[c.len];exact a) a)⟩
def fU.pz{s:C_ Scalar}(j:qk s){g:C_ (C_ Int)}(h:fU s g):eD s (gK g) (gK (l1 g)):=by
 have d:=x5 h;have l:∀(g:C_ (C_ Int)),fU s g->∀a b,1<=b->b<=size a s->1<=gK g a b/\gK g a b<=size a s:=λg h a b f i=>by
  by_cases e:a<1\/(s.length:Int)<a
  .rw[Cj e] at i;omega
  .obtain⟨c,rfl⟩:∃c:Nat,a=(c:Int)+1:=⟨(a - 1).toNat,AY⟩;have d:c<s.length:=AY
   have r:=h.perm c (by rw[h.len];exact d) d
   have:=j.2 _ (FA d)
   rw[OS j d] at i ⊢;rw[vB (by rw[h.len];exact d)];obtain⟨u,_,m,v⟩:=Ko r f AY;omega
 have n:∀(g:C_ (C_ Int)),fU s g->∀a b,b<1\/size a s<b->gK g a b=b:=λg h a b t=>by
  by_cases e:a<1\/(s.length:Int)<a
  .exact A0 (by rw[h.len];exact e) b
  .obtain⟨c,rfl⟩:∃c:Nat,a=(c:Int)+1:=⟨(a - 1).toNat,AY⟩;have d:c<s.length:=AY
   rw[OS j d] at t;rw[vB (by rw[h.len];exact d)];exact zl (h.perm c (by rw[h.len];exact d) d) AY
 have p:∀a b,gK (l1 g) a (gK g a b)=b/\gK g a (gK (l1 g) a b)=b:=λa b=>by
  by_cases e:a<1\/(s.length:Int)<a
  .have q:∀b,gK g a b=b:=A0 (by rw[h.len];exact e);have m:∀b,gK (l1 g) a b=b:=A0 (by rw[d.len];exact e);rw[q,m,q];exact⟨rfl,rfl⟩
  .obtain⟨c,rfl⟩:∃c:Nat,a=(c:Int)+1:=⟨(a - 1).toNat,AY⟩;have k:c<s.length:=AY
   have f:c<g.length:=by rw[h.len];exact k
   have i:c<(l1 g).length:=by rw[d.len];exact k
   rw[vB f,vB i,vB i,vB f];simp only[l1,List.getElem_map];exact amV (h.perm c f k) b
 exact⟨l g h,n g h,l _ d,n _ d,λa b=>(p a b).1,λa b=>(p a b).2⟩
def amS{s:C_ Scalar}{g h:C_ (C_ Int)}(c:fU s g)(d:fU s h):gK (uV g h)=λa f=>gK h a (gK g a f):=by
 funext a f;by_cases i:a<1\/(s.length:Int)<a
 .rw[A0 (by rw[(B2 c d).len];exact i),A0 (by rw[d.len];exact i),A0 (by rw[c.len];exact i)]
 .obtain⟨e,rfl⟩:∃e:Nat,a=(e:Int)+1:=⟨(a - 1).toNat,AY⟩;have b:e<s.length:=AY
  rw[vB (by rw[(B2 c d).len];exact b),vB (by rw[d.len];exact b),vB (by rw[c.len];exact b)];simp only[uV,List.getElem_zipWith];exact amW (c.perm e (by rw[c.len];exact b) b) (d.perm e (by rw[d.len];exact b) b) f
def fO:Nat->Nat
 | 0=>1
 | a+1=>(a+1)*fO a
def EW:Nat->C_ Int->Nat->C_ Int
 | 0,_,_=>[]
 | a+1,left,b=>left.getD (b / fO a) 0 :: EW a (left.eraseIdx (b / fO a)) (b % fO a)
def tE(n k:Nat):C_ Int:=EW n (upto n) k
def sB(n:Nat):C_ (C_ Int):=(List.range (fO n)).map (tE n)
def lP:C_ Nat->C_ (C_ (C_ Int))
 | []=>[[]]
 | a :: b=>(sB a).flatMap λc=>(lP b).map λd=>c :: d
def lE(s:C_ Scalar):C_ Nat:=s.map (·.size.toNat)
def ep(s:C_ Scalar):C_ (C_ (C_ Int)):=lP (lE s)
def avJ:∀a,a<=4->∀b∈sB a,b.length=a/\∀c:Nat,c<a->(c:Int)∈b:=by decide +kernel
def avH:∀a b c d:Fin 4,(∀e:Fin 4,((e.val:Nat):Int)∈[(a.val:Int),(b.val:Int),(c.val:Int),(d.val:Int)])->[(a.val:Int),(b.val:Int),(c.val:Int),(d.val:Int)]∈sB 4:=by decide +kernel
def avG:∀a b c:Fin 3,(∀d:Fin 3,((d.val:Nat):Int)∈[(a.val:Int),(b.val:Int),(c.val:Int)])->[(a.val:Int),(b.val:Int),(c.val:Int)]∈sB 3:=by decide +kernel
def avF:∀a b:Fin 2,(∀c:Fin 2,((c.val:Nat):Int)∈[(a.val:Int),(b.val:Int)])->[(a.val:Int),(b.val:Int)]∈sB 2:=by decide +kernel
def afS{n:Nat}(m:n<=4){p:C_ Int}:p∈sB n↔j0 n p:=by
 constructor
 .intro e;obtain⟨q,r⟩:=avJ n m p e;exact⟨q,r⟩
 .intro e;have b:∀a∈p,∃c:Nat,c<n/\a=(c:Int):=λa s=>by
   have:=e.mem.1 s
   exact⟨a.toNat,AY,AY⟩
  have g:=e.len
  match n,m with
  | 0,_ =>
   rw[AF8 g];decide
  | 1,_ =>
   match p,g with
   | [a],_ =>
    obtain⟨c,f,rfl⟩:=b a Ah
    have:c=0:=AY
    subst this;decide
  | 2,_ =>
   match p,g with
   | [a,h],_ =>
    obtain⟨c,f,rfl⟩:=b a Ah;obtain⟨i,j,rfl⟩:=b h Ah;exact avF ⟨c,f⟩ ⟨i,j⟩ λd=>e.all d.val d.isLt
  | 3,_ =>
   match p,g with
   | [a,h,k],_ =>
    obtain⟨c,f,rfl⟩:=b a Ah;obtain⟨i,j,rfl⟩:=b h Ah;obtain⟨l,bg,rfl⟩:=b k Ah;exact avG ⟨c,f⟩ ⟨i,j⟩ ⟨l,bg⟩ λd=>e.all d.val d.isLt
  | 4,_ =>
   match p,g with
   | [a,h,k,t],_ =>
    obtain⟨c,f,rfl⟩:=b a Ah;obtain⟨i,j,rfl⟩:=b h Ah;obtain⟨l,bg,rfl⟩:=b k Ah;obtain⟨u,v,rfl⟩:=b t Ah;exact avH ⟨c,f⟩ ⟨i,j⟩ ⟨l,bg⟩ ⟨u,v⟩ λd=>e.all d.val d.isLt
theorem Oa:∀(d:C_ Nat) (c:C_ (C_ Int)),(∀e∈d,e<=4)->(c∈lP d↔c.length=d.length/\∀a (b:a<c.length) (f:a<d.length),j0 d[a] c[a])
 | [],c,_=>by
  simp only[lP,List.mem_singleton];constructor
  .rintro rfl;exact⟨rfl,λa b=>by simp at b⟩
  .exact λb=>AF8 b.1
 | e :: m,c,g=>by
  simp only[lP,List.mem_flatMap,List.mem_map];constructor
  .rintro⟨n,p,h,q,rfl⟩;obtain⟨i,j⟩:=(Oa m h λk l=>g k (AG4 _ l)).1 q;refine⟨by simp[i],λa b f=>?_⟩;cases a with
   | zero=>exact(afS (g e (AG3 ..))).1 p
   | succ a=>exact j a (by simpa using b) (by simpa using f)
  .rintro⟨i,j⟩;cases c with
   | nil=>simp at i
   | cons n h =>
    refine⟨n,(afS (g e (AG3 ..))).2 (j 0 Ah Ah),h,?_,rfl⟩;refine(Oa m h λk l=>g k (AG4 _ l)).2 ⟨by simpa using i,λa b f=>?_⟩;exact j (a+1) (by simpa using b) (by simpa using f)
def uT{s:C_ Scalar}(b:qk s){g:C_ (C_ Int)}:g∈ep s↔fU s g:=by
 unfold ep lE;rw[Oa _ _ (λf c=>by obtain⟨d,e,rfl⟩:=List.mem_map.1 c;have:=b.2 d e;omega)];simp only[List.length_map,List.getElem_map];exact⟨λa=>⟨a.1,a.2⟩,λa=>⟨a.len,a.perm⟩⟩
def BN(s:C_ Scalar):C_ (C_ Int):=(lE s).map upto
def aiU(n:Nat):j0 n (upto n):=⟨Al n,λa b=>Wi.2 AY⟩
def HF(s:C_ Scalar):fU s (BN s):=⟨by simp[BN,lE],λa b c=>by
 simp only[BN,lE,List.getElem_map];exact aiU _⟩
def amU(n:Nat)(e:Int):nM (upto n) e=e:=by
 by_cases he:1<=e/\e<=n
 .unfold nM;rw[if_neg AY];unfold upto;rw[List.getElem?_map,List.getElem?_range AY];simp only[Option.map_some];omega
 .exact zl (aiU n) AY
def amR(s:C_ Scalar):gK (BN s)=λ_ a=>a:=by
 funext b a;unfold gK;split
 .rfl
 .unfold BN;rw[List.getElem?_map];cases (lE s)[(b - 1).toNat]? with
  | none=>rfl
  | some c=>exact amU c a
end o
namespace ba
open Go Go.RowKit
def vC(d:Nat):C_ B_:=[.int .u8 d]
def am0(d:Nat):∀a∈vC d,a.oneCell'=true:=by simp[vC,Value.oneCell']
def QD(l:C_ Nat):C_ B_:=l.map λ(a:Nat)=>Value.int .u8 (a:Int)
theorem QE:∀a:C_ Nat,QD a=a.flatMap vC
 | []=>rfl
 | c :: b=>by
  have:=QE b
  simp only[QD,List.map_cons,List.flatMap_cons] at this ⊢;rw[this];rfl
section
variable{P:Program}{bb:Value->Prop}{ty:TypeId}{dy dO:Operand}
def AD7{n:Int}{t}(x:Nat)(a:n=x)(c:x<18446744073709551616)(b:bb (.int .u64 (x:Int))):tR .u64 n bb t:=by
 subst a;exact _6 (IntWalk.u64_in _ AY) b
def AD8{x b:Nat}{k:IntKind}{t}(d:1<=b)(a:k.wrap ((x / b:Nat):Int)=((x / b:Nat):Int))(c:bb (.int k ((x / b:Nat):Int))):h6 P .quo ty dy dO (.int k x) (.int k b) bb t:=by
 refine _P AY (_n ?_);rw[Int.tdiv_eq_ediv_of_nonneg AY,<-Int.natCast_ediv,a];exact c
def AD9{x b:Nat}{k:IntKind}{t}(c:1<=b)(a:bb (.int k ((x % b:Nat):Int))):h6 P .rem ty dy dO (.int k x) (.int k b) bb t:=by
 refine _o AY ?_;rw[Int.tmod_eq_emod_of_nonneg AY,<-Int.natCast_emod];exact a
end
def AE0{P:D_}{c:B_->Prop}{d:F_}{e f:G_}{k:IntKind}{a b:Int}{t}(x y:Nat)(g:a=x)(h:b=y)(i:1<=y)(j:c (.int k ((x % y:Nat):Int))):h6 P .rem d e f (.int k a) (.int k b) c t:=by
 subst g h;exact AD9 i j
def _4{P:D_}{c:B_->Prop}{d:F_}{e f:G_}{a b:Int}{t}(x y:Nat)(g:a=x)(h:b=y)(i:1<=y)(l:x<9223372036854775808)(j:c (.I ((x / y:Nat):Int))):h6 P .quo d e f (.I a) (.I b) c t:=by
 subst g h;have k:x / y<=x:=Nat.div_le_self x y;refine AD8 i ?_ j;generalize x / y=m at k;exact IntWalk.i64_in _ AY
end ba
namespace ba
open Go Go.RowKit
def anY(l:C_ Nat)(k x:Nat):(l.flatMap vC).set k (.int .u8 x)=(l.set k x).flatMap vC:=by
 rw[<-QE,<-QE];simp[QD,List.map_set]
def AF7{e:F_}{base:Nat}{w:A_}{l:C_ Nat}{a:Addr}{n c k x:Nat}{g:A_->Prop}{t}(h:aT vC e 1 base w (.slice (some a) n c) l)(A:k<l.length)
  (q:∀d,dX a.block w d->aT vC e 1 base d (.slice (some a) n c) (l.set k x)->g d):vo (.pointer (some (a.add (k*1)))) (.int .u8 (x:Nat)) w g t:=by
 rcases h.2 with ⟨r,B⟩ | ⟨b,cap,cur,s,C,i,G,H,I,J⟩
 .cases r
 .injection s with f j u
  injection f with f
  subst f u;have v:k<cur.size:=AY
  have y:Addr.add ⟨b,0,none⟩ (k*1)=⟨b,k,none⟩:=by rw[add_eq,AH2,ZQ]
  have m:w.cell? (Addr.add ⟨b,0,none⟩ (k*1))=some cur[k]:=gH i (by rw[AH2];exact Array.getElem?_eq_getElem v);rw[y] at m ⊢;have z:w.ownsRow base e 1 (.slice (some ⟨b,0,none⟩) l.length c) l.length (l.flatMap vC):=by unfold aT at h;rw[j] at h;exact h
  have p:=World.ownsRow.stored z k (.int .u8 (x:Nat));rw[anY] at p;refine _0 m (by simp[World.frozen?,i]) (by simp[Value.oneCell']) (q _ (dX.setCell w ⟨b,k,none⟩ _) ?_);unfold aT;rw[ZP,j];exact p.1
theorem _Z{α:Type}{P:D_}{f:B_->A_->Prop}{enc:α->C_ B_}{e:F_}{sz base:Nat}{w:A_}{s x:B_}{xs ys:C_ α}{R:A_->Addr->α->Prop}[nD R enc]{g:F_}{b:Nat}{t}(a:aT enc e sz base w s xs)(m:a6 sz R w x ys)(n:∀x,(enc x).length=sz)(p:∀q,∀r∈enc q,r.oneCell'=true)
  (u:(xs.length+ys.length)*b<=140737488355328)(v:xs.length+ys.length<=maxLen)(y:base<=w.heap.size)(c:∀h d,aT enc e sz base d h (xs++ys)->w.grownBy d s.ownBlock->f h d):lJ P g e sz b s x w f t:=by
 obtain⟨z,i,rfl,A,B,j,C⟩:=m.ex;cases z with
 | some G=>exact AB8 a ⟨some G,i,rfl,A,B,j,C⟩ n p u v y c
 | none =>
  have:ys=[]:=Classical.byContradiction λH=>by have:=j H;cases this
  subst this;rw[AG5] at c;refine _h λ⟨k,J,K,l,L,M,N,O,Q⟩=>?_;refine⟨g,s,w,?_,c s w a ⟨rfl,rfl,rfl,EM _,λ_ _ _=>rfl⟩⟩;rcases a.2 with ⟨rfl,S⟩ | ⟨U,i,cur,rfl,_,_,I,_⟩
  .simp[Builtin.append_,run_underlying k,Go.sizeOf,typeInfo,l,Builtin.lenOf,Builtin.firstCells]
  .simp[Builtin.append_,run_underlying k,Go.sizeOf,typeInfo,l,Builtin.lenOf,Builtin.firstCells,I,storeCells]
theorem RB:∀(a:C_ Int) (c:Nat) (b:Int),(a.flatMap da).set c (.I b)=(a.set c b).flatMap da
 | [],_,_=>rfl
 | d :: a,0,b=>rfl
 | d :: a,c+1,b=>by
  have:=RB a c b
  simp only[List.flatMap_cons,List.set_cons_succ];rw[<-this];rfl
def _a{e:F_}{base:Nat}{w:A_}{l:C_ Int}{a:Addr}{n c k:Nat}{x:Int}{g:A_->Prop}{t}(h:aT da e 1 base w (.slice (some a) n c) l)(A:k<l.length)
  (q:∀d,dX a.block w d->aT da e 1 base d (.slice (some a) n c) (l.set k x)->g d):vo (.pointer (some (a.add (k*1)))) (.I x) w g t:=by
 rcases h.2 with ⟨r,B⟩ | ⟨b,cap,cur,s,C,i,G,H,I,J⟩
 .cases r
 .injection s with f j u
  injection f with f
  subst f u;have v:k<cur.size:=AY
  have y:Addr.add ⟨b,0,none⟩ (k*1)=⟨b,k,none⟩:=by rw[add_eq,AH2,ZQ]
  have m:w.cell? (Addr.add ⟨b,0,none⟩ (k*1))=some cur[k]:=gH i (by rw[AH2];exact Array.getElem?_eq_getElem v);rw[y] at m ⊢;have z:w.ownsRow base e 1 (.slice (some ⟨b,0,none⟩) l.length c) l.length (l.flatMap da):=by unfold aT at h;rw[j] at h;exact h
  have p:=World.ownsRow.stored z k (.I x);rw[RB] at p;refine _0 m (by simp[World.frozen?,i]) (by simp[Value.oneCell']) (q _ (dX.setCell w ⟨b,k,none⟩ _) ?_);unfold aT;rw[ZP,j];exact p.1
end ba
namespace o
open Go
theorem zU{l:C_ Int}:iO l=true↔∃i:0<l.length,0<=l[0]/\l[0]<=(l.length:Int) - 1/\∀a (b:a<l.length),l[0]+1<=a->l[a]=0:=by
 cases l with
 | nil=>simp[iO]
 | cons e j =>
  simp only[iO,Bool.and_eq_true,decide_eq_true_eq,List.all_eq_true];constructor
  .rintro⟨⟨c,f⟩,d⟩;refine⟨Ah,c,by simp;omega,λa b g=>?_⟩;cases a with
   | zero=>simp at g;omega
   | succ a =>
    simp only[List.getElem_cons_zero,List.getElem_cons_succ] at g ⊢;refine d _ (List.mem_iff_getElem.2 ⟨a - e.toNat,by simp at b ⊢;omega,?_⟩);rw[AK2];congr 1;omega
  .rintro⟨_,c,f,d⟩;simp only[List.getElem_cons_zero,List.length_cons] at c f d;refine⟨⟨c,AY⟩,λk h=>?_⟩;obtain⟨a,b,rfl⟩:=List.mem_iff_getElem.1 h;rw[AK2]
   have:=d (e.toNat+a+1) (by simp at b;omega) AY
   simpa using this
theorem T3{l:C_ Int}(h:iO l=true)(a:0<l.length):iA l=(l.drop 1).take l[0].toNat:=by
 unfold iA;rw[if_pos h];cases l with
 | nil=>simp at a
 | cons b c=>rfl
def asR{l:C_ Int}(h:iO l=true)(a:0<l.length):(iA l).length=l[0].toNat:=by
 obtain⟨_,b,c,_⟩:=zU.1 h;rw[T3 h a,IP,AG7];omega
def Mq(l:C_ Int):(iA l).length<=l.length:=by
 unfold iA;split
 .rw[IP,AG7];omega
 .simp
def ae6{l:C_ Int}(h:¬iO l=true):iA l=[]:=by unfold iA;rw[if_neg h]
def agA(l:C_ Int)(k:Nat):((l.length:Int) :: (List.range (k+1)).map λa=>l.getD a 0)=((l.length:Int) :: (List.range k).map λa=>l.getD a 0)++[l.getD k 0]:=by
 rw[AI8,AF9];rfl
end o
namespace Go.Proofs.R
open Go Go.RowKit ba o
abbrev ft(base:Nat)(w:A_)(v:B_)(l:C_ Int):Prop:=aT da T.a 1 base w v l
def ha{base:Nat}{w:A_}{v:B_}{l:C_ Int}(h:ft base w v l):cl w v l:=aT.lF (enc:=da) (λ_=>rfl) h
def aht(v:B_)(l:C_ Int)(w:A_)(h:cl w v l) :
  EL F.NQ #[v] w λj k=>j = .bool (iO l)/\Ext w k:=by
 obtain⟨t,u,rfl,x⟩:=h.form;have e:(¬∃h:0<l.length,0<=l[0]/\l[0]<=(l.length:Int) - 1/\∀a (c:a<l.length),l[0]+1<=a->l[a]=0)->iO l=false:=λm=>by
  cases n:iO l with
  | false=>rfl
  | true=>exact absurd (zU.1 n) m
 refine bn E.NQ ?_;refine aa ?_;apply I_<;>intro y
 .refine aa ?_;exact⟨by rw[e];rintro⟨f,_⟩;omega,Ext.refl _⟩
 have f:0<l.length:=AY
 obtain⟨d,rfl⟩:=h.addr f;refine aa ?_;apply I_<;>intro z
 .refine aa ?_;exact⟨by rw[e];rintro⟨_,p,_⟩;omega,Ext.refl _⟩
 refine aa ?_;apply I_<;>intro A
 .refine aa ?_;exact⟨by rw[e];rintro⟨_,p,B,_⟩;omega,Ext.refl _⟩
 refine aa ?_;refine _W [0] (λb:Int=>[(3,.I b)]) (l[0]+1) (λb q=>q=w/\l[0]+1<=b/\b<=l.length/\∀a (c:a<l.length),l[0]+1<=a->(a:Int)<b->l[a]=0) (λb=>((l.length:Int) - b).toNat) aW ⟨rfl,AY,AY,λa c d r=>AY⟩ ?_;rintro b C G ⟨rfl,H,I,g⟩;refine aa ?_;apply I_<;>intro J
 .refine aa ?_;refine M_ b.toNat AY AY ?_;refine aa ?_;apply I_<;>intro i
  .refine aa ?_;refine⟨b+1,aW,⟨aV,AY,AY,λa c d r=>?_⟩,AY⟩;by_cases K:(a:Int)=b
   .have:a=b.toNat:=AY
    subst this;exact i
   .exact g a c d AY
  .refine aa ?_;exact⟨by rw[e];rintro⟨_,_,_,s⟩;exact i (s _ AY AY),Ext.refl _⟩
 .refine aa ?_;exact⟨by rw[zU.2 ⟨f,AY,AY,λa c d=>g a c d AY⟩],Ext.refl _⟩
def ahc{w:A_}(v:B_)(l:C_ Int)(c:Nat)(n x:Int)(h:cl w v l)(f:x=c)(g:c<l.length)(C:l.length<=100000) :
  EL F.N4 #[v,.I x,.I n] w λi d=>ft w.heap.size d i (l.set c n)/\Ext w d:=by
 subst f;obtain⟨G,H,rfl,I⟩:=h.form;refine bn E.N4 ?_;refine aa ?_;intro j k m b p;have e:ft w.heap.size j (.slice (some ⟨k,0,none⟩) 0 0) []:=aT.empty m p;refine aa ?_;refine _Z e (h.ext Flat.ext b) (λ_=>rfl) j8 (by simp only[List.length_nil];omega) (by simp only[List.length_nil];unfold maxLen;omega) b.size λJ q a r=>?_;rw[AH9] at a;have s:Ext w q:=b.grown r λt u=>(e.lt t u).1;obtain⟨K,L,rfl,_⟩:=a.form;obtain⟨y,rfl⟩:=(ha a).addr;refine aa ?_;refine _a a g λM z A=>?_;have B:=a.lt y.block rfl;refine aa ?_;exact⟨A,z.ext s B.1⟩
end Go.Proofs.R
namespace ba
open Go Go.RowKit
section
variable{S:Fr}{w:World}{bb:Value->Prop}
def _m{α:Type}{sz n cap:Nat}{R:A_->Addr->α->Prop}{b:H_ Addr}{x:G_}{k:IntKind}{xs:C_ α}{t}(l:Nat)(c:a6 sz R w (.slice b n cap) xs)(f:br S x = .int k (l:Int))(i:l<=xs.length)
  (g:∀d e,a6 sz R w (.slice d (xs.length - l) e) (xs.drop l)->bb (.slice d (xs.length - l) e)):sR S sz (.slice b n cap) (some x) none none bb t:=by
 obtain⟨h,j,m⟩:=c.len;refine _K l n cap (by simp[e6,f]) (by simp[e6]) (by simp[e6]) ⟨AY,AY,EM _⟩ Ah ?_;have a:=c.sub l n AY AY;rw[IA (by rw[AG7];omega)] at a;rw[h] at a ⊢;exact g _ _ a
def AB0{α:Type}{sz n cap:Nat}{R:A_->Addr->α->Prop}{b:H_ Addr}{y:G_}{k:IntKind}{xs:C_ α}{t}(a:Nat)(c:a6 sz R w (.slice b n cap) xs)(f:br S y = .int k (a:Int))(g:a<=xs.length)
  (h:∀d e,a6 sz R w (.slice d a e) (xs.take a)->bb (.slice d a e)):sR S sz (.slice b n cap) none (some y) none bb t:=by
 obtain⟨j,l,m⟩:=c.len;refine _K 0 a cap (by simp[e6]) (by simp[e6,f]) (by simp[e6]) ⟨AY,AY,EM _⟩ Ah ?_;have i:=c.sub 0 a AY g;exact h _ _ i
end
end ba
namespace Go.Proofs.R
open Go Go.RowKit ba o
def ahu(v:B_)(l:C_ Int)(w:A_)(h:cl w v l)(C:l.length<=100000) :
  EL F.NM #[v] w λm g=>ft w.heap.size g m (iA l)/\Ext w g:=by
 obtain⟨G,H,rfl,I⟩:=h.form;refine bn E.NM ?_;refine aa ?_;refine J_ (aht _ l w h) ?_;rintro _ i ⟨rfl,b⟩;by_cases c:iO l=true
 .rw[c];obtain⟨j,J,K,L⟩:=zU.1 c;obtain⟨M,rfl⟩:=h.addr j;have n:=h.ext Flat.ext b;refine aa ?_;refine K_ 4 l[0].toNat [0] (λv:ez=>[(3,.slice v.1 v.2.1 v.2.2)]) (none,0,0) (λa v k=>Ext i k/\ft i.heap.size k (.slice v.1 v.2.1 v.2.2) ((l.drop 1).take a)) aW aW ⟨Ext.refl _,aT.nil _ _ _ _ _⟩ ?_;clear n;rintro a N O P Q ⟨d,e⟩;have S:=h.ext Flat.ext (b.trans d);refine aa ?_;apply I_<;>intro U
  .have p:1+a<l.length:=AY
   refine aa ?_;intro V W X f q;have Y:((l.drop 1).take a).length<=100000:=by rw[IP,AG7];omega
   refine aa ?_;refine T_ (y:=l[1+a]) (e.ext f) q rfl (λ_=>rfl) j8 AY (by unfold maxLen;omega) (by have:=d.size;have:=f.size;omega) λr s t Z u x=>?_;refine aa ?_;refine⟨AY,aV,(r,s,t),⟨rfl,trivial⟩,(d.trans f).grown x λy z=>(e.lt y z).1,?_⟩;rw[AJ9,List.getElem?_drop,List.getElem?_eq_getElem p];exact u
  .have A:a=l[0].toNat:=AY
   subst A;refine aa ?_;exact⟨by rw[T3 c j];exact aT.low b.size e,b.trans d⟩
 .have B:iO l=false:=by simpa using c
  rw[B];refine aa ?_;exact⟨by rw[ae6 c];exact aT.nil _ _ _ _ _,b⟩
def ahE(n:Nat)(v:B_)(l:C_ Int)(w:A_)(h:cl w v l)(K:1<=n/\n<=100000) :
  EL F.NP #[.I n,v] w λx q=>ft w.heap.size q x (p3 n l)/\Ext w q:=by
 obtain⟨L,M,rfl,N⟩:=h.form;refine bn E.NP ?_;refine aa ?_;intro y r z A s;have t:ft w.heap.size y (.slice (some ⟨r,0,none⟩) 1 1) ((l.length:Int) :: (List.range 0).map λb=>l.getD b 0):=aT.y5 _ s z rfl (λ_=>rfl) rfl (by show 1<=maxLen;unfold maxLen;decide);clear s;refine aa ?_;refine K_ 6 (n - 1) [0,1] (λv:ez=>[(5,.slice v.1 v.2.1 v.2.2)]) (some ⟨r,0,none⟩,1,1) (λa v u=>Ext w u/\ft w.heap.size u (.slice v.1 v.2.1 v.2.2) ((l.length:Int) :: (List.range a).map λb=>l.getD b 0)) aW aW ⟨A,t⟩ ?_;clear t;rintro a O P Q S ⟨d,e⟩;have U:=h.ext Flat.ext d;have V:((l.length:Int) :: (List.range a).map λb=>l.getD b 0).length=a+1:=Ah
 refine aa ?_;apply I_<;>intro W
 .refine aa ?_;apply I_<;>intro X
  .have B:a<l.length:=AY
   obtain⟨Y,rfl⟩:=h.addr;refine aa ?_;intro C G H c f;refine aa ?_;refine T_ (y:=l[a]) (e.ext c) f rfl (λ_=>rfl) j8 AY (by unfold maxLen;omega) (by have:=d.size;have:=c.size;omega) λg i j I k m=>?_;refine aa ?_;refine⟨AY,aV,(g,i,j),⟨rfl,trivial⟩,(d.trans c).grown m λb p=>(e.lt b p).1,?_⟩;rw[agA,show l.getD a 0=l[a] from by simp[B]];exact k
  .refine aa ?_;intro C G H c f;refine aa ?_;refine T_ (y:=0) (e.ext c) f rfl (λ_=>rfl) j8 AY (by unfold maxLen;omega) (by have:=d.size;have:=c.size;omega) λg i j I k m=>?_;refine aa ?_;refine⟨AY,aV,(g,i,j),⟨rfl,trivial⟩,(d.trans c).grown m λb p=>(e.lt b p).1,?_⟩;rw[agA,show l.getD a 0=0 from by simp[List.getD,List.getElem?_eq_none (show l.length<=a by omega)]];exact k
 .have J:a=n - 1:=AY
  subst J;refine aa ?_;exact⟨e,d⟩
def axx(v:B_)(l:C_ Int)(w:A_)(h:cl w v l)(p:l.length<=100000) :
  EL F.NO #[v] w λc j=>((n3 l=none/\c = .tuple #[.slice none 0 0,.I 0,.bool false])\/(∃a b k,n3 l=some (a,b)/\c = .tuple #[k,.I b,.bool true]/\ft w.heap.size j k a))/\Ext w j:=by
 obtain⟨z,A,rfl,B⟩:=h.form;refine bn E.NO ?_;refine aa ?_;refine J_ (ahu _ l w h p) ?_;rintro c C ⟨q,e⟩;have g:=ha q;obtain⟨G,H,rfl,_⟩:=g.form;refine aa ?_;apply I_<;>intro m
 .have d:iA l=[]:=AF8 AY;refine aa ?_;exact⟨.inl ⟨by unfold n3;rw[d],aV⟩,e⟩
 have I:=Mq l;obtain⟨b,a,d⟩:∃b a,iA l=b :: a:=by
  cases r:iA l with
  | nil=>rw[r] at m;simp at m
  | cons b a=>exact⟨b,a,rfl⟩
 obtain⟨J,rfl⟩:=g.addr;refine aa ?_;intro s f;have t:=g.ext Flat.ext f;have K:=h.ext Flat.ext (e.trans f);refine aa ?_;refine _m (k:=.i64) 1 t rfl AY λL M i=>?_;have u:(iA l).drop 1=a:=by rw[d];rfl
 have x:(iA l)[0]' AY=b:=by simp[d]
 rw[u] at i;refine aa ?_;refine M_ 0 rfl AY ?_;refine aa ?_;refine J_ (ahE l.length _ a s (by have:=i.len.1;exact i) AY) ?_;rintro c N ⟨y,n⟩;refine⟨n,?_⟩;refine aa ?_;refine⟨.inr ⟨p3 l.length a,b,c,by unfold n3;rw[d],by rw[x],aT.low (e.trans f).size y⟩,(e.trans f).trans n⟩
def axw(v:B_)(l:C_ Int)(x:Int)(w:A_)(h:cl w v l)(s:l.length<=100000) :
  EL F.NN #[v,.I x] w λc i=>((l6 l x=none/\c = .tuple #[.slice none 0 0,.bool false])\/(∃d j,l6 l x=some d/\c = .tuple #[j,.bool true]/\ft w.heap.size i j d))/\Ext w i:=by
 obtain⟨I,J,rfl,K⟩:=h.form;refine bn E.NN ?_;refine aa ?_;refine J_ (aht _ l w h) ?_;rintro _ k ⟨rfl,a⟩;by_cases b:iO l=true;rotate_left
 .have t:iO l=false:=by simpa using b
  rw[t];refine aa ?_;exact⟨.inl ⟨by unfold l6;rw[if_neg (λe=>b e.1)],aV⟩,a⟩
 rw[b];obtain⟨m,L,M,N⟩:=zU.1 b;obtain⟨O,rfl⟩:=h.addr m;have u:=h.ext Flat.ext a;have n:l.headD 0=l[0]:=by cases l with | nil=>simp at m | cons P d=>rfl
 refine aa ?_;apply I_<;>intro Q
 .refine aa ?_;exact⟨.inl ⟨by unfold l6;rw[if_neg (λe=>e.2 (by rw[n];omega))],aV⟩,a⟩
 refine aa ?_;refine J_ (ahu _ l k u s) ?_;rintro c S ⟨f,p⟩;obtain⟨U,V,rfl,_⟩:=(ha f).form;have W:=Mq l;refine aa ?_;intro X Y Z g y;refine aa ?_;refine T_ (y:=x) (f.ext g) y rfl (λ_=>rfl) j8 AY (by unfold maxLen;omega) (by have:=p.size;have:=g.size;omega) λab ae af q z A=>?_;have r:Ext k q:=(p.trans g).grown A λB C=>(f.lt B C).1;refine aa ?_;refine J_ (ahE l.length _ _ q (ha z) AY) ?_;rintro c ag ⟨G,H⟩;refine aa ?_;exact⟨.inr ⟨_,_,by unfold l6;rw[if_pos ⟨b,by rw[n];omega⟩],rfl,aT.low (a.trans r).size G⟩,(a.trans r).trans H⟩
end Go.Proofs.R
namespace ba
open Go Go.RowKit
def aT.full{e:F_}{base b n:Nat}{w:A_}{l:C_ Int}(h:aT da e 1 base w (.slice (some ⟨b,0,none⟩) n n) l):w.heap[b]? = some (.cells (fG l).toArray e)/\base<=b/\n=l.length:=by
 rcases h.2 with ⟨f,_⟩ | ⟨p,cap,cur,g,i,j,q,r,k,c⟩
 .cases f
 .injection g with a d m
  injection a with a
  injection a with a
  subst a m;refine⟨?_,i,d⟩;rw[j]
  have:cur=(fG l).toArray:=by
   apply Array.ext';rw[IA (by simp[k,d])] at c;rw[c,zS]
  rw[this]
def TZ{w:A_}{b i:Nat}{l:C_ Int}{e:F_}(h:w.heap[b]? = some (.cells (fG l).toArray e))(a:i<l.length):w.cell? ⟨b,i,none⟩=some (.I l[i]):=by
 simp[World.cell?,h,fG,a]
section
variable{P:Program}{S:Fr}{w:World}
def _5{b m n l h:Nat}{c:H_ Addr}{x y d:H_ G_}{e:B_->Prop}{t}(f:c=some ⟨b,0,none⟩)(g:e6 S x 0=some l)(i:e6 S y m=some h)(j:d=none)(k:l<=h)(p:h<=n)
  (q:∀a,(0<h - l->a=some ⟨b,l,none⟩)->(l=0->a=some ⟨b,0,none⟩)->e (.slice a (h - l) (n - l))):sR S 1 (.slice c m n) x y d e t:=by
 subst f j;refine _K l h n g i (by simp[e6]) ⟨k,p,EM _⟩ Ah (q _ (λs=>?_) λr=>?_)
 .rw[if_neg AY];simp[add_eq]
 .subst r;split
  .rfl
  .simp[add_eq]
def AE1{m:F_}{s b i j k n c:Nat}{e:F_}{cur:C_ Int}{p f:H_ Addr}{q:B_->A_->Prop}{t}(h:w.heap[b]? = some (.cells (fG cur).toArray e))(u:p=some ⟨b,0,none⟩)(v:0<k->f=some ⟨b,j,none⟩)(O:j+k<=cur.length)(x:i+k<=n)(Q:n<=cur.length)
  (y:∀l,dX b w l->l.heap[b]? = some (.cells (fG (cur.take i++(cur.drop j).take k++cur.drop (i+k))).toArray e)->q (.slice (some ⟨b,0,none⟩) (i+k) n) l):lJ P m e 1 s (.slice p i n) (.slice f k c) w q t:=by
 subst u;refine _h λz=>?_;obtain⟨A,S,U,B,V,C,W,X,_⟩:=z;have g:((cur.drop j).take k).length=k:=by simp;omega
 have G:(Builtin.firstCells 1 k (.slice f k c)).run P w = .ok (fG ((cur.drop j).take k)).toArray w:=by
  by_cases H:k=0
  .subst H;cases f with
   | none=>simp[Builtin.firstCells,fG]
   | some I =>
    have:=run_loadCells_list (P:=P) w I [] Ah
    simpa[Builtin.firstCells,fG] using this
  .obtain rfl:=v AY
   have:=run_loadCells_list (P:=P) w ⟨b,j,none⟩ (fG ((cur.drop j).take k)) (λa J d=>by
    have K:a<k:=by
     have:=(List.getElem?_eq_some_iff.1 d).1
     rw[x4,g] at this;exact this
    have L:=TZ h (i:=j+a) AY;rw[add_eq,L];have M:(fG ((cur.drop j).take k))[a]? = some (.I cur[j+a]):=by
     simp[fG,K,List.getElem?_take,List.getElem?_drop,show j+a<cur.length by omega]
    rw[M] at d;exact d)
   rw[x4,g] at this;simpa[Builtin.firstCells] using this
 have r:=run_storeCells_at P b i e (fG ((cur.drop j).take k)) 0 (fG cur).toArray w h (by simp only[x4,g,List.size_toArray];omega) (λJ N=>by
  obtain⟨Y,_,rfl⟩:=List.mem_map.1 N;rfl)
 simp only[Nat.add_zero,x4,g] at r;refine⟨m,.slice (some ⟨b,0,none⟩) (i+k) n,w.setRow b (((fG cur).take i++fG ((cur.drop j).take k)++(fG cur).drop (i+k)).toArray),?_,y _ ⟨rfl,rfl,rfl,by simp[World.setRow],λa d=>setRow_other w b a _ d⟩ ?_⟩
 .simp[Builtin.append_,run_underlying A,Go.sizeOf,typeInfo,B,C,Builtin.lenOf,x,G,add_eq,r]
 .rw[setRow_heap w b _ _ e _ h];congr 3;simp[fG,List.map_take,List.map_drop]
end
end ba
namespace Go.Proofs.R
open Go Go.RowKit ba o
def Uw(n:Nat)(w:A_)(k:n<=8):EL F.KR #[.I n] w λf c=>f = .I ((fO n:Nat):Int)/\Ext w c:=by
 have g:∀a,a<=8->fO a<=40320:=Ae
 refine bn E.KR ?_;refine aa ?_;refine K_ 6 n [5] (λb:Int=>[(3,.I b)]) 1 (λa b c=>b=((fO a:Nat):Int)/\Ext w c) aW aW ⟨rfl,Ext.refl _⟩ ?_;rintro a b l m p ⟨d,e⟩;refine aa ?_;refine I_ (λh=>?_) (λh=>?_)
 .have i:a<n:=AY
  have q:=g (a+1) AY;have j:((fO (a+1):Nat):Int)=b*((a:Int)+1):=by
   rw[d];show(((a+1)*fO a:Nat):Int)=_;rw[Int.natCast_mul,Int.mul_comm];rfl
  have r:0<=b*((a:Int)+1)/\b*((a:Int)+1)<=40320:=AY
  refine aa ?_;exact⟨i,aV,b*((a:Int)+1),aW,j.symm,e⟩
 .have:a=n:=AY
  subst this;refine aa ?_;exact⟨by rw[d],e⟩
def aeN(n:Nat)(w:A_)(r:n<=8):EL F.KS #[.I n] w λe b=>(∃c,e = .slice (some ⟨c,0,none⟩) n n/\ft w.heap.size b e (o.upto n))/\Ext w b:=by
 refine bn E.KS ?_;refine aa ?_;refine _Y n AY AY λs c f j g=>?_;have k:=aT.JH (n:=n) g f Ah (by simp[maxLen];omega);clear g;refine aa ?_;refine K_ 15 n [3,13,14] (λ_:Unit=>[]) () (λa _ b=>ft w.heap.size b (.slice (some ⟨c,0,none⟩) n n) (o.upto a++List.replicate (n - a) 0)/\Ext w b) aW aW ⟨by simpa[o.upto] using k,j⟩ ?_;rintro a - t u v ⟨d,h⟩;refine aa ?_;refine I_ (λl=>?_) (λl=>?_)
 .have m:a<n:=AY
  refine aa ?_;refine _a (k:=a) d (by simp[Al];omega) λx p i=>?_;refine aa ?_;have q:(o.upto a++List.replicate (n - a) 0).set a (a:Int)=o.upto (a+1)++List.replicate (n - (a+1)) 0:=by
   rw[List.set_append_right _ _ (by rw[Al];exact EM _),Al,AK7,show n - a=(n - (a+1))+1 from AY,List.replicate_succ];simp[o.upto,List.range_succ]
  rw[q] at i;exact⟨m,aV,(),trivial,i,p.ext h f⟩
 .have:a=n:=AY
  subst this;refine aa ?_;rw[AK7,List.replicate_zero,AG5] at d;exact⟨⟨c,aV,d⟩,h⟩
end Go.Proofs.R
namespace ba
open Go Go.RowKit
def y6(l:C_ Bool):C_ B_:=l.map Value.bool
def Z9{w:A_}{b i:Nat}{l:C_ Bool}{e:F_}(h:w.heap[b]? = some (.cells (y6 l).toArray e))(a:i<l.length):w.cell? ⟨b,i,none⟩=some (.bool l[i]):=by
 simp[World.cell?,h,y6,a]
section
variable{P:Program}{S:Fr}{w:World}
def AE2{b i:Nat}{l:C_ Bool}{e:F_}{c:B_->Prop}{a:Addr}{t}(h:w.heap[b]? = some (.cells (y6 l).toArray e))(d:i<l.length)(f:a=⟨b,i,none⟩)(g:c (.bool l[i])):tM (.pointer (some a)) w c t:=by
 subst f;exact L_ (Z9 h d) g
def AE3{b i:Nat}{l:C_ Bool}{e:F_}{v:Bool}{d:A_->Prop}{a:Addr}{t}(h:w.heap[b]? = some (.cells (y6 l).toArray e))(f:i<l.length)(g:a=⟨b,i,none⟩)(j:∀c,dX b w c->c.heap[b]? = some (.cells (y6 (l.set i v)).toArray e)->d c):vo (.pointer (some a)) (.bool v) w d t:=by
 subst g;refine _0 (Z9 h f) (by simp[World.frozen?,h]) rfl (j _ (dX.setCell w ⟨b,i,none⟩ _) ?_);have k:=cf h;have m:=(Array.getElem?_eq_some_iff.1 h).2;simp[World.setCell,Array.getElem_modify,k,m,y6,List.map_set]
end
end ba
namespace Go.Proofs.R
open Go Go.RowKit ba o
def agJ(v:B_)(n:Nat)(p:C_ Int)(w:A_)(h:cl w v p)(g:j0 n p)(P:n<=8):EL F.f2 #[v] w λv e=>v = .bool true/\Ext w e:=by
 obtain⟨Q,S,rfl,U⟩:=h.form;have V:=g.len;refine bn E.f2 ?_;refine aa ?_;intro x m y z f;have f:x.heap[m]? = some (.cells (y6 (List.replicate 8 false)).toArray T.tY):=f;refine aa ?_;refine K_ 11 p.length [0,3,9,10] (λ_:Unit=>[]) () (λc _ e=>(∃b:C_ Bool,b.length=8/\e.heap[m]? = some (.cells (y6 b).toArray T.tY)/\∀a (i:a<b.length),b[a]=true->(a:Int)∈p.take c)/\Ext w e) aW aW ⟨⟨List.replicate 8 false,Ah,f,λa i d=>by rw[List.getElem_replicate] at d;cases d⟩,z⟩ ?_;rintro c - W X Y ⟨⟨b,A,q,r⟩,j⟩;clear f;have B:=h.ext Flat.ext j;refine aa ?_;refine I_ (λC=>?_) (λC=>?_)
 .have k:c<p.length:=AY
  obtain⟨a,i,Z⟩:=g.get (i:=c) AY;have l:p[c]=(a:Int):=(List.getElem?_eq_some_iff.1 i).2;obtain⟨ab,rfl⟩:=B.addr;have G:b[a]' AY=false:=by
   cases H:b[a]' AY with
   | false=>rfl
   | true =>
    have I:=r a AY H;obtain⟨J,K,s⟩:=List.mem_iff_getElem.1 I;rw[IP] at K;rw[AL0] at s;have t:=g.nodup;rw[List.Nodup,AK0] at t;exact absurd (s.trans l.symm) (t J c AY k AY)
  refine aa ?_;rw[l];refine aa ?_;refine _p AY ?_;refine aa ?_;refine AE2 (i:=a) q AY (by rw[add_eq];simp) ?_;rw[G];refine aa ?_;refine _p AY ?_;refine aa ?_;refine AE3 (i:=a) q AY (by rw[add_eq];simp) λae L M=>?_;refine aa ?_;refine⟨k,aV,(),trivial,⟨_,by rw[ZP];exact A,M,λN u d=>?_⟩,L.ext j y⟩;rw[Oi k,List.mem_append,l];rw[List.getElem_set] at d;split at d
  .rename_i O;subst O;exact .inr Ah
  .exact .inl (r N (by rw[ZP] at u;exact u) d)
 .refine aa ?_;exact⟨aV,j⟩
def avQ(v r:B_)(n:Nat)(p:C_ Int)(w:A_)(h:cl w v p)(m:cl w r (o.upto n))(d:j0 n p)(C:n<=8):EL F.f3 #[v,r] w λv f=>ft w.heap.size f v (pX p)/\Ext w f:=by
 obtain⟨Y,Z,rfl,ab⟩:=h.form;obtain⟨ae,af,rfl,ag⟩:=m.form;have ah:=d.len;have G:=Al n;refine bn E.f3 ?_;refine aa ?_;refine J_ (agJ _ n p w h d C) ?_;rintro _ ai ⟨rfl,j⟩;have aj:=h.ext Flat.ext j;have ak:=m.ext Flat.ext j;refine aa ?_;refine _Y n AY AY λal s an H t=>?_;have I:=j.trans H;have u:w.heap.size<=s:=by have:=j.size;omega
 have J:=aT.JH (n:=n) (base:=w.heap.size) t u Ah (by simp[maxLen];omega);clear t;rw[G];refine aa ?_;refine K_ 23 p.length [0,1,5,21,22] (λ_:Unit=>[]) () (λc _ f=>(∃g,ft w.heap.size f (.slice (some ⟨s,0,none⟩) n n) g/\g.length=n/\∀b a:Nat,b<c->p[b]? = some (a:Int)->g[a]? = some (b:Int))/\Ext w f) aW aW ⟨⟨_,J,Ah,λb a e=>absurd e (Od _)⟩,I⟩ ?_;rintro c - ao aq ar ⟨⟨g,x,K,y⟩,k⟩;have L:=h.ext Flat.ext k;have M:=m.ext Flat.ext k;refine aa ?_;refine I_ (λN=>?_) (λN=>?_)
 .have z:c<p.length:=AY
  obtain⟨a,l,au⟩:=d.get (i:=c) AY;have A:p[c]=(a:Int):=(List.getElem?_eq_some_iff.1 l).2;obtain⟨av,rfl⟩:=L.addr;obtain⟨aw,rfl⟩:=M.addr;have O:(o.upto n)[c]' AY=(c:Int):=by simp[o.upto]
  refine aa ?_;rw[A];refine aa ?_;rw[O];refine _a (k:=a) x AY λax P Q=>?_;refine aa ?_;refine⟨z,aV,(),trivial,⟨_,Q,by rw[ZP];exact K,λb q e i=>?_⟩,P.ext k u⟩;rw[List.getElem?_set];by_cases S:b=c
  .subst S;rw[l] at i;injection i with i
   have:a=q:=AY
   subst this;rw[if_pos rfl,if_pos AY]
  .have U:a≠q:=by
    rintro rfl;have B:=d.nodup;rw[List.Nodup,AK0] at B;obtain⟨V,W⟩:=List.getElem?_eq_some_iff.1 i;exact absurd (W.trans A.symm) (B b c V z AY)
   rw[if_neg U];exact y b q AY i
 .refine aa ?_;have X:g=pX p:=by
   apply List.ext_getElem?;intro a;by_cases l:a<n
   .obtain⟨b,e⟩:=List.mem_iff_getElem?.1 (d.all a l)
    have:=(List.getElem?_eq_some_iff.1 e).1
    rw[y b a AY e,Mo d e]
   .rw[List.getElem?_eq_none AY,List.getElem?_eq_none (by rw[(HH d).len];omega)]
  subst X;exact⟨x,k⟩
def avP(v:B_)(n:Nat)(p:C_ Int)(w:A_)(h:cl w v p)(a:j0 n p)(b:n<=8):EL F.fc #[v] w λv e=>ft w.heap.size e v (pX p)/\Ext w e:=by
 obtain⟨q,r,rfl,s⟩:=h.form;have c:=a.len;refine bn E.fc ?_;refine aa ?_;refine J_ (agJ _ n p w h a b) ?_;rintro _ f ⟨rfl,g⟩;refine aa ?_;rw[c];refine J_ (aeN n f b) ?_;rintro _ i ⟨⟨t,rfl,j⟩,k⟩;have d:=g.trans k;rw[<-c];refine aa ?_;refine J_ (avQ _ _ n p i (h.ext Flat.ext d) (by rw[c];exact ha j) a b) ?_;rintro v u ⟨l,m⟩;refine aa ?_;exact⟨l.low (by have:=d.size;omega),d.trans m⟩
end Go.Proofs.R
namespace o
open Go
theorem aby:∀a,0<fO a
 | 0=>Ae
 | a+1=>Nat.mul_pos (Nat.succ_pos a) (aby a)
def anM{n k:Nat}(h:k<fO (n+1)):k / fO n<n+1:=Nat.div_lt_of_lt_mul (by rw[AI0];exact h)
end o
namespace Go.Proofs.R
open Go Go.RowKit ba o
def AE4{S:Fr}{w:A_}{b n k:Nat}{cur:C_ Int}{x:G_}{e:H_ Addr}{f:B_->A_->Prop}{i:F_}{t}(h:w.heap[b]? = some (.cells (fG cur).toArray T.a))(j:br S x = .slice e 1 n)(l:e=some ⟨b,k,none⟩)(m:k<cur.length)
  (p:∀q a,dX b w a->a.heap[b]? = some (.cells (fG (cur.set k 0)).toArray T.a)->f q a):wX Tryz.prog (.call ⟨.builtin .clear,#[x],#[T.b]⟩) i S w f t:=by
 have r:∀w:A_,(zeroValue T.a).run Tryz.prog w = .ok (.I 0) w:=λw=>by
  have s:(Tryz.prog.info? T.a).bind (·.zero)=some (.I 0):=Cl
  obtain⟨c,d,u⟩:=Option.bind_eq_some_iff.1 s;simp[zeroValue,wB d,u]
 have v:Tryz.prog.underlying T.b=some (.slice T.a):=Cl
 subst l;refine _V (v:=.tuple #[]) (w':=kT w ⟨b,k,none⟩ (Builtin.zeroCells #[.I 0] 1).toList 0) ?_ (p _ _ (dX.kT _ w ⟨b,k,none⟩ 0) ?_)
 .have y:=OP Tryz.prog ⟨b,k,none⟩ (Builtin.zeroCells #[.I 0] 1).toList 0 w (λz A=>?_) ?_
  .simp[execOp,resolve,invoke,builtin,j,Builtin.clear_,run_underlying v,r,Value.cells,y]
  .have B:z=0:=by simp[Builtin.zeroCells] at A;omega
   subst B;rw[add_eq];exact⟨⟨_,TZ h m⟩,by simp[World.frozen?,h]⟩
  .intro H g;simp only[Builtin.zeroCells,Array.toList_map,List.mem_map] at g;obtain⟨c,_,rfl⟩:=g;show((#[Value.int .i64 0]:Array B_)[c % 1]!).oneCell'=true;rw[show c % 1=0 from AY];rfl
 .have C:=cf h;have d:=(Array.getElem?_eq_some_iff.1 h).2;have G:(Builtin.zeroCells #[.I 0] 1).toList=[Value.int .i64 0]:=by simp[Builtin.zeroCells,Array.range]
  rw[G];simp only[kT,add_eq];simp[World.setCell,Array.getElem_modify,C,d,fG,List.map_set]
def amv(b m n i:Nat)(cur:C_ Int)(w:A_)(h:w.heap[b]? = some (.cells (fG cur).toArray T.a))(u:cur.length=n)(v:m<=n)(x:i<m)(y:n<=8) :
  EL F.KT #[.slice (some ⟨b,0,none⟩) m n,.I i,.I ((i:Int)+1)] w λc d=>c = .slice (some ⟨b,0,none⟩) (m - 1) n/\Mod (λa=>a=b) w d/\∃bj,bj.length=n/\d.heap[b]? = some (.cells (fG bj).toArray T.a)/\bj.take (m - 1)=(cur.take m).eraseIdx i:=by
 refine vh E.KT ?_;refine om ?_;refine aa ?_;refine _K i (i+1) m (by simp[e6,dE,bR]) (by simp[e6,dE,bR];omega) (by simp[e6,dE,bR]) ⟨AY,AY,AY⟩ Ah ?_;refine aa ?_;intro z e;have k:=e.obj h;refine aa ?_;refine _5 (b:=b) (l:=0) (h:=i) rfl (by simp[e6]) (by simp[e6,dE,bR]) rfl AY AY λA _ l=>?_;obtain rfl:=l rfl;refine aa ?_;refine _5 (b:=b) (l:=i+1) (h:=m) rfl (by simp[e6,dE,bR];omega) (by simp[e6]) rfl AY AY λB p _=>?_;refine aa ?_;refine AE1 (b:=b) (j:=i+1) (k:=m - (i+1)) (cur:=cur) k rfl p AY AY AY λC q f=>?_;have g:i - 0+(m - (i+1))=m - 1:=AY
 rw[g,Nat.sub_zero] at f;rw[g,Nat.sub_zero];refine aa ?_;refine _5 (b:=b) (l:=m - 1) (h:=m) rfl (by simp[e6,dE,bR]) (by simp[e6,dE,bR]) rfl AY AY λG j _=>?_;rw[show m - (m - 1)=1 from AY] at j ⊢;refine aa ?_;have r:(cur.take i++(cur.drop (i+1)).take (m - (i+1))++cur.drop (m - 1)).length=n:=by simp;omega
 refine AE4 (b:=b) (k:=m - 1) (n:=n - (m - 1)) f (by simp[dE,bR]) (j AY) AY λc H s t=>?_;refine aa ?_;refine⟨aV,?_,_,by rw[ZP];exact r,t,?_⟩
 .exact((e.mod (A:=λa=>a=b)).trans (q.mod rfl)).trans (s.mod rfl)
 .rw[List.take_set_of_le AY,List.take_append_of_le_length (by simp;omega)];rw[IA (by simp;omega)];rw[List.eraseIdx_eq_take_drop_succ,AJ1,Nat.min_eq_left AY,List.drop_take,show m - (i+1)=m - (i+1) from rfl]
def ax3{x m:Nat}(h:x<m)(a:m<=5) : -9223372036854775808<=(x:Int)+1/\(x:Int)+1<=9223372036854775807:=AY
def ayS(n k:Nat)(w:A_)(Q:n<=4)(S:k<fO n):EL F.fK #[.I n,.I k] w λU f=>ft w.heap.size f U (tE n k)/\Ext w f:=by
 have r:∀C,C<=4->fO C<=24:=Ae
 have av:=r n Q;refine bn E.fK ?_;refine aa ?_;refine J_ (Uw n w AY) ?_;rintro _ V ⟨rfl,G⟩;refine aa ?_;refine J_ (aeN n V AY) ?_;rintro _ H ⟨⟨e,rfl,I⟩,W⟩;obtain⟨s,aw,_⟩:=I.full;have g:=G.trans W;have ax:w.heap.size<=e:=by have:=G.size;omega
 have ay:=cf s;clear I;refine aa ?_;refine _W [0] (λb:(ez×Nat×Nat)=>[(5,.slice (some ⟨e,0,none⟩) b.2.1 n),(6,.slice b.1.1 b.1.2.1 b.1.2.2),(1,.I (b.2.2:Nat))]) ((none,0,0),n,k) (λb f=>Ext w f/\b.2.1<=n/\b.2.2<fO b.2.1/\∃d h,d.length=n/\f.heap[e]? = some (.cells (fG d).toArray T.a)/\ft H.heap.size f (.slice b.1.1 b.1.2.1 b.1.2.2) h/\H.heap.size<=f.heap.size/\h.length+b.2.1=n/\h++EW b.2.1 (d.take b.2.1) b.2.2=tE n k) (λb=>b.2.1) aW
  ⟨g,EM _,S,o.upto n,[],Al n,s,aT.nil _ _ _ _ _,EM _,Ah,by rw[IA (by rw[Al];exact EM _)];rfl⟩ ?_
 rintro⟨⟨az,aB,aC⟩,a,c⟩ aD X ⟨J,hm,K,d,h,Y,L,t,aE,hlen,i⟩;dsimp only at hm K hlen i t ⊢;clear s;have aF:=r a AY;refine aa ?_;refine I_ (λZ=>?_) (λZ=>?_)
 .obtain⟨a,rfl⟩:∃l,a=l+1:=⟨a - 1,AY⟩;have j:=aby a;have u:=anM K;have aG:=r a AY;refine aa ?_;rw[show((a+1:Nat):Int) - 1=(a:Int) from AY];refine J_ (Uw a X AY) ?_;rintro _ ab ⟨rfl,m⟩;have v:=m.obj L;have ae:=t.ext m;clear L;refine aa ?_;refine _4 c (fO a) rfl rfl j AY ?_;refine aa ?_;have af:ab.cell? (Addr.add ⟨e,0,none⟩ (c / fO a*1))=some (.I (d[c / fO a]' AY)):=by
   rw[add_eq,AH2,ZQ];exact TZ v AY
  refine L_ af ?_;refine aa ?_;intro aH aI aJ p M;have x:=p.obj v;have y:=ae.ext p;have aK:=m.size;have aL:=p.size;refine aa ?_;refine T_ (y:=d[c / fO a]' AY) y M rfl (λ_=>rfl) j8 AY (by unfold maxLen;omega) AY λag ah ai aj N z=>?_;have ak:=y.h9 ((J.trans m).trans p) z (by have:=g.size;omega);have al:aj.heap[e]? = some (.cells (fG d).toArray T.a):=by
   rw[z.block e (cf x) λA=>by have:=(y.lt e A.symm).1;omega];exact x
  have aP:=z.size;clear v M x;refine aa ?_;intro an q;have ao:=q.obj al;refine aa ?_;refine _4 c (fO a) rfl rfl j AY ?_;refine aa ?_;refine _4 c (fO a) rfl rfl j AY ?_;refine aa ?_;refine Q_ (ax3 u AY) ?_;refine aa ?_;refine J_ (amv e (a+1) n (c / fO a) d an ao Y hm u AY) ?_;rintro _ aQ ⟨rfl,B,bj,aq,ar,O⟩;have aR:=q.size;have aS:=B.size;rw[show a+1 - 1=a from rfl] at O;rw[show a+1 - 1=a from rfl];refine aa ?_;refine AE0 c (fO a) rfl rfl j ?_;refine aa ?_;refine⟨((ag,ah,ai),a,c % fO a),aW,⟨?_,by show a<=n;omega,Nat.mod_lt _ j,bj,h++[d[c / fO a]' AY],aq,ar,(N.ext q).mod B λl P A=>?_,AY,?_,?_⟩,Nat.lt_succ_self a⟩
  .exact B.ext (ak.trans q) λl P A=>AY
  .have:=(N.lt l P).1
   omega
  .simp only[List.length_append,List.length_singleton];omega
  .rw[O];have au:EW (a+1) (d.take (a+1)) c=(d.take (a+1)).getD (c / fO a) 0 :: EW a ((d.take (a+1)).eraseIdx (c / fO a)) (c % fO a):=rfl;rw[au] at i;rw[<-i,Vh];congr 1;have g:(d.take (a+1)).getD (c / fO a) 0=d[c / fO a]' AY:=by
    rw[List.getD,List.getElem?_take_of_lt u,List.getElem?_eq_getElem AY];rfl
   rw[g];rfl
 .have:a=0:=AY
  subst this;refine aa ?_;simp only[EW,List.append_nil] at i;rw[<-i];exact⟨t.low (by have:=g.size;omega),J⟩
end Go.Proofs.R
namespace o
open Go
def Ib(l:C_ Int)(x:Int):Int:=if x∈l then (l.idxOf x:Nat) else -1
def qO(p:C_ Int):Bool:=decide (p.length<=8/\∀a:Nat,a<p.length->(a:Int)∈p)
def agE{p:C_ Int}:qO p=true↔p.length<=8/\j0 p.length p:=by
 unfold qO;rw[decide_eq_true_iff];exact⟨λa=>⟨a.1,rfl,a.2⟩,λa=>⟨a.1,a.2.all⟩⟩
end o
namespace Go.Proofs.R
open Go Go.RowKit ba o
def avL(v:B_)(l:C_ Int)(x:Int)(w:A_)(h:cl w v l):EL F.MP #[v,.I x] w λv e=>v = .I (Ib l x)/\Ext w e:=by
 obtain⟨q,r,rfl,s⟩:=h.form;refine bn E.MP ?_;refine aa ?_;refine K_ 5 l.length [0,1] (λ_:Unit=>[]) () (λb _ e=>(∀a (c:a<l.length),a<b->l[a]≠x)/\Ext w e) aW aW ⟨λa _ h=>absurd h (Od _),Ext.refl _⟩ ?_;rintro b - t u y ⟨f,d⟩;have k:=h.ext Flat.ext d;refine aa ?_;refine I_ (λm=>?_) (λm=>?_)
 .have g:b<l.length:=AY
  obtain⟨z,rfl⟩:=k.addr;refine aa ?_;apply I_<;>intro i
  .refine aa ?_;refine⟨?_,d⟩;have j:x∈l:=i ▸ FA g
   have:l.idxOf x=b:=by
    rw[List.idxOf,List.findIdx_eq g];exact⟨by simpa using i,λn p=>by simpa using f n AY p⟩
   unfold Ib;rw[if_pos j,this]
  .refine aa ?_;exact⟨g,aV,(),trivial,λa c A=>by
    rcases AI6 a b with h | h
    .exact f a c h
    .obtain rfl:a=b:=AY
     exact i,d⟩
 .refine aa ?_;refine⟨?_,d⟩;unfold Ib;rw[if_neg λj=>?_];obtain⟨a,c,rfl⟩:=List.mem_iff_getElem.1 j;exact f a c AY rfl
def al0(v:B_)(p:C_ Int)(w:A_)(h:cl w v p):EL F.HN #[v] w λv e=>v = .bool (qO p)/\Ext w e:=by
 obtain⟨m,n,rfl,q⟩:=h.form;refine bn E.HN ?_;refine aa ?_;refine I_ (λf=>?_) (λf=>?_)
 .refine aa ?_;refine⟨?_,Ext.refl _⟩
  have:qO p=false:=by
   unfold qO;exact decide_eq_false λh=>AY
  rw[this]
 .refine aa ?_;refine K_ 3 p.length [0] (λ_:Unit=>[]) () (λb _ e=>(∀a:Nat,a<b->(a:Int)∈p)/\Ext w e) aW aW ⟨λa h=>absurd h (Od _),Ext.refl _⟩ ?_;rintro b - r k s ⟨g,c⟩;have l:=h.ext Flat.ext c;refine aa ?_;refine I_ (λf=>?_) (λf=>?_)
  .have i:b<p.length:=AY
   refine aa ?_;refine J_ (avL _ p b k l) ?_;rintro _ t ⟨rfl,j⟩;refine aa ?_;apply I_<;>intro d
   .refine aa ?_;refine⟨?_,c.trans j⟩
    have:qO p=false:=by
     unfold qO;refine decide_eq_false λh=>?_
     have:=h.2 b i
     unfold Ib at d;rw[if_pos this] at d;omega
    rw[this]
   .refine aa ?_;refine⟨i,aV,(),trivial,λa u=>?_,c.trans j⟩;rcases AI6 a b with h | h
    .exact g a h
    .obtain rfl:a=b:=AY
     unfold Ib at d;split at d
     .assumption
     .omega
  .refine aa ?_;refine⟨?_,c⟩
   have:qO p=true:=by
    unfold qO;exact decide_eq_true ⟨AY,λa x=>g a AY⟩
   rw[this]
end Go.Proofs.R
namespace o
open Go
structure gf(m:Model)(ref:Int)(q p k:Nat):Prop where
 ok:(check m).bK=0
 aQ:0<=ref
 ab:ref.toNat<(refs m).length
 at_:YW m ((refs m)[ref.toNat]) q p k
def Told(m:Model)(ref:Int):Prop:=(check m).bK=0/\0<=ref/\ref<(refs m).length
def F1{m:Model}{ref:Int}(h:Told m ref):∃a b c,gf m ref a b c:=by
 obtain⟨d,e,g⟩:=h;obtain⟨a,b,c,f⟩:=aw5 (FA (show ref.toNat<(refs m).length by omega));exact⟨a,b,c,d,e,AY,f⟩
def gf.told{m:Model}{ref:Int}{q p k:Nat}(h:gf m ref q p k):Told m ref:=⟨h.ok,h.aQ,by have:=h.ab;have:=h.aQ;omega⟩
def gf.inst{m:Model}{ref:Int}{q p k:Nat}(h:gf m ref q p k):hF m q p:=by
 obtain⟨b,a⟩:=wg h.at_.ab;have c:b=p:=by
  have d:=a.eq;rw[h.at_.ip] at d;omega
 subst c;exact a
theorem gf.one{m:Model}{ref:Int}{q p k q' b k':Nat}(h:gf m ref q p k)(a:gf m ref q' b k'):q=q'/\p=b/\k=k':=by
 have c:q=q':=by have d:=h.at_.rH;have e:=a.at_.rH;omega
 subst c;have d:=h.at_.ip;have e:=a.at_.ip;have f:=h.at_.sD;have g:=a.at_.sD;exact⟨rfl,AY,AY⟩
def cT(m:Model)(p k:Nat):ew:=((m.procs[p]?.map (·.cP[k]?)).join).getD ⟨⟨#[]⟩,0,0,[],[],false⟩
def Dh{m:Model}{p k:Nat}(a:p<m.procs.length)(b:k<m.procs[p].cP.length):cT m p k=m.procs[p].cP[k]:=by
 unfold cT;rw[List.getElem?_eq_getElem a];simp[b]
def gf.cin{m:Model}{ref:Int}{q p k:Nat}(h:gf m ref q p k):Fb (inner (m.procs[p]'(h.at_.aB)) (fm m)) (cT m p k):=by
 rw[Dh h.at_.aB h.at_.J];exact amb h.ok h.at_.aB h.at_.J
structure azN(m:Model)(ref:Int)(a b:List Int):Prop where
 there:∀q p k,gf m ref q p k->P9 (awK m q (cT m p k) (cT m p k).b6.length) a/\P9 (Wr m q (cT m p k) (cT m p k).b6.length) b
 none:¬Told m ref->a=[]/\b=[]
structure azL(m:Model)(ref:Int)(a:List Int):Prop where
 there:∀q p k,gf m ref q p k->P9 (ab4 m q (cT m p k)) a
 none:¬Told m ref->a=[]
def gh.HM{m:Model}(h:gh m):Ay m:=⟨by have:=h.procs;omega,λa b=>by have:=(h.proc a b).gT;omega⟩
end o
namespace Go.Proofs.R
open Go Go.RowKit ba o
def ahb(c:ew)(p l:B_)(w:A_)(f:ob w l c.b6) :
  EL F.Ng #[.agg (c.enc p l).toArray] w λq g=>q = .tuple #[.I (o.comm c.b6).1,.I (o.comm c.b6).2]/\Ext w g:=by
 obtain⟨v,x,rfl,y⟩:=f.form;refine bn E.Ng ?_;refine aa ?_;intro r z A s b;unfold ew.enc at b;refine aa ?_;refine K_ 4 c.b6.length [1] (λ_=>[]) () (λd _ g=>Ext r g/\o.comm c.b6=o.comm (c.b6.drop d)) aW aW ⟨Ext.refl _,Ah⟩ ?_;have t:=b;clear b;rintro d _ B C G ⟨h,a⟩;have b:=h.obj t;have e:=s.trans h;refine aa ?_;apply I_<;>intro H
 .have i:d<c.b6.length:=AY
  obtain⟨I,rfl⟩:=f.addr;obtain⟨J,K,j,L,M⟩:=f.at d i;rw[aaI i] at a;replace j:=j.ext e;unfold o.Act.enc at j;refine aa ?_;apply I_<;>intro m
  .refine aa ?_;intro u k;refine aa ?_;rw[a,if_pos (by simp[hU,m])];exact⟨aV,e.trans k⟩
  refine aa ?_;apply I_<;>intro n
  .refine aa ?_;intro u k;refine aa ?_;rw[a,if_pos (by simp[hU,n])];exact⟨aV,e.trans k⟩
  refine aa ?_;rw[if_neg (by simp[hU,m,n])] at a;exact⟨i,aV,(),by trivial,h,a⟩
 .refine aa ?_;rw[a,VQ AY];exact⟨aV,e⟩
def axG(c:ew)(e f dN:B_)(l:C_ eb)(w:A_)(g:ob w f c.b6)(b:oc w dN l) :
  EL F.Nh #[.agg (c.enc e f).toArray,dN] w λk m=>k = .I (o.ways c l)/\Ext w m:=by
 obtain⟨q,r,rfl,s⟩:=b.form;obtain⟨t,u,rfl,v⟩:=g.form;refine bn E.Nh ?_;refine aa ?_;intro n x y h z;refine aa ?_;refine J_ (ahb c e _ n (g.ext h)) ?_;rintro _ A ⟨rfl,p⟩;have a:=h.trans p;rw[o.ways];refine aa ?_;apply I_<;>intro i;rotate_left
 .refine aa ?_;rw[if_neg i];exact⟨aV,a⟩
 rw[if_pos i];refine aa ?_;apply I_<;>intro B;rotate_left
 .refine aa ?_;rw[hv (.inl AY)];exact⟨aV,a⟩
 refine aa ?_;apply I_<;>intro C;rotate_left
 .refine aa ?_;rw[hv (.inr AY)];exact⟨aV,a⟩
 rw[ik AY AY];obtain⟨G,rfl⟩:=b.addr;have j:(o.comm c.b6).2.toNat<l.length:=AY
 have H:=((b.at _ j).cells).ext a;refine aa ?_;refine M_ (o.comm c.b6).2.toNat AY j ?_;refine aa ?_;refine N_ (λd=>?_) (λd=>?_)
 .refine aa ?_;rw[if_pos d];exact⟨aV,a⟩
 .refine aa ?_;rw[if_neg (by simp[d])];exact⟨aV,a⟩
structure oj(w:World)(cs:List Value)(m:o.Model):Prop where
 ex:∃ms ys b5 mG,cs=ms++ys++[b5,mG]/\dU w ms m/\lM w ys (o.layout m)/\rS w b5 (o.insts m)/\Jq w mG (o.refs m)
theorem oj.ext{w w':A_}{cs:C_ B_}{m:o.Model}(a:Ext w w')(h:oj w cs m):oj w' cs m :=
 let ⟨ms,ys,b,c,d,e,f,g,i⟩:=h.ex; ⟨ms,ys,b,c,d,e.ext a,f.ext a,g.ext Flat.ext a,i.ext Flat.ext a⟩
def oj.form{w:A_}{cs:C_ B_}{m:o.Model}(h:oj w cs m):∃a b c d e f g i t u j k l bg n bj p q r s v x y z,
  cs=[.slice a m.scalars.length b,.slice c m.vars.length d,.slice e m.aA.length f,.slice g m.procs.length i,.slice t m.props.length u,
   .slice j (o.layout m).vars.length k,.slice l (o.layout m).aA.length bg,.slice n (o.layout m).insts.length bj,.I (o.layout m).cells,.slice p (o.layout m).aQ.length q,.slice r (o.layout m).ab.length s,.slice v (o.insts m).length x,.slice y (o.refs m).length z] /\
  dU w [.slice a m.scalars.length b,.slice c m.vars.length d,.slice e m.aA.length f,.slice g m.procs.length i,.slice t m.props.length u] m /\
  lM w [.slice j (o.layout m).vars.length k,.slice l (o.layout m).aA.length bg,.slice n (o.layout m).insts.length bj,.I (o.layout m).cells,.slice p (o.layout m).aQ.length q,.slice r (o.layout m).ab.length s] (o.layout m) /\
  a6 1 (Flat da) w (.slice j (o.layout m).vars.length k) (o.layout m).vars/\a6 1 (Flat da) w (.slice l (o.layout m).aA.length bg) (o.layout m).aA/\a6 1 (Flat da) w (.slice n (o.layout m).insts.length bj) (o.layout m).insts /\
  a6 1 (Flat da) w (.slice p (o.layout m).aQ.length q) (o.layout m).aQ/\a6 1 (Flat da) w (.slice r (o.layout m).ab.length s) (o.layout m).ab /\
  hI w (.slice a m.scalars.length b) m.scalars/\j1 w (.slice c m.vars.length d) m.vars/\oc w (.slice e m.aA.length f) m.aA/\sP w (.slice g m.procs.length i) m.procs /\
  rS w (.slice v (o.insts m).length x) (o.insts m)/\Jq w (.slice y (o.refs m).length z) (o.refs m):=by
 obtain⟨U,ys,V,W,rfl,A,B,C,G⟩:=h.ex;have H:=A;have I:=B;obtain⟨j,k,l,bg,n,bj,p,q,r,s,rfl,J,K,L,M,N⟩:=B.form;obtain⟨a,b,c,d,e,f,g,i,t,u,rfl,O,P,Q,S,X,_⟩:=A.form;obtain⟨v,x,rfl,_⟩:=C.form;obtain⟨y,z,rfl,_⟩:=G.form;exact⟨a,b,c,d,e,f,g,i,t,u,j,k,l,bg,n,bj,p,q,r,s,v,x,y,z,rfl,H,I,J,K,L,M,N,O,P,Q,S,C,G⟩
def awv(cs ys:C_ B_)(m:o.Model)(w:A_)(h:dU w cs m)(r:m.cB)(y:gh m)(s:lM w ys (o.layout m)) :
  EL F.NR #[.agg cs.toArray,.agg ys.toArray] w λz i=>(∃j k,z = .agg (cs++ys++[j,k]).toArray/\aT c9.enc T.c 2 w.heap.size i j (o.insts m)/\aT o.Ref.enc T.i 2 w.heap.size i k (o.refs m))/\Ext w i:=by
 have t:=h;have J:=s;obtain⟨K,L,M,bg,N,bj,O,P,Q,S,rfl,_⟩:=h.form;obtain⟨U,V,W,X,Y,Z,ab,ae,af,ag,rfl,_⟩:=s.form;refine bn E.NR ?_;refine aa ?_;intro ah ai aj u a;refine aa ?_;intro ak al an l e;replace a:=l.obj a;refine aa ?_;intro ao aq ar f b;have au:=cf b;replace a:=f.obj a;replace e:=f.obj e;have A:=(u.trans l).trans f;have av:=u.size;have aw:=l.size;refine aa ?_;intro B c;have n:=A.trans c;replace a:=c.obj a;replace e:=c.obj e;replace b:=c.obj b;refine aa ?_;refine J_ (EA _ m B (t.ext n) r) ?_;rintro j C ⟨v,d⟩;obtain⟨ax,ay,rfl,_⟩:=v.form;have p:=n.trans d;refine⟨d,?_⟩;refine aa ?_;refine J_ (awX _ m C (t.ext p) r y.HM) ?_;rintro k az ⟨x,g⟩;obtain⟨aB,aC,rfl,_⟩:=x.form;have G:=p.trans g;refine⟨d.trans g,?_⟩;replace b:=(d.trans g).obj b;refine aa ?_;intro H q aD;have I:Ext w H:=q.ext G AY;have aE:=f.size;have aF:=c.size;have aG:=d.size;refine aa ?_;exact⟨⟨_,_,rfl,aT.low n.size (aT.wr q AY (v.ext g)),aT.low p.size (aT.wr q AY x)⟩,I⟩
end Go.Proofs.R
namespace o
open Go
def Z3{m:Model}{c:Nat}(h:c<cH m):∃a:c<(bF m).length,AN m c=((bF m)[c].aQ,(bF m)[c].ab):=by
 have a:c<(bF m).length:=h;exact⟨a,by unfold AN;rw[List.getElem?_eq_getElem a]⟩
end o
namespace Go.Proofs.R
open Go Go.RowKit ba o
def azs:C_ B_:=[.slice none 0 0,.slice none 0 0,.slice none 0 0,.slice none 0 0,.slice none 0 0,.slice none 0 0,.slice none 0 0,.slice none 0 0,.int .i64 0,.slice none 0 0,.slice none 0 0,.slice none 0 0,.slice none 0 0]
def Vl(cs:C_ B_)(m:o.Model)(w:A_)(h:dU w cs m)(j:m.cB) :
  EL F.NU #[.agg cs.toArray] w λl n=>((¬(o.check m).bK=0/\l = .tuple #[.agg azs.toArray,.bool false])\/((o.check m).bK=0/\∃p,l = .tuple #[.agg p.toArray,.bool true]/\oj n p m))/\Ext w n:=by
 have c:=h;obtain⟨O,P,Q,bg,S,bj,U,V,W,X,rfl,_⟩:=h.form;refine bn E.NU ?_;refine aa ?_;intro Y Z ab q b;refine aa ?_;intro H ae af r a;have ag:=cf a;have ah:=q.size;replace b:=r.obj b;have s:=q.trans r;refine aa ?_;refine J_ (Vr _ m H (c.ext s) j) ?_;rintro _ ai ⟨rfl,d⟩;replace b:=d.obj b;replace a:=d.obj a;have t:=s.trans d;unfold zn;refine aa ?_;refine _d (v:=.I (o.check m).bK) rfl ?_;refine aa ?_;refine I_ (λe=>?_) (λe=>?_);rotate_left
 .refine aa ?_;intro u I aj;refine aa ?_;exact⟨.inl ⟨e,aV⟩,I.ext t AY⟩
 have v:=gA e;refine aa ?_;intro u f;replace b:=f.obj b;replace a:=f.obj a;have x:=t.trans f;refine aa ?_;refine J_ (ahg _ m u (c.ext x) j v) ?_;rintro _ J ⟨⟨ys,rfl,y⟩,g⟩;have z:=y.here;have A:=x.trans g;refine⟨g,?_⟩;refine aa ?_;refine J_ (awv _ ys m J (c.ext A) j v z) ?_;rintro _ ak ⟨⟨al,an,rfl,B,C⟩,k⟩;have K:=A.trans k;replace a:=(g.trans k).obj a;obtain⟨ao,aq,ar,au,av,aw,ax,ay,az,aB,rfl,_⟩:=z.form;obtain⟨aC,aD,rfl,_⟩:=B.form;obtain⟨aE,aF,rfl,_⟩:=C.form;have aG:=f.size;have aH:=d.size;have L:=g.size;have aI:=cf a;refine aa ?_;intro M i aJ;have G:Ext w M:=i.ext K AY;have N:=((y.ext k L).wr i AY).here;refine aa ?_;exact⟨.inr ⟨e,_,rfl,_,_,_,_,rfl,c.ext G,N,aT.lF (enc:=c9.enc) (λ_=>rfl) (aT.wr i AY B),aT.lF (enc:=o.Ref.enc) (λ_=>rfl) (aT.wr i AY C)⟩,G⟩
def Vi(cs:C_ B_)(m:o.Model)(ref:Int)(q p k:Nat)(w:A_)(h:oj w cs m)(a:gf m ref q p k) :
  EL F.NW #[.agg cs.toArray,.I ref] w λL M=>(∃g i,L = .agg ((cT m p k).enc g i).toArray/\fJ w g (cT m p k).guard/\ob w i (cT m p k).b6)/\Ext w M:=by
 obtain⟨Z,ab,ae,af,ag,ah,ai,aj,ak,al,an,ao,aq,bg,ar,bj,au,av,aw,ax,ay,az,aB,aC,rfl,_,_,_,_,_,_,_,_,_,_,t,u,v⟩:=h.form;have aD:=a.at_.ab;have j:=a.at_.aB;have x:=a.at_.J;have N:=a.at_.ip;obtain⟨e,rfl⟩:=Uh a.aQ;have aE:e<(o.refs m).length:=a.ab;have O:(o.refs m)[e].inst=(q:Int):=a.at_.rH;have P:(o.refs m)[e].cmd=(k:Int):=a.at_.sD;obtain⟨aF,rfl⟩:=v.addr;obtain⟨aG,rfl⟩:=u.addr;obtain⟨aH,rfl⟩:=t.addr;obtain⟨aI,aJ,dN,y,aK,l⟩:=t.at p j;obtain⟨aL,aP,rfl,aQ⟩:=l.form;obtain⟨aR,rfl⟩:=l.addr;obtain⟨aS,g,i,z,A,B⟩:=l.at k x;obtain⟨Q,S,rfl,_⟩:=A.form;obtain⟨U,V,rfl,_⟩:=B.form;unfold ed.enc at y;unfold ew.enc at z;refine bn E.NW ?_;refine aa ?_;intro aU aX aY C c;refine aa ?_;intro aZ a0 a1 G d;have a3:=cf d;have a5:=C.size;replace c:=G.obj c;have H:=C.trans G;have W:=v.ext Flat.ext H;refine aa ?_;intro a7 a8 a9 n r;have X:(o.refs m)[e].enc=[.I q,.I k]:=by unfold o.Ref.enc;rw[O,P]
 rw[X] at r;replace c:=n.obj c;replace d:=n.obj d;have f:=H.trans n;have I:=u.ext Flat.ext f;have J:=y.ext f;have K:=z.ext f;clear W;refine aa ?_;intro bb b;replace c:=b.obj c;replace d:=b.obj d;replace r:=b.obj r;replace I:=I.ext Flat.ext b;replace J:=J.ext b;replace K:=K.ext b;refine aa ?_;refine M_ p (by rw[N]) j ?_;refine aa ?_;intro bf Y bk;refine aa ?_;have s:=Dh j x;exact⟨⟨.slice Q (cT m p k).guard.length S,.slice U (cT m p k).b6.length V,by rw[s];rfl,by rw[s];exact A,by rw[s];exact B⟩,Y.ext (f.trans b) AY⟩
def Vn(cs:C_ B_)(v:B_)(m:o.Model)(s:C_ Int)(c:Nat)(w:A_)(h:oj w cs m)(d:gh m)(e:cl w v s)(q:s.length=cH m)(a:c<m.aA.length) :
  EL F.N0 #[.agg cs.toArray,v,.I c] w λn f=>cl f n (o.chanOf m s c)/\Ext w f:=by
 obtain⟨r,t,u,x,y,z,A,B,C,G,H,I,J,bg,K,bj,L,M,N,O,P,Q,S,U,rfl,_,_,V,g,W,X,Y,Z,ab,i,ae,af,ag⟩:=h.form;obtain⟨ah,ai,rfl,aj⟩:=e.form;obtain⟨ak,j⟩:=AS a;have al:=(d.chan _ (FA a)).cap;have an:=mj a;have ao:=o0 a;have aq:cH m<=64:=ij d;obtain⟨ar,rfl⟩:=g.addr;obtain⟨au,rfl⟩:=i.addr;have k:=(i.at c a).cells;refine bn E.N0 ?_;refine aa ?_;intro av aw ax b ay;have az:=g.ext Flat.ext b;replace k:=k.ext b;have p:=e.ext Flat.ext b;refine aa ?_;refine _X (k:=.i64) (k':=.i64) (bS m c) (bS m c+(1+gq m c)) p (by simp[dE,bR,j]) (by simp[dE,bR,j];omega) AY AY λaB aC l=>?_;refine aa ?_;refine⟨?_,b⟩;rw[show bS m c+(1+gq m c) - bS m c=1+gq m c from AY] at l ⊢;exact l
def ON(cs:C_ B_)(v:B_)(m:o.Model)(s:C_ Int)(c:Nat)(x n:Int)(w:A_)(h:oj w cs m)(p:gh m)(e:cl w v s)(y:s.length=cH m)(q:x=c)(r:c<cH m) :
  EL F.N2 #[.agg cs.toArray,v,.I x,.I n] w λb f=>((o.putAt m s c n=none/\b = .tuple #[.slice none 0 0,.bool false])\/(∃g i,o.putAt m s c n=some g/\b = .tuple #[i,.bool true]/\ft w.heap.size f i g))/\Ext w f:=by
 subst q;obtain⟨z,A,B,C,G,H,I,J,K,L,M,N,O,bg,P,bj,Q,S,U,V,W,X,Y,Z,rfl,_,_,ab,ae,af,j,k,ag,ah,ai,aj,ak,al⟩:=h.form;obtain⟨an,ao,rfl,aq⟩:=e.form;obtain⟨l,d⟩:=Z3 r;have ar:=MH m;have au:=MF m;have av:(bF m).length=cH m:=rfl;have aw:(o.layout m).aQ[c]' AY=(bF m)[c].aQ:=MG _ l;have ax:(o.layout m).ab[c]' AY=(bF m)[c].ab:=ME _ l;have ay:cH m<=64:=ij p;obtain⟨az,rfl⟩:=j.addr;obtain⟨aB,rfl⟩:=k.addr;refine bn E.N2 ?_;refine aa ?_;intro aC aD aE a aF;have aG:=j.ext Flat.ext a;have aH:=k.ext Flat.ext a;refine aa ?_;apply I_<;>intro aI
 .refine aa ?_;exact⟨.inl ⟨by unfold o.putAt;rw[d,if_pos (.inl (by simp only;omega))],aV⟩,a⟩
 refine aa ?_;apply I_<;>intro aJ
 .refine aa ?_;exact⟨.inl ⟨by unfold o.putAt;rw[d,if_pos (.inr (by simp only;omega))],aV⟩,a⟩
 refine aa ?_;refine J_ (ahc _ s c n _ (e.ext Flat.ext a) rfl AY AY) ?_;rintro b aK ⟨t,u⟩;refine aa ?_;exact⟨.inr ⟨_,_,by unfold o.putAt;rw[d,if_neg (by simp only;omega)],rfl,aT.low a.size t⟩,a.trans u⟩
def Vz(cs:C_ B_)(v k:B_)(m:o.Model)(s l:C_ Int)(c:Nat)(w:A_)(h:oj w cs m)(B:gh m)(n:cl w v s)(p:cl w k l)(X:s.length=cH m)(q:c<m.aA.length)(Y:l.length=1+gq m c) :
  EL F.N1 #[.agg cs.toArray,v,.I c,k] w λC r=>ft w.heap.size r C (hQ s (bS m c) l)/\Ext w r:=by
 obtain⟨Z,ab,ae,af,ag,ah,ai,aj,ak,al,an,ao,aq,bg,ar,bj,au,av,aw,ax,ay,az,aB,aC,rfl,_,_,aD,t,aE,aF,aG,aH,aI,aJ,aK,aL,aP⟩:=h.form;obtain⟨aQ,aR,rfl,aS⟩:=n.form;obtain⟨aU,aX,rfl,aY⟩:=p.form;obtain⟨aZ,u⟩:=AS q;have a0:=mj q;have a1:cH m<=64:=ij B;obtain⟨a3,rfl⟩:=t.addr;refine bn E.N1 ?_;refine aa ?_;intro a5 a7 a8 d a9;have bb:=t.ext Flat.ext d;have G:=n.ext Flat.ext d;have H:=p.ext Flat.ext d;refine aa ?_;intro e g;have x:=G.ext Flat.ext g;have I:=H.ext Flat.ext g;have y:=d.trans g;refine aa ?_;refine AB0 (k:=.i64) (bS m c) x (by simp[dE,bR,u]) AY λbf bk J=>?_;refine aa ?_;refine _m (k:=.i64) (bS m c+l.length) x (by simp[dE,bR,u]) AY λbl g5 K=>?_;refine aa ?_;intro L M N i O;have z:ft e.heap.size L (.slice (some ⟨M,0,none⟩) 0 0) []:=aT.empty N O;have bo:(s.take (bS m c)).length<=64:=by rw[IP];omega
 have bp:(s.drop (bS m c+l.length)).length<=64:=by rw[AG7];omega
 refine aa ?_;refine _Z z (J.ext Flat.ext i) (λ_=>rfl) j8 (by simp only[List.length_nil];omega) (by simp only[List.length_nil];unfold maxLen;omega) i.size λbq P f Q=>?_;have dT:Ext e P:=i.grown Q λa b=>(z.lt a b).1;rw[AH9] at f;obtain⟨bt,bu,rfl,_⟩:=f.form;refine aa ?_;refine _Z f (I.ext Flat.ext dT) (λ_=>rfl) j8 AY (by unfold maxLen;omega) dT.size λbw S j U=>?_;have hA:Ext e S:=dT.grown U λa b=>(f.lt a b).1;obtain⟨bx,bz,rfl,_⟩:=j.form;refine aa ?_;refine _Z j (K.ext Flat.ext hA) (λ_=>rfl) j8 (by rw[JM];omega) (by rw[JM];unfold maxLen;omega) hA.size λbA V A W=>?_;have ko:Ext e V:=hA.grown W λa b=>(j.lt a b).1;obtain⟨bB,bC,rfl,_⟩:=A.form;refine aa ?_;exact⟨aT.low y.size A,y.trans ko⟩
def wS(w:A_)(a:Addr)(g:C_ (C_ Int)):Prop := ∃b,w.cell? a=some b/\gS w b g
def ajC(w:A_)(cs:C_ B_)(g:C_ (C_ Int)):Prop := ∃a,cs=[a]/\gS w a g
def auG(w w':A_)(a:Addr)(l:C_ Int)(e:Ext w w')(h:oT w a l):oT w' a l:=let ⟨b,c,d⟩:=h; ⟨b,e.cell c,d.ext Flat.ext e⟩
def iR{w w':A_}{v:B_}{g:C_ (C_ Int)}(e:Ext w w')(h:gS w v g):gS w' v g:=a6.ext auG e h
instance aBZ:Rel wS ajC 1 where
 out h:=by
  obtain⟨v,I,U⟩:=h;exact⟨[v],λj u av=>by cases j with | zero=>simp at av;subst av;rw[add_zero];exact I | succ j=>simp at av,v,rfl,U⟩
 kx h k:=by
  obtain⟨v,rfl,k⟩:=k
  have:=h 0 v rfl
  rw[add_zero] at this;exact⟨v,this,k⟩
 len h:=by obtain⟨v,rfl,_⟩:=h;rfl
 one h:=by obtain⟨v,rfl,h⟩:=h;simpa using h.one
 ext e h:=let ⟨v,I,U⟩:=h; ⟨v,I,iR e U⟩
def A5(w w':A_)(a:Addr)(g:C_ (C_ Int))(e:Ext w w')(h:wS w a g):wS w' a g:=let ⟨b,c,d⟩:=h; ⟨b,e.cell c,iR e d⟩
abbrev wT(w:A_)(v:B_)(Q:C_ (C_ (C_ Int))):Prop:=a6 1 wS w v Q
structure oi(A:Nat->Prop)(w:World)(v:Value)(g:List (List Int)):Prop where
 ex:∃bL:List (hz 1),bL.length=g.length/\gJ A (λW=>a6 1 (Flat kE) W v bL) w/\∀i (I:i<bL.length) (U:i<g.length),∃u,bL[i].1=[u]/\gJ A (λW=>cl W u g[i]) w
structure Fu(A:Nat->Prop)(w:World)(v:Value)(Q:List (List (List Int))):Prop where
 ex:∃bL:List (hz 1),bL.length=Q.length/\gJ A (λW=>a6 1 (Flat kE) W v bL) w/\∀i (I:i<bL.length) (U:i<Q.length),∃u,bL[i].1=[u]/\oi A w u Q[i]
def oi.move{A A' B:Nat->Prop}{w w':A_}{v:B_}{g:C_ (C_ Int)}(h:oi B w v g)(m:Mod A w w')(b:∀a,a<w.heap.size->A a->B a)(c:∀a,a<w.heap.size->A' a->B a):oi A' w' v g :=
 let ⟨d,e,f,i⟩:=h.ex
 ⟨d,e,f.move m b c,λa j k=>let ⟨l,n,p⟩:=i a j k; ⟨l,n,p.move m b c⟩⟩
def oi.UP{A:Nat->Prop}{w:A_}{v:B_}{g:C_ (C_ Int)}(h:oi A w v g):gS w v g :=
 let ⟨_,a,b,c⟩:=h.ex
 a6.B9 a b.here λd e f=>let ⟨i,j,k⟩:=c d e f; ⟨i,j,k.here⟩
def Fu.RJ{A:Nat->Prop}{w:A_}{v:B_}{Q:C_ (C_ (C_ Int))}(h:Fu A w v Q):wT w v Q :=
 let ⟨_,a,b,c⟩:=h.ex
 a6.B9 a b.here λd e f=>let ⟨g,i,j⟩:=c d e f; ⟨g,i,j.UP⟩
def ey.ayi{e:F_}{base c:Nat}{w:A_}{v:B_}{g:C_ (C_ Int)}(h:ey q3 e 1 base w v g)(z:c<=base):oi (λb=>b<c) w v g:=by
 obtain⟨n,p,d,f⟩:=h.ex;refine⟨n,p,λi a=>(d.mod a λb q r=>?_).im iZ,λj k l=>?_⟩
 .have:=d.lt b q
  omega
 .obtain⟨s,hu,_⟩:=(f j k l).here;refine⟨s,hu,λi a=>?_⟩;obtain⟨A,m,t⟩:=(f j k l) i ⟨a.os,a.tape,a.output,a.size,λu x y=>a.block u x λr=>y (.inr AY)⟩;rw[hu] at m;cases m;exact t
structure oW(e:TypeId)(fN base:Nat)(w:World)(v:Value)(Q:List (List (List Int))):Prop where
 ex:∃bL:List (hz 1),bL.length=Q.length/\og e 1 base w v bL/\∀i (I:i<bL.length) (U:i<Q.length),∃u,bL[i].1=[u]/\oi (rV v fN) w u Q[i]
def oW.nil(e:F_)(a base:Nat)(w:A_):oW e a base w (.slice none 0 0) []:=⟨[],rfl,aT.nil _ _ _ _ _,λc b=>by cases b⟩
def oW.form{e:F_}{c base:Nat}{w:A_}{v:B_}{Q:C_ (C_ (C_ Int))}(h:oW e c base w v Q):∃b a,v = .slice b Q.length a/\Q.length<=a/\a<=maxLen:=by
 obtain⟨j,d,f,_⟩:=h.ex;obtain⟨b,a,g,k,i⟩:=f.form;exact⟨b,a,by rw[g,d],AY,i⟩
def oW.lt{e:F_}{b base:Nat}{w:A_}{v:B_}{Q:C_ (C_ (C_ Int))}(h:oW e b base w v Q):∀a,v.ownBlock=some a->base<=a/\a<w.heap.size:=by
 obtain⟨d,f,c,_⟩:=h.ex;exact c.lt
theorem oW.ext{e:F_}{b base:Nat}{w w':A_}{v:B_}{Q:C_ (C_ (C_ Int))}(h:oW e b base w v Q)(m:Ext w w'):oW e b base w' v Q:=by
 obtain⟨c,d,f,g⟩:=h.ex;exact⟨c,d,f.ext m,λi j k=>let ⟨l,e,n⟩:=g i j k; ⟨l,e,n.move (A:=λ_=>False) m.mod (λ_ _ a=>a.elim) λ_ _ a=>a⟩⟩
def oW.V2{e:F_}{c base:Nat}{w:A_}{v:B_}{Q:C_ (C_ (C_ Int))}(h:oW e c base w v Q)(q:c<=base):Fu (λa=>a<c) w v Q:=by
 obtain⟨f,g,d,i⟩:=h.ex;refine⟨f,g,λr j=>(d.mod j λa k b=>?_).im iZ,λl m n=>let ⟨p,e,a⟩:=i l m n; ⟨p,e,a.move (A:=λ_=>False) (Mod.refl _ _) (λ_ _ b=>b.elim) λ_ _ b=>.inr b⟩⟩
 have:=d.lt a k
 omega
def oW.h9{e:F_}{a base:Nat}{w0 w w':A_}{v:B_}{Q:C_ (C_ (C_ Int))}(b:oW e a base w v Q)(c:Ext w0 w)(d:w.grownBy w' v.ownBlock)(f:w0.heap.size<=base):Ext w0 w':=c.grown d λg h=>Ug f (b.lt g h).1
def _root_.ba.K.aks{P:D_}{u:B_->A_->Prop}{e:F_}{c base:Nat}{w:A_}{v:B_}{Q:C_ (C_ (C_ Int))}{B:F_}{b x:Nat}{a:B_}{g:C_ (C_ Int)}{t}(C:oW e c base w v Q)(G:w.heap[x]? = some (.cells #[a] e))(H:oi (rV v c) w a g)(k:a.oneCell'=true)
  (I:(Q.length+1)*b<=140737488355328)(J:Q.length+1<=maxLen)(K:base<=w.heap.size)(Y:c<=base)
  (l:∀j d,oW e c base d j (Q++[g])->w.grownBy d v.ownBlock->u j d):lJ P B e 1 b v (.slice (some ⟨x,0,none⟩) 1 1) w u t:=by
 obtain⟨m,q,L,M⟩:=C.ex;refine _I (enc:=kE) (ys:=[(⟨[a],rfl,by simpa using k⟩:hz 1)]) L iZ (by simpa[kE] using g5 G) rfl vD (by rw[q];exact I) (by rw[q];exact J) K λj d N y O=>l j d ⟨m++[⟨[a],rfl,by simpa using k⟩],by simp[q],N,λf k S=>?_⟩ y;have U:Mod (λh=>v.ownBlock=some h) w d:=Mod.grown y λh l=>l;have V:∀h,h<w.heap.size->j.ownBlock=some h->rV v c h:=λh l n=>by
  rcases O with e | e
  .exact .inl (e ▸ n)
  .rw[e] at n;injection n with n;omega
 have z:∀{a g},oi (rV v c) w a g->oi (rV j c) d a g:=λW=>W.move U (λf _ i=>.inl i) λf p i=>by
  rcases i with i | i
  .exact V f p i
  .exact .inr i
 rw[JM] at k S;by_cases p:f<m.length
 .have A:f<Q.length:=AY
  obtain⟨X,r,s⟩:=M f p A;exact⟨X,by simpa[List.getElem_append,p] using r,by simpa[List.getElem_append,A] using z s⟩
 .have r:f=m.length:=by simp at k;omega
  subst r;have s:¬m.length<Q.length:=AY
  exact⟨a,Ah,by simpa[List.getElem_append,s] using z H⟩
end Go.Proofs.R
namespace o
open Go
def ais(a:C_ (C_ (C_ Int)))(n:Nat):C_ (C_ (C_ Int)):=a.flatMap λb=>(sB n).map λc=>b++[c]
def al2(s:C_ Scalar)(k:Nat):C_ (C_ (C_ Int)):=((lE s).take k).foldl ais [[]]
def aye(a:C_ (C_ (C_ Int)))(n i j:Nat):C_ (C_ (C_ Int)):=ais (a.take i) n++((sB n).take j).map λb=>(a[i]?.getD [])++[b]
end o
namespace Go.Proofs.R
open Go Go.RowKit ba o
attribute [local irreducible] sB al2 aye ep
structure azW(w:World)(zs:List Value)(m:o.Model):Prop where
 ex:∃ys dN ff,zs=ys++[dN,ff]/\ys.length=13/\oj w ys m/\a6 6 (Flat o.Cell.enc) w dN (bF m)/\wT w ff (ep m.scalars)
end Go.Proofs.R
namespace o
open Go
def Et(m:Model)(p:Int):Int:=match m.procs[p.toNat]? with | some a=>a.over | none=>0
def HG(m:Model)(f:Int->Int->Int)(q:Nat):Nat:=match (insts m)[q]? with
 | some a=>(insts m).idxOf ⟨a.proc,f (Et m a.proc) a.elem⟩
 | none=>q
def JR(m:Model)(f:Int->Int->Int)(c:Nat):Nat:=match (bF m)[c]? with
 | some a=>if a.sort=1 then dS m a.jg.toNat+(f (match m.vars[a.jg.toNat]? with | some b=>b.over | none=>0) (a.place+1) - 1).toNat
  else if a.sort=3 then b7 m (HG m f a.jg.toNat)+a.place.toNat else c
 | none=>c
def asL(m:Model):(insts m).Nodup:=by
 refine(Ml (m:=m) m.procs 0).1.imp λ{c d} a b=>?_;subst b;exact absurd a (AK3 _)
theorem jD.g{m:Model}{f:Int->Int->Int}{q q' p:Nat}(h:jD m f q q' p):HG m f q=q':=by
 have b:(insts m)[q']'h.b.ax=⟨((insts m)[q]'h.a.ax).proc,f (Et m ((insts m)[q]'h.a.ax).proc) ((insts m)[q]'h.a.ax).elem⟩:=by
  have c:=h.elem;have a:=h.a.eq;have d:=h.b.eq;have e:Et m ((insts m)[q]'h.a.ax).proc=(m.procs[p]'h.a.aB).over:=by
   unfold Et;rw[a,AG2,List.getElem?_eq_getElem h.a.aB]
  rw[e,<-c,a,<-d]
 unfold HG;rw[List.getElem?_eq_getElem h.a.ax];simp only;rw[<-b];exact(asL m).idxOf_getElem q' h.b.ax
theorem gI.g{m:Model}{f:Int->Int->Int}{c b:Nat}(h:gI m f c b):JR m f c=b:=by
 unfold JR;cases h with
 | @var g d i h a e =>
  rw[sq h a];simp only[if_true,Int.toNat_natCast];rw[List.getElem?_eq_getElem h];simp only;rw[e];omega
 | chan h a=>rw[uN h a];rfl
 | @inst j k l d h a =>
  rw[ps h.a a];simp only[Int.toNat_natCast,h.g];rfl
def Fw(m:Model)(f b:Int->Int->Int)(s:C_ Int):C_ Int:=(List.range (cH m)).map λa=>fp f (pY m a) (s.getD (JR m b a) 0)
def aj1{m:Model}{f b:Int->Int->Int}(a:eD m.scalars f b){s:C_ Int}(d:s.length=cH m):fB m f s (Fw m f b s):=⟨d,by simp[Fw],λg h c=>by
 obtain⟨i,e⟩:=c.lt a;unfold Fw;rw[List.getElem?_map,List.getElem?_range e,AI5,(c.symm a).g,c.kind a,List.getD,List.getElem?_eq_getElem AY];rfl⟩
def hj(m:Model)(g:C_ (C_ Int))(s:C_ Int):C_ Int:=Fw m (gK g) (gK (l1 g)) s
def yX{m:Model}(a:(check m).bK=0){g:C_ (C_ Int)}(b:fU m.scalars g){s:C_ Int}(c:s.length=cH m):fB m (gK g) s (hj m g s):=aj1 (b.pz (jX a)) c
def C1{m:Model}(a:(check m).bK=0){g:C_ (C_ Int)}(b:fU m.scalars g){s t:C_ Int}(h:fB m (gK g) s t):t=hj m g s:=h.eq (gA a) (b.pz (jX a)) (yX a b h.ls)
def aj2{m:Model}(e:(check m).bK=0){s:C_ Int}(f:s.length=cH m):hj m (BN m.scalars) s=s:=by
 refine(C1 e (HF _) ⟨f,f,λp g h=>?_⟩).symm;have v:=(HF m.scalars).pz (jX e);rw[amR] at h ⊢;have b:g=p:=by
  cases h with
  | @var w i q a r j =>
   have j:(i:Int)+1=q+1:=j;omega
  | chan=>rfl
  | @inst c d x i a r =>
   have:c=d:=Mk a.a.ax a.b.ax (by
    have k:((insts m)[d]'a.b.ax).elem=((insts m)[c]'a.a.ax).elem:=a.elem;have l:=a.a.eq;have n:=a.b.eq;generalize (insts m)[c]'a.a.ax=t at *;generalize (insts m)[d]'a.b.ax=u at *;cases t;cases u;simp only at k l n;rw[k,l,n])
   rw[this]
 subst b
 have:fp (λ_ b=>b) (pY m g)=id:=by
  funext y;unfold fp;split<;>rfl
 rw[this,Option.map_id];rfl
def Jx{m:Model}(a:(check m).bK=0){g h:C_ (C_ Int)}(b:fU m.scalars g)(c:fU m.scalars h){s:C_ Int}(f:s.length=cH m):hj m h (hj m g s)=hj m (uV g h) s:=by
 have d:=yX a b f;have i:=yX a c d.lt;have e:=d.trans (b.pz (jX a)) (c.pz (jX a)) i;rw[<-amS b c] at e;exact C1 a (B2 b c) e
def Zy{m:Model}(a:(check m).bK=0){g:C_ (C_ Int)}(b:fU m.scalars g){s:C_ Int}(c:s.length=cH m):hj m (l1 g) (hj m g s)=s:=by
 have d:=yX a b c;exact(C1 a (x5 b) (d.symm (b.pz (jX a)))).symm
def C2(m:Model)(g:C_ (C_ Int))(s:C_ Int):(hj m g s).length=cH m:=by simp[hj,Fw]
def Qh{m:Model}(a:(check m).bK=0){g:C_ (C_ Int)}(b:fU m.scalars g){s:C_ Int}(c:Fits m s):Fits m (hj m g s):=(yX a b c.len).fits (gA a) (b.pz (jX a)) c
def kg:C_ Int->C_ Int->Bool
 | _,[]=>false
 | [],_ :: _=>true
 | a :: c,b :: d=>if a=b then kg c d else decide (a<b)
theorem HV:∀a,kg a a=false
 | []=>rfl
 | a :: b=>by simp only[kg,if_true];exact HV b
theorem Uq:∀b c e,kg b c=true->kg c e=true->kg b e=true
 | b,c,[],_,a=>by cases c<;>simp[kg] at a
 | b,[],e,a,_=>by cases b<;>simp[kg] at a
 | [],_ :: _,_ :: _,_,_=>rfl
 | j :: b,h :: c,i :: e,a,d=>by
  simp only[kg] at a d ⊢;by_cases g:j=h
  .rw[if_pos g] at a;by_cases f:h=i
   .rw[if_pos f] at d;rw[if_pos (g.trans f)];exact Uq b c e a d
   .rw[if_neg f] at d;rw[if_neg AY,g];exact d
  .rw[if_neg g,decide_eq_true_eq] at a;by_cases f:h=i
   .rw[if_neg AY,decide_eq_true_eq];omega
   .rw[if_neg f,decide_eq_true_eq] at d;rw[if_neg AY,decide_eq_true_eq];omega
theorem Up:∀b c,kg b c=false->kg c b=false->b=c
 | [],[],_,_=>rfl
 | [],_ :: _,a,_=>by cases a
 | _ :: _,[],_,a=>by cases a
 | f :: b,g :: c,a,e=>by
  simp only[kg] at a e;by_cases d:f=g
  .rw[if_pos d] at a;rw[if_pos d.symm] at e;rw[d,Up b c a e]
  .rw[if_neg d,decide_eq_false_iff_not] at a;rw[if_neg (Ne.symm d),decide_eq_false_iff_not] at e;omega
def pZ(a b:C_ Int):C_ Int:=if kg b a=true then b else a
def p0(a:C_ Int)(l:C_ (C_ Int)):C_ Int:=l.foldl pZ a
theorem UA:∀(b:C_ (C_ Int)) (a:C_ Int),p0 a b∈a :: b/\∀f∈a :: b,kg f (p0 a b)=false
 | [],a=>⟨AG3 ..,λf d=>by
  rw[AH0] at d;subst d;exact HV _⟩
 | c :: b,a=>by
  obtain⟨m,j⟩:=UA b (pZ a c);have n:p0 a (c :: b)=p0 (pZ a c) b:=rfl;rw[n];have p:=j _ (AG3 ..);refine⟨?_,λf d=>?_⟩
  .rcases List.mem_cons.1 m with e | e
   .rw[e];unfold pZ;split
    .simp
    .simp
   .simp[e]
  .have key:∀h,kg h (pZ a c)=false->kg h (p0 (pZ a c) b)=false:=λh i=>by
    cases g:kg h (p0 (pZ a c) b) with
    | false=>rfl
    | true =>
     by_cases k:pZ a c=p0 (pZ a c) b
     .rw[<-k,i] at g;cases g
     .cases l:kg (p0 (pZ a c) b) (pZ a c) with
      | true=>rw[Uq _ _ _ g l] at i;cases i
      | false=>exact absurd (Up _ _ p l) k
   simp only[List.mem_cons] at d;rcases d with rfl | rfl | d
   .refine key _ ?_;unfold pZ;split
    .rename_i e;cases g:kg f c with
     | false=>rfl
     | true =>
      have:=Uq _ _ _ g e
      rw[HV] at this;cases this
    .exact HV _
   .refine key _ ?_;unfold pZ;split
    .exact HV _
    .rename_i e;simpa using e
   .exact j f (AG4 _ d)
def aub{P:C_ Int->Prop}{a b:C_ Int}(d:P a)(e:P b)(f:∀c,P c->kg c a=false)(g:∀c,P c->kg c b=false):a=b:=Up _ _ (g a d) (f b e)
def fb(m:Model)(s:C_ Int):C_ Int:=p0 s ((ep m.scalars).map λa=>hj m a s)
def Alike(m:Model)(s t:C_ Int):Prop := ∃a,fU m.scalars a/\t=hj m a s
def AT{m:Model}(e:(check m).bK=0){s:C_ Int}(g:s.length=cH m):Alike m s (fb m s)/\∀b,Alike m s b->kg b (fb m s)=false:=by
 have f:=jX e;obtain⟨h,i⟩:=UA ((ep m.scalars).map λa=>hj m a s) s;refine⟨?_,λb j=>?_⟩
 .rcases List.mem_cons.1 h with c | c
  .exact⟨BN m.scalars,HF _,by rw[aj2 e g];exact c⟩
  .obtain⟨a,d,k⟩:=List.mem_map.1 c;exact⟨a,(uT f).1 d,k.symm⟩
 .obtain⟨a,d,rfl⟩:=j;exact i _ (AG4 _ (List.mem_map.2 ⟨a,(uT f).2 d,rfl⟩))
def ZL{m:Model}(c:(check m).bK=0){s:C_ Int}(e:s.length=cH m){g:C_ (C_ Int)}(a:fU m.scalars g){t:C_ Int}:Alike m (hj m g s) t↔Alike m s t:=by
 constructor
 .rintro⟨d,b,rfl⟩;exact⟨uV g d,B2 a b,Jx c a b e⟩
 .rintro⟨d,b,rfl⟩;refine⟨uV (l1 g) d,B2 (x5 a) b,?_⟩;rw[<-Jx c (x5 a) b (C2 ..),Zy c a e]
def ala{m:Model}(a:(check m).bK=0){s:C_ Int}(b:s.length=cH m){g:C_ (C_ Int)}(c:fU m.scalars g):fb m (hj m g s)=fb m s:=by
 obtain⟨d,e⟩:=AT a b;obtain⟨f,h⟩:=AT a (s:=hj m g s) (C2 ..);exact aub (P:=Alike m s) ((ZL a b c).1 f) d (λi j=>h i ((ZL a b c).2 j)) e
def aam{m:Model}(a:(check m).bK=0){s:C_ Int}(b:Fits m s):Fits m (fb m s):=by
 obtain⟨⟨e,c,d⟩,_⟩:=AT a b.len;rw[d];exact Qh a c b
def vx(m:Model)(s:C_ Int):C_ (C_ Int):=((ep m.scalars).find? λa=>decide (hj m a s=fb m s)).getD []
theorem QP{m:Model}(a:(check m).bK=0){s:C_ Int}(d:s.length=cH m):fU m.scalars (vx m s)/\hj m (vx m s) s=fb m s:=by
 obtain⟨⟨b,e,f⟩,_⟩:=AT a d;unfold vx;cases c:(ep m.scalars).find? λb=>decide (hj m b s=fb m s) with
 | none =>
  have:=List.find?_eq_none.1 c b ((uT (jX a)).2 e)
  simp[f] at this
 | some i =>
  have g:=List.mem_of_find?_eq_some c;have h:=List.find?_some c;exact⟨(uT (jX a)).1 g,by simpa using h⟩
end o