/- The plain law. -/
import Derived.Test.YthikoaamigiceaaDoorJ
namespace Go.Proofs.YthikoaamigiceaaDoor
open Go.Tw
set_option linter.unusedSimpArgs false
set_option linter.unusedVariables false
theorem gml_zero:∀ (n:Nat) (a:UInt8),gml n a 0=0
 | 0,_=>rfl
 | n + 1,a=>by
  have h:bit0 0 a=0:=rfl
  have h2:(0:UInt8) >>> 1=0:=rfl
  simp only [gml,h,h2,gml_zero n,xx]
theorem shr1_lt {n:Nat} {b:UInt8} (h:b.toNat < 2 ^ (n + 1)):(b >>> 1).toNat < 2 ^ n:=by
 have:(b >>> 1).toNat=b.toNat / 2:=by
  simp [UInt8.toNat_shiftRight,Nat.shiftRight_eq_div_pow]
 rw [this,Nat.pow_succ] at *
 omega
theorem sh8 (b:UInt8):shr8 b ((UInt64.ofNat 1).toNat)=b >>> 1:=allU (p:=fun b=>shr8 b ((UInt64.ofNat 1).toNat)=b >>> 1) (by decide +kernel) b
theorem dbl114 (F:Nat) (a:UInt8):T114 F a=some (gd a):=allU (p:=fun a=>T114 F a=some (gd a)) (by intro i;revert i;show ∀ i:_root_.Fin 256,T114 0 (UInt8.ofNat i.val)=some (gd (UInt8.ofNat i.val));decide +kernel) a
theorem t106_step (F:Nat) (a b c:UInt8):L106_2 F a b c=bif b != 0 then some (.inl (gd a,b >>> 1,c ^^^ bit0 b a)) else some (.inr c):=by
 simp only [L106_2,L106_2c,dbl114,Option.bind_some,sh8]
 have e0:(b != UInt8.ofNat 0)=(b != 0):=rfl
 have e1:((b &&& UInt8.ofNat 1) == UInt8.ofNat 1)=((b &&& 1) == 1):=rfl
 rw [e0,e1]
 unfold bit0
 cases b != 0<;>cases (b &&& 1) == 1<;>simp [xz]
theorem loop106 (F:Nat):∀ (n fuel:Nat) (a b c:UInt8),b.toNat < 2 ^ n->n < fuel->iter (fun s:UInt8×UInt8×UInt8=>L106_2 F s.1 s.2.1 s.2.2) fuel (a,b,c)=some (c ^^^ gml n a b)
 | 0,fuel + 1,a,b,c,hb,hf=>by
  have:b=0:=by apply UInt8.toNat_inj.1;simp at hb;simpa using hb
  subst this
  show (L106_2 F a 0 c).bind _=_
  rw [t106_step]
  simp [gml,xz]
 | n + 1,fuel + 1,a,b,c,hb,hf=>by
  show (L106_2 F a b c).bind _=_
  rw [t106_step]
  cases h0:b != 0 with
  | false=>
   have:b=0:=by simpa using h0
   subst this
   simp only [cond_false,Option.bind_some,gml_zero,xz]
  | true=>
   simp only [cond_true,Option.bind_some]
   rw [loop106 F n fuel (gd a) (b >>> 1) (c ^^^ bit0 b a) (shr1_lt hb) (by omega)]
   simp only [gml,UInt8.xor_assoc]
theorem mul106 {F:Nat} (hF:20 < F) (a b:UInt8):T106 F a b=some (gm a b):=by
 have h:=loop106 F 8 F a b 0 (by have:=b.toNat_lt;simpa using this) (by omega)
 have h:iter (fun s:UInt8×UInt8×UInt8=>L106_2 F s.1 s.2.1 s.2.2) F (a,b,UInt8.ofNat 0)=some ((0:UInt8) ^^^ gml 8 a b):=h
 simp only [T106,T106c,h,Option.bind_some,zx]
 rfl
def gpow (x:UInt8):Nat->UInt8
 | 0=>1
 | n + 1=>gm (gpow x n) x
theorem inbN {n i:Nat} (h:i < n):inb n ((i:Nat):Int)=some i:=inb_nat h
theorem ofI8 {i:Nat} (h:i < 16):UInt8.ofInt ((i:Nat):Int)=UInt8.ofNat i∧UInt8.ofInt (w64 (((i:Nat):Int) * 2 ^ min ((UInt64.ofNat 4).toNat) 64))=UInt8.ofNat (16 * i):=by
 have:∀ i:_root_.Fin 16,UInt8.ofInt ((i.val:Nat):Int)=UInt8.ofNat i.val∧UInt8.ofInt (w64 (((i.val:Nat):Int) * 2 ^ min ((UInt64.ofNat 4).toNat) 64))=UInt8.ofNat (16 * i.val):=by decide +kernel
 exact this ⟨i,h⟩
theorem tab109 {F:Nat} (hF:50 < F) (c:UInt8):∃ u v:Vector UInt8 16,T109 F c=some (u,v)∧∀ (i:Nat) (h:i < 16),u[i]=gm c (UInt8.ofNat i)∧v[i]=gm c (UInt8.ofNat (16 * i)):=by
 obtain ⟨r,h1,h2⟩:=iter1 (f:=fun s:Int×Vector UInt8 16×Vector UInt8 16=>L109_2 F c s.1 s.2.1 s.2.2)
  (fun s=>∃ n:Nat,n≤16∧s.1=n∧∀ (i:Nat) (h:i < 16),i < n->s.2.1[i]=gm c (UInt8.ofNat i)∧s.2.2[i]=gm c (UInt8.ofNat (16 * i)))
  (fun r=>∀ (i:Nat) (h:i < 16),r.1[i]=gm c (UInt8.ofNat i)∧r.2[i]=gm c (UInt8.ofNat (16 * i)))
  (fun s=>(16 - s.1).toNat) (fun s ⟨n,hn,hs,hr⟩=>by
   obtain ⟨s1,s2,s3⟩:=s
   simp only at hs hr
   subst hs
   rcases Nat.lt_or_ge n 16 with hlt | hge
   ·left
    have h:((n:Nat):Int) < 16:=by omega
    have hw:w64 (((n:Nat):Int) + 1)=((n + 1:Nat):Int):=by rw [w64_in (by omega) (by omega)];omega
    obtain ⟨o1,o2⟩:=ofI8 hlt
    refine ⟨_,by simp only [L109_2,L109_2c,h,decide_true,cond_true,o1,o2,mul106 (show 20 < F by omega),Option.bind_some,inbN hlt,hw];rfl,⟨n + 1,by omega,rfl,fun i hi hin=>?_⟩,by simp only;omega⟩
    simp only [Vector.getElem_setIfInBounds]
    by_cases hin2:n=i
    ·subst hin2;simp
    ·simp only [hin2,if_false];exact hr i hi (by omega)
   ·right
    have:n=16:=by omega
    subst this
    have h:¬ (((16:Nat):Int) < 16):=by omega
    exact ⟨_,by simp only [L109_2,L109_2c,h,decide_false,cond_false];rfl,fun i hi=>hr i hi hi⟩)
  F ((0:Int),(Vector.replicate 16 (0:UInt8)),(Vector.replicate 16 (0:UInt8))) ⟨0,by omega,rfl,fun i hi h=>by omega⟩ (by simp;omega)
 exact ⟨r.1,r.2,by simp only [T109,T109c,h1,Option.bind_some],h2⟩
theorem split4 (b:UInt8):b=UInt8.ofNat (b &&& 15).toNat ^^^ UInt8.ofNat (16 * (shr8 b ((UInt64.ofNat 4).toNat)).toNat)∧(b &&& UInt8.ofNat 15).toNat < 16∧(shr8 b ((UInt64.ofNat 4).toNat)).toNat < 16:=
 allU (p:=fun b=>b=UInt8.ofNat (b &&& 15).toNat ^^^ UInt8.ofNat (16 * (shr8 b ((UInt64.ofNat 4).toNat)).toNat)∧(b &&& UInt8.ofNat 15).toNat < 16∧(shr8 b ((UInt64.ofNat 4).toNat)).toNat < 16) (by decide +kernel) b
theorem by116 (F:Nat) {c b:UInt8} {u v:Vector UInt8 16} (h:∀ (i:Nat) (h:i < 16),u[i]=gm c (UInt8.ofNat i)∧v[i]=gm c (UInt8.ofNat (16 * i))):T116 F b u v=some (gm c b):=by
 obtain ⟨h1,h2,h3⟩:=split4 b
 simp only [T116,T116c,vix_nat h2,vix_nat h3,Option.bind_some,(h _ h2).1,(h _ h3).2,← gm_right]
 congr 2
 exact h1.symm
theorem ixU {l:List UInt8} {i:Nat} (h:i < l.length):ix l ((i:Nat):Int)=some l[i]:=ix_nat h
theorem ixG {α:Type} {l:List α} {i:Nat} (h:i < l.length):ix l ((i:Nat):Int)=some l[i]:=by
 unfold ix;rw [if_pos (by omega)];simp only [Int.toNat_natCast];exact List.getElem?_eq_getElem h
theorem w64s {n:Nat} (h:n < 1000000000):w64 (((n:Nat):Int) + 1)=((n + 1:Nat):Int):=by rw [w64_in (by omega) (by omega)];omega
theorem fill_loop {α:Type} {N:Nat} {f:Int×List α->Option ((Int×List α) ⊕ List α)} {g:Nat->α->α} (hN:N < 1000000)
  (hs:∀ (n:Nat) (l:List α) (h:n < l.length),l.length=N->f (((n:Nat):Int),l)=some (.inl (((n + 1:Nat):Int),l.set n (g n l[n])))) (he:∀ l:List α,l.length=N->f (((N:Nat):Int),l)=some (.inr l)) :
  ∀ (m n fuel:Nat) (l:List α),n + m=N->l.length=N->m < fuel->∃ r,iter f fuel (((n:Nat):Int),l)=some r∧r.length=N∧(∀ i (h1:i < r.length) (h2:i < l.length),i < n->r[i]=l[i])∧∀ i (h1:i < r.length) (h2:i < l.length),n≤i->r[i]=g i l[i]
 | 0,n,fuel + 1,l,hn,hl,hf=>by
  have:n=N:=by omega
  subst this
  exact ⟨l,by simp only [iter,he l hl,Option.bind_some],hl,fun _ _ _ _=>rfl,fun i h1 h2 h3=>by omega⟩
 | m + 1,n,fuel + 1,l,hn,hl,hf=>by
  obtain ⟨r,r1,r2,r3,r4⟩:=fill_loop hN hs he m (n + 1) fuel (l.set n (g n (l[n]'(by omega)))) (by omega) (by simp [hl]) (by omega)
  refine ⟨r,?_,r2,fun i h1 h2 h3=>?_,fun i h1 h2 h3=>?_⟩
  ·simp only [iter,hs n l (by omega) hl,Option.bind_some];exact r1
  ·rw [r3 i h1 (by simp;omega) (by omega)]
   rw [List.getElem_set_ne (by omega)]
  ·by_cases hi:i=n
   ·subst hi
    rw [r3 i h1 (by simp;omega) (by omega),List.getElem_set_self]
   ·rw [r4 i h1 (by simp;omega) (by omega),List.getElem_set_ne (by omega)]
theorem scale95 {F:Nat} {l:List UInt8} (hF:100 + l.length < F) (hl:l.length < 1000000) (c:UInt8):T95 F l c=some (l.map (gm c)):=by
 obtain ⟨u,v,h1,h2⟩:=tab109 (F:=F) (by omega) c
 have hm:gmake (0:UInt8) (l.length:Int) (l.length:Int)=some (List.replicate l.length 0):=by
  unfold gmake;rw [if_pos (by omega)];simp
 obtain ⟨r,r1,r2,_,r4⟩:=fill_loop (N:=l.length) (f:=fun s:Int×List UInt8=>L95_2 F l (l.length:Int) u v s.1 s.2) (g:=fun i _=>gm c (l.getD i 0)) hl
  (fun n x hx hxl=>by
   have h:((n:Nat):Int) < (l.length:Int):=by omega
   have hg:l.getD n 0=l[n]'(by omega):=by simp [show n < l.length by omega]
   simp only [L95_2,L95_2c,h,decide_true,cond_true,ixU (show n < l.length by omega),Option.bind_some,by116 F h2,inb_nat hx,w64s (show n < 1000000000 by omega),hg])
  (fun x hx=>by
   have h:¬ ((l.length:Int) < (l.length:Int)):=by omega
   simp only [L95_2,L95_2c,h,decide_false,cond_false])
  l.length 0 F (List.replicate l.length 0) (by omega) (by simp) (by omega)
 have r1:iter (fun s:Int×List UInt8=>L95_2 F l (l.length:Int) u v s.1 s.2) F ((0:Int),List.replicate l.length 0)=some r:=r1
 simp only [T95,T95c,h1,hm,r1,Option.bind_some]
 congr 1
 apply List.ext_getElem
 ·simp [r2]
 ·intro i h3 h4
  rw [r4 i h3 (by simp;omega) (by omega)]
  simp [show i < l.length by omega]
theorem muladd79 {F:Nat} {l v:List UInt8} (hF:100 + l.length < F) (hl:l.length < 1000000) (hv:v.length=l.length) (c:UInt8):T79 F l v c=some (0,List.zipWith (fun a b=>a ^^^ gm c b) l v):=by
 have hne:((l.length:Int) != (v.length:Int))=false:=by simp [hv]
 have hsc:=scale95 (F:=F) (l:=v) (by omega) (by omega) c
 obtain ⟨r,r1,r2,_,r4⟩:=fill_loop (N:=l.length) (f:=fun s:Int×List UInt8=>L79_2 F l (l.length:Int) s.1 s.2) (g:=fun i x=>x ^^^ l.getD i 0) hl
  (fun n x hx hxl=>by
   have h:((n:Nat):Int) < (l.length:Int):=by omega
   have hg:l.getD n 0=l[n]'(by omega):=by simp [show n < l.length by omega]
   simp only [L79_2,L79_2c,h,decide_true,cond_true,ixU (show n < l.length by omega),Option.bind_some,inb_nat hx,List.getElem?_eq_getElem hx,w64s (show n < 1000000000 by omega),hg])
  (fun x hx=>by
   have h:¬ ((l.length:Int) < (l.length:Int)):=by omega
   simp only [L79_2,L79_2c,h,decide_false,cond_false])
  l.length 0 F (v.map (gm c)) (by omega) (by simp [hv]) (by omega)
 have r1:iter (fun s:Int×List UInt8=>L79_2 F l (l.length:Int) s.1 s.2) F ((0:Int),v.map (gm c))=some r:=r1
 simp only [T79,T79c,hne,cond_false,hsc,r1,Option.bind_some]
 congr 2
 apply List.ext_getElem
 ·simp [r2,hv]
 ·intro i h3 h4
  rw [r4 i h3 (by simp;omega) (by omega)]
  simp [show i < l.length by omega]
  exact UInt8.xor_comm _ _
def horner (x:UInt8) (n:Nat):List (List UInt8)->List UInt8
 | []=>List.replicate n 0
 | l :: ls=>List.zipWith (fun a b=>a ^^^ gm x b) l (horner x n ls)
theorem horner_len (x:UInt8) (n:Nat):∀ {ls:List (List UInt8)},(∀ l ∈ ls,l.length=n)->(horner x n ls).length=n
 | [],_=>by simp [horner]
 | l :: ls,h=>by simp [horner,horner_len x n (fun l hl=>h l (List.mem_cons_of_mem _ hl)),h l (List.mem_cons_self ..)]
def hornerV (x:UInt8) (v:List UInt8):List (List UInt8)->List UInt8
 | []=>v
 | l :: ls=>List.zipWith (fun a b=>a ^^^ gm x b) l (hornerV x v ls)
theorem hornerV_snoc (x:UInt8) (v l:List UInt8):∀ ls:List (List UInt8),hornerV x v (ls ++ [l])=hornerV x (List.zipWith (fun a b=>a ^^^ gm x b) l v) ls
 | []=>rfl
 | y :: ls=>by simp only [List.cons_append,hornerV,hornerV_snoc x v l ls]
theorem hornerV_eq (x:UInt8) (n:Nat):∀ ls,hornerV x (List.replicate n 0) ls=horner x n ls
 | []=>rfl
 | l :: ls=>by simp only [hornerV,horner,hornerV_eq x n ls]
theorem backE_snoc (ls:List (List UInt8)) (l:List UInt8):backE (ls ++ [l])=((ls.length:Int),l,()) :: backE ls:=by
 unfold backE
 apply List.ext_getElem
 ·simp
 ·intro i h1 h2
  simp only [List.length_map,List.length_range,List.length_append,List.length_singleton] at h1
  cases i with
  | zero=>simp
  | succ i=>
   simp only [List.getElem_map,List.getElem_range,List.getElem_cons_succ,List.length_append,List.length_singleton,Prod.mk.injEq,and_true]
   refine ⟨by omega,?_⟩
   have e:ls.length + 1 - 1 - (i + 1)=ls.length - 1 - i:=by omega
   rw [e]
   simp [List.getD_eq_getElem?_getD,List.getElem?_append_left (show ls.length - 1 - i < ls.length by omega)]
theorem fold77 {F:Nat} {n:Nat} (hF:100 + n < F) (hn:n < 1000000) (z:Int):∀ (k:Nat) (ls:List (List UInt8)) (v:List UInt8),ls.length=k->v.length=n->(∀ l ∈ ls,l.length=n) ->
  rfold (fun (s:dens rB77_2×tdens rU77_2) (e:dens rZ77_2)=>L77_2 F s.2.1 s.2.2.2.1 e.2.1) (backE ls) (((),(),()),(z,(),v,()))=some (((),(),()),(z,(),hornerV (UInt8.ofInt z) v ls,()))
 | 0,ls,v,hk,hv,hl=>by
  have:ls=[]:=List.length_eq_zero_iff.1 hk
  subst this
  rfl
 | k + 1,ls,v,hk,hv,hl=>by
  have hne:ls ≠ []:=by intro h;rw [h] at hk;cases hk
  obtain ⟨l0,l,rfl⟩:∃ l0 l,ls=l0 ++ [l]:=⟨ls.dropLast,ls.getLast hne,(List.dropLast_concat_getLast hne).symm⟩
  have hll:l.length=n:=hl l (by simp)
  rw [backE_snoc]
  have hs:L77_2 F z v l=some (((),(),()),(z,(),List.zipWith (fun a b=>a ^^^ gm (UInt8.ofInt z) b) l v,())):=by
   simp only [L77_2,muladd79 (F:=F) (l:=l) (v:=v) (by omega) (by omega) (by omega) _,Option.bind_some]
  show (L77_2 F z v l).bind _=_
  rw [hs,hornerV_snoc]
  exact fold77 hF hn z k l0 _ (by rw [List.length_append,List.length_singleton] at hk;omega) (by simp [hv,hll]) (fun l' h'=>hl l' (by simp [h']))
theorem eval77 {F:Nat} {n:Nat} {s:List UInt8} {ls:List (List UInt8)} (hF:100 + n < F) (hn:n < 1000000) (hk:ls.length < 1000000) (hs:s.length=n) (hl:∀ l ∈ ls,l.length=n) (z:Int):T77 F z (s :: ls)=some (horner (UInt8.ofInt z) n (s :: ls)):=by
 have h0:ix (s :: ls) (0:Int)=some s:=rfl
 have hm:gmake (0:UInt8) (s.length:Int) (s.length:Int)=some (List.replicate n 0):=by
  unfold gmake;rw [if_pos (by omega)];simp [hs]
 have hb:okBack (s :: ls)=true:=by simp [okBack];omega
 have hf:=fold77 (F:=F) hF hn z (s :: ls).length (s :: ls) (List.replicate n 0) rfl (by simp) (fun l h=>by
  rcases List.mem_cons.1 h with rfl | h
  ·exact hs
  ·exact hl l h)
 rw [hornerV_eq] at hf
 have hR:R77_2 F (((),((),())),(),(),()) ((s :: ls),z,(),List.replicate n 0,())=some (((),(),()),(z,(),horner (UInt8.ofInt z) n (s :: ls),())):=by
  unfold R77_2
  simp only [hb,cond_true]
  exact hf
 simp only [T77,T77c,h0,hm,T78,T78c,Option.bind_some,hR]
def sq7:Nat->UInt8->UInt8->UInt8
 | 0,_,c=>c
 | n + 1,a,c=>sq7 n (gm a a) (gm c (gm a a))
def gi (b:UInt8):UInt8:=sq7 7 b 1
theorem gi_ok:∀ b:UInt8,b ≠ 0->gm b (gi b)=1:=fun b h=>(allU (p:=fun b=>b=0∨gm b (gi b)=1) (by decide +kernel) b).resolve_left h
theorem gm_ne {a b:UInt8} (ha:a ≠ 0) (hb:b ≠ 0):gm a b ≠ 0:=fun h=>hb (by
 have:gm (gi a) (gm a b)=b:=by rw [← gm_assoc,gm_comm (gi a) a,gi_ok a ha,one_gm]
 rw [← this,h,gm_zero])
def abv (i:Nat):Nat->List UInt8->UInt8->UInt8
 | _,[],a=>a
 | j,x :: r,a=>abv i (j + 1) r (bif Nat.beq j i then a else gm a x)
def blw (i:Nat) (y:UInt8):Nat->List UInt8->UInt8->UInt8
 | _,[],a=>a
 | j,x :: r,a=>blw i y (j + 1) r (bif Nat.beq j i then a else gm a (y ^^^ x))
theorem blw_ne {i:Nat} {y:UInt8}:∀ {r:List UInt8} {j:Nat} {a:UInt8},(∀ k (h:k < r.length),j + k ≠ i->r[k] ≠ y)->a ≠ 0->blw i y j r a ≠ 0
 | [],j,a,_,ha=>ha
 | x :: r,j,a,h,ha=>by
  have hr:∀ k (hk:k < r.length),j + 1 + k ≠ i->r[k] ≠ y:=fun k hk hne=>h (k + 1) (by simpa using hk) (by omega)
  simp only [blw]
  cases hb:Nat.beq j i with
  | true=>exact blw_ne hr ha
  | false=>
   have hji:j ≠ i:=fun e=>by subst e;simp at hb
   have hx:x ≠ y:=h 0 (by simp) (by omega)
   refine blw_ne hr (gm_ne ha (fun e=>hx ?_))
   have:y ^^^ x ^^^ x=0 ^^^ x:=by rw [e]
   rw [UInt8.xor_assoc,xx,xz,zx] at this
   exact this.symm
def wpr (i:Nat) (y:UInt8):Nat->List UInt8->UInt8->UInt8
 | _,[],c=>c
 | j,x :: r,c=>wpr i y (j + 1) r (bif Nat.beq j i then c else gm c (gm x (gi (y ^^^ x))))
theorem gi_gm {a b:UInt8} (ha:a ≠ 0) (hb:b ≠ 0):gi (gm a b)=gm (gi a) (gi b):=by
 have h1:=gi_ok _ (gm_ne ha hb)
 have h2:gm (gm a b) (gm (gi a) (gi b))=1:=by
  rw [gm_assoc,← gm_assoc b,gm_comm b (gi a),gm_assoc (gi a),gi_ok b hb,gm_one,gi_ok a ha]
 have e:gm (gi (gm a b)) (gm (gm a b) (gm (gi a) (gi b)))=gm (gi (gm a b)) 1:=by rw [h2]
 rw [← gm_assoc,gm_comm (gi (gm a b)),h1,one_gm,gm_one] at e
 exact e.symm
theorem quo_w {i:Nat} {y:UInt8}:∀ {r:List UInt8} {j:Nat} {a b:UInt8},(∀ k (h:k < r.length),j + k ≠ i->r[k] ≠ y)->b ≠ 0->gm (abv i j r a) (gi (blw i y j r b))=wpr i y j r (gm a (gi b))
 | [],j,a,b,_,_=>rfl
 | x :: r,j,a,b,h,hb0=>by
  have hr:∀ k (hk:k < r.length),j + 1 + k ≠ i->r[k] ≠ y:=fun k hk hne=>h (k + 1) (by simpa using hk) (by omega)
  simp only [abv,blw,wpr]
  cases hb:Nat.beq j i with
  | true=>exact quo_w hr hb0
  | false=>
   have hji:j ≠ i:=fun e=>by subst e;simp at hb
   have hx:x ≠ y:=h 0 (by simp) (by omega)
   have hyx:y ^^^ x ≠ 0:=fun e=>hx (by
    have:y ^^^ x ^^^ x=0 ^^^ x:=by rw [e]
    rw [UInt8.xor_assoc,xx,xz,zx] at this
    exact this.symm)
   simp only [cond_false]
   rw [quo_w hr (gm_ne hb0 hyx),gi_gm hb0 hyx]
   congr 1
   rw [gm_assoc,gm_assoc,← gm_assoc x,gm_comm x (gi b),gm_assoc (gi b)]
def fct (xs:List UInt8) (i:Nat):UInt8:=wpr i (xs.getD i 0) 0 xs 1
def sm (xs:List UInt8):Nat->List UInt8->UInt8
 | _,[]=>0
 | i,v :: r=>gm (fct xs i) v ^^^ sm xs (i + 1) r
theorem sm_add (xs:List UInt8) {α:Type} (g h:α->UInt8):∀ (i:Nat) (l:List α),sm xs i (l.map fun x=>g x ^^^ h x)=sm xs i (l.map g) ^^^ sm xs i (l.map h)
 | i,[]=>by simp [sm]
 | i,x :: l=>by
  simp only [List.map_cons,sm,gm_right,sm_add xs g h (i + 1) l]
  ac_rfl
theorem sm_mul (xs:List UInt8) {α:Type} (c:UInt8) (g:α->UInt8):∀ (i:Nat) (l:List α),sm xs i (l.map fun x=>gm c (g x))=gm c (sm xs i (l.map g))
 | i,[]=>by simp [sm,gm_zero]
 | i,x :: l=>by
  simp only [List.map_cons,sm,gm_right,sm_mul xs c g (i + 1) l]
  rw [← gm_assoc,← gm_assoc,gm_comm (fct xs i) c]
theorem sm_zero (xs:List UInt8) {α:Type}:∀ (i:Nat) (l:List α),sm xs i (l.map fun _=>0)=0
 | i,[]=>rfl
 | i,x :: l=>by simp only [List.map_cons,sm,gm_zero,sm_zero xs (i + 1) l,xz]
theorem app_loop {α:Type} {N c:Nat} {f:Int×List α->Option ((Int×List α) ⊕ List α)} {g:Nat->α}
  (hs:∀ (n:Nat) (acc:List α),n < N->acc.length≤n + c->f (((n:Nat):Int),acc)=some (.inl (((n + 1:Nat):Int),acc ++ [g n]))) (he:∀ acc:List α,f (((N:Nat):Int),acc)=some (.inr acc)) :
  ∀ (m n fuel:Nat) (acc:List α),n + m=N->acc.length≤n + c->m < fuel->iter f fuel (((n:Nat):Int),acc)=some (acc ++ (List.range' n m).map g)
 | 0,n,fuel + 1,acc,hn,ha,hf=>by
  have:n=N:=by omega
  subst this
  simp only [iter,he acc,Option.bind_some,List.range'_zero,List.map_nil,List.append_nil]
 | m + 1,n,fuel + 1,acc,hn,ha,hf=>by
  have ih:=app_loop hs he m (n + 1) fuel (acc ++ [g n]) (by omega) (by simp;omega) (by omega)
  simp only [iter,hs n acc (by omega) ha,Option.bind_some]
  rw [ih,List.range'_succ,List.map_cons,List.append_assoc]
  rfl
def evs (x:UInt8):Nat->List UInt8->UInt8
 | _,[]=>0
 | k,p :: ps=>gm p (gpow x k) ^^^ evs x (k + 1) ps
def hb (x:UInt8):List UInt8->UInt8
 | []=>0
 | p :: ps=>p ^^^ gm x (hb x ps)
theorem evs_eq (x:UInt8):∀ (ps:List UInt8) (k:Nat),evs x k ps=gm (hb x ps) (gpow x k)
 | [],k=>by simp only [evs,hb,zero_gm]
 | p :: ps,k=>by
  simp only [evs,hb,evs_eq x ps (k + 1),gm_left,gpow]
  congr 1
  rw [← gm_assoc,gm_comm (gm (hb x ps) (gpow x k)) x,← gm_assoc]
theorem evs_hb (x:UInt8) (ps:List UInt8):evs x 0 ps=hb x ps:=by rw [evs_eq,gpow,gm_one]
theorem gapp1 {α:Type} {xs:List α} {y:α} (h:xs.length≤1000000000):gapp xs [y]=some (xs ++ [y]):=by unfold gapp;rw [if_pos (by simp;omega)]
theorem horner_get (x:UInt8) (n:Nat) {i:Nat} (hi:i < n):∀ {ls:List (List UInt8)},(∀ l ∈ ls,l.length=n)->(horner x n ls)[i]? = some (hb x (ls.map fun l=>l.getD i 0))
 | [],_=>by simp [horner,hb,hi]
 | l :: ls,h=>by
  have ih:=horner_get x n hi (ls:=ls) (fun l hl=>h l (List.mem_cons_of_mem _ hl))
  have hl:=h l (List.mem_cons_self ..)
  simp only [horner,List.getElem?_zipWith,ih,List.map_cons,hb]
  simp [show i < l.length by omega]
theorem concat61 {F:Nat} {s:List UInt8} {ls:List (List UInt8)} (hF:10 < F) (hl:ls.length < 900):T61 F [[s],ls]=some (s :: ls):=by
 obtain ⟨m,rfl⟩:∃ m,F=m + 3:=⟨F - 3,by omega⟩
 have i0:ix [[s],ls] (0:Int)=some [s]:=rfl
 have i1:ix [[s],ls] (1:Int)=some ls:=rfl
 have w1:w64 ((0:Int) + (([s]:List (List UInt8)).length:Int))=1:=rfl
 have w2:w64 ((1:Int) + (ls.length:Int))=(ls.length:Int) + 1:=by rw [w64_in (by omega) (by omega)];omega
 have w3:w64 ((0:Int) + 1)=1:=rfl
 have w4:w64 ((1:Int) + 1)=2:=rfl
 have c0:decide ((0:Int) < (([[s],ls]:List (List (List UInt8))).length:Int))=true:=rfl
 have c1:decide ((1:Int) < (([[s],ls]:List (List (List UInt8))).length:Int))=true:=rfl
 have c2:decide ((2:Int) < (([[s],ls]:List (List (List UInt8))).length:Int))=false:=rfl
 have n1:¬ ((1:Int) < 0):=by decide
 have n2:¬ ((ls.length:Int) + 1 < 0):=by omega
 have hg:T80 (m + 3) ((ls.length:Int) + 1)=some []:=by
  have h1:(0:Int)≤(ls.length:Int) + 1:=by omega
  have h2:(ls.length:Int) + 1≤1000:=by omega
  simp only [T80,TGrow,h1,h2,decide_true,Bool.and_self,cond_true]
 have g1:gapp ([]:List (List UInt8)) [s]=some [s]:=rfl
 have g2:gapp ([s]:List (List UInt8)) ls=some (s :: ls):=by unfold gapp;rw [if_pos (by simp;omega)];rfl
 simp only [T61,T61c,iter,L61_3,L61_3c,c0,c1,c2,cond_true,cond_false,i0,i1,Option.bind_some,w1,w2,w3,w4,n1,n2,decide_false,hg,L61_4,L61_4c,g1,g2]
theorem lists58 {F:Nat} {n:Nat} {ls:List (List UInt8)} (hF:ls.length < F) (hn:ls.length < 1000000) (hl:∀ l ∈ ls,l.length=n):T58 F ls ((n:Nat):Int)=some (decide ((ls.length:Int) < 16)):=by
 have key:∀ (m i fuel:Nat),i + m=ls.length->m < fuel->iter (fun s=>L58_2 F ((n:Nat):Int) ls (ls.length:Int) s) fuel ((i:Nat):Int)=some (.inl ()):=by
  intro m
  induction m with
  | zero=>
   intro i fuel hi hf
   obtain ⟨fuel,rfl⟩:∃ k,fuel=k + 1:=⟨fuel - 1,by omega⟩
   have h:¬ ((i:Nat):Int) < (ls.length:Int):=by omega
   simp only [iter,L58_2,L58_2c,h,decide_false,cond_false,Option.bind_some]
  | succ m ih=>
   intro i fuel hi hf
   obtain ⟨fuel,rfl⟩:∃ k,fuel=k + 1:=⟨fuel - 1,by omega⟩
   have h:((i:Nat):Int) < (ls.length:Int):=by omega
   have hm:=hl _ (List.getElem_mem (show i < ls.length by omega))
   have hne:(((ls[i]'(by omega)).length:Int) != ((n:Nat):Int))=false:=by simp [hm]
   have hs:L58_2 F ((n:Nat):Int) ls (ls.length:Int) ((i:Nat):Int)=some (.inl ((i + 1:Nat):Int)):=by
    simp only [L58_2,L58_2c,h,decide_true,cond_true,ixG (show i < ls.length by omega),Option.bind_some,hne,cond_false,w64s (show i < 1000000000 by omega)]
   show (L58_2 F ((n:Nat):Int) ls (ls.length:Int) ((i:Nat):Int)).bind _=_
   rw [hs]
   exact ih (i + 1) fuel (by omega) (by omega)
 have h:=key ls.length 0 F (by omega) hF
 have h:iter (fun s=>L58_2 F ((n:Nat):Int) ls (ls.length:Int) s) F (0:Int)=some (.inl ()):=h
 simp only [T58,T58c,h,Option.bind_some,elimS]
theorem xs59 {F:Nat} {xs:List Int} (hF:xs.length < F) (hn:xs.length≤64) (hr:∀ x ∈ xs,1≤x∧x≤255) (hd:xs.Nodup):T59 F xs=some true:=by
 have hlen:¬ ((64:Int) < (xs.length:Int)):=by omega
 have key:∀ (m i fuel:Nat) (v:Vector Bool 256),i + m=xs.length->m < fuel->(∀ (j:Nat) (h:j < 256),v[j]=true->((j:Nat):Int) ∈ xs.take i)->iter (fun s:Int×Vector Bool 256=>L59_2 F xs (xs.length:Int) s.1 s.2) fuel (((i:Nat):Int),v)=some (.inl ()):=by
  intro m
  induction m with
  | zero=>
   intro i fuel v hi hf _
   obtain ⟨fuel,rfl⟩:∃ k,fuel=k + 1:=⟨fuel - 1,by omega⟩
   have h:¬ ((i:Nat):Int) < (xs.length:Int):=by omega
   simp only [iter,L59_2,L59_2c,h,decide_false,cond_false,Option.bind_some]
  | succ m ih=>
   intro i fuel v hi hf hv
   obtain ⟨fuel,rfl⟩:∃ k,fuel=k + 1:=⟨fuel - 1,by omega⟩
   have h:((i:Nat):Int) < (xs.length:Int):=by omega
   have hil:i < xs.length:=by omega
   obtain ⟨r1,r2⟩:=hr _ (List.getElem_mem hil)
   obtain ⟨x,hx⟩:∃ x:Nat,xs[i]=(x:Int):=⟨(xs[i]).toNat,by omega⟩
   have hx256:x < 256:=by omega
   have hval:T76 F ((x:Nat):Int)=some true:=by
    have a1:(1:Int)≤(x:Int):=by omega
    have a2:(x:Int)≤255:=by omega
    simp only [T76,T76c,a1,a2,decide_true,cond_true,decide_true]
   have hvx:v[x]=false:=by
    cases hc:v[x] with
    | false=>rfl
    | true=>
     have:=hv x hx256 hc
     rw [← hx] at this
     obtain ⟨k,hk,hk2⟩:=List.mem_iff_getElem.1 this
     simp only [List.length_take] at hk
     rw [List.getElem_take] at hk2
     have:=(List.getElem_inj hd).1 hk2
     omega
   have hs:L59_2 F xs (xs.length:Int) ((i:Nat):Int) v=some (.inl (((i + 1:Nat):Int),v.setIfInBounds x true)):=by
    simp only [L59_2,L59_2c,h,decide_true,cond_true,ixG hil,hx,hval,Option.bind_some,Bool.not_true,cond_false,inb_nat hx256,vat_nat hx256,hvx,w64s (show i < 1000000000 by omega)]
   show (L59_2 F xs (xs.length:Int) ((i:Nat):Int) v).bind _=_
   rw [hs]
   refine ih (i + 1) fuel _ (by omega) (by omega) (fun j hj hjv=>?_)
   rw [List.take_add_one,List.getElem?_eq_getElem hil]
   simp only [Option.toList_some,List.mem_append,List.mem_singleton]
   rw [Vector.getElem_setIfInBounds] at hjv
   by_cases hxj:x=j
   ·right;rw [hx,hxj]
   ·left;simp only [hxj,if_false] at hjv;exact hv j hj hjv
 have h:=key xs.length 0 F (Vector.replicate 256 false) (by omega) hF (fun j hj hjv=>by simp at hjv)
 have h:iter (fun s:Int×Vector Bool 256=>L59_2 F xs (xs.length:Int) s.1 s.2) F ((0:Int),Vector.replicate 256 false)=some (.inl ()):=h
 simp only [T59,T59c,hlen,decide_false,cond_false,h,Option.bind_some,elimS]
theorem split28 {F:Nat} {s:List UInt8} {ls:List (List UInt8)} {xs:List Int} (hF:1000 < F) (hs:s.length=32) (hls:ls.length < 16) (hl:∀ l ∈ ls,l.length=32) (hn:xs.length≤64) (hr:∀ x ∈ xs,1≤x∧x≤255) (hd:xs.Nodup) :
  T28 F s ls xs=some (0,xs.map fun x=>(x,horner (UInt8.ofInt x) 32 (s :: ls),())):=by
 have h58:T58 F ls (s.length:Int)=some true:=by
  rw [hs,lists58 (F:=F) (n:=32) (by omega) (by omega) hl]
  have:(ls.length:Int) < 16:=by omega
  simp [this]
 have hlen:¬ ((1024:Int) < (s.length:Int)):=by omega
 have hm:gmake ((0:Int),([]:List UInt8),()) (0:Int) (xs.length:Int)=some []:=by
  unfold gmake;rw [if_pos (by omega)];rfl
 have h:=app_loop (N:=xs.length) (c:=0) (f:=fun t:Int×List (Int×List UInt8×Unit)=>L28_2 F xs (xs.length:Int) (s :: ls) t.1 t.2) (g:=fun i=>(xs.getD i 0,horner (UInt8.ofInt (xs.getD i 0)) 32 (s :: ls),()))
  (fun i acc hi ha=>by
   have h:((i:Nat):Int) < (xs.length:Int):=by omega
   have hg:xs.getD i 0=xs[i]:=by simp [hi]
   have he:=eval77 (F:=F) (n:=32) (s:=s) (ls:=ls) (by omega) (by omega) (by omega) hs hl (xs[i])
   simp only [L28_2,L28_2c,h,decide_true,cond_true,ixG hi,Option.bind_some,he,gapp1 (xs:=acc) (y:=(xs[i],horner (UInt8.ofInt xs[i]) 32 (s :: ls),())) (by omega),w64s (show i < 1000000000 by omega),hg])
  (fun acc=>by
   have h:¬ ((xs.length:Int) < (xs.length:Int)):=by omega
   simp only [L28_2,L28_2c,h,decide_false,cond_false])
  xs.length 0 F [] (by omega) (by simp) (by omega)
 have h:iter (fun t:Int×List (Int×List UInt8×Unit)=>L28_2 F xs (xs.length:Int) (s :: ls) t.1 t.2) F ((0:Int),[])=some ([] ++ (List.range' 0 xs.length).map fun i=>(xs.getD i 0,horner (UInt8.ofInt (xs.getD i 0)) 32 (s :: ls),())):=h
 simp only [T28,T28c,h58,Option.bind_some,Bool.not_true,cond_false,xs59 (F:=F) (by omega) hn hr hd,hlen,decide_false,concat61 (F:=F) (s:=s) (ls:=ls) (by omega) (by omega),T60,T60c,hm,h,List.nil_append]
 congr 2
 apply List.ext_getElem
 ·simp
 ·intro i h1 h2
  simp only [List.length_map,List.length_range'] at h1
  simp [h1]
def frc {α:Type} (n:Nat) (f:Nat->α):α:=Nat.rec (f 0) (fun m _=>f (m + 1)) n
theorem frc_eq {α:Type} (n:Nat) (f:Nat->α):frc n f=f n:=by cases n<;>rfl
def gdN (x:Nat):Nat:=bif Nat.blt x 128 then 2 * x else (2 * x - 256) ^^^ 29
def gmlN:Nat->Nat->Nat->Nat->Nat
 | 0,_,_,c=>c
 | n + 1,a,b,c=>frc (c ^^^ (bif Nat.beq (b % 2) 1 then a else 0)) fun c=>frc (gdN a) fun a=>frc (b / 2) fun b=>gmlN n a b c
theorem gd_N (x:UInt8):(gd x).toNat=gdN x.toNat:=allU (p:=fun x=>(gd x).toNat=gdN x.toNat) (by decide +kernel) x
theorem bit_N (b:UInt8):((b &&& 1) == 1)=Nat.beq (b.toNat % 2) 1:=allU (p:=fun b=>((b &&& 1) == 1)=Nat.beq (b.toNat % 2) 1) (by decide +kernel) b
theorem shr_N (b:UInt8):(b >>> 1).toNat=b.toNat / 2:=allU (p:=fun b=>(b >>> 1).toNat=b.toNat / 2) (by decide +kernel) b
theorem gml_N:∀ (n:Nat) (a b c:UInt8),(c ^^^ gml n a b).toNat=gmlN n a.toNat b.toNat c.toNat
 | 0,a,b,c=>by simp [gml,gmlN]
 | n + 1,a,b,c=>by
  simp only [gml,gmlN,frc_eq]
  rw [← UInt8.xor_assoc,gml_N n,gd_N,shr_N,UInt8.toNat_xor,bit0,bit_N]
  cases Nat.beq (b.toNat % 2) 1<;>rfl
theorem gm_N (a b:UInt8):(gm a b).toNat=gmlN 8 a.toNat b.toNat 0:=by
 have:=gml_N 8 a b 0
 rw [zx] at this;exact this
def WT:List Nat:=[0,1,1,1,1,1,1,1,0,0,245,143,166,70,187,123,0,244,0,3,245,104,143,82,0,142,2,0,210,143,245,200,0,167,244,211,0,5,3,246,0,71,105,142,4,0,2,141,0,186,142,244,2,3,0,7,0,122,83,201,247,140,6,0]
theorem W_N:∀ y x:_root_.Fin 8,(gm (UInt8.ofNat x.val) (gi (UInt8.ofNat y.val ^^^ UInt8.ofNat x.val))).toNat=WT.getD (8 * y.val + x.val) 0:=by decide +kernel
theorem W_U {y x:UInt8} (hy:y.toNat < 8) (hx:x.toNat < 8):(gm x (gi (y ^^^ x))).toNat=WT.getD (8 * y.toNat + x.toNat) 0:=by
 have:=W_N ⟨y.toNat,hy⟩ ⟨x.toNat,hx⟩
 simpa using this
def wprN (i:Nat) (y:Nat):Nat->List Nat->Nat->Nat
 | _,[],c=>c
 | j,x :: r,c=>bif Nat.beq j i then wprN i y (j + 1) r c else frc (WT.getD (8 * y + x) 0) fun w=>frc (gmlN 8 c w 0) fun c=>wprN i y (j + 1) r c
theorem wpr_N (i:Nat) {y:UInt8} (hy:y.toNat < 8):∀ (j:Nat) (r:List UInt8) (c:UInt8),(∀ x ∈ r,x.toNat < 8)->(wpr i y j r c).toNat=wprN i y.toNat j (r.map UInt8.toNat) c.toNat
 | _,[],_,_=>rfl
 | j,x :: r,c,h=>by
  have hx:=h x (by simp)
  have ih:=fun c=>wpr_N i hy (j + 1) r c fun z hz=>h z (by simp [hz])
  simp only [wpr,wprN,List.map_cons,frc_eq,ih]
  cases Nat.beq j i with
  | true=>rfl
  | false=>simp only [cond_false,gm_N c,W_U hy hx]
def fctN (xs:List Nat) (i:Nat):Nat:=wprN i (xs.getD i 0) 0 xs 1
theorem fct_N (xs:List UInt8) (i:Nat) (h:∀ x ∈ xs,x.toNat < 8):(fct xs i).toNat=fctN (xs.map UInt8.toNat) i:=by
 have hg:(xs.getD i 0).toNat=(xs.map UInt8.toNat).getD i 0:=by
  simp only [List.getD_eq_getElem?_getD,List.getElem?_map]
  cases xs[i]?<;>rfl
 have hy:(xs.getD i 0).toNat < 8:=by
  rw [List.getD_eq_getElem?_getD]
  cases he:xs[i]? with
  | none=>decide
  | some x=>exact h x (List.mem_of_getElem? he)
 rw [fct,wpr_N i hy 0 xs 1 h,hg];rfl
def smN (xs:List Nat):Nat->List Nat->Nat->Nat
 | _,[],c=>c
 | i,v :: r,c=>frc (fctN xs i) fun f=>frc v fun v=>frc (gmlN 8 f v c) fun c=>smN xs (i + 1) r c
theorem sm_N (xs:List UInt8) (h:∀ x ∈ xs,x.toNat < 8):∀ (i:Nat) (l:List UInt8) (c:UInt8),(c ^^^ sm xs i l).toNat=smN (xs.map UInt8.toNat) i (l.map UInt8.toNat) c.toNat
 | _,[],c=>by simp [sm,smN]
 | i,v :: r,c=>by
  simp only [sm,smN,List.map_cons,frc_eq]
  rw [← UInt8.xor_assoc,sm_N xs h (i + 1),gm,gml_N,fct_N xs i h]
def gpowN (x:Nat):Nat->Nat
 | 0=>1
 | n + 1=>frc (gpowN x n) fun a=>gmlN 8 a x 0
theorem gpow_N (x:UInt8):∀ n,(gpow x n).toNat=gpowN x.toNat n
 | 0=>rfl
 | n + 1=>by simp only [gpow,gpowN,gm_N,gpow_N x n,frc_eq]
def prm:Nat->List (List Nat)
 | 0=>[[]]
 | n + 1=>(prm n).flatMap fun p=>([1,2,3,4,5,6].filter fun x=>!(p.contains x)).map fun x=>x :: p
def chkN (xs:List Nat):Bool:=(List.range xs.length).all fun k=>Nat.beq (smN xs 0 (xs.map fun x=>gpowN x k) 0) (bif Nat.beq k 0 then 1 else 0)
theorem all_chk:([1,2,3,4,5].all fun n=>(prm n).all chkN)=true:=by kernel_rfl
theorem mem_prm:∀ {xs:List Nat},xs.Nodup->(∀ x ∈ xs,1≤x∧x≤6)->xs ∈ prm xs.length
 | [],_,_=>by simp [prm]
 | x :: xs,hn,hr=>by
  rw [List.nodup_cons] at hn
  have ih:=mem_prm hn.2 fun y hy=>hr y (by simp [hy])
  simp only [List.length_cons,prm,List.mem_flatMap,List.mem_map]
  refine ⟨xs,ih,x,?_,rfl⟩
  have:=hr x (by simp)
  rw [List.mem_filter]
  refine ⟨?_,by simpa using hn.1⟩
  simp only [List.mem_cons,List.not_mem_nil,or_false]
  omega
theorem chk_of {xs:List UInt8} (hn:xs.Nodup) (hr:∀ x ∈ xs,1≤x.toNat∧x.toNat≤6) (h5:xs.length≤5):∀ k,k < xs.length->sm xs 0 (xs.map fun x=>gpow x k)=if k=0 then 1 else 0:=by
 intro k hk
 have hn':(xs.map UInt8.toNat).Nodup:=by
  unfold List.Nodup at hn ⊢
  rw [List.pairwise_map]
  exact hn.imp fun h e=>h (UInt8.toNat_inj.1 e)
 have hmem:=mem_prm hn' (fun x hx=>by
  obtain ⟨y,hy,rfl⟩:=List.mem_map.1 hx
  exact hr y hy)
 have hall:=all_chk
 simp only [List.all_cons,List.all_nil,Bool.and_true,Bool.and_eq_true,List.all_eq_true] at hall
 have hc:chkN (xs.map UInt8.toNat)=true:=by
  have hl:(xs.map UInt8.toNat).length=xs.length:=List.length_map ..
  obtain ⟨c1,c2,c3,c4,c5⟩:=hall
  rw [hl] at hmem
  have:xs.length=1∨xs.length=2∨xs.length=3∨xs.length=4∨xs.length=5:=by omega
  rcases this with h | h | h | h | h<;>rw [h] at hmem
  ·exact c1 _ hmem
  ·exact c2 _ hmem
  ·exact c3 _ hmem
  ·exact c4 _ hmem
  ·exact c5 _ hmem
 simp only [chkN,List.all_eq_true,List.mem_range,List.length_map] at hc
 have:=Nat.eq_of_beq_eq_true (hc k hk)
 apply UInt8.toNat_inj.1
 have h8:∀ x ∈ xs,x.toNat < 8:=fun x hx=>by have:=hr x hx;omega
 have hs:=sm_N xs h8 0 (xs.map fun x=>gpow x k) 0
 rw [zx] at hs
 rw [hs,List.map_map]
 have e:(xs.map (UInt8.toNat ∘ fun x=>gpow x k))=((xs.map UInt8.toNat).map fun x=>gpowN x k):=by
  rw [List.map_map]
  apply List.map_congr_left
  intro x _
  simp [gpow_N]
 rw [e]
 rw [show (0:UInt8).toNat=0 from rfl,this]
 by_cases h0:k=0
 ·subst h0;rfl
 ·have:Nat.beq k 0=false:=by cases k with
   | zero=>exact absurd rfl h0
   | succ k=>rfl
  simp [this,h0]
theorem lag_poly {xs:List UInt8} (hn:xs.Nodup) (hr:∀ x ∈ xs,1≤x.toNat∧x.toNat≤6) (h5:xs.length≤5) {p:UInt8} {ps:List UInt8} (hp:ps.length < xs.length):sm xs 0 (xs.map fun x=>hb x (p :: ps))=p:=by
 have hk:=chk_of hn hr h5
 have z:∀ (ps:List UInt8) (k:Nat),1≤k->k + ps.length≤xs.length->sm xs 0 (xs.map fun x=>evs x k ps)=0:=by
  intro ps
  induction ps with
  | nil=>intro k _ _;exact sm_zero xs 0 xs
  | cons p ps ih=>
   intro k h1 h2
   simp only [List.length_cons] at h2
   simp only [evs,sm_add,sm_mul,hk k (by omega),ih (k + 1) (by omega) (by omega),show k ≠ 0 from by omega,if_false,gm_zero,xz]
 have e:(xs.map fun x=>hb x (p :: ps))=xs.map fun x=>gm p (gpow x 0) ^^^ evs x 1 ps:=by
  apply List.map_congr_left
  intro x _
  rw [← evs_hb];rfl
 rw [e,sm_add,sm_mul,hk 0 (by omega),z ps 1 (by omega) (by omega)]
 simp [gm_one]
theorem has26 {F:Nat} {l:List Int} (hF:l.length < F) (hn:l.length < 1000000) (d:Int):T26 F l d=some (l.contains d):=by
 have key:∀ (m i fuel:Nat),i + m=l.length->m < fuel->∃ z,iter (fun s=>L56_2 F l d (l.length:Int) s) fuel ((i:Nat):Int)=some z∧((∃ k:Nat,z=.inr (k:Int)∧(l.drop i).contains d=true)∨(z=.inl ()∧(l.drop i).contains d=false)):=by
  intro m
  induction m with
  | zero=>
   intro i fuel hi hf
   obtain ⟨fuel,rfl⟩:∃ k,fuel=k + 1:=⟨fuel - 1,by omega⟩
   have h:¬ ((i:Nat):Int) < (l.length:Int):=by omega
   have hd:l.drop i=[]:=List.drop_eq_nil_of_le (by omega)
   exact ⟨.inl (),by simp only [iter,L56_2,L56_2c,h,decide_false,cond_false,Option.bind_some],.inr ⟨rfl,by rw [hd];rfl⟩⟩
  | succ m ih=>
   intro i fuel hi hf
   obtain ⟨fuel,rfl⟩:∃ k,fuel=k + 1:=⟨fuel - 1,by omega⟩
   have h:((i:Nat):Int) < (l.length:Int):=by omega
   have hil:i < l.length:=by omega
   have hd:l.drop i=l[i] :: l.drop (i + 1):=List.drop_eq_getElem_cons hil
   cases he:d == l[i] with
   | true=>
    have hs:L56_2 F l d (l.length:Int) ((i:Nat):Int)=some (.inr (.inr ((i:Nat):Int))):=by
     simp only [L56_2,L56_2c,h,decide_true,cond_true,ixG hil,Option.bind_some,he]
    exact ⟨.inr ((i:Nat):Int),by show (L56_2 F l d (l.length:Int) ((i:Nat):Int)).bind _=_;rw [hs];rfl,.inl ⟨i,rfl,by rw [hd,List.contains_cons,he,Bool.true_or]⟩⟩
   | false=>
    have hs:L56_2 F l d (l.length:Int) ((i:Nat):Int)=some (.inl ((i + 1:Nat):Int)):=by
     simp only [L56_2,L56_2c,h,decide_true,cond_true,ixG hil,Option.bind_some,he,cond_false,w64s (show i < 1000000000 by omega)]
    obtain ⟨z,z1,z2⟩:=ih (i + 1) fuel (by omega) (by omega)
    refine ⟨z,by show (L56_2 F l d (l.length:Int) ((i:Nat):Int)).bind _=_;rw [hs];exact z1,?_⟩
    rw [hd,List.contains_cons,he,Bool.false_or]
    exact z2
 obtain ⟨z,z1,z2⟩:=key l.length 0 F (by omega) hF
 have z1:iter (fun s=>L56_2 F l d (l.length:Int) s) F (0:Int)=some z:=z1
 rw [List.drop_zero] at z2
 rcases z2 with ⟨k,rfl,hc⟩ | ⟨rfl,hc⟩
 ·have:(0:Int)≤(k:Int):=by omega
  simp only [T26,T26c,T56,T56c,z1,Option.bind_some,elimS,this,decide_true,hc]
 ·have:¬ (0:Int)≤-1:=by decide
  simp only [T26,T26c,T56,T56c,z1,Option.bind_some,elimS,this,decide_false,hc]
def okm (ms:List Int):Nat->Nat->Bool
 | 0,_=>true
 | m + 1,i=>!(decide (ms.getD i 0 < 0)) && (!(decide (12≤ms.getD i 0)) && (!((ms.take i).contains (ms.getD i 0)) && okm ms m (i + 1)))
theorem gsl0 {α:Type} {l:List α} {i:Nat} (h:i≤l.length):gsl l (0:Int) ((i:Nat):Int)=some (l.take i):=by
 unfold gsl;rw [if_pos (by omega)];simp
theorem loop10 {F:Nat} {ms:List Int} (hF:ms.length < F) (hn:ms.length < 1000):∀ (m i fuel:Nat) (acc:List Int),i + m=ms.length->acc.length≤i->m < fuel->iter (fun s:Int×List Int=>L10_3 F ms ms (ms.length:Int) s.1 s.2) fuel (((i:Nat):Int),acc)=some (bif okm ms m i then .inl (acc ++ (ms.drop i).map (· + 1)) else .inr 1)
 | 0,i,fuel + 1,acc,hi,ha,hf=>by
  have h:¬ ((i:Nat):Int) < (ms.length:Int):=by omega
  have hd:ms.drop i=[]:=List.drop_eq_nil_of_le (by omega)
  simp only [iter,L10_3,L10_3c,h,decide_false,cond_false,Option.bind_some,okm,cond_true,hd,List.map_nil,List.append_nil]
 | m + 1,i,fuel + 1,acc,hi,ha,hf=>by
  have h:((i:Nat):Int) < (ms.length:Int):=by omega
  have hil:i < ms.length:=by omega
  have hg:ms.getD i 0=ms[i]:=by simp [hil]
  have hd:ms.drop i=ms[i] :: ms.drop (i + 1):=List.drop_eq_getElem_cons hil
  show (L10_3 F ms ms (ms.length:Int) ((i:Nat):Int) acc).bind _=_
  simp only [okm,hg]
  by_cases h1:ms[i] < 0
  ·simp only [L10_3,L10_3c,h,decide_true,cond_true,ixG hil,Option.bind_some,h1,Bool.not_true,Bool.false_and,cond_false]
  ·by_cases h2:12≤ms[i]
   ·simp only [L10_3,L10_3c,h,decide_true,cond_true,ixG hil,Option.bind_some,h1,h2,decide_false,Bool.not_true,Bool.not_false,Bool.true_and,Bool.false_and,cond_false]
   ·have hw:w64 (ms[i] + 1)=ms[i] + 1:=w64_in (by omega) (by omega)
    have hc:=has26 (F:=F) (l:=ms.take i) (by simp;omega) (by simp;omega) (ms[i])
    cases hcc:(ms.take i).contains (ms[i]) with
    | true=>
     simp only [L10_3,L10_3c,h,decide_true,cond_true,ixG hil,Option.bind_some,h1,h2,decide_false,cond_false,gsl0 (show i≤ms.length by omega),hc,hcc,Bool.not_true,Bool.not_false,Bool.true_and,Bool.false_and]
    | false=>
     have hs:L10_3 F ms ms (ms.length:Int) ((i:Nat):Int) acc=some (.inl (((i + 1:Nat):Int),acc ++ [ms[i] + 1])):=by
      simp only [L10_3,L10_3c,h,decide_true,cond_true,ixG hil,Option.bind_some,h1,h2,decide_false,cond_false,gsl0 (show i≤ms.length by omega),hc,hcc,hw,gapp1 (xs:=acc) (y:=ms[i] + 1) (by omega),w64s (show i < 1000000000 by omega)]
     rw [hs]
     simp only [Option.bind_some,h1,h2,decide_false,Bool.not_false,Bool.true_and]
     rw [loop10 hF hn m (i + 1) fuel _ (by omega) (by simp;omega) (by omega),hd]
     simp only [List.map_cons,List.append_assoc,List.singleton_append]
def parts (c:List UInt8) (k:Nat):List (List UInt8):=(List.range' 0 k).map fun j=>(c.drop (32 * j)).take 32
theorem parts_len {c:List UInt8} {k:Nat} (h:c.length=32 * k):∀ l ∈ parts c k,l.length=32:=by
 intro l hl
 obtain ⟨j,hj,rfl⟩:=List.mem_map.1 hl
 simp only [List.mem_range'_1] at hj
 simp;omega
theorem chunk_parts {c:List UInt8} {k:Nat} (h:c.length=32 * k):(chunkE 32 c).map (·.1)=parts c k:=by
 have e:(c.length + 32 - 1) / 32=k:=by omega
 unfold chunkE parts
 rw [e,List.map_map,List.range_eq_range']
 apply List.map_congr_left
 intro j _
 simp only [Function.comp,Nat.mul_comm]
theorem fold10 {F:Nat} (m:List UInt8) (xs:List Int):∀ (els:List (dens rZ10_4)) (acc:List (List UInt8)),acc.length + els.length≤1000000->rfold (fun (s:dens rB10_4×tdens rU10_4) (e:dens rZ10_4)=>L10_4 F s.1.1 s.2.1 s.2.2.2.1 e.1) els ((m,(),(),()),(xs,(),acc,()))=some ((m,(),(),()),(xs,(),acc ++ els.map (·.1),()))
 | [],acc,_=>by simp [rfold]
 | e :: els,acc,h=>by
  simp only [List.length_cons] at h
  have hs:L10_4 F m xs acc e.1=some ((m,(),(),()),(xs,(),acc ++ [e.1],())):=by
   simp only [L10_4,gapp1 (xs:=acc) (y:=e.1) (by omega),Option.bind_some]
  show (L10_4 F m xs acc e.1).bind _=_
  rw [hs]
  show rfold _ els _=_
  rw [fold10 m xs els _ (by simp;omega)]
  simp
def shareOf (m:List UInt8) (ls:List (List UInt8)) (d:Int):Int×List UInt8×Unit:=(d + 1,horner (UInt8.ofInt (d + 1)) 32 (m :: ls),())
theorem awake9c:T9 10000=some true:=by kernel_rfl
theorem gstr_ok {l:List UInt8} (h:l.length≤1099511627776):gstr l=some l:=by unfold gstr;rw [if_pos h]
theorem gcat_ok {p q:List UInt8} (h:p.length + q.length≤1099511627776):gcat p q=some (p ++ q):=by unfold gcat;rw [if_pos h]
theorem mac3 {F:Nat} {k x y z:List UInt8} (hF:3000 + x.length + y.length + z.length < F) (hk:k.length≤64) (hb:x.length + y.length + z.length < 1000000) :
  ∃ z1 z2 z3 z4 t,T83 F k=some z1∧T84 F x z1.1 z1.2.1 z1.2.2.1=some z2∧T84 F y z2.1 z2.2.1 z2.2.2=some z3∧T84 F z z3.1 z3.2.1 z3.2.2=some z4∧T85 F z4.1 z4.2.1 z4.2.2 z1.2.2.2=some t∧T66 F k (x ++ y ++ z)=some t∧t.length=32:=by
 have g0:gslb 64 (0:Int) ((64:Nat):Int)=some (0,64):=gslb_nat (a:=0) (by omega) (by omega)
 obtain ⟨o,i,h,b,n,o1,i1,s1,s2,s3⟩:=start65 (F:=F) (by omega) hk
 have xl:=xk_len hk 54
 have xl2:=xk_len hk 92
 obtain ⟨h2,b2,n2,u1,u2⟩:=t82 (F:=F) (x:=x) (by omega) (by omega) s2
 obtain ⟨h3,b3,n3,u3,u4⟩:=t82 (F:=F) (x:=y) (by simp only [List.length_append];omega) (by simp only [List.length_append];omega) u2
 obtain ⟨h4,b4,n4,u5,u6⟩:=t82 (F:=F) (x:=z) (by simp only [List.length_append];omega) (by simp only [List.length_append];omega) u4
 obtain ⟨inner,v1,v2,v3⟩:=sum_eq (F:=F) (by simp only [List.length_append];omega) (by simp only [List.length_append];omega) u6
 obtain ⟨t,w1,w2,w3⟩:=t79 (F:=F) (ls:=[xk k 92,inner]) (by simp only [List.flatten_cons,List.flatten_nil,List.length_append,List.length_cons,List.length_nil];omega) (by simp only [List.flatten_cons,List.flatten_nil,List.length_append,List.length_nil];omega) (by simp)
 have hfl:[xk k 92,inner].flatten=xk k 92 ++ inner:=by simp
 rw [hfl] at w2
 have h1:¬ ((64:Int) < (k.length:Int)):=by omega
 have h65:T83 F k=some (h,b,n,o):=by
  simp only [T83,T83c,h1,decide_false,cond_false,Option.bind_some,g0,v0_0,v0_1,T98,T98c,o1,i1,s1]
 have e:(o.toList.drop 0).take (64 - 0)=xk k 92:=by rw [s3,List.drop_zero,List.take_of_length_le (by omega)]
 refine ⟨(h,b,n,o),(h2,b2,n2),(h3,b3,n3),(h4,b4,n4),t,h65,?_,?_,?_,?_,?_,w3⟩
 ·simp only [T84,T84c,x82_eq,u1,Option.bind_some]
 ·simp only [T84,T84c,x82_eq,u3,Option.bind_some]
 ·simp only [T84,T84c,x82_eq,u5,Option.bind_some]
 ·simp only [T85,T85c,g0,Option.bind_some,v1,e,w1]
 ·have gi:gstr inner=some inner:=gstr_ok (by omega)
  have q1:T88 F k (UInt8.ofNat 54)=some (xk k 54):=t69 (by omega) hk _
  have q2:T88 F k (UInt8.ofNat 92)=some (xk k 92):=t69 (by omega) hk _
  have v2':T87 F (xk k 54 ++ (x ++ y ++ z))=some inner:=by
   have e:xk k 54 ++ (x ++ y ++ z)=xk k 54 ++ x ++ y ++ z:=by simp
   rw [e];exact v2
  simp only [T66,T66c,h1,decide_false,cond_false,Option.bind_some,q1,q2,gapp_ok (show (xk k 54).length + (x ++ y ++ z).length≤1099511627776 by simp only [List.length_append];omega),v2',gi,gapp_ok (show (xk k 92).length + inner.length≤1099511627776 by omega),w2]
theorem expand_eq {F:Nat} {k l:List UInt8} (hF:4000 < F) (hk:k.length=32) (hl:l.length≤64):∃ t,T63 F k l (32:Int)=some (t,0)∧T65 F k l (32:Int)=some t∧t.length=32:=by
 obtain ⟨z1,z2,z3,z4,t,h1,h2,h3,h4,h5,h6,h7⟩:=mac3 (F:=F) (k:=k) (x:=[]) (y:=l) (z:=[(1:UInt8)]) (by simp;omega) (by omega) (by simp;omega)
 obtain ⟨m,rfl⟩:∃ m,F=m + 2:=⟨F - 2,by omega⟩
 have w2:w64 (1 + 1)=2:=w64_in (by omega) (by omega)
 have o1:UInt8.ofInt 1=1:=rfl
 have ht:¬ ((t.length:Int) < 32):=by omega
 have g1:gapp ([]:List UInt8) t=some t:=by rw [gapp_ok (by simp;omega)];rfl
 have g2:gcat ([]:List UInt8) t=some t:=by rw [gcat_ok (by simp;omega)];rfl
 have g3:gcat ([]:List UInt8) l=some l:=by rw [gcat_ok (by simp;omega)];rfl
 refine ⟨t,?_,?_,h7⟩
 ·have c1:¬ ((k.length:Int) < 32):=by omega
  have c2:¬ ((32:Int) < 0):=by decide
  have c3:¬ ((8160:Int) < 32):=by decide
  have c4:((([]:List UInt8).length:Int) < 32):=by decide
  have hs:gslb t.length (0:Int) 32=some (0,32):=gslb_nat (a:=0) (b:=32) (by omega) (by omega)
  have htt:(t.drop 0).take (32 - 0)=t:=by rw [List.drop_zero,List.take_of_length_le (by omega)]
  simp only [T63,T63c,c1,c2,c3,decide_false,cond_false,iter,L63_2,L63_2c,c4,decide_true,cond_true,h1,gstr_ok (show ([]:List UInt8).length≤1099511627776 by simp),gstr_ok (show l.length≤1099511627776 by omega),Option.bind_some,h2,h3,o1,h4,h5,g1,ht,hs,htt]
 ·have c4:((([]:List UInt8).length:Int) < 32):=by decide
  have hs:gsl t (0:Int) 32=some t:=by
   have:=gsl_nat (l:=t) (a:=0) (b:=32) (by omega) (by omega)
   rw [List.drop_zero,List.take_of_length_le (by omega)] at this
   exact this
  have h6':T66 (m + 2) k (l ++ [(1:UInt8)])=some t:=by simpa using h6
  simp only [T65,T65c,iter,L65_2,L65_2c,c4,decide_true,cond_true,g3,gstr_ok (show l.length≤1099511627776 by omega),Option.bind_some,o1,gapp_ok (show l.length + [(1:UInt8)].length≤1099511627776 by simp;omega),h6',g2,ht,decide_false,cond_false,hs]
theorem derive_eq {F:Nat} {p l:List UInt8} (hF:4000 < F) (hp:p.length=32) (hl:l.length≤64) (h0:l ≠ []):∃ t,T31 F p l=some (t,0)∧T32 F p l=some t:=by
 obtain ⟨k,k1,k2,k3⟩:=tag_eq (F:=F) (k:=[]) (d:=p) (by simp;omega) (by simp) (by omega)
 obtain ⟨t,t1,t2,t3⟩:=expand_eq (F:=F) (k:=k) (l:=l) hF k3 hl
 have c1:((p.length:Int) != 32)=false:=by simp [hp]
 have c2:(l == [])=false:=by simpa using h0
 have c3:¬ ((64:Int) < (l.length:Int)):=by omega
 have gp:gstr p=some p:=gstr_ok (by omega)
 refine ⟨t,?_,?_⟩
 ·simp only [T31,T31c,T64,T64c,c1,c2,c3,decide_false,cond_false,gp,Option.bind_some,k1,t1]
 ·simp only [T32,T32c,gp,Option.bind_some,k2,t2]
theorem derive33 {F:Nat} {p l:List UInt8} (hF:4000 < F) (hp:p.length=32) (hl:l.length≤64) (h0:l ≠ []):∃ t,T33 F p l=some (t,0)∧T32 F p l=some t:=by
 obtain ⟨t,t1,t2⟩:=derive_eq hF hp hl h0
 exact ⟨t,by simp only [T33,T33c,t1,Option.bind_some];rfl,t2⟩
abbrev S3:=Int×List UInt8×Unit
def xi (s:S3):UInt8:=UInt8.ofInt s.1
structure Val (ss:List S3):Prop where
 r:∀ s ∈ ss,1≤s.1∧s.1≤12∧s.2.1.length=32
 n:(ss.map (·.1)).Nodup
theorem Val.sub {l ss:List S3} (h:Val ss) (hl:l.Sublist ss):Val l:=⟨fun s hs=>h.r s (hl.subset hs),(hl.map _).nodup h.n⟩
theorem ix13:∀ a b:_root_.Fin 13,UInt8.ofInt (ixor (a.val:Int) (b.val:Int))=UInt8.ofInt (a.val:Int) ^^^ UInt8.ofInt (b.val:Int):=by decide +kernel
theorem ixo {a b:Int} (ha:0≤a∧a≤12) (hb:0≤b∧b≤12):UInt8.ofInt (ixor a b)=UInt8.ofInt a ^^^ UInt8.ofInt b:=by
 have:=ix13 ⟨a.toNat,by omega⟩ ⟨b.toNat,by omega⟩
 rwa [show ((a.toNat:Nat):Int)=a from by omega,show ((b.toNat:Nat):Int)=b from by omega] at this
theorem of13:∀ a:_root_.Fin 13,(UInt8.ofInt (a.val:Int)).toNat=a.val:=by decide +kernel
theorem of12 {a:Int} (h:0≤a∧a≤12):(UInt8.ofInt a).toNat=a.toNat:=by
 have:=of13 ⟨a.toNat,by omega⟩
 rwa [show ((a.toNat:Nat):Int)=a from by omega] at this
theorem xi_inj {a b:Int} (ha:0≤a∧a≤12) (hb:0≤b∧b≤12) (h:UInt8.ofInt a=UInt8.ofInt b):a=b:=by
 have h1:=of12 ha
 have h2:=of12 hb
 rw [h] at h1;omega
theorem Val.nd {ss:List S3} (h:Val ss):(ss.map xi).Nodup:=by
 have:=h.n
 unfold List.Nodup at this ⊢
 rw [List.pairwise_map] at this ⊢
 refine this.imp_of_mem ?_
 intro a b ha hb hne e
 have h1:=h.r a ha
 have h2:=h.r b hb
 exact hne (xi_inj (by omega) (by omega) e)
theorem loop115 {F:Nat} (hF:20 < F):∀ (m j fuel:Nat) (a c:UInt8),j + m=7->m < fuel->iter (fun s:UInt8×UInt8×Int=>L115_2 F s.1 s.2.1 s.2.2) fuel (a,c,((j:Nat):Int))=some (sq7 m a c)
 | 0,j,fuel + 1,a,c,hj,hf=>by
  have h:¬ ((j:Nat):Int) < 7:=by omega
  simp only [iter,L115_2,L115_2c,h,decide_false,cond_false,Option.bind_some,sq7]
 | m + 1,j,fuel + 1,a,c,hj,hf=>by
  have h:((j:Nat):Int) < 7:=by omega
  have hs:L115_2 F a c ((j:Nat):Int)=some (.inl (gm a a,gm c (gm a a),((j + 1:Nat):Int))):=by
   simp only [L115_2,L115_2c,h,decide_true,cond_true,mul106 hF,Option.bind_some,w64s (show j < 1000000000 by omega)]
  show (L115_2 F a c ((j:Nat):Int)).bind _=_
  rw [hs]
  exact loop115 hF m (j + 1) fuel _ _ (by omega) (by omega)
theorem inv115 {F:Nat} (hF:20 < F) {b:UInt8} (hb:b ≠ 0):T115 F b=some (gi b,0):=by
 have h:=loop115 hF 7 0 F b 1 (by omega) (by omega)
 have h:iter (fun s:UInt8×UInt8×Int=>L115_2 F s.1 s.2.1 s.2.2) F (b,UInt8.ofNat 1,(0:Int))=some (gi b):=h
 have h0:(b == UInt8.ofNat 0)=false:=by simpa using hb
 simp only [T115,T115c,h0,cond_false,h,Option.bind_some]
theorem div107 {F:Nat} (hF:20 < F) (a:UInt8) {b:UInt8} (hb:b ≠ 0):T107 F a b=some (gm a (gi b),0):=by
 simp only [T107,T107c,inv115 hF hb,Option.bind_some,bne_self_eq_false,cond_false,mul106 hF]
theorem loop90 {F:Nat} (hF:20 < F) {ss:List S3} (hv:Val ss) (hl:ss.length < 1000) {i:Nat} {y:Int} (hy:0≤y∧y≤12):∀ (m j fuel:Nat) (a b:UInt8),j + m=ss.length->m < fuel ->
  iter (fun s:UInt8×UInt8×Int=>L90_4 F 0 ((i:Nat):Int) ss (ss.length:Int) y s.1 s.2.1 s.2.2) fuel (a,b,((j:Nat):Int))=some (abv i j ((ss.drop j).map xi) a,blw i (UInt8.ofInt y) j ((ss.drop j).map xi) b)
 | 0,j,fuel + 1,a,b,hj,hf=>by
  have h:¬ ((j:Nat):Int) < (ss.length:Int):=by omega
  have hd:ss.drop j=[]:=List.drop_eq_nil_of_le (by omega)
  simp only [iter,L90_4,L90_4c,h,decide_false,cond_false,Option.bind_some,hd,List.map_nil,abv,blw]
 | m + 1,j,fuel + 1,a,b,hj,hf=>by
  have h:((j:Nat):Int) < (ss.length:Int):=by omega
  have hjl:j < ss.length:=by omega
  have hr:=hv.r _ (List.getElem_mem hjl)
  have e1:UInt8.ofInt (ixor 0 ss[j].1)=xi ss[j]:=by rw [ixo (by omega) (by omega)];exact zx _
  have e2:UInt8.ofInt (ixor y ss[j].1)=UInt8.ofInt y ^^^ xi ss[j]:=ixo hy (by omega)
  have hs:L90_4 F 0 ((i:Nat):Int) ss (ss.length:Int) y a b ((j:Nat):Int)=some (.inl (bif Nat.beq j i then a else gm a (xi ss[j]),bif Nat.beq j i then b else gm b (UInt8.ofInt y ^^^ xi ss[j]),((j + 1:Nat):Int))):=by
   by_cases hji:j=i
   ·subst hji
    have hb:Nat.beq j j=true:=by simp
    simp only [L90_4,L90_4c,h,decide_true,cond_true,ixG hjl,Option.bind_some,bne_self_eq_false,cond_false,hb,w64s (show j < 1000000000 by omega)]
   ·have hb:Nat.beq j i=false:=by
     cases e:Nat.beq j i with
     | false=>rfl
     | true=>exact absurd (Nat.eq_of_beq_eq_true e) hji
    have hne:(((j:Nat):Int) != ((i:Nat):Int))=true:=by simp;omega
    simp only [L90_4,L90_4c,h,decide_true,cond_true,ixG hjl,Option.bind_some,hne,e1,e2,mul106 hF,cond_false,hb,w64s (show j < 1000000000 by omega)]
  show (L90_4 F 0 ((i:Nat):Int) ss (ss.length:Int) y a b ((j:Nat):Int)).bind _=_
  rw [hs]
  simp only [Option.bind_some]
  rw [loop90 hF hv hl hy m (j + 1) fuel _ _ (by omega) (by omega),List.drop_eq_getElem_cons hjl,List.map_cons]
  simp only [abv,blw]
def lagv (xs:List UInt8):Nat->List S3->List UInt8->List UInt8
 | _,[],acc=>acc
 | i,s :: r,acc=>lagv xs (i + 1) r (List.zipWith (fun a b=>a ^^^ gm (fct xs i) b) acc s.2.1)
def lag (ss:List S3):List UInt8:=lagv (ss.map xi) 0 ss (List.replicate 32 0)
theorem factor {ss:List S3} (hv:Val ss) {i:Nat} (hi:i < ss.length):blw i (xi ss[i]) 0 (ss.map xi) 1 ≠ 0∧gm (abv i 0 (ss.map xi) 1) (gi (blw i (xi ss[i]) 0 (ss.map xi) 1))=fct (ss.map xi) i:=by
 have hne:∀ k (h:k < (ss.map xi).length),0 + k ≠ i->(ss.map xi)[k] ≠ xi ss[i]:=fun k hk hki e=>by
  have hk':k < ss.length:=by simpa using hk
  have hg:(ss.map xi)[k]=(ss.map xi)[i]'(by simpa using hi):=by rw [e];simp
  have:=(List.getElem_inj hv.nd).1 hg
  omega
 refine ⟨blw_ne hne (by decide),?_⟩
 rw [quo_w hne (by decide)]
 have h1:gm 1 (gi 1)=1:=gi_ok 1 (by decide)
 rw [h1,fct]
 congr 1
 simp [List.getD_eq_getElem?_getD,hi]
theorem loop90b {F:Nat} (hF:2000 < F) {ss:List S3} (hv:Val ss) (hl:ss.length < 1000):∀ (m i fuel:Nat) (acc:List UInt8),i + m=ss.length->m < fuel->acc.length=32 ->
  iter (fun s:Int×List UInt8=>L90_3 F ss 0 ss (ss.length:Int) s.1 s.2) fuel (((i:Nat):Int),acc)=some (lagv (ss.map xi) i (ss.drop i) acc)
 | 0,i,fuel + 1,acc,hi,hf,ha=>by
  have h:¬ ((i:Nat):Int) < (ss.length:Int):=by omega
  have hd:ss.drop i=[]:=List.drop_eq_nil_of_le (by omega)
  simp only [iter,L90_3,L90_3c,h,decide_false,cond_false,Option.bind_some,hd,lagv]
 | m + 1,i,fuel + 1,acc,hi,hf,ha=>by
  have h:((i:Nat):Int) < (ss.length:Int):=by omega
  have hil:i < ss.length:=by omega
  have hr:=hv.r _ (List.getElem_mem hil)
  obtain ⟨f1,f2⟩:=factor hv hil
  have h4:=loop90 (F:=F) (by omega) hv hl (i:=i) (y:=ss[i].1) (by omega) ss.length 0 F 1 1 (by omega) (by omega)
  have h4:iter (fun s:UInt8×UInt8×Int=>L90_4 F 0 ((i:Nat):Int) ss (ss.length:Int) ss[i].1 s.1 s.2.1 s.2.2) F (UInt8.ofNat 1,UInt8.ofNat 1,(0:Int))=some (abv i 0 (ss.map xi) 1,blw i (xi ss[i]) 0 (ss.map xi) 1):=h4
  have hs:L90_3 F ss 0 ss (ss.length:Int) ((i:Nat):Int) acc=some (.inl (((i + 1:Nat):Int),List.zipWith (fun a b=>a ^^^ gm (fct (ss.map xi) i) b) acc ss[i].2.1)):=by
   simp only [L90_3,L90_3c,h,decide_true,cond_true,ixG hil,Option.bind_some,h4,div107 (show 20 < F by omega) _ f1,f2,muladd79 (F:=F) (l:=acc) (v:=ss[i].2.1) (by omega) (by omega) (by omega),w64s (show i < 1000000000 by omega)]
  show (L90_3 F ss 0 ss (ss.length:Int) ((i:Nat):Int) acc).bind _=_
  rw [hs]
  simp only [Option.bind_some]
  rw [loop90b hF hv hl m (i + 1) fuel _ (by omega) (by omega) (by simp;omega),List.drop_eq_getElem_cons hil]
  rfl
theorem t90 {F:Nat} (hF:2000 < F) {ss:List S3} (hv:Val ss) (hl:ss.length < 1000) (h0:0 < ss.length):T90 F ss 0=some (lag ss):=by
 have hi:=ixG (l:=ss) (i:=0) h0
 have hr:=hv.r _ (List.getElem_mem h0)
 have hm:gmake (0:UInt8) (ss[0].2.1.length:Int) (ss[0].2.1.length:Int)=some (List.replicate 32 0):=by
  unfold gmake;rw [if_pos (by omega),hr.2.2];rfl
 have h:=loop90b hF hv hl ss.length 0 F (List.replicate 32 0) (by omega) (by omega) (by simp)
 have h:iter (fun s:Int×List UInt8=>L90_3 F ss 0 ss (ss.length:Int) s.1 s.2) F ((0:Int),List.replicate 32 0)=some (lag ss):=h
 have hi:ix ss (0:Int)=some ss[0]:=hi
 simp only [T90,T90c,hi,hm,h,Option.bind_some]
theorem lagv_len (xs:List UInt8):∀ (r:List S3) (i:Nat) (acc:List UInt8),acc.length=32->(∀ s ∈ r,s.2.1.length=32)->(lagv xs i r acc).length=32
 | [],_,acc,h,_=>h
 | s :: r,i,acc,h,hr=>lagv_len xs r (i + 1) _ (by simp [h,hr s (by simp)]) (fun z hz=>hr z (by simp [hz]))
theorem lag_len {ss:List S3} (hv:Val ss):(lag ss).length=32:=lagv_len _ _ _ _ (by simp) (fun s hs=>(hv.r s hs).2.2)
theorem lagv_get (xs:List UInt8) {b:Nat} (hb:b < 32):∀ (r:List S3) (i:Nat) (acc:List UInt8),acc.length=32->(∀ s ∈ r,s.2.1.length=32)->(lagv xs i r acc)[b]? = some (acc.getD b 0 ^^^ sm xs i (r.map fun s=>s.2.1.getD b 0))
 | [],_,acc,h,_=>by
  simp only [lagv,List.map_nil,sm,xz,List.getD_eq_getElem?_getD]
  rw [List.getElem?_eq_getElem (by omega)];rfl
 | s :: r,i,acc,h,hr=>by
  have hs:=hr s (by simp)
  rw [lagv,lagv_get xs hb r (i + 1) _ (by simp [h,hs]) (fun z hz=>hr z (by simp [hz]))]
  simp only [List.map_cons,sm]
  rw [← UInt8.xor_assoc]
  congr 2
  simp only [List.getD_eq_getElem?_getD,List.getElem?_zipWith]
  rw [List.getElem?_eq_getElem (show b < acc.length by omega),List.getElem?_eq_getElem (show b < s.2.1.length by omega)]
  rfl
theorem lag_shares {m:List UInt8} {ls:List (List UInt8)} (hm:m.length=32) (hls:∀ l ∈ ls,l.length=32) {ds:List Int} (hr:∀ d ∈ ds,0≤d∧d≤5) (hn:ds.Nodup) (h5:ds.length≤5) (hk:ls.length < ds.length):lag (ds.map (shareOf m ls))=m:=by
 have hlen:∀ d,(shareOf m ls d).2.1.length=32:=fun d=>horner_len _ _ (by intro l hl;rcases List.mem_cons.1 hl with rfl | hl;exact hm;exact hls l hl)
 have hv:Val (ds.map (shareOf m ls)):=⟨fun s hs=>by
  obtain ⟨d,hd,rfl⟩:=List.mem_map.1 hs
  have:=hr d hd
  have:=hlen d
  exact ⟨by simp only [shareOf];omega,by simp only [shareOf];omega,this⟩,by
  rw [List.map_map]
  unfold List.Nodup at hn ⊢
  rw [List.pairwise_map]
  refine hn.imp fun {a b} h e=>h ?_
  simp only [Function.comp,shareOf] at e
  omega⟩
 apply List.ext_getElem?
 intro b
 by_cases hb32:b < 32
 ·have hg:=lagv_get ((ds.map (shareOf m ls)).map xi) hb32 (ds.map (shareOf m ls)) 0 (List.replicate 32 0) (by simp) (fun s hs=>(hv.r s hs).2.2)
  have hz:(List.replicate 32 (0:UInt8)).getD b 0=0:=by rw [List.getD_eq_getElem?_getD,List.getElem?_replicate,if_pos hb32];rfl
  rw [hz,zx] at hg
  rw [lag,hg,List.getElem?_eq_getElem (by omega)]
  congr 1
  have e1:(ds.map (shareOf m ls)).map xi=ds.map fun d=>UInt8.ofInt (d + 1):=by rw [List.map_map];rfl
  have e2:((ds.map (shareOf m ls)).map fun s=>s.2.1.getD b 0)=(ds.map fun d=>UInt8.ofInt (d + 1)).map fun x=>hb x (m.getD b 0 :: ls.map fun l=>l.getD b 0):=by
   rw [List.map_map,List.map_map]
   apply List.map_congr_left
   intro d _
   have:=horner_get (UInt8.ofInt (d + 1)) 32 hb32 (ls:=m :: ls) (by intro l hl;rcases List.mem_cons.1 hl with rfl | hl;exact hm;exact hls l hl)
   simp only [Function.comp,shareOf,List.getD_eq_getElem?_getD,this,Option.getD_some,List.map_cons]
  have hnd:=hv.nd
  rw [e1] at hnd
  rw [e1,e2]
  have:=lag_poly hnd (fun x hx=>by
   obtain ⟨d,hd,rfl⟩:=List.mem_map.1 hx
   have:=hr d hd
   rw [of12 (by omega)]
   omega) (by simpa using h5) (p:=m.getD b 0) (ps:=ls.map fun l=>l.getD b 0) (by simpa using hk)
  rw [this]
  simp [List.getD_eq_getElem?_getD,show b < m.length by omega]
 ·rw [List.getElem?_eq_none (by rw [lag_len hv];omega),List.getElem?_eq_none (by omega)]
theorem xs103 {F:Nat} (hF:2000 < F) {ss:List S3} (hv:Val ss) (hl:ss.length≤64):T103 F ss=some true:=by
 have key:∀ (m i fuel:Nat),i + m=ss.length->m < fuel->iter (fun s:Int×List Int=>L103_2 F ss ss (ss.length:Int) s.1 s.2) fuel (((i:Nat):Int),(ss.take i).map (·.1))=some (.inl (ss.map (·.1))):=by
  intro m
  induction m with
  | zero=>
   intro i fuel hi hf
   obtain ⟨fuel,rfl⟩:∃ k,fuel=k + 1:=⟨fuel - 1,by omega⟩
   have h:¬ ((i:Nat):Int) < (ss.length:Int):=by omega
   simp only [iter,L103_2,L103_2c,h,decide_false,cond_false,Option.bind_some,List.take_of_length_le (show ss.length≤i by omega)]
  | succ m ih=>
   intro i fuel hi hf
   obtain ⟨fuel,rfl⟩:∃ k,fuel=k + 1:=⟨fuel - 1,by omega⟩
   have h:((i:Nat):Int) < (ss.length:Int):=by omega
   have hil:i < ss.length:=by omega
   have h0:=ixG (l:=ss) (i:=0) (by omega)
   have h0:ix ss (0:Int)=some ss[0]:=h0
   have hr:=(hv.r _ (List.getElem_mem hil)).2.2
   have hr0:=(hv.r _ (List.getElem_mem (show 0 < ss.length by omega))).2.2
   have h1:((ss[i].2.1.length:Int) != (ss[0].2.1.length:Int))=false:=by rw [hr,hr0];rfl
   have h2:¬ (1024:Int) < (ss[i].2.1.length:Int):=by omega
   have et:(ss.take (i + 1)).map (·.1)=(ss.take i).map (·.1) ++ [ss[i].1]:=by
    rw [List.take_add_one,List.getElem?_eq_getElem hil]
    simp only [Option.toList_some,List.map_append,List.map_cons,List.map_nil]
   have hs:L103_2 F ss ss (ss.length:Int) ((i:Nat):Int) ((ss.take i).map (·.1))=some (.inl (((i + 1:Nat):Int),(ss.take (i + 1)).map (·.1))):=by
    simp only [L103_2,L103_2c,h,decide_true,cond_true,ixG hil,h0,Option.bind_some,h1,h2,cond_false,decide_false,gapp1 (xs:=(ss.take i).map (·.1)) (y:=ss[i].1) (by simp;omega),w64s (show i < 1000000000 by omega),et]
   show (L103_2 F ss ss (ss.length:Int) ((i:Nat):Int) ((ss.take i).map (·.1))).bind _=_
   rw [hs]
   exact ih (i + 1) fuel (by omega) (by omega)
 have h:=key ss.length 0 F (by omega) (by omega)
 have h:iter (fun s:Int×List Int=>L103_2 F ss ss (ss.length:Int) s.1 s.2) F ((0:Int),([]:List Int))=some (.inl (ss.map (·.1))):=h
 have h59:=xs59 (F:=F) (xs:=ss.map (·.1)) (by simp;omega) (by simpa using hl) (fun x hx=>by
  obtain ⟨s,hs,rfl⟩:=List.mem_map.1 hx
  have:=hv.r s hs
  omega) hv.n
 simp only [T103,T103c,h,Option.bind_some,elimS,h59]
theorem comb67 {F:Nat} (hF:2000 < F) {l:List S3} {t:Nat} (hv:Val l) (hl:l.length=t) (h1:1≤t) (h2:t≤12):T67 F l ((t:Nat):Int)=some (0,lag l):=by
 have a1:(1:Int)≤(t:Int):=by omega
 have a2:(t:Int)≤16:=by omega
 have a3:¬ (l.length:Int) < (t:Int):=by omega
 have a4:¬ ((t:Nat):Int) < (l.length:Int):=by omega
 have h105:T105 F l ((t:Nat):Int)=some true:=by
  have hs:iter (fun s=>L105_2 F l ((t:Nat):Int) s) F ((t:Nat):Int)=some (.inl ()):=by
   obtain ⟨f,rfl⟩:∃ f,F=f + 1:=⟨F - 1,by omega⟩
   simp only [iter,L105_2,L105_2c,a4,decide_false,cond_false,Option.bind_some]
  simp only [T105,T105c,hs,Option.bind_some,elimS]
 have h89:T89 F l ((t:Nat):Int)=some 0:=by
  simp only [T89,T89c,xs103 hF hv (by omega),T104,T104c,a1,a2,a3,decide_true,decide_false,cond_true,cond_false,Option.bind_some,Bool.not_true,h105]
 have hg:gsl l (0:Int) ((t:Nat):Int)=some l:=by
  rw [gsl0 (by omega),List.take_of_length_le (by omega)]
 simp only [T67,T67c,h89,Option.bind_some,bne_self_eq_false,cond_false,hg,t90 hF hv (by omega) (by omega)]
theorem it_outX {σ ρ:Type} {f:σ->Option (σ ⊕ ρ)} {n:Nat} {s:σ} {r:ρ} (h:f s=some (.inr r)):iter f (n + 1) s=some r:=by simp [iter,h]
abbrev Ms:=List UInt8
theorem prt {F:Nat} {p:Ms} (hF:4000 < F) (hp:p.length=32):∃ a,T16 F p=some (a,0):=by
 obtain ⟨a,a1,a2⟩:=derive33 (F:=F) (p:=p) (l:=[112,114,105,110,116]) hF hp (by decide) (by decide)
 exact ⟨a,by simp only [T16,T16c,a1,Option.bind_some]⟩
def fit (F:Nat) (print:Ms) (l:List S3):Option Ms:=match T16 F (lag l) with
 | some z=>bif z.1 == print then some (lag l) else none
 | none=>none
def out:Option Ms->Ms×Bool
 | some m=>(m,true)
 | none=>([],false)
theorem fit37 {F:Nat} (hF:4000 < F) {l:List S3} {t:Nat} (hv:Val l) (hl:l.length=t) (h1:1≤t) (h2:t≤12) (print:Ms):T37 F l ((t:Nat):Int) print=some (out (fit F print l)):=by
 obtain ⟨a,ha⟩:=prt (F:=F) (p:=lag l) hF (lag_len hv)
 have h67:=comb67 (F:=F) (by omega) hv hl h1 h2
 cases hp:a == print with
 | true=>
  have hne:(a != print)=false:=by simp only [bne,hp,Bool.not_true]
  simp only [T37,T37c,h67,Option.bind_some,bne_self_eq_false,cond_false,ha,hne,fit,hp,cond_true,out]
 | false=>
  have hne:(a != print)=true:=by simp only [bne,hp,Bool.not_false]
  simp only [T37,T37c,h67,Option.bind_some,bne_self_eq_false,cond_false,ha,hne,fit,hp,cond_true,out]
def dfs (fit:List S3->Option Ms) (t:Nat):List S3->List S3->Option Ms
 | [],ch=>if ch.length=t then fit ch else none
 | s :: r,ch=>if ch.length=t then fit ch else match dfs fit t r (ch ++ [s]) with
  | some m=>some m
  | none=>dfs fit t r ch
theorem dfs_full {fit:List S3->Option Ms} {t:Nat} {r ch:List S3} (h:ch.length=t):dfs fit t r ch=fit ch:=by
 cases r<;>simp only [dfs,h,if_true]
theorem dfs_sound {fit:List S3->Option Ms} {t:Nat} {m:Ms}:∀ {r ch:List S3},dfs fit t r ch=some m->∃ sel,sel.Sublist r∧fit (ch ++ sel)=some m∧(ch ++ sel).length=t
 | [],ch,h=>by
  simp only [dfs] at h
  split at h
  ·rename_i hl;exact ⟨[],.slnil,by simpa using h,by simpa using hl⟩
  ·cases h
 | s :: r,ch,h=>by
  simp only [dfs] at h
  split at h
  ·rename_i hl;exact ⟨[],List.nil_sublist _,by simpa using h,by simpa using hl⟩
  ·split at h
   ·rename_i m' hm
    cases h
    obtain ⟨sel,h1,h2,h3⟩:=dfs_sound hm
    exact ⟨s :: sel,h1.cons_cons s,by simpa using h2,by simpa using h3⟩
   ·obtain ⟨sel,h1,h2,h3⟩:=dfs_sound h
    exact ⟨sel,h1.cons s,h2,h3⟩
theorem dfs_complete {fit:List S3->Option Ms} {t:Nat}:∀ {r ch sel:List S3},sel.Sublist r->(ch ++ sel).length=t->fit (ch ++ sel) ≠ none->dfs fit t r ch ≠ none
 | [],ch,sel,h,hl,hf=>by
  have:sel=[]:=List.sublist_nil.1 h
  subst this
  simp only [List.append_nil] at hl hf
  simp only [dfs,hl,if_true];exact hf
 | s :: r,ch,sel,h,hl,hf=>by
  by_cases hc:ch.length=t
  ·have:sel=[]:=List.eq_nil_of_length_eq_zero (by rw [List.length_append] at hl;omega)
   subst this
   rw [List.append_nil] at hf
   rw [dfs_full hc];exact hf
  ·simp only [dfs,hc,if_false]
   cases h with
   | cons _ h=>
    split
    ·simp
    ·exact dfs_complete h hl hf
   | cons_cons _ h=>
    have:=dfs_complete (ch:=ch ++ [s]) h (by simpa using hl) (by simpa using hf)
    split
    ·simp
    ·rename_i hn;exact absurd hn this
theorem t36 {F:Nat} (hF:4000 < F) {ss:List S3} (hv:Val ss) (hl:ss.length≤100) {t:Nat} (h1:1≤t) (h2:t≤12) (print:Ms):∀ (g i:Nat) (ch:List S3),ch.Sublist (ss.take i)->i≤ss.length->ss.length - i < g ->
  T36g F g ch ((i:Nat):Int) ((t:Nat):Int) print ss=some (out (dfs (fit F print) t (ss.drop i) ch))
 | 0,i,ch,_,_,hg=>by omega
 | g + 1,i,ch,hch,hi,hg=>by
  have ih:=t36 hF hv hl h1 h2 print g
  show T36r F (T36g F g) ch ((i:Nat):Int) ((t:Nat):Int) print ss=_
  by_cases hc:ch.length=t
  ·have hce:((ch.length:Int) == ((t:Nat):Int))=true:=by simp;omega
   have:=fit37 hF (hv.sub (hch.trans (List.take_sublist _ _))) hc h1 h2 print
   simp only [T36r,T36rc,hce,cond_true,this,Option.bind_some,dfs_full hc]
  ·have hce:((ch.length:Int) == ((t:Nat):Int))=false:=by
    cases e:((ch.length:Int) == ((t:Nat):Int)) with
    | false=>rfl
    | true=>simp at e;omega
   have key:∀ (m j fuel:Nat),j + m=ss.length->i≤j->m < fuel->iter (fun s=>L36r_2 F (T36g F g) ch ((t:Nat):Int) print ss s) fuel ((j:Nat):Int)=some (match dfs (fit F print) t (ss.drop j) ch with
     | some x=>.inr (x,true)
     | none=>.inl ()):=by
    intro m
    induction m with
    | zero=>
     intro j fuel hj hij hf
     obtain ⟨fuel,rfl⟩:∃ k,fuel=k + 1:=⟨fuel - 1,by omega⟩
     have h:¬ ((j:Nat):Int) < (ss.length:Int):=by omega
     have hd:ss.drop j=[]:=List.drop_eq_nil_of_le (by omega)
     simp only [iter,L36r_2,L36r_2c,h,decide_false,cond_false,Option.bind_some,hd,dfs,hc,if_false]
    | succ m ihm=>
     intro j fuel hj hij hf
     obtain ⟨fuel,rfl⟩:∃ k,fuel=k + 1:=⟨fuel - 1,by omega⟩
     have h:((j:Nat):Int) < (ss.length:Int):=by omega
     have hjl:j < ss.length:=by omega
     have hchj:ch.Sublist (ss.take j):=hch.trans (by
      have:=List.take_sublist i (ss.take j)
      rwa [List.take_take,Nat.min_eq_left hij] at this)
     have hlen:ch.length≤100:=by have:=hchj.length_le;simp at this;omega
     have g1:T38 F ch=some ch:=by
      simp only [T38,T38x2,T38x2c]
      unfold gapp;rw [if_pos (by simp;omega)];simp
     have g2:gapp ch ([(ss[j].1,ss[j].2.1,())]:List S3)=some (ch ++ [ss[j]]):=gapp1 (by omega)
     have hrec:=ih (j + 1) (ch ++ [ss[j]]) (by
      rw [List.take_add_one,List.getElem?_eq_getElem hjl]
      exact hchj.append (List.Sublist.refl _)) (by omega) (by omega)
     have hd:ss.drop j=ss[j] :: ss.drop (j + 1):=List.drop_eq_getElem_cons hjl
     have hcast:w64 (((j:Nat):Int) + 1)=((j + 1:Nat):Int):=w64s (by omega)
     rw [hd]
     simp only [dfs,hc,if_false]
     cases hr:dfs (fit F print) t (ss.drop (j + 1)) (ch ++ [ss[j]]) with
     | some x=>
      rw [hr] at hrec
      refine it_outX ?_
      simp only [L36r_2,L36r_2c,h,decide_true,cond_true,ixG hjl,g1,g2,hcast,hrec,out,Option.bind_some]
     | none=>
      rw [hr] at hrec
      have hs:L36r_2 F (T36g F g) ch ((t:Nat):Int) print ss ((j:Nat):Int)=some (.inl ((j + 1:Nat):Int)):=by
       simp only [L36r_2,L36r_2c,h,decide_true,cond_true,ixG hjl,g1,g2,hcast,hrec,out,Option.bind_some,cond_false]
      show (L36r_2 F (T36g F g) ch ((t:Nat):Int) print ss ((j:Nat):Int)).bind _=_
      rw [hs]
      exact ihm (j + 1) fuel (by omega) (by omega) (by omega)
   have hk:=key (ss.length - i) i F (by omega) (Nat.le_refl _) (by omega)
   simp only [T36r,T36rc,hce,cond_false,hk,Option.bind_some]
   cases dfs (fit F print) t (ss.drop i) ch<;>rfl
theorem loop23 {F:Nat} {ss:List S3} (hv:Val ss) (hl:ss.length≤100):∀ (m i fuel:Nat) (v:Vector Bool 13),i + m=ss.length->m < fuel->(∀ (j:Nat) (h:j < 13),v[j]=true->((j:Nat):Int) ∈ (ss.take i).map (·.1)) ->
  iter (fun s:Int×Vector Bool 13=>L23_2 F ss (ss.length:Int) s.1 s.2) fuel (((i:Nat):Int),v)=some (.inl ())
 | 0,i,fuel + 1,v,hi,hf,_=>by
  have h:¬ ((i:Nat):Int) < (ss.length:Int):=by omega
  simp only [iter,L23_2,L23_2c,h,decide_false,cond_false,Option.bind_some]
 | m + 1,i,fuel + 1,v,hi,hf,hvv=>by
  have h:((i:Nat):Int) < (ss.length:Int):=by omega
  have hil:i < ss.length:=by omega
  obtain ⟨r1,r2,r3⟩:=hv.r _ (List.getElem_mem hil)
  obtain ⟨x,hx⟩:∃ x:Nat,ss[i].1=(x:Int):=⟨(ss[i].1).toNat,by omega⟩
  have hx13:x < 13:=by omega
  have a1:¬ ((x:Nat):Int) < 1:=by omega
  have a2:¬ (12:Int) < ((x:Nat):Int):=by omega
  have a3:((ss[i].2.1.length:Int) != 32)=false:=by rw [r3];rfl
  have hvx:v[x]=false:=by
   cases hc:v[x] with
   | false=>rfl
   | true=>
    have:=hvv x hx13 hc
    rw [← hx] at this
    obtain ⟨k,hk,hk2⟩:=List.mem_iff_getElem.1 this
    simp only [List.length_map,List.length_take] at hk
    rw [List.getElem_map,List.getElem_take] at hk2
    have e:(ss.map (·.1))[k]'(by simp;omega)=(ss.map (·.1))[i]'(by simpa using hil):=by simpa using hk2
    have:=(List.getElem_inj hv.n).1 e
    omega
  have hs:L23_2 F ss (ss.length:Int) ((i:Nat):Int) v=some (.inl (((i + 1:Nat):Int),v.setIfInBounds x true)):=by
   simp only [L23_2,L23_2c,h,decide_true,cond_true,ixG hil,hx,Option.bind_some,a1,a2,decide_false,cond_false,inb_nat hx13,vat_nat hx13,hvx,a3,w64s (show i < 1000000000 by omega)]
  show (L23_2 F ss (ss.length:Int) ((i:Nat):Int) v).bind _=_
  rw [hs]
  refine loop23 hv hl m (i + 1) fuel _ (by omega) (by omega) (fun j hj hjv=>?_)
  rw [List.take_add_one,List.getElem?_eq_getElem hil]
  simp only [Option.toList_some,List.map_append,List.map_cons,List.map_nil,List.mem_append,List.mem_singleton]
  rw [Vector.getElem_setIfInBounds] at hjv
  by_cases hxj:x=j
  ·right;rw [hx,hxj]
  ·left;simp only [hxj,if_false] at hjv;exact hvv j hj hjv
theorem t23 {F:Nat} (hF:4000 < F) {ss:List S3} (hv:Val ss) (hl:ss.length≤100) {t:Nat} (h1:1≤t) (h2:t≤12) {print:Ms} (hp:print.length=32) :
  T23 F ((t:Nat):Int) ss print=some (if ss.length < t then (([]:Ms),(10:Int)) else match dfs (fit F print) t ss [] with
   | some m=>(m,0)
   | none=>([],9)):=by
 have a1:¬ ((t:Nat):Int) < 1:=by omega
 have a2:¬ (12:Int) < ((t:Nat):Int):=by omega
 have a3:((print.length:Int) != 32)=false:=by rw [hp];rfl
 have hL:=loop23 (F:=F) hv hl ss.length 0 F (Vector.replicate 13 false) (by omega) (by omega) (fun j hj hjv=>by simp at hjv)
 have hL:iter (fun s:Int×Vector Bool 13=>L23_2 F ss (ss.length:Int) s.1 s.2) F ((0:Int),Vector.replicate 13 false)=some (.inl ()):=hL
 by_cases hlt:ss.length < t
 ·have a4:(ss.length:Int) < ((t:Nat):Int):=by omega
  simp only [T23,T23c,a1,a2,a3,decide_false,cond_false,hL,Option.bind_some,elimS,a4,decide_true,cond_true,hlt,if_true]
 ·have a4:¬ (ss.length:Int) < ((t:Nat):Int):=by omega
  have h36:=t36 hF hv hl h1 h2 print F 0 [] (by simp) (by omega) (by omega)
  have h36:T36 F [] (0:Int) ((t:Nat):Int) print ss=some (out (dfs (fit F print) t ss [])):=by
   rw [List.drop_zero] at h36;exact h36
  simp only [T23,T23c,a1,a2,a3,decide_false,cond_false,hL,Option.bind_some,elimS,a4,hlt,if_false,h36]
  cases dfs (fit F print) t ss []<;>rfl
def mst (x:UInt8):Ms:=x :: List.replicate 31 0
theorem t22m (F:Nat) (x:UInt8):T22 F x=some (mst x):=rfl
theorem mst_len (x:UInt8):(mst x).length=32:=by simp [mst]
theorem prt32 {F:Nat} {p:Ms} (hF:4000 < F) (hp:p.length=32):∃ a,T16 F p=some (a,0)∧a.length=32:=by
 obtain ⟨k,k1,k2,k3⟩:=tag_eq (F:=F) (k:=[]) (d:=p) (by simp;omega) (by simp) (by omega)
 obtain ⟨t,t1,t2,t3⟩:=expand_eq (F:=F) (k:=k) (l:=[112,114,105,110,116]) hF k3 (by decide)
 have c1:((p.length:Int) != 32)=false:=by simp [hp]
 have c2:(([112,114,105,110,116]:Ms) == [])=false:=rfl
 have c3:¬ ((64:Int) < (([112,114,105,110,116]:Ms).length:Int)):=by decide
 have gp:gstr p=some p:=gstr_ok (by omega)
 have h31:T31 F p [112,114,105,110,116]=some (t,0):=by simp only [T31,T31c,T64,T64c,c1,c2,c3,decide_false,cond_false,gp,Option.bind_some,k1,t1]
 have h33:T33 F p [112,114,105,110,116]=some (t,0):=by simp only [T33,T33c,h31,Option.bind_some];rfl
 exact ⟨t,by simp only [T16,T16c,h33,Option.bind_some],t3⟩
abbrev six:List Int:=[0,1,2,3,4,5]
theorem shares10 {F:Nat} {m:Ms} {c:Ms} {k:Nat} (hF:3000 < F) (hm:m.length=32) (hk:k≤4) (hc:c.length=32 * k):T10 F m (((k:Nat):Int) + 1) six c=some (0,six.map (shareOf m (parts c k))):=by
 have q1:((m.length:Int) != 32)=false:=by simp [hm]
 have h2:¬ ((k:Int) + 1 < 1):=by omega
 have h3:¬ ((12:Int) < (k:Int) + 1):=by omega
 have h4:¬ ((six.length:Int) < (k:Int) + 1):=by simp;omega
 have l10:=loop10 (F:=F) (ms:=six) (by simp;omega) (by simp) six.length 0 F [] (by simp) (by simp) (by simp;omega)
 have hok:okm six six.length 0=true:=by decide
 have l10:iter (fun s:Int×List Int=>L10_3 F six six (six.length:Int) s.1 s.2) F ((0:Int),[])=_:=l10
 rw [hok] at l10
 simp only [cond_true,List.drop_zero,List.nil_append] at l10
 have w1:w64 ((k:Int) + 1 - 1)=(k:Int):=by rw [w64_in (by omega) (by omega)];omega
 have w2:w64 ((32:Int) * (k:Int))=((32 * k:Nat):Int):=by rw [w64_in (by omega) (by omega)];omega
 have q5:((c.length:Int) != ((32 * k:Nat):Int))=false:=by simp [hc]
 have hpl:=parts_len hc
 have hpn:(parts c k).length=k:=by simp [parts]
 have hcl:(chunkE 32 c).length=k:=by
  have:=congrArg List.length (chunk_parts hc)
  simpa [hpn] using this
 have hoc:okChunk (32:Int) c=true:=by simp [okChunk];omega
 have hf:=fold10 (F:=F) m (six.map (· + 1)) (chunkE 32 c) [] (by simp [hcl];omega)
 rw [chunk_parts hc,List.nil_append] at hf
 have hR:R10_4 F (((),((),(),())),m,(),(),()) (c,(32:Int),six.map (· + 1),(),())=some ((m,(),(),()),(six.map (· + 1),(),parts c k,())):=by
  unfold R10_4
  simp only [hoc,cond_true]
  exact hf
 have hsp:=split28 (F:=F) (s:=m) (ls:=parts c k) (xs:=six.map (· + 1)) (by omega) hm (by omega) hpl (by simp) (by decide) (by decide)
 have gm1:gstr m=some m:=by unfold gstr;rw [if_pos (by omega)]
 have ht27:T27 F (32:Int)=some ():=rfl
 simp only [T10,T10c,q1,cond_false,h2,h3,decide_false,l10,Option.bind_some,elimS,h4,w1,w2,q5,ht27,hR,gm1,hsp,List.map_map]
 rfl
theorem keq_ne {z x:Int} (h:z ≠ x):keq .i z x=false:=by show (z == x)=false;simpa using h
theorem keq_self (z:Int):keq .i z z=true:=by show (z == z)=true;simp
theorem mgt_mpt {β:Type}:∀ (l:List (Int×β)) (x:Int) (y:β) (z:Int),mgt .i (mpt .i l x y) z=if z=x then some y else mgt .i l z
 | [],x,y,z=>by
  by_cases h:z=x
  ·subst h;simp only [mpt,mgt,keq_self,cond_true,if_true]
  ·simp only [mpt,mgt,keq_ne h,cond_false,if_neg h]
 | e :: l,x,y,z=>by
  have ih:=mgt_mpt l x y z
  by_cases hx:x=e.1
  ·subst hx
   by_cases h:z=e.1
   ·subst h;simp only [mpt,mgt,keq_self,cond_true,if_true]
   ·simp only [mpt,mgt,keq_self,keq_ne h,cond_true,cond_false,if_neg h]
  ·simp only [mpt,keq_ne hx,cond_false,mgt]
   by_cases h:z=e.1
   ·subst h
    have:¬ e.1=x:=fun h=>hx h.symm
    simp only [keq_self,cond_true,if_neg this]
   ·simp only [keq_ne h,cond_false];exact ih
theorem mod6 {x:Int} (hx:-9223372036854775808≤x∧x≤9223372036854775807):∃ n:Nat,n < 6∧Int.tmod (w64 (Int.tmod x 6 + 6)) 6=(n:Int):=by
 have h1:-6 < Int.tmod x 6:=by
  have:=Int.lt_tmod_of_pos x (show (0:Int) < 6 by omega)
  omega
 have h2:Int.tmod x 6 < 6:=Int.tmod_lt_of_pos x (by omega)
 rw [w64_in (by omega) (by omega)]
 have h3:Int.tmod (Int.tmod x 6 + 6) 6=(Int.tmod x 6 + 6) % 6:=Int.tmod_eq_emod_of_nonneg (by omega)
 rw [h3]
 exact ⟨((Int.tmod x 6 + 6) % 6).toNat,by omega,by omega⟩
structure Ch (t:Nat) (ds:List Int) (used:List (Int×Bool)):Prop where
 r:∀ d ∈ ds,0≤d∧d≤5
 n:ds.Nodup
 l:ds.length≤t
 u:∀ d,mgd .i used d false=true->d ∈ ds
 v:∀ d ∈ ds,mgd .i used d false=true
theorem loop8 {F:Nat} {t:Nat} (ht:t≤5) {ch:List Int} (hch:∀ x ∈ ch,-9223372036854775808≤x∧x≤9223372036854775807) (hl:ch.length≤maxLen) (f:Int->S3):∀ (m i fuel:Nat) (ds:List Int) (used:List (Int×Bool)),i + m=ch.length->m < fuel->Ch t ds used ->
  ∃ ds' used',Ch t ds' used'∧iter (fun s:Int×List S3×List (Int×Bool)=>L8_2 F ((t:Nat):Int) ch (six.map f) s.1 s.2.1 s.2.2) fuel (((i:Nat):Int),ds.map f,used)=some (ds'.map f)
 | 0,i,fuel + 1,ds,used,hi,hf,hc=>by
  have h:¬ ((i:Nat):Int) < (ch.length:Int):=by omega
  exact ⟨ds,used,hc,by simp only [iter,L8_2,L8_2c,h,decide_false,cond_false,Option.bind_some]⟩
 | m + 1,i,fuel + 1,ds,used,hi,hf,hc=>by
  have h:((i:Nat):Int) < (ch.length:Int):=by omega
  have hil:i < ch.length:=by omega
  simp only [maxLen] at hl
  have hw:w64 (((i:Nat):Int) + 1)=((i + 1:Nat):Int):=by rw [w64_in (by omega) (by omega)];omega
  by_cases hlt:ds.length < t
  ·have h2:((ds.map f).length:Int) < ((t:Nat):Int):=by simp;omega
   obtain ⟨n,hn,hmod⟩:=mod6 (hch _ (List.getElem_mem hil))
   cases hu:mgd .i used ((n:Nat):Int) false with
   | true=>
    have hs:L8_2 F ((t:Nat):Int) ch (six.map f) ((i:Nat):Int) (ds.map f) used=some (.inl (((i + 1:Nat):Int),ds.map f,used)):=by
     simp only [L8_2,L8_2c,h,h2,decide_true,cond_true,ixG hil,Option.bind_some,hmod,hu,Bool.not_true,cond_false,hw]
    obtain ⟨ds',used',h3,h4⟩:=loop8 ht hch (by simp only [maxLen];omega) f m (i + 1) fuel ds used (by omega) (by omega) hc
    refine ⟨ds',used',h3,?_⟩
    show (L8_2 F ((t:Nat):Int) ch (six.map f) ((i:Nat):Int) (ds.map f) used).bind _=_
    rw [hs];exact h4
   | false=>
    have hin:((n:Nat):Int) ∉ ds:=fun hd=>by rw [hc.v _ hd] at hu;cases hu
    have h6:(six.map f)[n]? = some (f ((n:Nat):Int)):=by
     have:n=0∨n=1∨n=2∨n=3∨n=4∨n=5:=by omega
     rcases this with rfl | rfl | rfl | rfl | rfl | rfl<;>rfl
    have hi6:inb (six.map f).length ((n:Nat):Int)=some n:=inb_nat (by simp;omega)
    have hga:gapp (ds.map f) ([((f ((n:Nat):Int)).1,(f ((n:Nat):Int)).2.1,())]:List S3)=some ((ds ++ [((n:Nat):Int)]).map f):=by
     rw [List.map_append];exact gapp1 (by simp;omega)
    have hs:L8_2 F ((t:Nat):Int) ch (six.map f) ((i:Nat):Int) (ds.map f) used=some (.inl (((i + 1:Nat):Int),(ds ++ [((n:Nat):Int)]).map f,mpt .i used ((n:Nat):Int) true)):=by
     simp only [L8_2,L8_2c,h,h2,decide_true,cond_true,ixG hil,Option.bind_some,hmod,hu,Bool.not_false,hi6,h6,hga,hw]
    have hc':Ch t (ds ++ [((n:Nat):Int)]) (mpt .i used ((n:Nat):Int) true):=by
     refine ⟨fun d hd=>?_,?_,by simp;omega,fun d hd=>?_,fun d hd=>?_⟩
     ·rcases List.mem_append.1 hd with hd | hd
      ·exact hc.r d hd
      ·simp at hd;omega
     ·rw [List.nodup_append]
      refine ⟨hc.n,by simp,fun a ha b hb e=>?_⟩
      simp at hb;subst hb;subst e;exact hin ha
     ·unfold mgd at hd
      rw [mgt_mpt] at hd
      by_cases e:d=((n:Nat):Int)
      ·subst e;simp
      ·rw [if_neg e] at hd;exact List.mem_append_left _ (hc.u d hd)
     ·unfold mgd
      rw [mgt_mpt]
      by_cases e:d=((n:Nat):Int)
      ·rw [if_pos e];rfl
      ·rw [if_neg e]
       rcases List.mem_append.1 hd with hd | hd
       ·exact hc.v d hd
       ·simp at hd;exact absurd hd e
    obtain ⟨ds',used',h3,h4⟩:=loop8 ht hch (by simp only [maxLen];omega) f m (i + 1) fuel _ _ (by omega) (by omega) hc'
    refine ⟨ds',used',h3,?_⟩
    show (L8_2 F ((t:Nat):Int) ch (six.map f) ((i:Nat):Int) (ds.map f) used).bind _=_
    rw [hs];exact h4
  ·have h2:¬ ((ds.map f).length:Int) < ((t:Nat):Int):=by simp;omega
   exact ⟨ds,used,hc,by simp only [iter,L8_2,L8_2c,h,h2,decide_true,decide_false,cond_true,cond_false,Option.bind_some]⟩
theorem val_shares {m:Ms} {ls:List Ms} (hm:m.length=32) (hls:∀ l ∈ ls,l.length=32) {ds:List Int} (hr:∀ d ∈ ds,0≤d∧d≤5) (hn:ds.Nodup):Val (ds.map (shareOf m ls)):=⟨fun s hs=>by
  obtain ⟨d,hd,rfl⟩:=List.mem_map.1 hs
  have:=hr d hd
  have hlen:(shareOf m ls d).2.1.length=32:=horner_len _ _ (by intro l hl;rcases List.mem_cons.1 hl with rfl | hl;exact hm;exact hls l hl)
  exact ⟨by simp only [shareOf];omega,by simp only [shareOf];omega,hlen⟩,by
  rw [List.map_map]
  unfold List.Nodup at hn ⊢
  rw [List.pairwise_map]
  refine hn.imp fun {a b} h e=>h ?_
  simp only [Function.comp,shareOf] at e
  omega⟩
theorem law8 {F:Nat} (hF:5000 < F) (ha:T9 F=some true) (x:UInt8) (t:Int) (c:Ms) (ch:List Int) (y:UInt8) (hch:∀ x ∈ ch,-9223372036854775808≤x∧x≤9223372036854775807) (hl:ch.length≤maxLen):T8 F x t c ch y=some true:=by
 by_cases h1:t < 1
 ·simp only [T8,T8c,ha,Option.bind_some,Bool.not_true,cond_false,h1,decide_true,cond_true]
 by_cases h2:5 < t
 ·simp only [T8,T8c,ha,Option.bind_some,Bool.not_true,cond_false,h1,h2,decide_true,decide_false,cond_true]
 obtain ⟨k,rfl⟩:∃ k:Nat,t=(k:Int) + 1:=⟨(t - 1).toNat,by omega⟩
 have w1:w64 ((32:Int) * w64 ((k:Int) + 1 - 1))=((32 * k:Nat):Int):=by
  rw [show w64 ((k:Int) + 1 - 1)=(k:Int) from by rw [w64_in (by omega) (by omega)];omega,w64_in (by omega) (by omega)];omega
 by_cases h3:c.length ≠ 32 * k
 ·have q:((c.length:Int) != ((32 * k:Nat):Int))=true:=by simp;omega
  simp only [T8,T8c,ha,Option.bind_some,Bool.not_true,cond_false,h1,h2,decide_false,w1,q,cond_true]
 have h3:c.length=32 * k:=by omega
 have q:((c.length:Int) != ((32 * k:Nat):Int))=false:=by simp [h3]
 have hpl:=parts_len h3
 have hpn:(parts c k).length=k:=by simp [parts]
 have hsh:=shares10 (F:=F) (m:=mst x) (c:=c) (k:=k) (by omega) (mst_len x) (by omega) h3
 obtain ⟨pr,hpr,hpr32⟩:=prt32 (F:=F) (p:=mst x) (by omega) (mst_len x)
 obtain ⟨ds,used,hc,hloop⟩:=loop8 (F:=F) (t:=k + 1) (by omega) hch hl (shareOf (mst x) (parts c k)) ch.length 0 (F + ch.length) [] [] (by omega) (by omega) ⟨by simp,by simp,by simp,fun d hd=>by simp [mgd,mgt] at hd,by simp⟩
 have hloop:iter (fun s:Int×List S3×List (Int×Bool)=>L8_2 F ((k:Int) + 1) ch (six.map (shareOf (mst x) (parts c k))) s.1 s.2.1 s.2.2) (F + ch.length) ((0:Int),[],[])=some (ds.map (shareOf (mst x) (parts c k))):=hloop
 have hv:=val_shares (m:=mst x) (ls:=parts c k) (mst_len x) hpl hc.r hc.n
 have q6:(((six.map (shareOf (mst x) (parts c k))).length:Int) != 6)=false:=by simp
 have kk:((k:Int) + 1)=((k + 1:Nat):Int):=by omega
 by_cases hlt:ds.length < k + 1
 ·have h4:((ds.map (shareOf (mst x) (parts c k))).length:Int) < (k:Int) + 1:=by simp;omega
  have h23:=t23 (F:=F) (by omega) hv (by simp;have:=hc.l;omega) (t:=k + 1) (by omega) (by omega) hpr32
  rw [if_pos (by simpa using hlt)] at h23
  rw [← kk] at h23
  simp only [T8,T8c,ha,Option.bind_some,Bool.not_true,cond_false,h1,h2,decide_false,w1,q,t22m,hsh,hpr,bne_self_eq_false,q6,hloop,h4,decide_true,cond_true,h23,beq_self_eq_true]
 ·have hdl:ds.length=k + 1:=by have:=hc.l;omega
  have h4:¬ ((ds.map (shareOf (mst x) (parts c k))).length:Int) < (k:Int) + 1:=by simp;omega
  have gs:gstr (mst y)=some (mst y):=gstr_ok (by rw [mst_len];omega)
  have ga:gapp ([((12:Int),mst y,())]:List S3) (ds.map (shareOf (mst x) (parts c k)))=some (((12:Int),mst y,()) :: ds.map (shareOf (mst x) (parts c k))):=by
   unfold gapp;rw [if_pos (by simp;omega)];rfl
  have hv2:Val (((12:Int),mst y,()) :: ds.map (shareOf (mst x) (parts c k))):=by
   refine ⟨fun s hs=>?_,?_⟩
   ·rcases List.mem_cons.1 hs with rfl | hs
    ·exact ⟨(by omega:(1:Int)≤12),(by omega:(12:Int)≤12),mst_len y⟩
    ·exact hv.r s hs
   ·rw [List.map_cons,List.nodup_cons]
    refine ⟨fun hm=>?_,hv.n⟩
    obtain ⟨s,hs,e⟩:=List.mem_map.1 hm
    obtain ⟨d,hd,rfl⟩:=List.mem_map.1 hs
    have:=hc.r d hd
    simp only [shareOf] at e
    omega
  have h23:=t23 (F:=F) (by omega) hv2 (by simp;omega) (t:=k + 1) (by omega) (by omega) hpr32
  rw [if_neg (by simp;omega)] at h23
  have hlag:lag (ds.map (shareOf (mst x) (parts c k)))=mst x:=lag_shares (mst_len x) hpl hc.r hc.n (by omega) (by rw [hpn];omega)
  have hfit:fit F pr (ds.map (shareOf (mst x) (parts c k))) ≠ none:=by
   unfold fit
   rw [hlag,hpr]
   simp
  have hne:=dfs_complete (fit:=fit F pr) (t:=k + 1) (r:=((12:Int),mst y,()) :: ds.map (shareOf (mst x) (parts c k))) (ch:=[]) (sel:=ds.map (shareOf (mst x) (parts c k))) (List.sublist_cons_self _ _) (by simpa using hdl) hfit
  cases hd:dfs (fit F pr) (k + 1) (((12:Int),mst y,()) :: ds.map (shareOf (mst x) (parts c k))) [] with
  | none=>exact absurd hd hne
  | some m=>
   rw [hd] at h23
   rw [← kk] at h23
   obtain ⟨sel,s1,s2,s3⟩:=dfs_sound hd
   have hm:T24 F m pr=some true:=by
    simp only [List.nil_append] at s2
    unfold fit at s2
    split at s2
    ·rename_i z hz
     cases hb:z.1 == pr with
     | false=>rw [hb] at s2;cases s2
     | true=>
      rw [hb] at s2
      simp only [cond_true,Option.some.injEq] at s2
      subst s2
      obtain ⟨a,ha',_⟩:=prt32 (F:=F) (p:=lag sel) (by omega) (lag_len (hv2.sub s1))
      rw [ha'] at hz;cases hz
      simp only [T24,T24c,ha',Option.bind_some,beq_self_eq_true,cond_true,hb]
    ·cases s2
   cases hmx:m == mst x with
   | true=>
    simp only [T8,T8c,ha,Option.bind_some,Bool.not_true,cond_false,h1,h2,decide_false,w1,q,t22m,hsh,hpr,bne_self_eq_false,q6,hloop,h4,gs,ga,h23,beq_self_eq_true,cond_true,hmx]
   | false=>
    simp only [T8,T8c,ha,Option.bind_some,Bool.not_true,cond_false,h1,h2,decide_false,w1,q,t22m,hsh,hpr,bne_self_eq_false,q6,hloop,h4,gs,ga,h23,beq_self_eq_true,cond_true,hmx,hm]
theorem plaw8 (x:UInt8) (t:Int) (c:Ms) (ch:Ty.den (.sl .i)) (y:UInt8) (_:-9223372036854775808≤t∧t≤9223372036854775807) (_:c.length≤maxLen) (hw:tyW (.sl .i) ch):T8 10000 x t c ch y=some true:=law8 (by omega) awake9c x t c ch y hw.2 hw.1
end Go.Proofs.YthikoaamigiceaaDoor
