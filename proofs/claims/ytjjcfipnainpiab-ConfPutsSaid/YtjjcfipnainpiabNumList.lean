/- num.List lies beside num.Put. -/
import Derived.Test.YtjjcfipnainpiabNumPut
