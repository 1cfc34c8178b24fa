/- The gates: of the words. -/
import Derived.Test.YtafminohaofjnaaWMore
